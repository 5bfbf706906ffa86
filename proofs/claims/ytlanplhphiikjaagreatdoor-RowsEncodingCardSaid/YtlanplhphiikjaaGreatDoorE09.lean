import Derived.Test.YtlanplhphiikjaaGreatDoorE06
import Derived.Test.YtlanplhphiikjaaGreatDoorE07
set_option maxRecDepth 100000
set_option maxHeartbeats 400000000
namespace Go.Proofs.YtlanplhphiikjaaGreatDoor
open Go.RowKit Go.Shelf Go.Lib Tryz
def Zt:Rd UInt8 where
 k:=1
 R _ _ cs x:=cs=[.int .u8 x.toNat]
 len h:=by rw [h];rfl
 frame h _:=h
 mono h _:=h
theorem Bz:∀ S w cs x,Zt.R S w cs x->∀ u ∈ cs,u.oneCell'=true:=by
 intro S w cs x h u A
 rw [show cs=[.int .u8 x.toNat] from h] at A
 simp only [Z3,Z2,or_false] at A
 subst A;rfl
def vb (n:Nat):Bs:=if h:n<128 then [UInt8.ofNat n] else UInt8.ofNat (n % 128+128)::vb (n / 128)
termination_by n
decreasing_by omega
theorem Kg {n:Nat} (h:n<128):vb n=[UInt8.ofNat n]:=by unfold vb;rw [dif_pos h]
theorem Ds {n:Nat} (h:¬ n<128):vb n=UInt8.ofNat (n % 128+128)::vb (n / 128):=by rw [vb,dif_neg h]
theorem vb_len:∀ (k n:Nat),n<128 ^ (k+1)->(vb n).length<=k+1
 | 0,n,h=>by rw [Kg (by simpa using h)];simp
 | k+1,n,h=>by
  by_cases hn:n<128
  ·rw [Kg hn];simp
  rw [Ds hn,List.length_cons]
  have:n / 128<128 ^ (k+1):=by
   rw [Nat.div_lt_iff_lt_mul Qvu]
   rw [Nat.pow_succ] at h
   omega
  have:=vb_len k (n / 128) this
  omega
theorem Kw {n:Nat} (h:n<18446744073709551616):(vb n).length<=10:=vb_len 9 n Qvu
structure WAt (g:Nat) (w:World) (v:Value) (bs:Bs):Prop where
 cell:w.heap[g]?=some (.cells #[v] 88 (0,0))
 own:∃ css,Own Zt 5 (fun _=>False) (g+1) w v bs css
structure Xk (g:Nat) (w:World) (v:Value) (w':World) (v':Value):Prop where
 below:Below g w w'
 size:w<=w'.heap.size
 keep:∀ b,b<w.heap.size->b≠g->some b≠v.ownBlock->w'.heap[b]?=w.heap[b]?
 at':v'.ownBlock=v.ownBlock\/∃ k,v'.ownBlock=some k/\w.heap.size<=k
theorem Xk.refl (g:Nat) (w:World) (v:Value):Xk g w v w v:=⟨Qz _ _,Q9 _,fun _ _ _ _=>rfl,.inl rfl⟩
theorem Xk.trans {g:Nat} {a b c:World} {u v x:Value} (h:Xk g a u b v) (k:Xk g b v c x):Xk g a u c x:=by
 refine ⟨h.below.trans k.below,Qc h.size k.size,fun i hi hg hu=>?_,?_⟩
 ·rw [k.keep i (Qa hi h.size) hg (fun e=>?_),h.keep i hi hg hu]
  rcases h.at' with e2 | ⟨q,e2,hq⟩
  ·exact hu (e.trans e2)
  rw [e2] at e;have:=Qb e;omega
 rcases k.at' with e | ⟨q,e,hq⟩
 ·rcases h.at' with e2 | ⟨q2,e2,hq2⟩
  ·exact .inl (e.trans e2)
  exact .inr ⟨q2,e.trans e2,hq2⟩
 exact .inr ⟨q,e,Qc h.size hq⟩
theorem WAt.below {g:Nat} {w w':World} {v:Value} {bs:Bs} (h:WAt g w v bs) (hb:Below w w w'):WAt g w' v bs:=by
 obtain ⟨css,ho⟩:=h.own
 exact ⟨kB hb h.cell,css,ho.below hb⟩
theorem Xk.of_below {g:Nat} {w w':World} {v:Value} (hb:Below w w w') (hg:g<=w):Xk g w v w' v:=⟨hb.mono hg,hb.size,fun b A _ _=>hb.block b A,.inl rfl⟩
theorem or128 (m:Nat):bits BinOp.or IntKind.u8 ((m:Int) % 256) 128=((UInt8.ofNat (m % 128+128)).toNat:Int):=by
 have h:∀ r,r<256->bits BinOp.or IntKind.u8 ((r:Nat):Int) 128=((r % 128+128:Nat):Int):=Qxv
 have e:(m:Int) % 256=((m % 256:Nat):Int):=Qvu
 rw [e,h (m % 256) (Nat.mod_lt _ Qvu)]
 rw [show (UInt8.ofNat (m % 128+128)).toNat=m % 128+128 from by rw [UInt8.toNat_ofNat'];omega]
 omega
theorem low128 (m:Nat) (h:m<128):(m:Int)=((UInt8.ofNat m).toNat:Int):=by
 rw [show (UInt8.ofNat m).toNat=m from by rw [UInt8.toNat_ofNat'];omega]
def K8 (g:Nat) (w:World) (v:Value) (bs:Bs) (e:Ending) (w':World):Prop:=e=.returned (.tuple #[])/\∃ v',WAt g w' v' bs/\Xk g w v w' v'
theorem Le (g:Nat) (w:World) (v:Value) (bs:Bs) (n:Nat) (h:WAt g w v bs) (hn:n<18446744073709551616) (hl:bs.length<=100000):
  Calls prog 85 #[Qxb g,.int .u64 n] w (K8 g w v (bs++vb n)):=by
 have H:=Qq h
 obtain ⟨i5,j1,j2,j3,j4⟩:=Y4 (P:=prog) (t:=5) (z:=.int .u8 0) (n:=1) (b:=1) Qxx
 obtain ⟨HJ,aC,aD,aE⟩:=Qxo j1 j2 j3 j4
 clear h j1 j2 j3 j4
 go_enter func85,ntmps85
 go_wp2_with fail
 go_loopw [1] (fun s wr=>∃ (m:Nat) (cs:Bs) (u:Value),s=.int .u64 m/\m<=n/\Aside (cs++vb m=bs++vb n)/\WAt g wr u cs/\Xk g w v wr u) (fun s _=>(intOf s).toNat)
 case atStart=>exact ⟨n,bs,v,rfl,Q9 _,rfl,H.out,Xk.refl _ _ _⟩
 obtain ⟨m,cs,u,rfl,aR,hE,hA,hS⟩:=hrel
 have c0:=Qk _ _ 0 _ _ _ hA.cell;have f0:=fA 0 hA.cell
 simp only [Qf,Qg] at c0
 obtain ⟨css,hO⟩:=hA.own
 obtain ⟨up,U,rfl⟩:∃ p cap,u=.slice p cs.length cap:=by
  rcases hO.row.2 with ⟨rfl,h0⟩ | ⟨q,cap,aP,rfl,_⟩
  ·exact ⟨none,0,by rw [h0]⟩
  exact ⟨_,_,rfl⟩
 have T:=Z8 hA.cell
 have aQ:cs.length<=100010:=by
  have h1:=congrArg List.length hE.out
  rw [Ql,Ql] at h1
  have:=Kw hn
  omega
 obtain ⟨HA,HS,HO,HE⟩:=Qxo hA.cell hS hO hE.out
 clear hA hS hO hE
 by_cases hlt:m<128
 ·have aN:(m:Int)<128:=Qvu
  have hb:=low128 m hlt
  obtain ⟨c,Z⟩:=eX (UInt8.ofNat m)
  rw [Z] at hb
  have HC:=Qq Z;have aH:=Qq hb
  clear Z hb
  go_wp2_with (at_builtin;refine Yf (r:=Zt) Qxv rfl (.tmp 24) (.tmp 27) _ rfl 5 i5 (.int .u8 0) 1 underlying23 HJ.out aC.out aD.out aE.out rfl Qvu (fun _=>False) (g+1) wr (.slice up cs.length U) cs css [.int .u8 m] c rfl HO.out rfl (by show _=_;rw [aH.out]) (by simp [Value.oneCell']) cs.length rfl Qvu Qvu ?_;intro p5 O M w5 N I;have J:=Qq N;have A:=Qq I;have D:=(I.other g T (fun e=>by have:=(HO.out.row.lt g e.symm).1;omega)).trans HA.out;have aK:=fA 0 D;have aJ:=rA0 D;have V:=Qq D;clear N I D)
  go_end0
  have aO:bs++vb n=cs++[c]:=by rw [<- HE.out,Kg hlt,HC.out]
  rw [aO]
  refine ⟨rfl,_,⟨by rw [Qi _ _ _ _ _ _ V.out];rfl,M,J.out.move (Q9 _) (fun b _ h=>Z9 ?_)⟩,HS.out.trans ⟨(A.out.below.mono (Nat.le_succ g)).setCell (p:=⟨g,0,none⟩) (Q9 _) _,by simp [World.setCell];exact A.out.size,fun b hb Y aA=>?_,A.out.at'⟩⟩
  ·rcases h with h | h
   ·exact h.elim
   have:=(J.out.row.lt b h).1
   show b≠g
   omega
  rw [Z9 Y,A.out.other b hb aA]
 have aN:(128:Int)<=(m:Int):=Qvu
 have hb:=or128 m
 obtain ⟨c,Z⟩:=eX (UInt8.ofNat (m % 128+128))
 rw [Z] at hb
 have HC:=Qq Z
 clear Z
 go_wp2_with (at_builtin;refine Yf (r:=Zt) Qxv rfl (.tmp 12) (.tmp 16) _ rfl 5 i5 (.int .u8 0) 1 underlying23 HJ.out aC.out aD.out aE.out rfl Qvu (fun _=>False) (g+1) wr (.slice up cs.length U) cs css [.int .u8 c.toNat] c rfl HO.out rfl rfl (by simp [Value.oneCell']) cs.length rfl Qvu Qvu ?_;intro p5 O M w5 N I;have J:=Qq N;have A:=Qq I;have D:=(I.other g T (fun e=>by have:=(HO.out.row.lt g e.symm).1;omega)).trans HA.out;have aK:=fA 0 D;have aJ:=rA0 D;have V:=Qq D;clear N I D)
 go_roundw
 case measure=>simp only [intOf];omega
 case rel=>
  refine ⟨m / 128,cs++[c],.slice p5 (cs.length+1) O,by go_num,Qvu,(show Aside _ from ?_),⟨by rw [Qi _ _ _ _ _ _ V.out];rfl,M,J.out.move (Q9 _) (fun b _ h=>Z9 ?_)⟩,HS.out.trans ⟨(A.out.below.mono (Nat.le_succ g)).setCell (p:=⟨g,0,none⟩) (Q9 _) _,by simp [World.setCell];exact A.out.size,fun b hb Y aA=>?_,A.out.at'⟩⟩
  ·have h1:=HE.out
   rw [Ds hlt,HC.out] at h1
   have h2:cs++[c]++vb (m / 128)=bs++vb n:=by rw [<- h1];simp
   exact h2
  ·rcases h with h | h
   ·exact h.elim
   have:=(J.out.row.lt b h).1
   show b≠g
   omega
  rw [Z9 Y,A.out.other b hb aA]
open Go.RowKit Go.Shelf Go.Lib Go.WideMaps Go.Maps
section
variable {P:Program} {T:Type}
theorem Dv {r:Rd T} (hk:0<r.k) {ops:Array Oper} {rest:List Oper} {o:Oper} {a:Act} {Q:Exit->Act->World->Prop} (hgd:o.guard=none) (s x:Operand) (t:TypeId)
  (ho:o.op=.call { callee:=.builtin .append,args:=#[s,x],argTypes:=#[t,t] }) (E:TypeId) (i:TypeInfo) (z:Value) (bytes:Nat) (ht:P.underlying t=some (.slice E)) (hi:P.info? E=some i) (hz:i.zero=some z)
  (hsize:i.size=r.k) (hby:i.bytes=bytes) (hzs:z.cells.size=r.k) (hb1:bytes<=1000) (S:Nat->Prop) (B:Nat) (w:World) (v:Value) (xs:List T) (css:List (List Value)) (ys:List T) (q:Option Addr) (m c:Nat) (hs:a.eval s=v)
  (hO:Own r E S B w v xs css) (hx:a.eval x=.slice q m c) (hY:Sl r (But S v) w (.slice q m c) ys) (hm:m=ys.length) (hne:ys≠[]) (h1:∀ S w cs x,r.R S w cs x->∀ u ∈ cs,u.oneCell'=true) (hl:xs.length+ys.length<=1000000) (hB:B<=w)
  (h:∀ p cap css' N,Own r E S B N (.slice p (xs.length+m) cap) (xs++ys) css'->w.grownBy N v.ownBlock->((Value.slice p (xs.length+m) cap).ownBlock=v.ownBlock\/(Value.slice p (xs.length+m) cap).ownBlock=some w.heap.size)->wpList P ops Q rest (a.put o.dst (.slice p (xs.length+m) cap)) N):
  wpList P ops Q (o::rest) a w:=by
 subst hm
 obtain ⟨q',c',dss,hv,O,hc⟩:=hY.css hk
 simp only [Qr] at hv
 obtain ⟨rfl,-,rfl⟩:=hv
 obtain ⟨b,off,rfl,_,aB,I⟩:=hc hne
 refine wpList_append_own_at (P:=P) (w:=w) hgd s x t ho B E i z r.k bytes ht hi hz hsize hby hzs hk v xs.length css.flatten hs hO.row ⟨b,off,none⟩ ys.length c dss.flatten hx O.flat (fun j u Z=>?_) (fun u Z=>?_) (by unfold maxLen;omega) (by
   have:=Nat.mul_le_mul (show xs.length+ys.length<=1000000 by omega) hb1
   omega) hB (fun v1 N D A _ J=>?_)
 ·rw [show (⟨b,off,none⟩:Addr).add j=⟨b,off+j,none⟩ by unfold Addr.add;split <;> simp_all]
  exact I j u Z
 ·obtain ⟨cc,V,aA⟩:=List.mem_flatten.1 Z
  obtain ⟨i',M⟩:=Zk V
  have Y:=(Qj M).1
  exact h1 _ w cc _ (O.R i' cc _ M (Qx (by rw [<- O.len];exact Y))) u aA
 have U:=hO.append O (ys:=ys) (dss:=dss) (v':=v1) (w2:=N) D A J
 have aC:0<ys.length:=List.length_pos_iff.2 hne
 rcases D.2 with ⟨_,hn⟩ | ⟨g,cap,aD,rfl,_⟩
 ·omega
 exact h _ _ _ _ U A J
end
theorem Qze {E:TypeId} {S:Nat->Prop} {B:Nat} {w:World} {v:Value} {bs:Bs} {css:List (List Value)} (h:Own Zt E S B w v bs css):(v=.slice none 0 0/\bs=[])\/∃ g cap,v=.slice (some ⟨g,0,none⟩) bs.length cap/\∀ j (hj:j<bs.length),w.cell? ((⟨g,0,none⟩:Addr).add j)=some (.int .u8 (bs[j].toNat:Int)):=by
 rcases h.row.2 with ⟨A,h0⟩ | ⟨g,cap,D,A,_⟩
 ·exact .inl ⟨A,Zy h0⟩
 refine .inr ⟨g,cap,A,fun j hj=>?_⟩
 refine h.row.cells (g:=g) (by rw [A];rfl) j _ ?_
 have hc:css[j]?=some [.int .u8 (bs[j].toNat:Int)]:=by
  have h1:=Qx (l:=css) (i:=j) (by rw [h.cs.len];exact hj)
  have:=h.cs.R j _ _ h1 (Qx hj)
  rw [h1];exact congrArg some this
 have:=V9 (k:=1) h.cs.all hc (j:=0) (u:=.int .u8 (bs[j].toNat:Int)) rfl
 simpa using this
theorem Mj {E:TypeId} {S:Nat->Prop} {B:Nat} {w:World} {v:Value} {bs:Bs} {css:List (List Value)} (h:Own Zt E S B w v bs css):(convert 23 9 v).run Tryz.prog w=.ok (.string ⟨bs.toArray⟩) w:=by
 rcases Qze h with ⟨rfl,rfl⟩ | ⟨g,cap,rfl,hc⟩
 ·exact Lib.run_convert_nil_bytes w 23 9 5 0 Tryz.underlying23 Tryz.underlying5 Tryz.underlying9
 exact run_convert_bytes_back w 23 9 5 ⟨g,0,none⟩ cap bs Tryz.underlying23 Tryz.underlying5 Tryz.underlying9 hc
structure Ft where
 code:Int
 table:Bs
 row:Val
 other:Val
def Ft.zero:Ft:=⟨0,[],Val.zero,Val.zero⟩
def Mc (S:Nat->Prop) (w:World) (cs:List Value) (f:Ft):Prop:=∃ c1 c2,cs=.int .i64 f.code::sv f.table::(c1++c2)/\f.table.length<=1000000/\Za S w c1 f.row/\Za S w c2 f.other
theorem Mc.move {S S':Nat->Prop} {w w':World} {cs:List Value} {f:Ft} (h:Mc S w cs f) (hA:Vz S w w') (hS:∀ b,b<w.heap.size->S b->S' b):Mc S' w' cs f:=by
 obtain ⟨c1,c2,rfl,h1,h2,h3⟩:=h
 exact ⟨c1,c2,rfl,h1,h2.move hA hS,h3.move hA hS⟩
def Gx (S:Nat->Prop) (w:World) (f:Ft) (e:Ending) (w':World):Prop:=∃ cs',e=.returned (.agg cs'.toArray)/\Mc S w' cs' f/\Below w w w'
def fcs (c:Int) (t:ByteArray) (r:Val) (o:Val) (p3:Option Addr) (k3:Nat) (p4:Option Addr) (k4:Nat) (q3:Option Addr) (l3:Nat) (q4:Option Addr) (l4:Nat):List Value:=
 (Qxi c (.string t) r p3 k3 p4 k4 o q3 l3 q4 l4)
theorem Uu {S:Nat->Prop} {w:World} {cs:List Value} {f:Ft} (h:Mc S w cs f):∃ p3 k3 p4 k4 q3 l3 q4 l4,cs=fcs f.code ⟨f.table.toArray⟩ f.row f.other p3 k3 p4 k4 q3 l3 q4 l4/\f.table.length<=1000000/\Za S w (vcs f.row p3 k3 p4 k4) f.row/\Za S w (vcs f.other q3 l3 q4 l4) f.other:=by
 obtain ⟨c1,c2,rfl,h1,h2,h3⟩:=h
 obtain ⟨p3,k3,p4,k4,rfl,_⟩:=Za.cells h2
 obtain ⟨q3,l3,q4,l4,rfl,_⟩:=Za.cells h3
 exact ⟨p3,k3,p4,k4,q3,l3,q4,l4,rfl,h1,h2,h3⟩
theorem Ks (S:Nat->Prop) (w:World):Mc S w [Qxc,Qxd,Qxc,Qxc,Qxd,Qxe,Qxe,Qxc,Qxc,Qxd,Qxe,Qxe] Ft.zero:=
 ⟨_,_,rfl,by simp [Ft.zero],Yw S w,Yw S w⟩
def Sw (v:Value) (rvs:List Value):Nat->Prop:=fun b=>v.ownBlock≠some b/\∀ rv ∈ rvs,rv.ownBlock≠some b
def Yb (l:List Rel) (rvs:List Value):List (List Value):=List.zipWith (fun r rv=>[sv r.table,rv]) l rvs
structure U3 (B:Nat) (w:World) (v:Value) (l:List Rel) (rvs:List Value):Prop where
 len:rvs.length=l.length
 row:w.ownsRow B 42 2 v l.length (Yb l rvs).flatten
 tl:∀ r ∈ l,r.table.length<=1000000
 rows:∀ (i:Nat) (r:Rel) (rv:Value),l[i]?=some r->rvs[i]?=some rv->∃ css,Own Zc 48 (Sw v rvs) B w rv r.rows css
 apart:∀ (i j:Nat) (a b:Value) (g:Nat),rvs[i]?=some a->rvs[j]?=some b->a.ownBlock=some g->b.ownBlock=some g->i=j
theorem Kk {l:List Rel} {rvs:List Value}:∀ c ∈ Yb l rvs,c.length=2:=by
 intro c D
 unfold Yb at D
 rw [List.mem_iff_getElem?] at D
 obtain ⟨i,A⟩:=D
 rw [List.getElem?_zipWith] at A
 split at A
 ·cases A;rfl
 cases A
theorem Dk {l:List Rel} {rvs:List Value} {i:Nat} {r:Rel} {rv:Value} (h1:l[i]?=some r) (h2:rvs[i]?=some rv):(Yb l rvs)[i]?=some [sv r.table,rv]:=by
 unfold Yb
 rw [List.getElem?_zipWith,h1,h2]
theorem Jz {l:List Rel} {rvs:List Value} (h:rvs.length=l.length):(Yb l rvs).length=l.length:=by
 unfold Yb;rw [List.length_zipWith,h,Nat.min_self]
theorem Rx {l:List Rel} {rvs:List Value} {i:Nat} {r:Rel} (rv':Value) (zs:List Val) (hi:l[i]?=some r) (h:rvs.length=l.length):
  (Yb l rvs).flatten.set (i*2+1) rv'=(Yb (l.set i ⟨r.table,zs⟩) (rvs.set i rv')).flatten:=by
 induction l generalizing i rvs with
 | nil=>simp at hi
 | cons a l ih=>
  cases rvs with
  | nil=>simp at h
  | cons b rvs=>
   cases i with
   | zero=>
    simp at hi;subst hi
    simp [Yb]
   | succ i=>
    have:=ih (rvs:=rvs) (i:=i) (by simpa using hi) (by simpa using h)
    simp only [Yb,List.zipWith_cons_cons,List.flatten_cons,List.set_cons_succ] at this |-
    rw [<- this,show (i+1)*2+1=([sv a.table,b]:List Value).length+(i*2+1) by simp;omega,List.set_append_right _ _ (Nat.le_add_right _ _),Nat.add_sub_cancel_left]
theorem U3.below {B:Nat} {w w':World} {v:Value} {l:List Rel} {rvs:List Value} (h:U3 B w v l rvs) (hb:Below w w w'):U3 B w' v l rvs:=
 ⟨h.len,Dd h.row hb,h.tl,fun i r rv h1 h2=>(h.rows i r rv h1 h2).imp fun _ ho=>ho.below hb,h.apart⟩
theorem U3.sl {B:Nat} {w:World} {v:Value} {l:List Rel} {rvs:List Value} (h:U3 B w v l rvs) (hl:l.length<=1000000) (hr:∀ r ∈ l,r.rows.length<=1000000) (S':Nat->Prop) (h1:∀ b,B<=b->S' b) (h2:∀ b,b<w.heap.size->Sw v rvs b->S' b):Sl Yx S' w v l:=by
 have I:Cs Yx S' w (Yb l rvs) l:=by
  refine ⟨Jz h.len,fun i c x hc D=>?_⟩
  have hi:=(Qj D).1
  obtain ⟨rv,A⟩:∃ rv,rvs[i]?=some rv:=⟨_,Qx (by rw [h.len];exact hi)⟩
  rw [Dk D A] at hc
  cases hc
  obtain ⟨css,ho⟩:=h.rows i x rv D A
  exact ⟨rv,rfl,h.tl x (Qy D),ho.sl (hr x (Qy D)) h1 h2⟩
 rcases h.row.2 with ⟨rfl,h0⟩ | ⟨g,cap,J,rfl,hB,hg,_,_,_,ht⟩
 ·rw [Zy h0];exact Sl.nil _ _ _
 refine Sl.of_css (css:=Yb l rvs) hl I (h1 g hB) (Array.getElem?_eq_some_iff.1 hg).1 (fun j u hu=>?_)
 rw [Nat.zero_add];exact Hd hg ht hu
theorem U3.put {B:Nat} {w w1:World} {g cap:Nat} {l:List Rel} {rvs:List Value} {i:Nat} {r:Rel} {rv rv':Value} {zs:List Val} (h:U3 B w (.slice (some ⟨g,0,none⟩) l.length cap) l rvs) (hi:l[i]?=some r) (hrv:rvs[i]?=some rv)
  (ho:∃ css,Own Zc 48 (Sw (.slice (some ⟨g,0,none⟩) l.length cap) rvs) B w1 rv' zs css) (hg:w.grownBy w1 rv.ownBlock) (hat:rv'.ownBlock=rv.ownBlock\/∀ g',rv'.ownBlock=some g'->w.heap.size<=g'):
  U3 B (w1.setCell ⟨g,i*2+1,none⟩ rv') (.slice (some ⟨g,0,none⟩) l.length cap) (l.set i ⟨r.table,zs⟩) (rvs.set i rv'):=by
 have J:=(Qj hi).1
 have aE:=(h.row.lt g rfl).2
 have aI:=(h.row.lt g rfl).1
 obtain ⟨aH,aF⟩:=h.rows i r rv hi hrv
 have aA:some g≠rv.ownBlock:=fun e=>Yp h.row aF.row Qxv rfl e.symm
 have aB:some g≠rv'.ownBlock:=by
  intro e
  rcases hat with A | A
  ·exact aA (e.trans A)
  have:=A g e.symm
  omega
 have U:w1.ownsRow B 42 2 (.slice (some ⟨g,0,none⟩) l.length cap) l.length (Yb l rvs).flatten:=by
  refine ⟨h.row.1,?_⟩
  rcases h.row.2 with hn | ⟨g',cap',cur,e,hB,hh,rest⟩
  ·exact .inl hn
  simp only [Qr,Zv,Addr.mk.injEq] at e
  obtain ⟨⟨rfl,_⟩,_,rfl⟩:=e
  exact .inr ⟨_,_,cur,rfl,hB,(hg.block _ aE aA).trans hh,rest⟩
 have T:∀ b,b<w.heap.size->Sw (.slice (some ⟨g,0,none⟩) l.length cap) rvs b->Sw (.slice (some ⟨g,0,none⟩) l.length cap) (rvs.set i rv') b:=by
  rintro b hb ⟨f1,f2⟩
  refine ⟨f1,fun u M=>?_⟩
  rcases List.mem_or_eq_of_mem_set M with A | rfl
  ·exact f2 u A
  intro e
  rcases hat with A | A
  ·exact f2 rv (Qy hrv) (A ▸ e)
  have:=A b e;omega
 refine ⟨by rw [List.length_set,List.length_set];exact h.len,?_,?_,?_,?_⟩
 ·rw [List.length_set,<- Rx rv' zs hi h.len]
  exact (U.stored (i*2+1) rv').1
 ·intro x I
  rcases List.mem_or_eq_of_mem_set I with A | rfl
  ·exact h.tl x A
  exact h.tl r (Qy hi)
 ·intro j x u I M
  by_cases e:j=i
  ·subst e
   rw [List.getElem?_set_self (by exact J)] at I
   rw [List.getElem?_set_self (by rw [h.len];exact J)] at M
   cases I;cases M
   obtain ⟨css,ho⟩:=ho
   refine ⟨css,⟨?_,?_⟩⟩
   ·refine ⟨ho.row.1,?_⟩
    rcases ho.row.2 with hn | ⟨g',cap',cur,e,hB,hh,rest⟩
    ·exact .inl hn
    refine .inr ⟨g',cap',cur,e,hB,?_,rest⟩
    rw [Z9 (by intro V;subst e;have e3:g'=g:=V;exact aB (by rw [<- e3];rfl))];exact hh
   refine ho.cs.move (fun b D Z=>Z9 (fun e=>D.1.1 (by rw [e];rfl))) (fun b hb D=>⟨⟨D.1.1,fun u M=>?_⟩,D.2⟩)
   rcases List.mem_or_eq_of_mem_set M with A | rfl
   ·exact D.1.2 u A
   exact fun e=>D.2 e.symm
  rw [List.getElem?_set_ne (Ne.symm e)] at I M
  obtain ⟨css,N⟩:=h.rows j x u I M
  have aG:u.ownBlock≠some g:=Yp h.row N.row Qxv rfl
  refine ⟨css,⟨?_,?_⟩⟩
  ·refine ⟨N.row.1,?_⟩
   rcases N.row.2 with hn | ⟨g',cap',cur,e1,hB,hh,rest⟩
   ·exact .inl hn
   refine .inr ⟨g',cap',cur,e1,hB,?_,rest⟩
   have aD:g'<w.heap.size:=(Array.getElem?_eq_some_iff.1 hh).1
   rw [Z9 (by intro V;subst e1;have e3:g'=g:=V;exact aG (by rw [<- e3];rfl)),hg.block g' aD (fun V=>e (h.apart j i u rv g' M hrv (by rw [e1];rfl) V.symm))]
   exact hh
  refine N.cs.move (fun b D Z=>?_) (fun b hb D=>⟨T b hb D.1,D.2⟩)
  rw [Z9 (fun e=>D.1.1 (by rw [e];rfl)),hg.block b Z (fun e=>D.1.2 rv (Qy hrv) e.symm)]
 intro j k a b g' O hb A Y
 by_cases ej:j=i
 ·by_cases ek:k=i
  ·omega
  subst ej
  rw [List.getElem?_set_self (by rw [h.len];exact J)] at O
  rw [List.getElem?_set_ne (Ne.symm ek)] at hb
  cases O
  obtain ⟨x,I⟩:∃ x,l[k]?=some x:=⟨_,Qx (by rw [<- h.len];exact (Qj hb).1)⟩
  obtain ⟨css,N⟩:=h.rows k x b I hb
  have:=(N.row.lt g' Y).2
  rcases hat with h3 | h3
  ·exact h.apart j k rv b g' hrv hb (h3 ▸ A) Y
  have:=h3 g' A;omega
 rw [List.getElem?_set_ne (Ne.symm ej)] at O
 by_cases ek:k=i
 ·subst ek
  rw [List.getElem?_set_self (by rw [h.len];exact J)] at hb
  cases hb
  obtain ⟨x,I⟩:∃ x,l[j]?=some x:=⟨_,Qx (by rw [<- h.len];exact (Qj O).1)⟩
  obtain ⟨css,N⟩:=h.rows j x a I O
  have:=(N.row.lt g' A).2
  rcases hat with h3 | h3
  ·exact h.apart j k a rv g' O hrv A (h3 ▸ Y)
  have:=h3 g' Y;omega
 rw [List.getElem?_set_ne (Ne.symm ek)] at hb
 exact h.apart j k a b g' O hb A Y
def Vn (W:World) (R:Nat) (a0 a1 a2 a3 a4 a5 a6 a7 a8 a9 a10 a11 a12:Value):World:=(((((((((((((W.setCell ⟨R,0,none⟩ a0).setCell ⟨R,1,none⟩ a1).setCell ⟨R,2,none⟩ a2).setCell ⟨R,3,none⟩ a3).setCell ⟨R,4,none⟩ a4).setCell ⟨R,5,none⟩ a5).setCell ⟨R,6,none⟩ a6).setCell ⟨R,7,none⟩ a7).setCell ⟨R,8,none⟩ a8).setCell ⟨R,9,none⟩ a9).setCell ⟨R,10,none⟩ a10).setCell ⟨R,11,none⟩ a11).setCell ⟨R,12,none⟩ a12)
theorem Me {W:World} {R:Nat} {a0 a1 a2 a3 a4 a5 a6 a7 a8 a9 a10 a11 a12 x0 x1 x2 x3 x4 x5 x6 x7 x8 x9 x10 x11 x12:Value} {t:TypeId} (h:W.heap[R]?=some (.cells #[x0,x1,x2,x3,x4,x5,x6,x7,x8,x9,x10,x11,x12] t (0,0))):(Vn W R a0 a1 a2 a3 a4 a5 a6 a7 a8 a9 a10 a11 a12).heap[R]?=some (.cells #[a0,a1,a2,a3,a4,a5,a6,a7,a8,a9,a10,a11,a12] t (0,0)):=by
 have A:=Qi _ _ 0 _ _ a0 h;have A:=Qi _ _ 1 _ _ a1 A;have A:=Qi _ _ 2 _ _ a2 A;have A:=Qi _ _ 3 _ _ a3 A;have A:=Qi _ _ 4 _ _ a4 A;have A:=Qi _ _ 5 _ _ a5 A;have A:=Qi _ _ 6 _ _ a6 A;have A:=Qi _ _ 7 _ _ a7 A;have A:=Qi _ _ 8 _ _ a8 A;have A:=Qi _ _ 9 _ _ a9 A;have A:=Qi _ _ 10 _ _ a10 A;have A:=Qi _ _ 11 _ _ a11 A;have A:=Qi _ _ 12 _ _ a12 A
 simpa [Vn] using A
theorem Uo {W:World} {R:Nat} {a0 a1 a2 a3 a4 a5 a6 a7 a8 a9 a10 a11 a12 x0 x1 x2 x3 x4 x5 x6 x7 x8 x9 x10 x11 x12:Value} {t:TypeId} (h:W.heap[R]?=some (.cells #[x0,x1,x2,x3,x4,x5,x6,x7,x8,x9,x10,x11,x12] t (0,0))) (j:Nat):(Vn W R a0 a1 a2 a3 a4 a5 a6 a7 a8 a9 a10 a11 a12).cell? ⟨R,j,none⟩=#[a0,a1,a2,a3,a4,a5,a6,a7,a8,a9,a10,a11,a12][j]?:=
 Qk _ _ _ _ _ _ (Me h)
theorem J0 {W:World} {R k:Nat} {a0 a1 a2 a3 a4 a5 a6 a7 a8 a9 a10 a11 a12:Value} (h:k≠R):(Vn W R a0 a1 a2 a3 a4 a5 a6 a7 a8 a9 a10 a11 a12).heap[k]?=W.heap[k]?:=by
 unfold Vn
 repeat rw [Z9 h]
theorem Xo {B R:Nat} {w W:World} {a0 a1 a2 a3 a4 a5 a6 a7 a8 a9 a10 a11 a12:Value} (h:Below B w W) (hR:B<=R):Below B w (Vn W R a0 a1 a2 a3 a4 a5 a6 a7 a8 a9 a10 a11 a12):=
 ((((((((((((h.setCell (p:=⟨R,0,none⟩) hR _).setCell (p:=⟨R,1,none⟩) hR _).setCell (p:=⟨R,2,none⟩) hR _).setCell (p:=⟨R,3,none⟩) hR _).setCell (p:=⟨R,4,none⟩) hR _).setCell (p:=⟨R,5,none⟩) hR _).setCell (p:=⟨R,6,none⟩) hR _).setCell (p:=⟨R,7,none⟩) hR _).setCell (p:=⟨R,8,none⟩) hR _).setCell (p:=⟨R,9,none⟩) hR _).setCell (p:=⟨R,10,none⟩) hR _).setCell (p:=⟨R,11,none⟩) hR _).setCell (p:=⟨R,12,none⟩) hR _
def Tbl.zero:Tbl:=⟨[],[],[],[],.mk 0 [] 0 [] [] [] [] 0 0⟩
theorem Gw (S:Nat->Prop) (w:World):Zl.R S w [Qxd,Qxe,Qxe,Qxe,Qxc,Qxd,Qxc,Qxd,Qxe,Qxe,Qxe,Qxc,Qxc] Tbl.zero:=
 ⟨_,_,_,_,rfl,by simp [Tbl.zero],Sl.nil _ _ _,Sl.nil _ _ _,Sl.nil _ _ _,Xv (nm:=[]) (s:=[]) Qxz Qxz (Sl.nil _ _ _) (Sl.nil _ _ _) (Sl.nil _ _ _)⟩
theorem A7 (S:Nat->Prop) (t:Tbl) (ct:List Value) (w:World) (h:Zl.R S w ct t):
  Calls prog 234 #[ct] w fun e w'=>e=.returned (sv t.name)/\Below w w w':=by
 obtain ⟨cp,cc,kp,kc,rp,rc,k,s1,n,s2,p1,n1,c1,p2,n2,c2,p3,n3,c3,a,z,A,_⟩:=Yj h
 simp only [tcs] at A
 subst A
 clear h
 unfold sv
 go_enter func234,ntmps234
 go_wp2_with fail
 go_ret
 exact ⟨rfl,Ze _ _⟩
def Yy (l:List Tbl) (x:Bs):Option Tbl:=l.find? (fun t=>decide (t.name=x))
def NamedIs (S:Nat->Prop) (w:World) (o:Option Tbl) (e:Ending) (w':World):Prop:=∃ cs',e=.returned (.tuple #[.agg cs'.toArray,.bool o.isSome])/\Zl.R (fun b=>S b/\b<w) w' cs' (o.getD Tbl.zero)/\Below w w w'
theorem Qks (S:Nat->Prop) (l:List Tbl) (v:Value) (x0:Bs) (w:World) (hv0:Sl Zl S w v l):
  Calls prog 233 #[v,.func (.func 234) #[] #[],sv x0] w (NamedIs S w (Yy l x0)):=by
 have hv:=hv0.up
 obtain ⟨vp,eC,rfl,hl⟩:=hv.len
 have HV:=Qq hv
 clear hv hv0
 obtain ⟨m,hm⟩:=eX (l.length)
 rw [hm] at HV hl |-
 have HN:=Qq hm
 clear hm
 obtain ⟨r,hr⟩:=eX (Yy l x0)
 rw [hr]
 have HR:=Qq hr
 clear hr
 unfold sv
 go_enter func233,ntmps233
 go_wp2_with fail
 generalize cE:w.alloc (.cells zT 61)=W1
 have cU:=eqB cE (Ze _ _)
 have cT:=eqH (b:=w.heap.size) cE (Qw _ _)
 have dQ:=Qq cU;have dS:=Qq cT
 clear cE cU cT
 go_loopw [13] (fun i wr=>∃ k:Nat,k<=m/\i=.int .i64 k/\Aside (∀ (j:Nat) (y:Tbl),j<k->l[j]?=some y->decide (y.name=x0)=false)/\Below W1 W1 wr) (fun i _=>m - (intOf i).toNat)
 case atStart=>exact ⟨0,Q8 _,rfl,fun j _ hj=>absurd hj (Z6 _),Qz _ _⟩
 obtain ⟨k,hk,rfl,hA,hB⟩:=hrel
 have I:=kB hB dS.out
 have bN:=Z8 I
 obtain ⟨HA,HB,dR⟩:=Qxn hA.out (dQ.out.thn hB) hB
 clear hA hB
 by_cases cI:k<m
 ·have eE:(0:Int)<=(k:Int):=Qvu
  have eF:(k:Int)<(m:Int):=Qvu
  obtain ⟨x,hx⟩:∃ x,l[k]?=some x:=⟨_,Qx (by rw [HN.out];exact cI)⟩
  obtain ⟨bb,off,cx,rfl,eD,-,-,bL,D⟩:=(HV.out.below HB.out).elem hx
  have cC:=Qq (A7 _ x cx (wr.alloc (.cells cx.toArray 61)) (Zl.frame bL (.of_below (Ze _ _))))
  have dT:=Qq bL
  obtain ⟨aG,aF,aM,aL,aX,aW,k9,aY,n9,aZ,aQ,aN,aC,aR,aO,aD,aS,aP,aE,a9,z9,cV,_⟩:=Yj bL
  simp only [tcs] at cV
  subst cV
  have y0:=D 0 _ rfl;have y1:=D 1 _ rfl;have y2:=D 2 _ rfl;have y3:=D 3 _ rfl;have y4:=D 4 _ rfl;have y5:=D 5 _ rfl;have y6:=D 6 _ rfl;have y7:=D 7 _ rfl;have y8:=D 8 _ rfl;have y9:=D 9 _ rfl;have dJ:=D 10 _ rfl;have dK:=D 11 _ rfl;have dL:=D 12 _ rfl
  simp only [show Zl.k=13 from rfl,Nat.add_zero] at y0 y1 y2 y3 y4 y5 y6 y7 y8 y9 dJ dK dL
  have HX:=Qq hx;have aB:=Qq I
  clear hx bL D I
  unfold sv at cC
  by_cases he:x.name=x0
  ·have hq:(x.name==x0)=true:=by rw [he];simp
   have aK:r=some x:=by
    rw [<- HR.out]
    unfold Yy
    obtain ⟨dV,eB⟩:=Qj HX.out
    rw [List.find?_eq_some_iff_getElem]
    refine ⟨by simp [he],k,dV,eB,fun j hj=>?_⟩
    have:=HA.out j _ hj (Qx Qvu)
    simpa using this
   have aA:=Qq aK
   clear aK he
   go_wp2_with fail
   refine cC.out.mono ?_
   rintro e w5 ⟨rfl,hw⟩
   have A:=(hw.block wr Qxz).trans (Qw wr _)
   have J:=(hw.block w (by simp;omega)).trans ((Below.heap_alloc wr _ _ bN).trans aB.out)
   have bA:=Qk _ _ 0 _ _ _ A;have bB:=Qk _ _ 1 _ _ _ A;have bC:=Qk _ _ 2 _ _ _ A;have bD:=Qk _ _ 3 _ _ _ A;have bE:=Qk _ _ 4 _ _ _ A;have bF:=Qk _ _ 5 _ _ _ A;have bG:=Qk _ _ 6 _ _ _ A;have bH:=Qk _ _ 7 _ _ _ A;have bI:=Qk _ _ 8 _ _ _ A;have bJ:=Qk _ _ 9 _ _ _ A;have U:=Qk _ _ 10 _ _ _ A;have V:=Qk _ _ 11 _ _ _ A;have Y:=Qk _ _ 12 _ _ _ A
   have fz:=fun j=>Qn _ _ j _ _ J
   have rr:=fun j=>Qk _ _ j _ _ _ J
   obtain ⟨f0,f1,f2,f3,f4,f5,f6,f7,f8,f9,aH,aI,aJ⟩:=Qyz fz
   obtain ⟨r0,r1,r2,r3,r4,r5,r6,r7,r8,r9,N,O,T⟩:=Qyz rr
   simp only [Qf,Qg,Qh] at bA bB bC bD bE bF bG bH bI bJ U V Y r0 r1 r2 r3 r4 r5 r6 r7 r8 r9 N O T
   have cB:=Qq (HB.out.thn ((Ze wr _).thn hw));have cD:=Qq J
   have cK:=Qq ((Ze wr _).thn hw)
   clear fz rr A J hw y0 y1 y2 y3 y4 y5 y6 y7 y8 y9 dJ dK dL
   go_wp2_with fail
   obtain ⟨W,hW⟩:=eX (Vn w5 w x.name (.slice aG x.columns.length aF) (.slice aM x.key.length aL) (.slice aX x.refs.length aW) k9 (.string aY) n9 (.string aZ) (.slice aQ aN aC) (.slice aR aO aD) (.slice aS aP aE) a9 z9)
   have q:∀ j,W.cell? ⟨w,j,none⟩=#[.string ⟨x.name.toArray⟩,.slice aG x.columns.length aF,.slice aM x.key.length aL,.slice aX x.refs.length aW,.int .i64 k9,.string aY,.int .i64 n9,.string aZ,.slice aQ aN aC,.slice aR aO aD,.slice aS aP aE,.int .i64 a9,.int .i64 z9][j]?:=fun j=>by rw [<- hW];exact Uo cD.out j
   have bO:∀ b,b<w.heap.size->W.heap[b]?=w5.heap[b]?:=fun b hb=>by rw [<- hW];exact J0 Qvu
   have M:Below w w W:=by rw [<- hW];exact Xo cB.out (Q9 _)
   show bodyPost _ _ _ _ _ (Vn w5 w x.name (.slice aG x.columns.length aF) (.slice aM x.key.length aL) (.slice aX x.refs.length aW) k9 (.string aY) n9 (.string aZ) (.slice aQ aN aC) (.slice aR aO aD) (.slice aS aP aE) a9 z9)
   rw [hW]
   have cL:=Qq bO;have Z:=Qq M
   obtain ⟨q0,q1,q2,q3,q4,q5,q6,q7,q8,q9,aT,aU,aV⟩:=Qyz q
   simp only [Qf,Qg,Qh] at q0 q1 q2 q3 q4 q5 q6 q7 q8 q9 aT aU aV
   clear hW bO M q r0 r1 r2 r3 r4 r5 r6 r7 r8 r9 N O T f0 f1 f2 f3 f4 f5 f6 f7 f8 f9 aH aI aJ bA bB bC bD bE bF bG bH bI bJ U V Y
   refine Q7 (v:=.tuple #[.agg (Qxg x aG aF aM aL aX aW k9 aY n9 aZ aQ aN aC aR aO aD aS aP aE a9 z9),.bool true]) (by simp [results,results233,go_sem,q0,q1,q2,q3,q4,q5,q6,q7,q8,q9,aT,aU,aV]) rfl ⟨Qxg x aG aF aM aL aX aW k9 aY n9 aZ aQ aN aC aR aO aD aS aP aE a9 z9,by rw [aA.out];rfl,?_,Z.out⟩
   rw [aA.out]
   exact Zl.frame dT.out (fun b hb cI=>(cL.out b hb.2).trans (cK.out.block b cI))
  have hq:(x.name==x0)=false:=by rw [<- Qt,beq_iff_eq];exact he
  have HE:=Qq he
  clear he
  go_wp2_with (go_at_call 234;refine cC.out.mono ?_;rintro e w5 ⟨rfl,hw⟩;have dU:=Qq ((Ze wr _).thn hw);clear hw)
  go_roundw
  case measure=>simp [intOf];omega
  case rel=>
   refine ⟨k+1,Qvu,by go_num,(show Aside _ from fun j y hj hy=>?_),?_⟩
   ·by_cases e:j=k
    ·subst e
     have:=HX.out
     rw [this] at hy
     cases hy
     simpa using HE.out
    exact HA.out j y Qvu hy
   exact (dR.out.thn dU.out)
 have dW:k=m:=Qvu
 subst dW
 have aK:r=none:=by
  rw [<- HR.out]
  unfold Yy
  rw [List.find?_eq_none]
  intro y hy
  obtain ⟨j,hj⟩:=Zk hy
  have:=HA.out j y (by have:=(Qj hj).1;have:=HN.out;omega) hj
  simpa using this
 have aA:=Qq aK
 have fz:=fun j=>Qn _ _ j _ _ I
 have rr:=fun j=>Qk _ _ j _ _ _ I
 obtain ⟨f0,f1,f2,f3,f4,f5,f6,f7,f8,f9,aH,aI,aJ⟩:=Qyz fz
 obtain ⟨r0,r1,r2,r3,r4,r5,r6,r7,r8,r9,N,O,T⟩:=Qyz rr
 simp only [Qf,Qg,Qh] at r0 r1 r2 r3 r4 r5 r6 r7 r8 r9 N O T
 have aB:=Qq I
 clear fz rr I aK f0 f1 f2 f3 f4 f5 f6 f7 f8 f9 aH aI aJ r0 r1 r2 r3 r4 r5 r6 r7 r8 r9 N O T
 go_upto_region 8 with fail
 generalize cF:wr.alloc (.cells zT 61)=w5
 have cG:=eqB cF (Ze _ _)
 have A:=eqH (b:=wr.heap.size) cF (Qw _ _)
 have J:=(cG.block w bN).trans aB.out
 have bA:=Qk _ _ 0 _ _ _ A;have bB:=Qk _ _ 1 _ _ _ A;have bC:=Qk _ _ 2 _ _ _ A;have bD:=Qk _ _ 3 _ _ _ A;have bE:=Qk _ _ 4 _ _ _ A;have bF:=Qk _ _ 5 _ _ _ A;have bG:=Qk _ _ 6 _ _ _ A;have bH:=Qk _ _ 7 _ _ _ A;have bI:=Qk _ _ 8 _ _ _ A;have bJ:=Qk _ _ 9 _ _ _ A;have U:=Qk _ _ 10 _ _ _ A;have V:=Qk _ _ 11 _ _ _ A;have Y:=Qk _ _ 12 _ _ _ A
 have fz:=fun j=>Qn _ _ j _ _ J
 have rr:=fun j=>Qk _ _ j _ _ _ J
 obtain ⟨f0,f1,f2,f3,f4,f5,f6,f7,f8,f9,aH,aI,aJ⟩:=Qyz fz
 obtain ⟨r0,r1,r2,r3,r4,r5,r6,r7,r8,r9,N,O,T⟩:=Qyz rr
 simp only [Qf,Qg,Qh] at bA bB bC bD bE bF bG bH bI bJ U V Y r0 r1 r2 r3 r4 r5 r6 r7 r8 r9 N O T
 have cB:=Qq (HB.out.thn cG);have cD:=Qq J
 clear fz rr A J cG cF
 go_wp2_with fail
 obtain ⟨W,hW⟩:=eX (Vn w5 w Qxd Qxe Qxe Qxe Qxc Qxd Qxc Qxd Qxe Qxe Qxe Qxc Qxc)
 have q:∀ j,W.cell? ⟨w,j,none⟩=zT[j]?:=fun j=>by rw [<- hW];exact Uo cD.out j
 have M:Below w w W:=by rw [<- hW];exact Xo cB.out (Q9 _)
 show bodyPost _ _ _ _ _ (Vn w5 w Qxd Qxe Qxe Qxe Qxc Qxd Qxc Qxd Qxe Qxe Qxe Qxc Qxc)
 rw [hW]
 have Z:=Qq M
 obtain ⟨q0,q1,q2,q3,q4,q5,q6,q7,q8,q9,aT,aU,aV⟩:=Qyz q
 simp only [Qf,Qg,Qh] at q0 q1 q2 q3 q4 q5 q6 q7 q8 q9 aT aU aV
 clear hW M q r0 r1 r2 r3 r4 r5 r6 r7 r8 r9 N O T f0 f1 f2 f3 f4 f5 f6 f7 f8 f9 aH aI aJ bA bB bC bD bE bF bG bH bI bJ U V Y
 refine Q7 (v:=.tuple #[.agg zT,.bool false]) (by simp [results,results233,go_sem,q0,q1,q2,q3,q4,q5,q6,q7,q8,q9,aT,aU,aV]) rfl ⟨[Qxd,Qxe,Qxe,Qxe,Qxc,Qxd,Qxc,Qxd,Qxe,Qxe,Qxe,Qxc,Qxc],by rw [aA.out];rfl,?_,Z.out⟩
 rw [aA.out]
 exact Gw _ _
def L0 (S:Nat->Prop) (w:World) (v:Val) (e:Ending) (w':World):Prop:=∃ cs',e=.returned (.agg cs'.toArray)/\Za S w' cs' v/\Below w w w'
def Gb (b:Bool):Val:=.mk 2 (if b then 1 else 0) [] [] []
theorem Oq (S:Nat->Prop) (w:World) (b:Bool):Za S w [.int .i64 2,.int .i64 (if b then 1 else 0),Qxd,Qxe,Qxe] (Gb b):=
 Yi (s:=[]) Qxz (Sl.nil _ _ _) (Sl.nil _ _ _)
theorem Cw (w:World):Calls prog 191 #[.bool true] w fun e w'=>e=.returned (.tuple #[])/\w=w':=by
 go_enter func191,ntmps191
 go_wp2_with fail
 go_end0
 exact ⟨rfl,rfl⟩
theorem Em (b:Bool) (S:Nat->Prop) (w:World):Calls prog 192 #[.bool b] w (L0 S w (Gb b)):=by
 cases b
 ·go_enter func192,ntmps192
  go_wp2_with fail
  generalize A:w.alloc _=W
  have hb:=eqB A (Ze _ _)
  have D:=eqH (b:=w.heap.size) A (Qw _ _)
  refine Q7 (v:=.agg #[.int .i64 2,Qxc,Qxd,Qxe,Qxe]) (by simp [results,results192,go_sem,Qk _ _ _ _ _ _ D]) rfl ⟨_,rfl,Oq _ _ false,hb⟩
 go_enter func192,ntmps192
 go_wp2_with fail
 generalize A:w.alloc _=W
 have hb:=eqB A (Ze _ _)
 have D:=eqH (b:=w.heap.size) A (Qw _ _)
 refine Q7 (v:=.agg #[.int .i64 2,.int .i64 1,Qxd,Qxe,Qxe]) (by simp [results,results192,go_sem,Qk _ _ _ _ _ _ D]) rfl ⟨_,rfl,Oq _ _ true,hb⟩
theorem of_ok (k:Int) (S:Nat->Prop) (v:Val) (cs:List Value) (w:World) (h:Za S w cs v) (hk:v.kind=k):Calls prog 188 #[k,cs] w fun e w'=>e=.returned (.agg cs.toArray)/\Below w w w':=by
 have HM:=Qq Cw
 obtain ⟨p3,k3,p4,k4,A,_⟩:=Za.cells h
 simp only [vcs] at A
 subst A
 subst hk
 clear h
 go_enter func188,ntmps188
 go_wp2_with (go_at_call 191;refine (HM.out _).mono ?_;rintro e w' ⟨rfl,rfl⟩)
 generalize hW:(w.alloc _).alloc _=W
 have hb:=eqB hW (Zu _ _ _)
 have hR:=eqH (b:=w.heap.size+1) hW (Q6 _ _ _)
 refine Q7 (v:=.agg (Qxf v p3 k3 p4 k4)) (by simp [results,results188,go_sem,Qk _ _ _ _ _ _ hR]) rfl ⟨rfl,hb⟩
theorem fld1 (a b c d e:Value) (w:World):(Instr.field 48 (.agg #[a,b,c,d,e]) 1).run prog w=.ok b w:=by
 simp [Instr.field,go_sem,part,asAgg]
theorem truth_ok (b:Bool) (S:Nat->Prop) (cs:List Value) (w:World) (h:Za S w cs (Gb b)):Calls prog 124 #[cs] w fun e w'=>e=.returned (.bool b)/\Below w w w':=by
 have D:=Qq (fun W (hb:Below w w W)=>of_ok 2 S (Gb b) cs W (Za.move h (.of_below hb) Qyv) rfl)
 obtain ⟨O,M,T,N,A,_⟩:=Za.cells h
 simp only [vcs] at A
 subst A
 clear h
 have J:(Gb b).kind=2:=rfl
 have hn:((Gb b).n==1)=b:=by cases b <;> rfl
 generalize Gb b=v at J hn D |-
 subst hn
 rw [J] at D |-
 clear J
 have I:Hid (∀ W,Below w w W->Calls prog 188 #[.int .i64 2,.agg #[.int .i64 2,v.n,v.s,.slice O v.names.length M,.slice T v.kids.length N]] W fun e w'=>e=.returned (.agg #[.int .i64 2,v.n,v.s,.slice O v.names.length M,.slice T v.kids.length N])/\Below W W w'):=D
 clear D
 have hf:=fld1 (.int .i64 2) (.int .i64 v.n) (.string ⟨v.s.toArray⟩) (.slice O v.names.length M) (.slice T v.kids.length N)
 go_enter func124,ntmps124
 go_wp2_with (go_at_call 188;refine (I.out _ (Ze _ _)).mono ?_;rintro e w' ⟨rfl,hw⟩)
 go_ret
 exact ⟨rfl,(Ze _ _).thn hw⟩
def G7 (f:Ex->Option Val):List Ex->Option (List Val)
 | []=>some []
 | e::es=>match f e,G7 f es with
  | some v,some vs=>some (v::vs)
  | _,_=>none
theorem Ny (f:Ex->Option Val) (e:Ex) (v:Val) (hv:f e=some v):∀ (es:List Ex) (l:List Val),G7 f es=some l->G7 f (es++[e])=some (l++[v])
 | [],l,h=>by simp only [G7,Zv] at h;subst h;simp [G7,hv]
 | x::es,l,h=>by
  simp only [G7] at h
  cases hx:f x with
  | none=>rw [hx] at h;cases h
  | some u=>
   cases hs:G7 f es with
   | none=>rw [hx,hs] at h;cases h
   | some vs=>
    rw [hx,hs] at h
    simp only [Zv] at h
    subst h
    simp [G7,hx,Ny f e v hv es vs hs]
theorem Ns (f:Ex->Option Val) (e:Ex) (hv:f e=none):∀ (es:List Ex),e ∈ es->G7 f es=none
 | [],h=>by cases h
 | x::es,h=>by
  rcases Z3.1 h with rfl | h
  ·simp [G7,hv]
  simp only [G7,Ns f e hv es h];cases f x <;> rfl
mutual
def Vu:Ex->Bool
 | .mk k _ _ _ _ _ kids _ _=>!([4,10,15,16].any fun y=>decide (y=k))&&My kids
def My:List Ex->Bool
 | []=>true
 | e::l=>Vu e&&My l
end
theorem G6 (l:List Ex):My l=!(l.any fun e=>!Vu e):=by
 induction l with
 | nil=>rfl
 | cons e l ih=>simp only [My,ih,List.any_cons,Bool.not_or,Bool.not_not]
theorem Bv {T:Type} {l:List T} {k:Nat} {x:T} (h:l[k]?=some x):l.take (k+1)=l.take k++[x]:=by rw [List.take_add_one,h];rfl
def Mx (x:Bs) (ns:List Bs) (vs:List Val):Nat->Option Val
 | 0=>none
 | i+1=>if ns[i]?=some x then vs[i]? else Mx x ns vs i
def opV (f:Ex->Option Val) (nm:Bs):List Ex->Option Val
 | [a]=>if nm=[110,111,116] then (f a).bind fun u=>if u.kind=2 then some (Jy (decide (u.n=0))) else none else none
 | [a,b]=>if nm=[110,111,116] then none else (f a).bind fun u=>
  if nm=[97,110,100] then (if u.kind=2 then (if u.n=0 then some u else (f b).bind fun v=>if v.kind=2 then some v else none) else none)
  else if nm=[111,114] then (if u.kind=2 then (if u.n=1 then some u else (f b).bind fun v=>if v.kind=2 then some v else none) else none)
  else (f b).bind fun v=>two nm u v
 | _=>none
def Ev (f:Ex->List Bs->List Val->Option Val) (names binds:List Bs) (kids:List Ex) (ns:List Bs) (vs:List Val):Option Val:=
 (kids[0]?.bind fun x=>f x ns vs).bind fun v=>if v.kind=3 then (match V5 names v.s with
  | some i=>(kids[i+1]?).bind fun x=>if binds.getD i []=[] then f x ns vs else (match v.kids with
   | [u]=>f x (ns++[binds.getD i []]) (vs++[u])
   | _=>none)
  | none=>none) else none
theorem Wg {l:List Bs} {x:Bs} {j:Nat} (h:l[j]?=some x) (hb:∀ y ∈ l.take j,y≠x):V5 l x=some j:=by
 obtain ⟨hj,he⟩:=Qj h
 unfold V5
 rw [List.findIdx?_eq_some_iff_getElem]
 refine ⟨hj,by simpa using he,fun i hi=>?_⟩
 have h2:=hb l[i] (List.mem_take_iff_getElem.2 ⟨i,Qvu,rfl⟩)
 simpa using h2
theorem Ph {l:List Bs} {x:Bs} (hb:∀ y ∈ l,y≠x):V5 l x=none:=by
 unfold V5
 rw [List.findIdx?_eq_none_iff]
 intro y hy
 simpa using hb y hy
section
variable {f:Ex->List Bs->List Val->Option Val} {names binds ns:List Bs} {kids:List Ex} {vs:List Val} {x0 x1:Ex} {v u:Val} {j:Nat} {z:Bs}
theorem matV_no (h0:kids[0]?=some x0) (hv:f x0 ns vs=none):Ev f names binds kids ns vs=none:=by
 unfold Ev;rw [h0];show (f x0 ns vs).bind _=none;rw [hv];rfl
theorem Qjs (h0:kids[0]?=some x0) (hv:f x0 ns vs=some v) (hk:v.kind≠3):Ev f names binds kids ns vs=none:=by
 unfold Ev;rw [h0];show (f x0 ns vs).bind _=none;rw [hv];exact if_neg hk
theorem Qkj (h0:kids[0]?=some x0) (hv:f x0 ns vs=some v) (hn:V5 names v.s=none):Ev f names binds kids ns vs=none:=by
 unfold Ev;rw [h0];show (f x0 ns vs).bind _=none;rw [hv]
 show (if v.kind=3 then _ else none)=none
 rw [hn];split <;> rfl
theorem matV_at (h0:kids[0]?=some x0) (hv:f x0 ns vs=some v) (hk:v.kind=3) (hn:V5 names v.s=some j) (h1:kids[j+1]?=some x1) (hz:binds[j]?=some z):Ev f names binds kids ns vs=if z=[] then f x1 ns vs else (match v.kids with | [u]=>f x1 (ns++[z]) (vs++[u]) | _=>none):=by
 unfold Ev;rw [h0];show (f x0 ns vs).bind _=_;rw [hv]
 show (if v.kind=3 then _ else none)=_
 rw [if_pos hk,hn]
 show (kids[j+1]?).bind _=_
 rw [h1]
 have e:binds.getD j []=z:=by rw [Qs,hz];rfl
 rw [e];rfl
end
section
variable {f:Ex->Option Val} {nm:Bs} {kids:List Ex} {x0 x1:Ex} {v u:Val}
theorem Gt (hk:kids.length=2) (h0:kids[0]?=some x0) (h1:kids[1]?=some x1):kids=[x0,x1]:=by
 match kids,hk with
 | [a,b],_=>cases h0;cases h1;rfl
theorem Cb (h:f x0=none):opV f nm [x0,x1]=none:=by
 show (if nm=[110,111,116] then none else (f x0).bind _)=none
 rw [h]
 split <;> rfl
theorem Hm (n0:¬ nm=[97,110,100]) (n1:¬ nm=[111,114]) (n2:¬ nm=[110,111,116]) (h0:f x0=some v):opV f nm [x0,x1]=(f x1).bind fun u=>two nm v u:=by
 show (if nm=[110,111,116] then none else (f x0).bind _)=_
 rw [if_neg n2,h0]
 show (if nm=[97,110,100] then _ else _)=_
 rw [if_neg n0,if_neg n1]
theorem opV_not (hk:kids.length=1) (h0:kids[0]?=some x0) (hn:nm=[110,111,116]):opV f nm kids=(f x0).bind fun u=>if u.kind=2 then some (Jy (decide (u.n=0))) else none:=by
 match kids,hk with
 | [a],_=>cases h0;exact if_pos hn
theorem opV_and (hk:kids.length=2) (h0:kids[0]?=some x0) (h1:kids[1]?=some x1) (hn:nm=[97,110,100]):opV f nm kids=(f x0).bind fun u=>if u.kind=2 then (if u.n=0 then some u else (f x1).bind fun v=>if v.kind=2 then some v else none) else none:=by
 rw [Gt hk h0 h1]
 subst hn
 show (if ([97,110,100]:Bs)=[110,111,116] then none else (f x0).bind _)=_
 rw [if_neg Qxv]
 congr 1
theorem opV_or (hk:kids.length=2) (h0:kids[0]?=some x0) (h1:kids[1]?=some x1) (hn:nm=[111,114]):opV f nm kids=(f x0).bind fun u=>if u.kind=2 then (if u.n=1 then some u else (f x1).bind fun v=>if v.kind=2 then some v else none) else none:=by
 rw [Gt hk h0 h1]
 subst hn
 show (if ([111,114]:Bs)=[110,111,116] then none else (f x0).bind _)=_
 rw [if_neg Qxv]
 congr 1
end
end Go.Proofs.YtlanplhphiikjaaGreatDoor
