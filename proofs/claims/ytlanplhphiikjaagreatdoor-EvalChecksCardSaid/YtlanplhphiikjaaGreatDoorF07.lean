import Derived.Test.YtlanplhphiikjaaGreatDoorF06
set_option maxRecDepth 100000
set_option maxHeartbeats 400000000
namespace Go.Proofs.YtlanplhphiikjaaGreatDoor
open Go.RowKit Go.Shelf Go.Lib Tryz
def Yl:Rd UInt8 where
 k:=1
 R _ _ cs x:=cs=[.int .u8 x.toNat]
 len h:=by rw [h];rfl
 frame h _:=h
 mono h _:=h
theorem Es:∀ S w cs x,Yl.R S w cs x->∀ u ∈ cs,u.oneCell'=true:=by
 intro S w cs x h u D
 rw [show cs=[.int .u8 x.toNat] from h] at D
 simp only [Zy,Zx,or_false] at D
 subst D;rfl
def vb (n:Nat):Bs:=if h:n<128 then [UInt8.ofNat n] else UInt8.ofNat (n % 128+128)::vb (n / 128)
termination_by n
decreasing_by omega
theorem Mh {n:Nat} (h:n<128):vb n=[UInt8.ofNat n]:=by unfold vb;rw [dif_pos h]
theorem vb_ge {n:Nat} (h:¬ n<128):vb n=UInt8.ofNat (n % 128+128)::vb (n / 128):=by rw [vb,dif_neg h]
theorem vb_len:∀ (k n:Nat),n<128 ^ (k+1)->(vb n).length<=k+1
 | 0,n,h=>by rw [Mh (by simpa using h)];simp
 | k+1,n,h=>by
  by_cases hn:n<128
  ·rw [Mh hn];simp
  rw [vb_ge hn,List.length_cons]
  have:n / 128<128 ^ (k+1):=by
   rw [Nat.div_lt_iff_lt_mul Oa]
   rw [Nat.pow_succ] at h
   omega
  have:=vb_len k (n / 128) this
  omega
theorem Lf {n:Nat} (h:n<18446744073709551616):(vb n).length<=10:=vb_len 9 n Oa
structure WAt (g:Nat) (w:World) (v:Value) (bs:Bs):Prop where
 cell:w.heap[g]?=some (.cells #[v] 88 (0,0))
 own:∃ css,Own Yl 5 (fun _=>False) (g+1) w v bs css
structure Yg (g:Nat) (w:World) (v:Value) (w':World) (v':Value):Prop where
 below:Below g w w'
 size:w<=w'.heap.size
 keep:∀ b,b<w.heap.size->b≠g->some b≠v.ownBlock->w'.heap[b]?=w.heap[b]?
 at':v'.ownBlock=v.ownBlock\/∃ k,v'.ownBlock=some k/\w.heap.size<=k
theorem Yg.refl (g:Nat) (w:World) (v:Value):Yg g w v w v:=⟨Qz _ _,Q4 _,fun _ _ _ _=>rfl,.inl rfl⟩
theorem Yg.trans {g:Nat} {a b c:World} {u v x:Value} (h:Yg g a u b v) (k:Yg g b v c x):Yg g a u c x:=by
 refine ⟨h.below.trans k.below,Q7 h.size k.size,fun i hi hg hu=>?_,?_⟩
 ·rw [k.keep i (Q5 hi h.size) hg (fun e=>?_),h.keep i hi hg hu]
  rcases h.at' with e2 | ⟨q,e2,hq⟩
  ·exact hu (e.trans e2)
  rw [e2] at e;have:=Q6 e;omega
 rcases k.at' with e | ⟨q,e,hq⟩
 ·rcases h.at' with e2 | ⟨q2,e2,hq2⟩
  ·exact .inl (e.trans e2)
  exact .inr ⟨q2,e.trans e2,hq2⟩
 exact .inr ⟨q,e,Q7 h.size hq⟩
theorem WAt.below {g:Nat} {w w':World} {v:Value} {bs:Bs} (h:WAt g w v bs) (hb:Below w w w'):WAt g w' v bs:=by
 obtain ⟨css,ho⟩:=h.own
 exact ⟨kB hb h.cell,css,ho.below hb⟩
theorem Yg.of_below {g:Nat} {w w':World} {v:Value} (hb:Below w w w') (hg:g<=w):Yg g w v w' v:=⟨hb.mono hg,hb.size,fun b D _ _=>hb.block b D,.inl rfl⟩
theorem or128 (m:Nat):bits BinOp.or IntKind.u8 ((m:Int) % 256) 128=((UInt8.ofNat (m % 128+128)).toNat:Int):=by
 have h:∀ r,r<256->bits BinOp.or IntKind.u8 ((r:Nat):Int) 128=((r % 128+128:Nat):Int):=Of
 have e:(m:Int) % 256=((m % 256:Nat):Int):=Oa
 rw [e,h (m % 256) (Nat.mod_lt _ Oa)]
 rw [show (UInt8.ofNat (m % 128+128)).toNat=m % 128+128 from by rw [UInt8.toNat_ofNat'];omega]
 omega
theorem low128 (m:Nat) (h:m<128):(m:Int)=((UInt8.ofNat m).toNat:Int):=by
 rw [show (UInt8.ofNat m).toNat=m from by rw [UInt8.toNat_ofNat'];omega]
def Kf (g:Nat) (w:World) (v:Value) (bs:Bs) (e:Ending) (w':World):Prop:=e=.returned (.tuple #[])/\∃ v',WAt g w' v' bs/\Yg g w v w' v'
theorem Hb (g:Nat) (w:World) (v:Value) (bs:Bs) (n:Nat) (h:WAt g w v bs) (hn:n<18446744073709551616) (hl:bs.length<=100000):
  Calls prog 85 #[Om g,.int .u64 n] w (Kf g w v (bs++vb n)):=by
 have H:=Qq h
 obtain ⟨i5,j1,j2,j3,j4⟩:=Y3 (P:=prog) (t:=5) (z:=.int .u8 0) (n:=1) (b:=1) Og
 obtain ⟨HJ,aA,aB,aC⟩:=Py j1 j2 j3 j4
 clear h j1 j2 j3 j4
 go_enter func85,ntmps85
 go_wp2_with fail
 go_loopw [1] (fun s wr=>∃ (m:Nat) (cs:Bs) (u:Value),s=.int .u64 m/\m<=n/\Aside (cs++vb m=bs++vb n)/\WAt g wr u cs/\Yg g w v wr u) (fun s _=>(intOf s).toNat)
 case atStart=>exact ⟨n,bs,v,rfl,Q4 _,rfl,H.out,Yg.refl _ _ _⟩
 obtain ⟨m,cs,u,rfl,aP,hE,Z,hS⟩:=hrel
 have c0:=Qk _ _ 0 _ _ _ Z.cell;have f0:=fA 0 Z.cell
 simp only [Qa,Qb] at c0
 obtain ⟨css,hO⟩:=Z.own
 obtain ⟨up,O,rfl⟩:∃ p cap,u=.slice p cs.length cap:=by
  rcases hO.row.2 with ⟨rfl,h0⟩ | ⟨q,cap,aN,rfl,_⟩
  ·exact ⟨none,0,by rw [h0]⟩
  exact ⟨_,_,rfl⟩
 have N:=Z3 Z.cell
 have aO:cs.length<=100010:=by
  have h1:=congrArg List.length hE.out
  rw [Qe,Qe] at h1
  have:=Lf hn
  omega
 obtain ⟨HA,HS,HO,HE⟩:=Py Z.cell hS hO hE.out
 clear Z hS hO hE
 by_cases hlt:m<128
 ·have aL:(m:Int)<128:=Oa
  have hb:=low128 m hlt
  obtain ⟨c,V⟩:=eX (UInt8.ofNat m)
  rw [V] at hb
  have HC:=Qq V;have aF:=Qq hb
  clear V hb
  go_wp2_with (at_builtin;refine Yc (r:=Yl) Of rfl (.tmp 24) (.tmp 27) _ rfl 5 i5 (.int .u8 0) 1 underlying23 HJ.out aA.out aB.out aC.out rfl Oa (fun _=>False) (g+1) wr (.slice up cs.length O) cs css [.int .u8 m] c rfl HO.out rfl (by show _=_;rw [aF.out]) (by simp [Value.oneCell']) cs.length rfl Oa Oa ?_;intro p5 M css5 w5 L I;have J:=Qq L;have D:=Qq I;have G:=(I.other g N (fun e=>by have:=(HO.out.row.lt g e.symm).1;omega)).trans HA.out;have aI:=fA 0 G;have aH:=rA0 G;have T:=Qq G;clear L I G)
  go_end0
  have aM:bs++vb n=cs++[c]:=by rw [<- HE.out,Mh hlt,HC.out]
  rw [aM]
  refine ⟨rfl,_,⟨by rw [Qd _ _ _ _ _ _ T.out];rfl,css5,J.out.move (Q4 _) (fun b _ h=>Z4 ?_)⟩,HS.out.trans ⟨(D.out.below.mono (Nat.le_succ g)).setCell (p:=⟨g,0,none⟩) (Q4 _) _,by simp [World.setCell];exact D.out.size,fun b hb U Y=>?_,D.out.at'⟩⟩
  ·rcases h with h | h
   ·exact h.elim
   have:=(J.out.row.lt b h).1
   show b≠g
   omega
  rw [Z4 U,D.out.other b hb Y]
 have aL:(128:Int)<=(m:Int):=Oa
 have hb:=or128 m
 obtain ⟨c,V⟩:=eX (UInt8.ofNat (m % 128+128))
 rw [V] at hb
 have HC:=Qq V
 clear V
 go_wp2_with (at_builtin;refine Yc (r:=Yl) Of rfl (.tmp 12) (.tmp 16) _ rfl 5 i5 (.int .u8 0) 1 underlying23 HJ.out aA.out aB.out aC.out rfl Oa (fun _=>False) (g+1) wr (.slice up cs.length O) cs css [.int .u8 c.toNat] c rfl HO.out rfl rfl (by simp [Value.oneCell']) cs.length rfl Oa Oa ?_;intro p5 M css5 w5 L I;have J:=Qq L;have D:=Qq I;have G:=(I.other g N (fun e=>by have:=(HO.out.row.lt g e.symm).1;omega)).trans HA.out;have aI:=fA 0 G;have aH:=rA0 G;have T:=Qq G;clear L I G)
 go_roundw
 case measure=>simp only [intOf];omega
 case rel=>
  refine ⟨m / 128,cs++[c],.slice p5 (cs.length+1) M,by go_num,Oa,(show Aside _ from ?_),⟨by rw [Qd _ _ _ _ _ _ T.out];rfl,css5,J.out.move (Q4 _) (fun b _ h=>Z4 ?_)⟩,HS.out.trans ⟨(D.out.below.mono (Nat.le_succ g)).setCell (p:=⟨g,0,none⟩) (Q4 _) _,by simp [World.setCell];exact D.out.size,fun b hb U Y=>?_,D.out.at'⟩⟩
  ·have h1:=HE.out
   rw [vb_ge hlt,HC.out] at h1
   have h2:cs++[c]++vb (m / 128)=bs++vb n:=by rw [<- h1];simp
   exact h2
  ·rcases h with h | h
   ·exact h.elim
   have:=(J.out.row.lt b h).1
   show b≠g
   omega
  rw [Z4 U,D.out.other b hb Y]
open Go.RowKit Go.Shelf Go.Lib Go.WideMaps Go.Maps
section
variable {P:Program} {T:Type}
theorem L4 {r:Rd T} (hk:0<r.k) {ops:Array Oper} {rest:List Oper} {o:Oper} {a:Act} {Q:Exit->Act->World->Prop} (hgd:o.guard=none) (s x:Operand) (t:TypeId)
  (ho:o.op=.call { callee:=.builtin .append,args:=#[s,x],argTypes:=#[t,t] }) (E:TypeId) (i:TypeInfo) (z:Value) (bytes:Nat) (ht:P.underlying t=some (.slice E)) (hi:P.info? E=some i) (hz:i.zero=some z)
  (hsize:i.size=r.k) (hby:i.bytes=bytes) (hzs:z.cells.size=r.k) (hb1:bytes<=1000) (S:Nat->Prop) (B:Nat) (w:World) (v:Value) (xs:List T) (css:List (List Value)) (ys:List T) (q:Option Addr) (m c:Nat) (hs:a.eval s=v)
  (hO:Own r E S B w v xs css) (hx:a.eval x=.slice q m c) (hY:Sl r (But S v) w (.slice q m c) ys) (hm:m=ys.length) (hne:ys≠[]) (h1:∀ S w cs x,r.R S w cs x->∀ u ∈ cs,u.oneCell'=true) (hl:xs.length+ys.length<=1000000) (hB:B<=w)
  (h:∀ p cap css' N,Own r E S B N (.slice p (xs.length+m) cap) (xs++ys) css'->w.grownBy N v.ownBlock->((Value.slice p (xs.length+m) cap).ownBlock=v.ownBlock\/(Value.slice p (xs.length+m) cap).ownBlock=some w.heap.size)->wpList P ops Q rest (a.put o.dst (.slice p (xs.length+m) cap)) N):
  wpList P ops Q (o::rest) a w:=by
 subst hm
 obtain ⟨q',c',dss,hv,O,hc⟩:=hY.css hk
 simp only [Ql] at hv
 obtain ⟨rfl,-,rfl⟩:=hv
 obtain ⟨b,J,rfl,_,aB,I⟩:=hc hne
 refine wpList_append_own_at (P:=P) (w:=w) hgd s x t ho B E i z r.k bytes ht hi hz hsize hby hzs hk v xs.length css.flatten hs hO.row ⟨b,J,none⟩ ys.length c dss.flatten hx O.flat (fun j u Z=>?_) (fun u Z=>?_) (by unfold maxLen;omega) (by
   have:=Nat.mul_le_mul (show xs.length+ys.length<=1000000 by omega) hb1
   omega) hB (fun v1 N G D _ L=>?_)
 ·rw [show (⟨b,J,none⟩:Addr).add j=⟨b,J+j,none⟩ by unfold Addr.add;split <;> simp_all]
  exact I j u Z
 ·obtain ⟨cc,V,aA⟩:=List.mem_flatten.1 Z
  obtain ⟨i',M⟩:=Qt V
  have Y:=(Qj M).1
  exact h1 _ w cc _ (O.R i' cc _ M (Qx (by rw [<- O.len];exact Y))) u aA
 have U:=hO.append O (ys:=ys) (dss:=dss) (v':=v1) (w2:=N) G D L
 have aC:0<ys.length:=List.length_pos_iff.2 hne
 rcases G.2 with ⟨_,hn⟩ | ⟨g,cap,aD,rfl,_⟩
 ·omega
 exact h _ _ _ _ U D L
end
theorem N0 {E:TypeId} {S:Nat->Prop} {B:Nat} {w:World} {v:Value} {bs:Bs} {css:List (List Value)} (h:Own Yl E S B w v bs css):(v=.slice none 0 0/\bs=[])\/∃ g cap,v=.slice (some ⟨g,0,none⟩) bs.length cap/\∀ j (hj:j<bs.length),w.cell? ((⟨g,0,none⟩:Addr).add j)=some (.int .u8 (bs[j].toNat:Int)):=by
 rcases h.row.2 with ⟨D,h0⟩ | ⟨g,cap,G,D,_⟩
 ·exact .inl ⟨D,Zq h0⟩
 refine .inr ⟨g,cap,D,fun j hj=>?_⟩
 refine h.row.cells (g:=g) (by rw [D];rfl) j _ ?_
 have hc:css[j]?=some [.int .u8 (bs[j].toNat:Int)]:=by
  have h1:=Qx (l:=css) (i:=j) (by rw [h.cs.len];exact hj)
  have:=h.cs.R j _ _ h1 (Qx hj)
  rw [h1];exact congrArg some this
 have:=X8 (k:=1) h.cs.all hc (j:=0) (u:=.int .u8 (bs[j].toNat:Int)) rfl
 simpa using this
theorem conv_own {E:TypeId} {S:Nat->Prop} {B:Nat} {w:World} {v:Value} {bs:Bs} {css:List (List Value)} (h:Own Yl E S B w v bs css):(convert 23 9 v).run Tryz.prog w=.ok (.string ⟨bs.toArray⟩) w:=by
 rcases N0 h with ⟨rfl,rfl⟩ | ⟨g,cap,rfl,hc⟩
 ·exact Lib.run_convert_nil_bytes w 23 9 5 0 Tryz.underlying23 Tryz.underlying5 Tryz.underlying9
 exact run_convert_bytes_back w 23 9 5 ⟨g,0,none⟩ cap bs Tryz.underlying23 Tryz.underlying5 Tryz.underlying9 hc
structure Ft where
 code:Int
 table:Bs
 row:Val
 other:Val
def Ft.zero:Ft:=⟨0,[],Val.zero,Val.zero⟩
def Dl (S:Nat->Prop) (w:World) (cs:List Value) (f:Ft):Prop:=∃ c1 c2,cs=.int .i64 f.code::sv f.table::(c1++c2)/\f.table.length<=1000000/\Z5 S w c1 f.row/\Z5 S w c2 f.other
theorem Dl.move {S S':Nat->Prop} {w w':World} {cs:List Value} {f:Ft} (h:Dl S w cs f) (hA:Ys S w w') (hS:∀ b,b<w.heap.size->S b->S' b):Dl S' w' cs f:=by
 obtain ⟨c1,c2,rfl,h1,h2,h3⟩:=h
 exact ⟨c1,c2,rfl,h1,h2.move hA hS,h3.move hA hS⟩
def Gq (S:Nat->Prop) (w:World) (f:Ft) (e:Ending) (w':World):Prop:=∃ cs',e=.returned (.agg cs'.toArray)/\Dl S w' cs' f/\Below w w w'
def fcs (c:Int) (t:ByteArray) (r:Val) (o:Val) (p3:Option Addr) (k3:Nat) (p4:Option Addr) (k4:Nat) (q3:Option Addr) (l3:Nat) (q4:Option Addr) (l4:Nat):List Value:=
 (Pz c (.string t) r p3 k3 p4 k4 o q3 l3 q4 l4)
theorem Va {S:Nat->Prop} {w:World} {cs:List Value} {f:Ft} (h:Dl S w cs f):∃ p3 k3 p4 k4 q3 l3 q4 l4,cs=fcs f.code ⟨f.table.toArray⟩ f.row f.other p3 k3 p4 k4 q3 l3 q4 l4/\f.table.length<=1000000/\Z5 S w (vcs f.row p3 k3 p4 k4) f.row/\Z5 S w (vcs f.other q3 l3 q4 l4) f.other:=by
 obtain ⟨c1,c2,rfl,h1,h2,h3⟩:=h
 obtain ⟨p3,k3,p4,k4,rfl,_⟩:=Z5.cells h2
 obtain ⟨q3,l3,q4,l4,rfl,_⟩:=Z5.cells h3
 exact ⟨p3,k3,p4,k4,q3,l3,q4,l4,rfl,h1,h2,h3⟩
theorem U1 (S:Nat->Prop) (w:World):Dl S w [On,Oo,On,On,Oo,Ot,Ot,On,On,Oo,Ot,Ot] Ft.zero:=
 ⟨_,_,rfl,by simp [Ft.zero],Yk S w,Yk S w⟩
end Go.Proofs.YtlanplhphiikjaaGreatDoor
