import Derived.Test.YtlanplhphiikjaaGreatDoorE11
set_option maxRecDepth 100000
set_option maxHeartbeats 400000000
namespace Go.Proofs.YtlanplhphiikjaaGreatDoor
open Go.RowKit Go.Shelf Go.Lib Tryz
theorem Ls (a:List Bs) (k:Bs) (row:Val):keyOf (a++[k]) row=(match keyOf a row,Xj row k with | some l,some v=>some (l++[v]) | _,_=>none):=by
 induction a with
 | nil=>
  show (match Xj row k,some [] with | some v,some l=>some (v::l) | _,_=>none)=_
  cases Xj row k <;> rfl
 | cons x a ih=>
  show (match Xj row x,keyOf (a++[k]) row with | some v,some l=>some (v::l) | _,_=>none)=(match (match Xj row x,keyOf a row with | some v,some l=>some (v::l) | _,_=>none),Xj row k with | some l,some v=>some (l++[v]) | _,_=>none)
  rw [ih]
  cases Xj row x <;> cases keyOf a row <;> cases Xj row k <;> rfl
theorem Lh {ks:List Bs} {k:Bs} {row:Val} (hk:k ∈ ks) (h:Xj row k=none):keyOf ks row=none:=by
 induction ks with
 | nil=>simp at hk
 | cons x ks ih=>
  show (match Xj row x,keyOf ks row with | some v,some l=>some (v::l) | _,_=>none)=none
  rcases Z3.1 hk with rfl | hk
  ·rw [h]
  rw [ih hk];cases Xj row x <;> rfl
def KeyIs (w:World) (o:Option (List Val)) (e:Ending) (w':World):Prop:=∃ p n cap,e=.returned (.slice p n cap)/\n=(o.getD []).length/\Sl Zc (fun b=>w<=b) w' (.slice p n cap) (o.getD [])/\Below w w w'
theorem Ch (S S':Nat->Prop) (t:Tbl) (row:Val) (ct cr:List Value) (w:World) (ht:Zl.R S w ct t) (hr:Za S' w cr row) (hkl:t.key.length<=1000):
  Calls prog 119 #[ct,cr] w (KeyIs w (keyOf t.key row)):=by
 have HG:=Qq (fun x W (hb:Below w w W)=>Ce S' row cr x W (hr.move (.of_below hb) Qyv))
 obtain ⟨bT,bS,bZ,bY,cB,cA,k0,s1,n0,s2,p1,n1,c1,p2,n2,c2,p3,n3,c3,a0,z0,rfl,_,_,aA,_,_⟩:=Yj ht
 obtain ⟨r3,l3,r4,l4,aQ,_⟩:=Za.cells hr
 simp only [vcs] at aQ
 subst aQ
 unfold tcs
 have HK:=Qq aA
 obtain ⟨i0,j1,j2,j3,j4⟩:=Y4 (P:=prog) (t:=48) (z:=.agg zV) (n:=5) (b:=80) Qxx
 obtain ⟨HJ,bF,bG,bH⟩:=Qxo j1 j2 j3 j4
 clear ht hr aA j1 j2 j3 j4
 obtain ⟨n,hn⟩:=eX (t.key.length)
 rw [hn] at HK hkl |-
 have HN:=Qq hn
 clear hn
 obtain ⟨r,hr⟩:=eX (keyOf t.key row)
 rw [hr]
 have HR:=Qq hr
 clear hr
 unfold sv at HG
 go_enter func119,ntmps119
 go_wp2_with fail
 generalize aB:(w.alloc (.cells #[t.name,.slice bT t.columns.length bS,.slice bZ n bY,.slice cB t.refs.length cA,k0,.string s1,n0,.string s2,.slice p1 n1 c1,.slice p2 n2 c2,.slice p3 n3 c3,a0,z0] 61)).alloc (.cells (Qxf row r3 l3 r4 l4) 48)=W1
 have aO:=eqB aB (Zu _ _ _)
 have aM:=eqH (b:=w.heap.size+1) aB (Q6 _ _ _)
 have bB:=Qq aO;have aF:=Qq aM
 clear aB aO aM
 go_loopw [5,13] (fun o i wr=>∃ (k:Nat) (l:List Val) (p:Option Addr) (cap:Nat),k<=n/\i=.int .i64 k/\o=.slice p k cap/\l.length=k/\Aside (keyOf (t.key.take k) row=some l)/\Below (w+2) W1 wr /\
  (∃ css,Own Zc 48 (fun b=>w+2<=b) (w+2) wr (.slice p k cap) l css)) (fun _ i _=>n - (intOf i).toNat)
 case atStart=>exact ⟨0,[],none,0,Q8 _,rfl,rfl,rfl,rfl,Qz _ _,[],Own.nil _ _ _ _ _⟩
 obtain ⟨k,l,p,cap,cI,rfl,rfl,aS,hE,N,css,hO⟩:=hrel
 have cK:=Z8 aF.out
 have A:=kE N Qvu aF.out
 have c0:=rA0 A;have bP:=rA1 A;have bQ:=rA2 A;have bR:=rA3 A;have c4:=rA4 A
 have aP:Below w w wr:=bB.out.trans (N.mono Qvu)
 have cJ:=N.size
 obtain ⟨bC,J,HO,HE,V⟩:=Qxp N aP hO hE.out aS
 clear A N aP hO hE aS
 by_cases hlt:k<n
 ·have cG:(0:Int)<=(k:Int):=Qvu
  have cH:(k:Int)<(n:Int):=Qvu
  have Y:k<t.key.length:=by rw [HN.out];exact hlt
  obtain ⟨x,hx⟩:∃ x,t.key[k]?=some x:=⟨_,Qx Y⟩
  have aU:t.key.take (k+1)=t.key.take k++[x]:=by rw [Zz Y];rw [Qx Y] at hx;cases hx;rfl
  obtain ⟨kb,cF,rfl,bV,-⟩:=(HK.out.below J.out).str hx
  have HX:=Qq hx;have bM:=Qq aU
  clear hx aU Y
  cases hg:Xj row x with
  | none=>
   have bX:r=none:=by rw [<- HR.out];exact Lh (Qy HX.out) hg
   subst bX
   have M:=Qq (HG.out x wr J.out)
   rw [hg] at M
   clear hg
   go_wp2_with (go_at_call 53;refine M.out.mono ?_;rintro e w5 ⟨bU,rfl,D,O⟩;obtain ⟨q3,m3,q4,m4,U,_⟩:=Za.cells D;simp only [vcs,Option.getD_none,Val.zero,Val.kind,Val.n,Val.s,Val.names,Val.kids,List.length_nil] at U;subst U;have I:=Qq O;clear D O)
   go_ret
   exact ⟨none,0,0,rfl,rfl,Sl.nil _ _ _,(J.out.thn I.out).thn (Ze _ _)⟩
  | some u=>
   have M:=Qq (HG.out x wr J.out)
   rw [hg] at M
   have bE:=Qq hg
   clear hg
   go_upto_region 6 with (go_at_call 53;refine M.out.mono ?_;rintro e w5 ⟨bU,rfl,D,O⟩;obtain ⟨q3,m3,q4,m4,U,_⟩:=Za.cells D;simp only [vcs,Option.getD_some] at U;subst U;have I:=Qq O;have bN:=Qq D;clear D O)
   generalize aC:w5.alloc (.cells (Qxf u q3 m3 q4 m4) 48)=W6
   have T:=eqB aC (Ze _ _)
   have aN:=eqH (b:=w5.heap.size) aC (Qw _ _)
   obtain ⟨d0,d1,d2,d3,d4⟩:=row5 aN
   have aJ:Own Zc 48 (fun b=>w+2<=b) (w+2) W6 (.slice p k cap) l css:=(HO.out.below I.out).below T
   have aL:Zc.R (But (fun b=>w+2<=b) (.slice p k cap)) W6 (Qxf u q3 m3 q4 m4) u:=by
    refine Za.move bN.out (.of_below T) (fun b _ hb=>?_)
    have h1:wr.heap.size<=b:=hb
    refine ⟨Qvu,fun e=>?_⟩
    have:=(HO.out.row.lt b e.symm).2
    omega
   have Z:Below (w+2) W1 W6:=bC.out.trans ((I.out.thn T).mono Qvu)
   have cE:=T.size;have cD:=I.out.size
   obtain ⟨bK,bO,aD⟩:=Qxn aJ aL Z
   clear aC T aN aJ aL Z c0 bP bQ bR c4 bV
   go_wp2_with (at_builtin;refine Yf (r:=Zc) Qxv rfl (.tmp 25) (.tmp 27) _ rfl 48 i0 (.agg zV) 80 underlying40 HJ.out bF.out bG.out bH.out rfl Qvu (fun b=>w+2<=b) (w+2) W6 (.slice p k cap) l css (Qxf u q3 m3 q4 m4) u rfl bK.out rfl bO.out (by simp [Value.oneCell']) k V.out Qvu Qvu ?_;intro p7 aG aH w7 aK aI;have bL:=Qq aK;have bI:=Qq aI;clear aK aI)
   go_roundw
   case measure=>simp [intOf];omega
   case rel=>
    refine ⟨k+1,l++[u],p7,aG,Qvu,by go_num,rfl,by have:=V.out;simp [this],(show Aside _ from ?_),aD.out.trans bI.out.below,aH,bL.out⟩
    have:keyOf (t.key.take (k+1)) row=some (l++[u]):=by rw [bM.out,Ls,HE.out,bE.out]
    exact this
 have aR:k=n:=Qvu
 subst aR
 have aT:r=some l:=by
  rw [<- HR.out,<- HE.out,Zj (by rw [HN.out];exact Q9 _)]
 have aE:=Qq aT
 clear aT
 go_wp2_with fail
 go_ret
 refine ⟨p,k,cap,rfl,by rw [aE.out];exact V.out.symm,?_,J.out⟩
 rw [aE.out]
 exact HO.out.sl (Qxj V.out) (fun b hb=>Qvu) (fun b _ hb=>Qvu)
theorem U3.at {B:Nat} {w:World} {g n cap:Nat} {l:List Rel} {rvs:List Value} (h:U3 B w (.slice (some ⟨g,0,none⟩) n cap) l rvs) {i:Nat} {r:Rel} {rv:Value} (hi:l[i]?=some r) (hrv:rvs[i]?=some rv):
  ∃ cur,w.heap[g]?=some (.cells cur 42 (0,0))/\cur[i*2]?=some (sv r.table)/\cur[i*2+1]?=some rv:=by
 rcases h.row.2 with ⟨e,_⟩ | ⟨g',I,cur,e,hB,hh,_,_,_,ht⟩
 ·cases e
 simp only [Qr,Zv,Addr.mk.injEq] at e
 obtain ⟨⟨rfl,_⟩,_,rfl⟩:=e
 have hc:=Dk hi hrv
 have h0:=V9 (k:=2) Kk hc (j:=0) (u:=sv r.table) rfl
 have h1:=V9 (k:=2) Kk hc (j:=1) (u:=rv) rfl
 have A:∀ (j:Nat) (u:Value),(Yb l rvs).flatten[j]?=some u->cur[j]?=some u:=by
  intro j u D
  rw [<- ht,List.getElem?_take] at D
  split at D
  ·simpa using D
  cases D
 exact ⟨cur,hh,A _ _ h0,A _ _ h1⟩
theorem U3.put' {B:Nat} {w w1:World} {g n cap:Nat} {l:List Rel} {rvs:List Value} {i:Nat} {r:Rel} {rv rv':Value} {zs:List Val} (hn:l.length=n) (h:U3 B w (.slice (some ⟨g,0,none⟩) n cap) l rvs) (hi:l[i]?=some r) (hrv:rvs[i]?=some rv)
  (ho:∃ css,Own Zc 48 (Sw (.slice (some ⟨g,0,none⟩) n cap) rvs) B w1 rv' zs css) (hg:w.grownBy w1 rv.ownBlock) (hat:rv'.ownBlock=rv.ownBlock\/∀ g',rv'.ownBlock=some g'->w.heap.size<=g'):
  U3 B (w1.setCell ⟨g,i*2+1,none⟩ rv') (.slice (some ⟨g,0,none⟩) n cap) (l.set i ⟨r.table,zs⟩) (rvs.set i rv'):=by
 subst hn
 exact h.put hi hrv ho hg hat
theorem Own.sl' {T:Type} {r:Rd T} {E:TypeId} {S S':Nat->Prop} {B:Nat} {w:World} {v:Value} {xs:List T} {css:List (List Value)} (h:Own r E S B w v xs css) (hl:xs.length<=1000000)
  (h1:∀ b,v.ownBlock=some b->S' b) (h2:∀ b,b<w.heap.size->S b->S' b):Sl r S' w v xs:=by
 rcases h.row.2 with ⟨rfl,h0⟩ | ⟨g,cap,A,rfl,hB,hg,_,_,_,ht⟩
 ·rw [Zy h0];exact Sl.nil _ _ _
 refine Sl.of_css (css:=css) hl (h.cs.move (.refl _ _) (fun b hb h=>h2 b hb h.1)) (h1 g rfl) (Array.getElem?_eq_some_iff.1 hg).1 (fun j u hu=>?_)
 rw [Nat.zero_add];exact Hd hg ht hu
theorem U3.own {B:Nat} {w:World} {v:Value} {l:List Rel} {rvs:List Value} (h:U3 B w v l rvs) (hr:∀ r ∈ l,r.rows.length<=1000000):Own Yx 42 (fun _=>True) B w v l (Yb l rvs):=by
 refine ⟨h.row,⟨Jz h.len,fun i c x hc D=>?_⟩⟩
 have hi:=(Qj D).1
 obtain ⟨rv,A⟩:∃ rv,rvs[i]?=some rv:=⟨_,Qx (by rw [h.len];exact hi)⟩
 rw [Dk D A] at hc
 cases hc
 obtain ⟨css,ho⟩:=h.rows i x rv D A
 refine ⟨rv,rfl,h.tl x (Qy D),ho.sl' (hr x (Qy D)) (fun b hb=>⟨trivial,fun e=>?_⟩) (fun b _ hb=>⟨trivial,fun e=>hb.1 e.symm⟩)⟩
 exact Yp h.row ho.row Qxv e.symm hb
theorem N8:∀ (css:List (List Value)) (i:Nat) (a b b':Value),(∀ c ∈ css,c.length=2)->css[i]?=some [a,b]->css.flatten.set (i*2+1) b'=(css.set i [a,b']).flatten:=by
 intro css
 induction css with
 | nil=>intro i a b b' _ h;simp at h
 | cons c css ih=>
  intro i a b b' hc h
  cases i with
  | zero=>simp at h;subst h;simp
  | succ i=>
   have h2:=hc c Qxz
   have:=ih i a b b' (fun d hd=>hc d (by simp [hd])) (by simpa using h)
   simp only [List.flatten_cons,List.set_cons_succ]
   rw [<- this,show (i+1)*2+1=c.length+(i*2+1) by rw [h2];omega,List.set_append_right _ _ (Nat.le_add_right _ _),Nat.add_sub_cancel_left]
theorem M8 {B:Nat} {w w1:World} {v v1:Value} (hg:w.grownBy w1 v.ownBlock) (hv:∀ g,v.ownBlock=some g->B<=g) (hB:B<=w) (hat:v1.ownBlock=v.ownBlock\/v1.ownBlock=some w.heap.size):Fg B w w1 v v1:=by
 have hb:Below B w w1:=(Qz B w).grown hg hB hv
 refine ⟨hb,hb.size,fun b A D=>hg.block b A (fun e=>D e),?_⟩
 rcases hat with h | h
 ·exact .inl h
 exact .inr ⟨_,h,Q9 _⟩
section
variable {P:Program} {T:Type}
theorem Fi (w:World) (base:Nat) (t ty e:TypeId) (i:TypeInfo) (size:Nat) (ht:P.underlying t=some (.slice e)) (hi:P.info? e=some i)
  (v:Value) (n:Nat) (xs:List Value) (hown:w.ownsRow base e size v n xs) (c:Nat):
  (Builtin.append_ #[t,t] ty #[v,.slice none 0 c]).run P w=.ok v w:=by
 rcases hown.2 with ⟨rfl,rfl⟩ | ⟨g,cap,D,rfl,_,_,A,_⟩
 ·simp [Builtin.append_,run_underlying ht,sizeOf,typeInfo,hi,Builtin.lenOf,Builtin.firstCells]
 simp [Builtin.append_,run_underlying ht,sizeOf,typeInfo,hi,Builtin.lenOf,Builtin.firstCells,A,storeCells]
theorem Da {w:World} {ops:Array Oper} {rest:List Oper} {o:Oper} {a:Act} {Q:Exit->Act->World->Prop} (hgd:o.guard=none) (s x:Operand) (t:TypeId)
  (ho:o.op=.call { callee:=.builtin .append,args:=#[s,x],argTypes:=#[t,t] })
  (base:Nat) (e:TypeId) (i:TypeInfo) (size:Nat) (ht:P.underlying t=some (.slice e)) (hi:P.info? e=some i)
  (v:Value) (n:Nat) (xs:List Value) (hs:a.eval s=v) (hown:w.ownsRow base e size v n xs) (c:Nat) (hx:a.eval x=.slice none 0 c)
  (h:wpList P ops Q rest (a.put o.dst v) w):wpList P ops Q (o::rest) a w:=by
 refine wpList_plain hgd fun K hK=>?_
 have A:=Fi (P:=P) w base t o.type e i size ht hi v n xs hown c
 unfold Oper.wp
 simp [execOp,ho,resolve,invoke,builtin,hs,hx,A,Result.andThen]
 exact hK _ _ h
theorem Yn {r:Rd T} (hk:0<r.k) (h1:∀ S w cs x,r.R S w cs x->∀ u ∈ cs,u.oneCell'=true) {ops:Array Oper} {rest:List Oper} {o:Oper} {a:Act} {Q:Exit->Act->World->Prop} (hgd:o.guard=none) (s x:Operand) (t:TypeId)
  (ho:o.op=.call { callee:=.builtin .append,args:=#[s,x],argTypes:=#[t,t] }) (E:TypeId) (i:TypeInfo) (z:Value) (bytes:Nat) (ht:P.underlying t=some (.slice E)) (V:P.info? E=some i) (hz:i.zero=some z)
  (hsize:i.size=r.k) (hby:i.bytes=bytes) (hzs:z.cells.size=r.k) (hb1:bytes<=1000) (S:Nat->Prop) (B:Nat) (w:World) (v:Value) (xs:List T) (css:List (List Value)) (hs:a.eval s=v)
  (hO:Own r E S B w v xs css) (v2:Value) (ys:List T) (hx:a.eval x=v2) (hys:Sl r (But S v) w v2 ys) (n:Nat) (hn:xs.length+ys.length=n) (hl:n<=1000000) (hB:B<=w)
  (h:∀ p cap css' I,Own r E S B I (.slice p n cap) (xs++ys) css'->Fg B w I v (.slice p n cap)->wpList P ops Q rest (a.put o.dst (.slice p n cap)) I):
  wpList P ops Q (o::rest) a w:=by
 subst hn
 have hv:∀ g,v.ownBlock=some g->B<=g:=fun g hg=>(hO.row.lt g hg).1
 have N:∀ M I dss,Cs r (But S v) w dss ys->I.ownsRow B E r.k M (xs.length+ys.length) (css.flatten++dss.flatten)->w.grownBy I v.ownBlock->(M.ownBlock=v.ownBlock\/M.ownBlock=some w.heap.size)->wpList P ops Q rest (a.put o.dst M) I:=by
  intro M I dss U D A J
  have Y:=hO.append U (v':=M) (w2:=I) D A J
  obtain ⟨p,cap,hf⟩:=Y.form
  rw [Ql] at hf
  subst hf
  exact h p cap _ I Y (M8 A hv hB J)
 by_cases hne:ys=[]
 ·subst hne
  obtain ⟨p,cap,rfl,_⟩:=hys.len
  rcases p with _ | ad
  ·refine Da hgd s x t ho B E i r.k ht V v xs.length css.flatten hs hO.row cap hx ?_
   refine N v w [] (Cs.nil _ _ _) (by simpa using hO.row) ⟨rfl,rfl,rfl,Q9 _,fun _ _ _=>rfl⟩ (.inl rfl)
  refine wpList_append_own_at (P:=P) (w:=w) hgd s x t ho B E i z r.k bytes ht V hz hsize hby hzs hk v xs.length css.flatten hs hO.row ad 0 cap [] hx Qxz (fun j u O=>by simp at O) (fun u O=>by simp at O) (by unfold maxLen;simp at hl;omega) (by
    have:=Nat.mul_le_mul (show xs.length+0<=1000000 by simpa using hl) hb1
    omega) hB (fun M I D A _ J=>?_)
  exact N M I [] (Cs.nil _ _ _) (by simpa using D) A J
 obtain ⟨p,cap,dss,rfl,U,hb⟩:=hys.css hk
 obtain ⟨b,off,rfl,hS,aC,hc⟩:=hb hne
 refine wpList_append_own_at (P:=P) (w:=w) hgd s x t ho B E i z r.k bytes ht V hz hsize hby hzs hk v xs.length css.flatten hs hO.row ⟨b,off,none⟩ ys.length cap dss.flatten hx U.flat (fun j u O=>?_) (fun u O=>?_) (by unfold maxLen;omega) (by
   have:=Nat.mul_le_mul hl hb1
   omega) hB (fun M I D A _ J=>?_)
 ·rw [show (⟨b,off,none⟩:Addr).add j=⟨b,off+j,none⟩ by unfold Addr.add;split <;> simp_all]
  exact hc j u O
 ·obtain ⟨c,Z,aB⟩:=List.mem_flatten.1 O
  obtain ⟨i,V⟩:=Zk Z
  have aA:=(Qj V).1
  exact h1 _ w c _ (U.R i c _ V (Qx (by rw [<- U.len];exact aA))) u aB
 exact N M I dss U D A J
end
theorem Fd (S:Nat->Prop) (v:Value) (l:List Rel) (x:Bs) (w:World) (hs:Sl Yx S w v l):
  Calls prog 31 #[v,sv x] w fun e w'=>e=.returned (.int .i64 (Vi (fun r=>decide (r.table=x)) l))/\w=w':=by
 obtain ⟨p,cap,rfl,hl⟩:=hs.len
 have HS:=Qq hs
 clear hs
 obtain ⟨n,J⟩:=eX (l.length)
 rw [J] at HS hl;rw [J]
 have HN:=Qq J
 clear J
 obtain ⟨r,M⟩:∃ r,Vi (fun r=>decide (r.table=x)) l=r:=⟨_,rfl⟩
 rw [M]
 have HR:=Qq M
 clear M
 unfold sv
 go_enter func31,ntmps31
 go_wp2_with fail
 go_loop [5] (fun i=>∃ k:Nat,k<=n/\i=.int .i64 k/\Aside (∀ (j:Nat) (y:Rel),j<k->l[j]?=some y->decide (y.table=x)=false)) (fun i=>n - (intOf i).toNat)
 case atStart=>exact ⟨0,Q8 _,rfl,fun j _ hj=>absurd hj (Z6 _)⟩
 obtain ⟨k,hk,rfl,A⟩:=hrel
 by_cases hlt:k<n
 ·have T:(0:Int)<=(k:Int):=Qvu
  have U:(k:Int)<(n:Int):=Qvu
  obtain ⟨y,I⟩:∃ y,l[k]?=some y:=⟨_,Qx (by rw [HN.out];exact hlt)⟩
  obtain ⟨b,off,cs,rfl,_,_,_,⟨rv,rfl,_,_⟩,hc⟩:=HS.out.elem I
  have c0:=hc 0 _ rfl
  rw [show Yx.k=2 from rfl,Nat.add_zero] at c0
  unfold sv at c0
  have HY:=Qq I
  clear I hc
  by_cases he:y.table=x
  ·have hq:(y.table==x)=true:=by rw [he];simp
   have D:r=k:=by rw [<- HR.out];exact Kh HY.out (by simp [he]) A.out
   subst D
   have HE:=Qq he
   clear he
   go_wp2_with fail
   go_ret
   exact ⟨rfl,rfl⟩
  have hq:(y.table==x)=false:=by rw [<- Qt,beq_iff_eq];exact he
  have HE:=Qq he
  clear he
  go_wp2_with fail
  go_round
  case measure=>simp [intOf];omega
  case rel=>
   refine ⟨k+1,Qvu,by go_num,(show Aside _ from fun j z hj N=>?_)⟩
   by_cases e:j=k
   ·subst e
    have:=HY.out
    rw [this] at N
    cases N
    simpa using HE.out
   exact A.out j z Qvu N
 have O:¬ (k:Int)<(n:Int):=Qvu
 have:k=n:=Qvu
 subst this
 have D:r=-1:=by rw [<- HR.out];exact Ue (fun j y I=>A.out j y (by have:=(Qj I).1;have:=HN.out;omega) I)
 subst D
 go_wp2_with fail
 go_ret
 exact ⟨rfl,rfl⟩
def An (S:Nat->Prop) (w:World) (rows:List Val) (e:Ending) (w':World):Prop:=∃ p cap,e=.returned (.slice p rows.length cap)/\Sl Zc S w (.slice p rows.length cap) rows/\w=w'
theorem Ke (l:List Rel) (x:Bs):(Vt l x=none/\Vi (fun r=>decide (r.table=x)) l=-1)\/∃ (i:Nat) (r:Rel),Vt l x=some i/\Vi (fun r=>decide (r.table=x)) l=i/\l[i]?=some r:=by
 unfold Vt Vi
 cases h:l.findIdx? (fun r=>decide (r.table=x)) with
 | none=>exact .inl ⟨rfl,rfl⟩
 | some i=>
  rw [List.findIdx?_eq_some_iff_getElem] at h
  exact .inr ⟨i,_,rfl,rfl,Qx h.1⟩
theorem N2 (S:Nat->Prop) (v:Value) (l:List Rel) (x:Bs) (w:World) (hs:Sl Yx S w v l):
  Calls prog 79 #[v,sv x] w (An S w (V0 l x)):=by
 have D:=Qq (fun W (h:w=W)=>Fd S v l x W (h ▸ hs))
 rcases Ke l x with ⟨M,J⟩ | ⟨i,r,M,J,N⟩
 ·have I:V0 l x=[]:=by unfold V0;rw [M]
  rw [I]
  rw [J] at D
  clear M J I
  obtain ⟨p,cap,rfl,hl⟩:=hs.len
  clear hs
  unfold sv at D |-
  go_enter func79,ntmps79
  go_wp2_with (go_at_call 31;refine (D.out _ rfl).mono ?_;rintro e w' ⟨rfl,rfl⟩)
  go_ret
  exact ⟨none,0,rfl,Sl.nil _ _ _,rfl⟩
 have I:V0 l x=r.rows:=by unfold V0;rw [M];simp [N]
 rw [I]
 rw [J] at D
 clear M J I
 obtain ⟨p,cap,rfl,hl⟩:=hs.len
 have Z:=(Qj N).1
 obtain ⟨b,off,cs,rfl,T,_,_,⟨rv,rfl,_,A⟩,hc⟩:=hs.elem N
 have c1:=hc 1 _ rfl
 rw [show Yx.k=2 from rfl] at c1
 obtain ⟨q,qc,rfl,_⟩:=A.len
 have O:=Qq A
 have U:(0:Int)<=(i:Int):=Qvu
 have V:(i:Int)<(l.length:Int):=Qvu
 have Y:decide ((i:Int)<0)=false:=Qxz
 clear hs N hc A
 unfold sv at D |-
 go_enter func79,ntmps79
 go_wp2_with (go_at_call 31;refine (D.out _ rfl).mono ?_;rintro e w' ⟨rfl,rfl⟩)
 go_ret
 exact ⟨q,qc,rfl,O.out,rfl⟩
theorem Pv {P:Program} (t e:TypeId) (size:Nat) (hu:P.underlying t=some (.slice e)) (hz:∀ w,(Go.sizeOf e).run P w=.ok size w) (a:Option Addr) (n cap k:Nat) (hk:k<=cap) (w:World):
  (Instr.slice t (.slice a n cap) none (some (.int .i64 (k:Int))) none).run P w=.ok (.slice (if cap=0 then a else a.map (·.add 0)) k cap) w:=by
 have h0:(0:Int)<=(k:Int):=Qvu
 simp [Instr.slice,Instr.sliceBounds,Instr.sliceBound,asIntOf,run_underlying hu,h0,hz,hk,go_sem]
theorem L5 {P:Program} (t e:TypeId) (size:Nat) (hu:P.underlying t=some (.slice e)) (hz:∀ w,(Go.sizeOf e).run P w=.ok size w) (a:Option Addr) (n cap k:Nat) (hk:k<=n) (w:World):
  (Instr.slice t (.slice a n cap) (some (.int .i64 (k:Int))) none none).run P w=.ok (.slice (if cap=k then a else a.map (·.add (k*size))) (n - k) (cap - k)) w:=by
 have h0:(0:Int)<=(k:Int):=Qvu
 simp [Instr.slice,Instr.sliceBounds,Instr.sliceBound,asIntOf,run_underlying hu,h0,hz,hk,go_sem]
theorem Sa (b off j:Nat):(⟨b,off,none⟩:Addr).add j=⟨b,off+j,none⟩:=by unfold Addr.add;split <;> simp_all
def CapV (v:Value) (n:Nat):Prop:=∃ p cap,v=.slice p n cap/\n<=cap
theorem Sl.empty {T:Type} (r:Rd T) (S:Nat->Prop) (w:World) (p:Option Addr) (c:Nat):Sl r S w (.slice p 0 c) []:=⟨p,c,rfl,Qxz,fun h=>absurd rfl h⟩
theorem Va {P:Program} {T:Type} {r:Rd T} (t e:TypeId) (hu:P.underlying t=some (.slice e)) (hz:∀ w,(Go.sizeOf e).run P w=.ok r.k w) {S:Nat->Prop} {w:World} {v:Value} {l:List T} (h:Sl r S w v l) (hc:CapV v l.length) (k:Nat) (hk:k<=l.length):
  ∃ V1 V2,(∀ W,(Instr.slice t v none (some (.int .i64 (k:Int))) none).run P W=.ok V1 W)/\(∀ W,(Instr.slice t v (some (.int .i64 (k:Int))) none none).run P W=.ok V2 W)/\Sl r S w V1 (l.take k)/\Sl r S w V2 (l.drop k):=by
 obtain ⟨p,cap,rfl,N⟩:=hc
 refine ⟨_,_,fun W=>Pv t e r.k hu hz p l.length cap k Qvu W,fun W=>L5 t e r.k hu hz p l.length cap k hk W,?_,?_⟩
 ·by_cases hl:l=[]
  ·subst hl
   obtain rfl:k=0:=by simpa using hk
   exact Sl.empty r S w _ _
  obtain ⟨p',c',A,_,D⟩:=h
  obtain ⟨b,off,I,_,_,_⟩:=D hl
  simp only [Qr] at A
  obtain ⟨rfl,_,rfl⟩:=A
  subst I
  have J:Sl r S w (.slice (some ⟨b,off,none⟩) l.length cap) l:=⟨_,_,rfl,‹_›,D⟩
  have:=J.sub 0 k cap Qvu
  rw [List.drop_zero,Nat.zero_mul,Nat.add_zero] at this
  have e3:(if cap=0 then some (⟨b,off,none⟩:Addr) else (some (⟨b,off,none⟩:Addr)).map (·.add 0))=some ⟨b,off,none⟩:=by
   split
   ·rfl
   simp [Sa]
  rw [e3];exact this
 by_cases hl:l=[]
 ·subst hl
  obtain rfl:k=0:=by simpa using hk
  exact Sl.empty r S w _ _
 obtain ⟨p',c',A,_,D⟩:=h
 obtain ⟨b,off,I,_,_,_⟩:=D hl
 simp only [Qr] at A
 obtain ⟨rfl,_,rfl⟩:=A
 subst I
 have J:Sl r S w (.slice (some ⟨b,off,none⟩) l.length cap) l:=⟨_,_,rfl,‹_›,D⟩
 by_cases hkc:cap=k
 ·have M:k=l.length:=Qvu
  rw [if_pos hkc,M,Nat.sub_self,List.drop_length]
  exact Sl.empty r S w _ _
 rw [if_neg hkc]
 have:=J.sub k (l.length - k) (cap - k) Qvu
 rw [Zj (by rw [Zq];exact Q9 _)] at this
 simp only [Option.map_some,Sa]
 exact this
theorem H5:∀ {l:List Val} {x:Val} {k:Nat} {y:Val},(∀ (j:Nat) (z:Val),j<k->l[j]?=some z->Yk z x<=0)->l[k]?=some y->¬ Yk y x<=0->Ua l x=k
 | [],_,_,_,_,hy,_=>by simp at hy
 | a::l,x,0,y,_,hy,hc=>by
  simp at hy;subst hy
  unfold Ua;rw [List.takeWhile_cons,if_neg (by simpa using hc)];rfl
 | a::l,x,k+1,y,h,hy,hc=>by
  have ha:=h 0 a Qvu rfl
  have:=H5 (l:=l) (x:=x) (k:=k) (y:=y) (fun j z hj hz=>h (j+1) z Qvu (by simpa using hz)) (by simpa using hy) hc
  unfold Ua at this |-
  rw [List.takeWhile_cons,if_pos (by simpa using ha),List.length_cons,this]
theorem Ht:∀ {l:List Val} {x:Val},(∀ (j:Nat) (z:Val),l[j]?=some z->Yk z x<=0)->Ua l x=l.length
 | [],_,_=>rfl
 | a::l,x,h=>by
  have ha:=h 0 a rfl
  have:=Ht (l:=l) (x:=x) (fun j z hz=>h (j+1) z (by simpa using hz))
  unfold Ua at this |-
  rw [List.takeWhile_cons,if_pos (by simpa using ha),List.length_cons,this,List.length_cons]
theorem Jt {S S':Nat->Prop} {a b:Val} {p3 k3 p4 k4 q3 l3 q4 l4} {wr:World} (ha:Za S wr (vcs a p3 k3 p4 k4) a) (hb:Za S' wr (vcs b q3 l3 q4 l4) b):∀ n os,Calls prog 74 #[.agg (Qxf a p3 k3 p4 k4),.agg (Qxf b q3 l3 q4 l4)] (Sort.grow (wr.drewN n) os) fun e w'=>e=.returned (.int .i64 (Yk a b))/\Gr (Sort.grow (wr.drewN n) os) w':=
 fun _ _=>Lt S S' a b (vcs a p3 k3 p4 k4) (vcs b q3 l3 q4 l4) _ (ha.move (.of_below (Y7 _ _ _).bl) Qyv) (hb.move (.of_below (Y7 _ _ _).bl) Qyv)
theorem rhas_any (S S':Nat->Prop) (v:Value) (l:List Val) (x:Val) (cx:List Value) (w:World) (hs:Sl Zc S w v l) (hx:Za S' w cx x):
  Calls prog 136 #[v,cx] w fun e w'=>e=.returned (.bool (Nv l x))/\Below w w w':=by
 obtain ⟨p,cap,rfl,hl⟩:=hs.len
 obtain ⟨p3,k3,p4,k4,aA,_⟩:=Za.cells hx
 have aH:=Qq hx
 simp only [vcs] at aA
 subst aA
 have HS:=Qq hs
 have mixed:prog.follows .mixedOrders=true:=Qxx
 obtain ⟨n,hn⟩:=eX (l.length)
 rw [hn] at HS hl |-
 have HN:=Qq hn
 obtain ⟨r,hr⟩:=eX (Nv l x)
 rw [hr]
 have HR:=Qq hr
 clear hr hn hs hx
 go_enter func136,ntmps136
 go_wp2_with fail
 generalize M:w.alloc _=W1
 have Z:=eqB M (Ze _ _)
 have Y:=eqH (b:=w.heap.size) M (Qw _ _)
 have aE:=Qq Z;have aG:=Qq Y
 clear M Z Y
 go_loopw [5] (fun i wr=>∃ k:Nat,k<=n/\i=.int .i64 k/\Aside (∀ (j:Nat) (y:Val),j<k->l[j]?=some y->eqv y x=false)/\Aside (Gr W1 wr)) (fun i _=>n - (intOf i).toNat)
 case atStart=>exact ⟨0,Q8 _,rfl,fun j _ hj=>absurd hj (Z6 _),Gr.refl _⟩
 obtain ⟨k,hk,rfl,A,hG⟩:=hrel
 have HG:=Qq (show Gr W1 wr from hG)
 have J:=Qq (aE.out.thn HG.out.bl)
 have V:=Qq (kB HG.out.bl aG.out)
 clear hG
 by_cases hlt:k<n
 ·have aN:(0:Int)<=(k:Int):=Qvu
  have aO:(k:Int)<(n:Int):=Qvu
  obtain ⟨y,hy⟩:∃ y,l[k]?=some y:=⟨_,Qx (by rw [HN.out];exact hlt)⟩
  obtain ⟨b,off,q3,l3,q4,l4,rfl,D,aC,d0,d1,d2,d3,d4⟩:=(HS.out.below J.out).val hy
  have O:=Jt aC (aH.out.move (.of_below J.out) Qyv)
  have I:=Z8 V.out
  have D0:=Zm D d0;have D1:=Zm D d1;have D2:=Zm D d2;have D3:=Zm D d3;have D4:=Zm D d4
  obtain ⟨x0,x1,x2,x3,x4⟩:=row5 V.out
  have X0:=Zm I x0;have X1:=Zm I x1;have X2:=Zm I x2;have X3:=Zm I x3;have X4:=Zm I x4
  have N:=O5 y x
  generalize Yk y x=c at O N
  have HY:=Qq hy;have U:=Qq N
  clear hy aC d0 d1 d2 d3 d4 x0 x1 x2 x3 x4 N
  by_cases hq:(c==0)=true
  ·have T:r=true:=by
    rw [<- HR.out];unfold Nv
    exact List.any_eq_true.2 ⟨y,Qy HY.out,by rw [<- U.out];exact hq⟩
   subst T
   go_wp2_with fail
   go_quiet_grown (first | (go_at_call 74;refine Calls.grown_of (O _ _)))
   go_wp2_with fail
   go_ret
   exact ⟨rfl,J.out.thn (Y7 _ _ _).bl⟩
  have aJ:(c==0)=false:=by simpa using hq
  clear hq
  go_wp2_with fail
  go_quiet_grown (first | (go_at_call 74;refine Calls.grown_of (O _ _)))
  go_wp2_with fail
  go_roundw
  case measure=>simp [intOf];omega
  case rel=>
   refine ⟨k+1,Qvu,by go_num,(show Aside _ from fun j z hj hz=>?_),HG.out.thn (Y7 _ _ _)⟩
   by_cases e:j=k
   ·subst e
    have:=HY.out
    rw [this] at hz
    cases hz
    rw [<- U.out];exact aJ
   exact A.out j z Qvu hz
 have aM:¬ (k:Int)<(n:Int):=Qvu
 have:k=n:=Qvu
 subst this
 have T:r=false:=by
  rw [<- HR.out];unfold Nv
  rw [List.any_eq_false]
  intro y hy
  obtain ⟨j,hj⟩:=Zk hy
  rw [A.out j y (by have:=(Qj hj).1;have:=HN.out;omega) hj]
  simp
 subst T
 go_wp2_with fail
 go_ret
 exact ⟨rfl,J.out⟩
def PutIs (S:Nat->Prop) (w:World) (zs:List Val) (e:Ending) (w':World):Prop:=∃ p cap,e=.returned (.slice p zs.length cap)/\zs.length<=cap/\Sl Zc (fun b=>S b\/w<=b) w' (.slice p zs.length cap) zs/\Below w w w'
theorem Own.cap {T:Type} {r:Rd T} {E:TypeId} {S:Nat->Prop} {B:Nat} {w:World} {p:Option Addr} {n cap:Nat} {xs:List T} {css:List (List Value)} (h:Own r E S B w (.slice p n cap) xs css):xs.length=n/\n<=cap:=by
 rcases h.row.2 with ⟨e,h0⟩ | ⟨g,A,D,e,_,_,hc,_⟩
 ·simp only [Qr] at e
  obtain ⟨rfl,rfl,rfl⟩:=e
  exact ⟨h0,Q9 _⟩
 simp only [Qr] at e
 obtain ⟨rfl,rfl,rfl⟩:=e
 exact ⟨rfl,hc⟩
theorem put_any (S:Nat->Prop) (v:Value) (l:List Val) (x:Val) (cx:List Value) (w:World) (hs0:Sl Zc S w v l) (hcv:CapV v l.length) (hx0:Za S w cx x) (hl1:l.length<=1000):
  Calls prog 84 #[v,cx] w (PutIs S w (J3 l x)):=by
 have hs:=hs0.up
 have hx:Za (fun b=>S b/\b<w) w cx x:=hx0.move (.refl _ _) (fun b hb h=>⟨h,hb⟩)
 clear hs0 hx0
 have bC:=Qq hcv
 obtain ⟨p,cap,rfl,aH⟩:=hcv
 obtain ⟨p3,k3,p4,k4,bX,_⟩:=Za.cells hx
 have aO:=Qq hx
 have J:=Qq (fun W (hb:Below w w W)=>rhas_any _ _ _ l x cx W (hs.below hb) (hx.move (.of_below hb) Qyv))
 simp only [vcs] at bX
 subst bX
 have HS:=Qq hs
 have mixed:prog.follows .mixedOrders=true:=Qxx
 obtain ⟨i0,j1,j2,j3,j4⟩:=Y4 (P:=prog) (t:=48) (z:=.agg zV) (n:=5) (b:=80) Qxx
 obtain ⟨HJ,aJ,aK,aL⟩:=Qxo j1 j2 j3 j4
 obtain ⟨n,hn⟩:=eX (l.length)
 have Z:=Qq hn
 rw [hn] at HS bC hl1 aH J |-
 obtain ⟨r,hr⟩:=eX (Nv l x)
 have HR:=Qq hr
 rw [hr] at J
 clear hr hn hs hx j1 j2 j3 j4
 go_enter func84,ntmps84
 go_wp2_with fail
 refine (J.out _ (Ze _ _)).mono ?_
 rintro e w1 ⟨rfl,aU⟩
 have aT:=(aU.block w Qxz).trans (Qw _ _)
 have aI:=Qq ((Ze w _).thn aU);have dE:=Qq aT
 have dQ:w.heap.size<w1.heap.size:=Z8 aT
 clear aU aT J
 cases r with
 | true=>
  go_wp2_with fail
  go_ret
  have hp:J3 l x=l:=by unfold J3;rw [HR.out];rfl
  unfold PutIs
  rw [hp,Z.out]
  exact ⟨p,cap,rfl,aH,(HS.out.mono (fun b _ h=>.inl h.1)).below aI.out,aI.out⟩
 | false=>
  go_wp2_with fail
  go_loopw [6] (fun i wr=>∃ k:Nat,k<=n/\i=.int .i64 k/\Aside (∀ (j:Nat) (y:Val),j<k->l[j]?=some y->Yk y x<=0)/\Aside (Gr w1 wr)) (fun i _=>n - (intOf i).toNat)
  case atStart=>exact ⟨0,Q8 _,rfl,fun j _ hj=>absurd hj (Z6 _),Gr.refl _⟩
  obtain ⟨k,hk,rfl,A,hG⟩:=hrel
  have HG:=Qq (show Gr w1 wr from hG)
  have T:=Qq (aI.out.thn HG.out.bl)
  have aP:=Qq (kB HG.out.bl dE.out)
  clear hG
  have N:=Z8 aP.out
  obtain ⟨x0,x1,x2,x3,x4⟩:=row5 aP.out
  have X0:=Zm N x0;have X1:=Zm N x1;have X2:=Zm N x2;have X3:=Zm N x3;have X4:=Zm N x4
  clear x0 x1 x2 x3 x4
  have aW:(∃ y,l[k]?=some y/\Yk y x<=0)\/(Ua l x=k/\((∃ y,l[k]?=some y/\¬ Yk y x<=0)\/k=n)):=by
   by_cases I:k<n
   ·obtain ⟨y,O⟩:∃ y,l[k]?=some y:=⟨_,Qx (by rw [Z.out];exact I)⟩
    by_cases hc:Yk y x<=0
    ·exact .inl ⟨y,O,hc⟩
    exact .inr ⟨H5 A.out O hc,.inl ⟨y,O,hc⟩⟩
   have aF:k=n:=Qvu
   refine .inr ⟨?_,.inr aF⟩
   rw [aF,<- Z.out]
   exact Ht (fun j z hz=>A.out j z (by have:=(Qj hz).1;have:=Z.out;omega) hz)
  rcases aW with ⟨y,O,hc⟩ | ⟨cE,aW⟩
  ·have I:k<n:=by have:=(Qj O).1;have:=Z.out;omega
   have bZ:(0:Int)<=(k:Int):=Qvu
   have cA:(k:Int)<(n:Int):=Qvu
   have aE:decide (k<n)=true:=by simpa using I
   obtain ⟨b,off,q3,l3,q4,l4,rfl,D,Y,d0,d1,d2,d3,d4⟩:=(HS.out.below T.out).val O
   have M:=Jt Y (aO.out.move (.of_below T.out) Qyv)
   have D0:=Zm D d0;have D1:=Zm D d1;have D2:=Zm D d2;have D3:=Zm D d3;have D4:=Zm D d4
   have cT:=Qq hc
   have hq:decide (Yk y x<=0)=true:=by simpa using hc
   generalize aD:Yk y x=c at M hq
   have HY:=Qq O;have dT:=Qq aD
   clear O Y d0 d1 d2 d3 d4 hc aD I
   go_wp2_with fail
   go_quiet_grown (first | (go_at_call 74;refine Calls.grown_of (M _ _)))
   go_wp2_with fail
   go_roundw
   case measure=>simp [intOf];omega
   case rel=>
    refine ⟨k+1,Qvu,by go_num,(show Aside _ from fun j z hj hz=>?_),HG.out.thn (Y7 _ _ _)⟩
    by_cases e:j=k
    ·subst e
     have:=HY.out
     rw [this] at hz
     cases hz
     exact cT.out
    exact A.out j z Qvu hz
  obtain ⟨V1,V2,dU,dV,bT,bU⟩:=Va (P:=prog) 40 48 underlying40 sizeOf48 HS.out (by rw [Z.out];exact bC.out) k (by rw [Z.out];exact hk)
  obtain ⟨dC,dD,dB⟩:=Qxn bT bU cE
  clear bT bU cE
  have dG:k<=l.length:=by rw [Z.out];exact hk
  have cG:(l.take k).length=k:=by rw [Qm];omega
  have bY:(l.drop k).length=n - k:=by rw [Zq,Z.out]
  have aN:=Qq cG;have cU:=Qq bY
  clear cG bY dG
  rcases aW with ⟨y,O,hc⟩ | aF
  focus
   have I:k<n:=by have:=(Qj O).1;have:=Z.out;omega
   have bZ:(0:Int)<=(k:Int):=Qvu
   have cA:(k:Int)<(n:Int):=Qvu
   have aE:decide (k<n)=true:=by simpa using I
   obtain ⟨b,off,q3,l3,q4,l4,rfl,D,Y,d0,d1,d2,d3,d4⟩:=(HS.out.below T.out).val O
   have M:=Jt Y (aO.out.move (.of_below T.out) Qyv)
   have D0:=Zm D d0;have D1:=Zm D d1;have D2:=Zm D d2;have D3:=Zm D d3;have D4:=Zm D d4
   have hq:decide (Yk y x<=0)=false:=by simpa using hc
   generalize aD:Yk y x=c at M hq
   clear O Y d0 d1 d2 d3 d4 hc aD I
   go_wp2_with fail
   go_quiet_grown (first | (go_at_call 74;refine Calls.grown_of (M _ _)))
   clear D0 D1 D2 D3 D4 M hq bZ cA aE
  rotate_left
  focus
   have aE:decide (k<n)=false:=by simp;omega
   clear aF
   go_wp2_with fail
   go_quiet_grown (fail)
   clear aE
  all_goals
   generalize bV:Sort.grow (wr.drewN nq) osq=W3
   have aV:Below wr wr W3:=by rw [<- bV];exact (Y7 _ _ _).bl
   have aZ:=Qq (T.out.thn aV);have bG:=Qq (kE aV N aP.out)
   have cF:w.heap.size<W3.heap.size:=Z8 bG.out
   have bP:Sl Zc (But (fun b=>S b/\b<w) (.slice none 0 0)) W3 V1 (l.take k):=(dC.out.mono (S':=But (fun b=>S b/\b<w) (.slice none 0 0)) (fun b _ h=>⟨h,fun e=>by cases e⟩)).below aZ.out
   have cR:=Qq bP
   have cC:([]:List Val).length+(l.take k).length=k:=by rw [aN.out];simp
   have cY:=Qq cC
   clear bV aV X0 X1 X2 X3 X4 bP cC
   go_upto_region 9 with (at_builtin;refine Yn (r:=Zc) Qxv Xg rfl (.tmp 28) (.tmp 31) _ rfl 48 i0 (.agg zV) 80 underlying40 HJ.out aJ.out aK.out aL.out rfl Qvu (fun b=>S b/\b<w) (w+1) W3 (.slice none 0 0) [] [] rfl (Own.nil _ _ _ _ _) V1 (l.take k) rfl cR.out k cY.out Qvu Qvu ?_;intro cH bH bI w4 aC aB)
   rw [List.nil_append] at aC
   have bW:=(aB.other w cF (fun e=>by cases e)).trans bG.out
   obtain ⟨x0,x1,x2,x3,x4⟩:=row5 bW
   have U:Below w w w4:=aZ.out.trans (aB.below.mono Qvu)
   have dR:=aB.size
   have aG:Zc.R (But (fun b=>S b/\b<w) (.slice cH k bH)) w4 (Qxf x p3 k3 p4 k4) x:=Za.move aO.out (.of_below U) (fun b hb h=>⟨h,fun e=>by have:=(aC.row.lt b e.symm).1;omega⟩)
   obtain ⟨cZ,bA,bF⟩:=Qxn aC U aG
   clear aC aB bW U aG
   go_upto_region 10 with (at_builtin;refine Yf (r:=Zc) Qxv rfl (.tmp 33) (.tmp 35) _ rfl 48 i0 (.agg zV) 80 underlying40 HJ.out aJ.out aK.out aL.out rfl Qvu (fun b=>S b/\b<w) (w+1) w4 (.slice cH k bH) (l.take k) bI (Qxf x p3 k3 p4 k4) x rfl cZ.out rfl bF.out (by simp [Value.oneCell']) k aN.out Qvu Qvu ?_;intro aX aQ bJ w5 aS aR)
   have V:Below w w w5:=bA.out.trans (aR.below.mono Qvu)
   have dS:=aR.size
   have bQ:Sl Zc (But (fun b=>S b/\b<w) (.slice aX (k+1) aQ)) w5 V2 (l.drop k):=(dD.out.mono (S':=But (fun b=>S b/\b<w) (.slice aX (k+1) aQ)) (fun b hb h=>⟨h,fun e=>by have:=(aS.row.lt b e.symm).1;omega⟩)).below V
   have cD:(l.take k++[x]).length+(l.drop k).length=n+1:=by rw [Ql,aN.out,cU.out];simp;omega
   obtain ⟨aM,cS,dA,bB⟩:=Qxo cD bQ aS V
   clear x0 x1 x2 x3 x4 aS aR V bQ cD
   go_wp2_with (at_builtin;refine Yn (r:=Zc) Qxv Xg rfl (.tmp 37) (.tmp 40) _ rfl 48 i0 (.agg zV) 80 underlying40 HJ.out aJ.out aK.out aL.out rfl Qvu (fun b=>S b/\b<w) (w+1) w5 (.slice aX (k+1) aQ) (l.take k++[x]) bJ rfl dA.out V2 (l.drop k) rfl cS.out (n+1) aM.out Qvu Qvu ?_;intro dL dF dP w6 bS bR;have bD:=Qq bS;have cX:=Qq bR;clear bS bR)
   go_ret
   have hp:J3 l x=(l.take k++[x])++l.drop k:=by unfold J3;rw [HR.out,dB.out];simp
   have cB:(J3 l x).length=n+1:=by rw [hp,Ql];exact aM.out
   unfold PutIs
   rw [cB,hp]
   refine ⟨dL,dF,rfl,bD.out.cap.2,?_,bB.out.trans (cX.out.below.mono Qvu)⟩
   exact bD.out.sl (by rw [Ql,aM.out];omega) (fun b hb=>.inr Qvu) (fun b _ h=>.inl h.1)
def Ym:Rd Rel where
 k:=2
 R S w cs x:=∃ v,cs=[sv x.table,v]/\x.table.length<=1000000/\Sl Zc S w v x.rows/\CapV v x.rows.length
 len h:=by obtain ⟨v,rfl,_⟩:=h;rfl
 frame h hA:=by obtain ⟨v,rfl,A,D,I⟩:=h;exact ⟨v,rfl,A,D.frame hA,I⟩
 mono h hS:=by obtain ⟨v,rfl,A,D,I⟩:=h;exact ⟨v,rfl,A,D.mono hS,I⟩
theorem Lv {S:Nat->Prop} {w:World} {cs:List Value} {x:Rel} (h:Ym.R S w cs x):Yx.R S w cs x:=by obtain ⟨v,rfl,h1,h2,_⟩:=h;exact ⟨v,rfl,h1,h2⟩
theorem Sl.rel {S:Nat->Prop} {w:World} {v:Value} {l:List Rel} (h:Sl Ym S w v l):Sl Yx S w v l:=by
 obtain ⟨p,cap,h1,h2,h3⟩:=h
 refine ⟨p,cap,h1,h2,fun D=>?_⟩
 obtain ⟨b,off,e,hS,hb,hc⟩:=h3 D
 refine ⟨b,off,e,hS,hb,fun i x hx=>?_⟩
 obtain ⟨cs,A,hr⟩:=hc i x hx
 exact ⟨cs,A,Lv hr⟩
theorem Cs.rel {S:Nat->Prop} {w:World} {css:List (List Value)} {l:List Rel} (h:Cs Ym S w css l):Cs Yx S w css l:=⟨h.len,fun i c x hc hx=>Lv (h.R i c x hc hx)⟩
theorem Own.rel {E:TypeId} {S:Nat->Prop} {B:Nat} {w:World} {v:Value} {l:List Rel} {css:List (List Value)} (h:Own Ym E S B w v l css):Own Yx E S B w v l css:=⟨h.row,h.cs.rel⟩
theorem relc_one:∀ S w cs x,Ym.R S w cs x->∀ u ∈ cs,u.oneCell'=true:=fun S w cs x h=>Cy S w cs x (Lv h)
theorem Rl {S:Nat->Prop} {E:TypeId} {B:Nat} {w:World} {g n cap:Nat} {l:List Rel} {css:List (List Value)} {i:Nat} {x:Rel} {rv':Value} {zs:List Val} (hn:l.length=n) (h:Own Ym E S B w (.slice (some ⟨g,0,none⟩) n cap) l css) (hi:l[i]?=some x)
  (hs:Sl Zc (But S (.slice (some ⟨g,0,none⟩) n cap)) w rv' zs) (hc':CapV rv' zs.length):
  ∃ css',Own Ym E S B (w.setCell ⟨g,i*2+1,none⟩ rv') (.slice (some ⟨g,0,none⟩) n cap) (l.set i ⟨x.table,zs⟩) css':=by
 subst hn
 have A:=(Qj hi).1
 obtain ⟨c,hc⟩:∃ c,css[i]?=some c:=⟨_,Qx (by rw [h.cs.len];exact A)⟩
 obtain ⟨rv,rfl,J,_⟩:=h.cs.R i c x hc hi
 have hA:Vz (But S (.slice (some ⟨g,0,none⟩) l.length cap)) w (w.setCell ⟨g,i*2+1,none⟩ rv'):=fun b hS _=>Z9 (fun e=>hS.2 (by rw [e];rfl))
 refine ⟨css.set i [sv x.table,rv'],⟨?_,⟨by rw [List.length_set,List.length_set];exact h.cs.len,fun j d y D I=>?_⟩⟩⟩
 ·rw [List.length_set,<- N8 css i _ rv rv' h.cs.all hc]
  exact (h.row.stored (i*2+1) rv').1
 by_cases e:j=i
 ·subst e
  rw [List.getElem?_set_self A] at I
  rw [List.getElem?_set_self (by rw [h.cs.len];exact A)] at D
  cases D;cases I
  exact ⟨rv',rfl,J,hs.frame hA,hc'⟩
 rw [List.getElem?_set_ne (Ne.symm e)] at D I
 exact Ym.frame (h.cs.R j d y D I) hA
theorem Own.weak {T:Type} {r:Rd T} {E:TypeId} {S S':Nat->Prop} {B B':Nat} {w:World} {v:Value} {xs:List T} {css:List (List Value)} (h:Own r E S B w v xs css) (hB:B'<=B) (hS:∀ b,b<w.heap.size->S b->S' b):Own r E S' B' w v xs css:=by
 refine ⟨⟨h.row.1,?_⟩,h.cs.move (.refl _ _) (fun b hb hs=>⟨hS b hb hs.1,hs.2⟩)⟩
 rcases h.row.2 with hn | ⟨g,cap,cur,rfl,hg,rest⟩
 ·exact .inl hn
 exact .inr ⟨g,cap,cur,rfl,Qvu,rest⟩
def Qza (S:Nat->Prop) (w:World) (l:List Rel) (e:Ending) (w':World):Prop:=∃ p cap css,e=.returned (.slice p l.length cap)/\Own Ym 42 (fun b=>S b\/w<=b) w w' (.slice p l.length cap) l css/\Below w w w'
theorem Ru (S:Nat->Prop) (lv:Value) (l:List Rel) (w:World) (hl0:Sl Ym S w lv l) (hl1:l.length<=1000):
  Calls prog 83 #[lv] w fun e w'=>∃ p cap css,e=.returned (.slice p l.length cap)/\Own Ym 42 (fun b=>S b/\b<w) w w' (.slice p l.length cap) l css/\Below w w w':=by
 have Y:Sl Ym (But (fun b=>S b/\b<w) (.slice none 0 0)) w lv l:=hl0.mono (fun b hb h=>⟨⟨h,hb⟩,fun e=>by cases e⟩)
 have HL:=Qq Y
 obtain ⟨p,cap,rfl,_⟩:=Y.len
 clear hl0 Y
 obtain ⟨i0,j1,j2,j3,j4⟩:=Y4 (P:=prog) (t:=42) (z:=.agg #[Qxd,Qxe]) (n:=2) (b:=40) Qxx
 obtain ⟨HJ,M,N,O⟩:=Qxo j1 j2 j3 j4
 clear j1 j2 j3 j4
 obtain ⟨n,Z⟩:=eX (l.length)
 rw [Z] at HL hl1 |-
 have J:([]:List Rel).length+l.length=n:=by rw [Z];simp
 have U:=Qq J
 clear Z J
 go_enter func83,ntmps83
 go_wp2_with (at_builtin;refine Yn (r:=Ym) Qxv relc_one rfl (.tmp 4) (.tmp 5) _ rfl 42 i0 (.agg #[Qxd,Qxe]) 40 underlying29 HJ.out M.out N.out O.out rfl Qvu (fun b=>S b/\b<w) w w (.slice none 0 0) [] [] rfl (Own.nil _ _ _ _ _) (.slice p n cap) l rfl HL.out n U.out Qvu Qvu ?_;intro p4 c4 A w4 I D;have V:=Qq I;have T:=Qq D;clear I D)
 go_ret
 exact ⟨p4,c4,A,rfl,V.out,T.out.below⟩
theorem Bu {l:List Rel} {x:Bs} {v:Val} (h:Vt l x=none):Js l x v=l:=by unfold Js;rw [h]
theorem Bt {l:List Rel} {x:Bs} {v:Val} {i:Nat} {r:Rel} (h:Vt l x=some i) (hr:l[i]?=some r):Js l x v=l.set i ⟨r.table,J3 r.rows v⟩:=by unfold Js;rw [h];simp [hr]
theorem Fx (l:List Rel) (x:Bs) (v:Val):(Js l x v).length=l.length:=by unfold Js;split <;> simp
theorem H7 (S:Nat->Prop) (lv:Value) (l:List Rel) (x:Bs) (v:Val) (cv:List Value) (w:World) (hl0:Sl Ym S w lv l) (hv0:Za S w cv v) (hl1:l.length<=1000) (hr1:∀ r ∈ l,r.rows.length<=1000):
  Calls prog 32 #[lv,sv x,cv] w (Qza S w (Js l x v)):=by
 have hl:=hl0.up
 have hv:Za (fun b=>S b/\b<w) w cv v:=hv0.move (.refl _ _) (fun b hb h=>⟨h,hb⟩)
 have aC:=Qq (fun W (hb:Below w w W)=>Ru _ lv l W (hl.below hb) hl1)
 obtain ⟨p0,bB,rfl,_⟩:=hl.len
 obtain ⟨p3,k3,p4,k4,aK,_⟩:=Za.cells hv
 have HV:=Qq hv
 simp only [vcs] at aK
 subst aK
 clear hl0 hv0 hl hv
 unfold sv
 go_enter func32,ntmps32
 go_wp2_with fail
 refine (aC.out _ (Ze _ _)).mono ?_
 rintro e Y ⟨p,cap,css,rfl,hO,U⟩
 have T:=(U.block w Qxz).trans (Qw _ _)
 have O:Own Ym 42 (fun b=>S b/\b<w) (w+1) Y (.slice p l.length cap) l css:=hO.weak Qxz (fun b _ h=>h.1)
 obtain ⟨M,aT,A⟩:=Qxn ((Ze w _).thn U) T O
 have bC:w.heap.size<Y.heap.size:=Z8 T
 have HF:=Qq (Fd (fun b=>S b\/w<=b) (.slice p l.length cap) l x Y (O.rel.sl (S':=fun b=>S b\/w<=b) Qvu (fun b hb=>.inr Qvu) (fun b _ h=>.inl h.1)))
 unfold sv at HF
 clear U T hO O aC
 rcases Ke l x with ⟨hr,hi⟩ | ⟨i,r,hr,hi,Z⟩
 ·have hR:=Bu (v:=v) hr
  rw [hi] at HF
  have N:=Qq hR
  clear hr hi hR
  go_wp2_with (go_at_call 31;refine HF.out.mono ?_;rintro e w' ⟨rfl,rfl⟩)
  go_ret
  unfold Qza
  rw [N.out]
  exact ⟨p,cap,css,rfl,A.out.weak Qvu (fun b _ h=>.inl h.1),M.out⟩
 have hR:=Bt (v:=v) hr Z
 rw [hi] at HF
 have J:(Js l x v).length=l.length:=Fx l x v
 have N:=Qq hR;have aE:=Qq J
 have aW:=(Qj Z).1
 have aY:=hr1 r (Qy Z)
 obtain ⟨g,bA,aN,bD,aL⟩:=A.out.row.form Qvu
 simp only [Qr] at aN
 obtain ⟨rfl,-,rfl⟩:=aN
 obtain ⟨c,hc⟩:∃ c,css[i]?=some c:=⟨_,Qx (by rw [A.out.cs.len];exact aW)⟩
 obtain ⟨rv,rfl,bH,V,I⟩:=A.out.cs.R i c r hc Z
 have l1:=A.out.row.cellAt (i*2+1) (by show _<l.length*2;omega)
 rw [show css.flatten[i*2+1]?=some rv from V9 (k:=2) A.out.cs.all hc (j:=1) rfl] at l1
 have f1:=A.out.row.frozenAt (i*2+1)
 obtain ⟨q,qc,rfl,_⟩:=V.len
 have bE:(0:Int)<=(i:Int):=Qvu
 have bF:(i:Int)<(l.length:Int):=Qvu
 have bG:decide (0<=(i:Int))=true:=Qxz
 obtain ⟨x0,x1,x2,x3,x4⟩:=row5 aT.out
 obtain ⟨aR,aB,HX⟩:=Qxn (V.mono (S':=fun b=>S b/\b<w) (fun b _ h=>h.1)) I Z
 have aF:=Qq (fun W (hb:Below Y Y W)=>put_any (fun b=>S b/\b<w) (.slice q r.rows.length qc) r.rows v (Qxf v p3 k3 p4 k4) W ((aR.out).below hb) aB.out (HV.out.move (.of_below (M.out.thn hb)) Qyv) aY)
 clear hr hi hR J Z hc V I
 go_upto_region 4 with (go_at_call 31;refine HF.out.mono ?_;rintro e w' ⟨rfl,rfl⟩)
 go_region_with (go_at_call 84;refine (aF.out _ (Qz _ _).drew).mono ?_;rintro e w5 ⟨p5,c5,rfl,aJ,aP,aI⟩;have D:=((Qz _ Y).drew).thn aI;obtain ⟨aS,aQ,aA⟩:=Qxn aP aJ D;have f5:=Qyx D aL f1;have l5:=kD D aL l1;clear aP aJ aI D)
 all_goals
  go_wp2_with fail
  go_ret
  obtain ⟨aG,aU⟩:=Rl (zs:=J3 r.rows v) rfl ((A.out.weak (S':=fun b=>S b\/w<=b) (B':=w.heap.size) Qvu (fun b _ h=>.inl h.1)).below aA.out) HX.out (rv':=.slice p5 (J3 r.rows v).length c5) (aS.out.mono (S':=But (fun b=>S b\/w<=b) (.slice (some ⟨g,0,none⟩) l.length cap)) (fun b _ h=>by
   rcases h with h | h
   ·exact ⟨.inl h.1,fun e=>by have e':b=g:=Qb e;have:=h.2;omega⟩
   have h':Y.heap.size<=b:=by simpa using h
   exact ⟨.inr Qvu,fun e=>by have e':b=g:=Qb e;omega⟩)) ⟨_,_,rfl,aQ.out⟩
  unfold Qza
  rw [aE.out,N.out]
  exact ⟨_,_,aG,rfl,aU,(M.out.thn aA.out).setCell (p:=⟨g,i*2+1,none⟩) (by show w<=g;omega) _⟩
end Go.Proofs.YtlanplhphiikjaaGreatDoor
