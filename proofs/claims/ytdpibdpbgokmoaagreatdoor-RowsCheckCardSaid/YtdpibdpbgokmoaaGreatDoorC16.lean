import Derived.Test.YtdpibdpbgokmoaaGreatDoorC12
import Derived.Test.YtdpibdpbgokmoaaGreatDoorC15
set_option maxRecDepth 100000
set_option maxHeartbeats 400000000
namespace Go.Proofs.YtdpibdpbgokmoaaGreatDoor
open Go.RowKit Go.Shelf Go.Lib Tryz
section
variable {P:Program} {T:Type}
theorem Rz {r:Rd T} (t ty E:TypeId) (i:TypeInfo) (ht:P.underlying t=some (.slice E)) (hi:P.info? E=some i) (S:Nat→Prop) (B:Nat) (w:World) (v:Value) (xs:List T) (css:List (List Value)) (hO:Own r E S B w v xs css) (c:Nat):
  (Builtin.append_ #[t,t] ty #[v,.slice none 0 c]).run P w=.ok v w:=by
 rcases hO.row.2 with ⟨rfl,_⟩ | ⟨g,cap,D,rfl,_,_,A,_⟩
 ·simp [Builtin.append_,run_underlying ht,sizeOf,typeInfo,hi,Builtin.lenOf,Builtin.firstCells]
 simp [Builtin.append_,run_underlying ht,sizeOf,typeInfo,hi,Builtin.lenOf,Builtin.firstCells,A,storeCells]
theorem run_cat {r:Rd T} (hk:0<r.k) (t ty E:TypeId) (i:TypeInfo) (z:Value) (bytes:Nat) (ht:P.underlying t=some (.slice E)) (hi:P.info? E=some i) (hz:i.zero=some z) (hsize:i.size=r.k) (hby:i.bytes=bytes) (hzs:z.cells.size=r.k) (hb1:bytes≤1000)
  (S:Nat→Prop) (B:Nat) (w:World) (v:Value) (xs:List T) (css:List (List Value)) (ys:List T) (q:Option Addr) (m c:Nat) (hO:Own r E S B w v xs css) (hY:Sl r (But S v) w (.slice q m c) ys)
  (h1:∀ S w cs x,r.R S w cs x→∀ u ∈ cs,u.oneCell'=true) (hl:xs.length+ys.length≤1000000) (hB:B≤w):
  ∃ p cap css' w1,(Builtin.append_ #[t,t] ty #[v,.slice q m c]).run P w=.ok (.slice p (xs.length+ys.length) cap) w1∧Own r E S B w1 (.slice p (xs.length+ys.length) cap) (xs++ys) css'∧w.grownBy w1 v.ownBlock∧((Value.slice p (xs.length+ys.length) cap).ownBlock=v.ownBlock∨(Value.slice p (xs.length+ys.length) cap).ownBlock=some w.heap.size):=by
 obtain ⟨q',c',dss,hv,O,hc⟩:=hY.css hk
 simp only [Qr] at hv
 obtain ⟨rfl,rfl,rfl⟩:=hv
 have I:∀ N:Addr,q=some N→(∀ j u,dss.flatten[j]?=some u→w.cell? (N.add j)=some u)→∃ p cap css' w1,(Builtin.append_ #[t,t] ty #[v,.slice q ys.length c]).run P w=.ok (.slice p (xs.length+ys.length) cap) w1∧Own r E S B w1 (.slice p (xs.length+ys.length) cap) (xs++ys) css'∧w.grownBy w1 v.ownBlock∧((Value.slice p (xs.length+ys.length) cap).ownBlock=v.ownBlock∨(Value.slice p (xs.length+ys.length) cap).ownBlock=some w.heap.size):=by
  rintro N rfl A
  obtain ⟨v1,w1,G,V,D,_,M⟩:=run_append_own_at (P:=P) w B t ty E i z r.k bytes ht hi hz hsize hby hzs hk v xs.length css.flatten hO.row N ys.length c dss.flatten O.flat A (fun u Y=>by
   obtain ⟨cc,aA,aD⟩:=List.mem_flatten.1 Y
   obtain ⟨i',U⟩:=Zk aA
   have aC:=(Qj U).1
   exact h1 _ w cc _ (O.R i' cc _ U (Qx (by rw [← O.len];exact aC))) u aD) (by unfold maxLen;omega) (by
   have:=Nat.mul_le_mul (show xs.length+ys.length≤1000000 by omega) hb1
   omega) hB
  have J:=hO.append O (v':=v1) (w2:=w1) V D M
  obtain ⟨p,cap,rfl⟩:=J.form
  rw [Ql] at J G M
  exact ⟨p,cap,_,w1,G,J,D,M⟩
 by_cases hne:ys=[]
 ·subst hne
  have aB:dss=[]:=Zy O.len
  subst aB
  rcases q with _ | N
  ·obtain ⟨p,cap,rfl⟩:=hO.form
   exact ⟨p,cap,css,w,Rz t ty E i ht hi S B w _ xs css hO c,by simpa using hO,World.grownBy.refl w _,.inl rfl⟩
  exact I N rfl (fun j u Y=>by simp at Y)
 obtain ⟨b,Z,rfl,_,_,A⟩:=hc hne
 exact I _ rfl (fun j u Y=>by
  rw [show (⟨b,Z,none⟩:Addr).add j=⟨b,Z+j,none⟩ by unfold Addr.add;split <;> simp_all]
  exact A j u Y)
theorem step_cat {r:Rd T} (hk:0<r.k) {ops:Array Oper} {o:Oper} {a:Act} {K:Act→World→Prop} {Q:Exit→Act→World→Prop} {X:Prop} (hgd:o.guard=none) (s x:Operand) (t:TypeId)
  (ho:o.op=.call { callee:=.builtin .append,args:=#[s,x],argTypes:=#[t,t] }) (E:TypeId) (i:TypeInfo) (z:Value) (bytes:Nat) (ht:P.underlying t=some (.slice E)) (hi:P.info? E=some i) (hz:i.zero=some z)
  (hsize:i.size=r.k) (hby:i.bytes=bytes) (hzs:z.cells.size=r.k) (hb1:bytes≤1000) (S:Nat→Prop) (B:Nat) (w:World) (v:Value) (xs:List T) (css:List (List Value)) (ys:List T) (q:Option Addr) (m c:Nat) (hs:a.eval s=v)
  (hO:Own r E S B w v xs css) (hx:a.eval x=.slice q m c) (hY:Sl r (But S v) w (.slice q m c) ys) (h1:∀ S w cs x,r.R S w cs x→∀ u ∈ cs,u.oneCell'=true) (hl:xs.length+ys.length≤1000000) (hB:B≤w)
  (h:∀ p cap A G,Own r E S B G (.slice p (xs.length+ys.length) cap) (xs++ys) A→w.grownBy G v.ownBlock→((Value.slice p (xs.length+ys.length) cap).ownBlock=v.ownBlock∨(Value.slice p (xs.length+ys.length) cap).ownBlock=some w.heap.size)→K (a.put o.dst (.slice p (xs.length+ys.length) cap)) G):
  if Region.wanted o (yielded ops a.tmps)=true then Oper.wp P o a w K Q else X:=by
 have hw:Region.wanted o (yielded ops a.tmps)=true:=by simp [Region.wanted,hgd]
 rw [if_pos hw]
 obtain ⟨p,cap,A,G,D,h2,h3,h4⟩:=run_cat (P:=P) hk t o.type E i z bytes ht hi hz hsize hby hzs hb1 S B w v xs css ys q m c hO hY h1 hl hB
 unfold Oper.wp execOp
 simp only [ho,resolve,invoke,builtin,Sem.run_bind,Sem.run_pure,Result.andThen_ok,List.map_toArray,List.map_cons,List.map_nil,hs,hx,D]
 exact h p cap A G h2 h3 h4
end
theorem U3.at {B:Nat} {w:World} {g n cap:Nat} {l:List Rel} {rvs:List Value} (h:U3 B w (.slice (some ⟨g,0,none⟩) n cap) l rvs) {i:Nat} {r:Rel} {rv:Value} (hi:l[i]?=some r) (hrv:rvs[i]?=some rv):
  ∃ cur,w.heap[g]?=some (.cells cur 70 (0,0))∧cur[i*2]?=some (sv r.table)∧cur[i*2+1]?=some rv:=by
 rcases h.row.2 with ⟨e,_⟩ | ⟨g',G,cur,e,hB,hh,_,_,_,ht⟩
 ·cases e
 simp only [Qr,Zv,Addr.mk.injEq] at e
 obtain ⟨⟨rfl,_⟩,_,rfl⟩:=e
 have hc:=Kr hi hrv
 have h0:=V6 (k:=2) Jm hc (j:=0) (u:=sv r.table) rfl
 have h1:=V6 (k:=2) Jm hc (j:=1) (u:=rv) rfl
 have A:∀ (j:Nat) (u:Value),(Yc l rvs).flatten[j]?=some u→cur[j]?=some u:=by
  intro j u D
  rw [← ht,List.getElem?_take] at D
  split at D
  ·simpa using D
  cases D
 exact ⟨cur,hh,A _ _ h0,A _ _ h1⟩
theorem U3.put' {B:Nat} {w w1:World} {g n cap:Nat} {l:List Rel} {rvs:List Value} {i:Nat} {r:Rel} {rv rv':Value} {zs:List Val} (hn:l.length=n) (h:U3 B w (.slice (some ⟨g,0,none⟩) n cap) l rvs) (hi:l[i]?=some r) (hrv:rvs[i]?=some rv)
  (ho:∃ css,Own Ze 36 (On (.slice (some ⟨g,0,none⟩) n cap) rvs) B w1 rv' zs css) (hg:w.grownBy w1 rv.ownBlock) (hat:rv'.ownBlock=rv.ownBlock∨∀ g',rv'.ownBlock=some g'→w.heap.size≤g'):
  U3 B (w1.setCell ⟨g,i*2+1,none⟩ rv') (.slice (some ⟨g,0,none⟩) n cap) (l.set i ⟨r.table,zs⟩) (rvs.set i rv'):=by
 subst hn
 exact h.put hi hrv ho hg hat
theorem Own.sl' {T:Type} {r:Rd T} {E:TypeId} {S S':Nat→Prop} {B:Nat} {w:World} {v:Value} {xs:List T} {css:List (List Value)} (h:Own r E S B w v xs css) (hl:xs.length≤1000000)
  (h1:∀ b,v.ownBlock=some b→S' b) (h2:∀ b,b<w.heap.size→S b→S' b):Sl r S' w v xs:=by
 rcases h.row.2 with ⟨rfl,h0⟩ | ⟨g,cap,A,rfl,hB,hg,_,_,_,ht⟩
 ·rw [Zy h0];exact Sl.nil _ _ _
 refine Sl.of_css (css:=css) hl (h.cs.move (.refl _ _) (fun b hb h=>h2 b hb h.1)) (h1 g rfl) (Array.getElem?_eq_some_iff.1 hg).1 (fun j u hu=>?_)
 rw [Nat.zero_add];exact E7 hg ht hu
theorem U3.own {B:Nat} {w:World} {v:Value} {l:List Rel} {rvs:List Value} (h:U3 B w v l rvs) (hr:∀ r ∈ l,r.rows.length≤1000000):Own Y7 70 (fun _=>True) B w v l (Yc l rvs):=by
 refine ⟨h.row,⟨Un h.len,fun i c x hc D=>?_⟩⟩
 have hi:=(Qj D).1
 obtain ⟨rv,A⟩:∃ rv,rvs[i]?=some rv:=⟨_,Qx (by rw [h.len];exact hi)⟩
 rw [Kr D A] at hc
 cases hc
 obtain ⟨css,ho⟩:=h.rows i x rv D A
 refine ⟨rv,rfl,h.tl x (Qy D),ho.sl' (hr x (Qy D)) (fun b hb=>⟨trivial,fun e=>?_⟩) (fun b _ hb=>⟨trivial,fun e=>hb.1 e.symm⟩)⟩
 exact Ym h.row ho.row Qqx e.symm hb
theorem Lo:∀ (css:List (List Value)) (i:Nat) (a b b':Value),(∀ c ∈ css,c.length=2)→css[i]?=some [a,b]→css.flatten.set (i*2+1) b'=(css.set i [a,b']).flatten:=by
 intro css
 induction css with
 | nil=>intro i a b b' _ h;simp at h
 | cons c css ih=>
  intro i a b b' hc h
  cases i with
  | zero=>simp at h;subst h;simp
  | succ i=>
   have h2:=hc c Qqk
   have:=ih i a b b' (fun d hd=>hc d (by simp [hd])) (by simpa using h)
   simp only [List.flatten_cons,List.set_cons_succ]
   rw [← this,show (i+1)*2+1=c.length+(i*2+1) by rw [h2];omega,List.set_append_right _ _ (Nat.le_add_right _ _),Nat.add_sub_cancel_left]
theorem He {B:Nat} {w w1:World} {v v1:Value} (hg:w.grownBy w1 v.ownBlock) (hv:∀ g,v.ownBlock=some g→B≤g) (hB:B≤w) (hat:v1.ownBlock=v.ownBlock∨v1.ownBlock=some w.heap.size):Lx B w w1 v v1:=by
 have hb:Below B w w1:=(Qz B w).grown hg hB hv
 refine ⟨hb,hb.size,fun b A D=>hg.block b A (fun e=>D e),?_⟩
 rcases hat with h | h
 ·exact .inl h
 exact .inr ⟨_,h,Q9 _⟩
section
variable {P:Program} {T:Type}
theorem Du (w:World) (base:Nat) (t ty e:TypeId) (i:TypeInfo) (size:Nat) (ht:P.underlying t=some (.slice e)) (hi:P.info? e=some i)
  (v:Value) (n:Nat) (xs:List Value) (hown:w.ownsRow base e size v n xs) (c:Nat):
  (Builtin.append_ #[t,t] ty #[v,.slice none 0 c]).run P w=.ok v w:=by
 rcases hown.2 with ⟨rfl,rfl⟩ | ⟨g,cap,D,rfl,_,_,A,_⟩
 ·simp [Builtin.append_,run_underlying ht,sizeOf,typeInfo,hi,Builtin.lenOf,Builtin.firstCells]
 simp [Builtin.append_,run_underlying ht,sizeOf,typeInfo,hi,Builtin.lenOf,Builtin.firstCells,A,storeCells]
theorem Kd {w:World} {ops:Array Oper} {rest:List Oper} {o:Oper} {a:Act} {Q:Exit→Act→World→Prop} (hgd:o.guard=none) (s x:Operand) (t:TypeId)
  (ho:o.op=.call { callee:=.builtin .append,args:=#[s,x],argTypes:=#[t,t] })
  (base:Nat) (e:TypeId) (i:TypeInfo) (size:Nat) (ht:P.underlying t=some (.slice e)) (hi:P.info? e=some i)
  (v:Value) (n:Nat) (xs:List Value) (hs:a.eval s=v) (hown:w.ownsRow base e size v n xs) (c:Nat) (hx:a.eval x=.slice none 0 c)
  (h:wpList P ops Q rest (a.put o.dst v) w):wpList P ops Q (o::rest) a w:=by
 refine wpList_plain hgd fun K hK=>?_
 have A:=Du (P:=P) w base t o.type e i size ht hi v n xs hown c
 unfold Oper.wp
 simp [execOp,ho,resolve,invoke,builtin,hs,hx,A,Result.andThen]
 exact hK _ _ h
theorem Xj {r:Rd T} (hk:0<r.k) (h1:∀ S w cs x,r.R S w cs x→∀ u ∈ cs,u.oneCell'=true) {ops:Array Oper} {rest:List Oper} {o:Oper} {a:Act} {Q:Exit→Act→World→Prop} (hgd:o.guard=none) (s x:Operand) (t:TypeId)
  (ho:o.op=.call { callee:=.builtin .append,args:=#[s,x],argTypes:=#[t,t] }) (E:TypeId) (i:TypeInfo) (z:Value) (bytes:Nat) (ht:P.underlying t=some (.slice E)) (V:P.info? E=some i) (hz:i.zero=some z)
  (hsize:i.size=r.k) (hby:i.bytes=bytes) (hzs:z.cells.size=r.k) (hb1:bytes≤1000) (S:Nat→Prop) (B:Nat) (w:World) (v:Value) (xs:List T) (css:List (List Value)) (hs:a.eval s=v)
  (hO:Own r E S B w v xs css) (v2:Value) (ys:List T) (hx:a.eval x=v2) (hys:Sl r (But S v) w v2 ys) (n:Nat) (hn:xs.length+ys.length=n) (hl:n≤1000000) (hB:B≤w)
  (h:∀ p cap css' G,Own r E S B G (.slice p n cap) (xs++ys) css'→Lx B w G v (.slice p n cap)→wpList P ops Q rest (a.put o.dst (.slice p n cap)) G):
  wpList P ops Q (o::rest) a w:=by
 subst hn
 have hv:∀ g,v.ownBlock=some g→B≤g:=fun g hg=>(hO.row.lt g hg).1
 have M:∀ J G dss,Cs r (But S v) w dss ys→G.ownsRow B E r.k J (xs.length+ys.length) (css.flatten++dss.flatten)→w.grownBy G v.ownBlock→(J.ownBlock=v.ownBlock∨J.ownBlock=some w.heap.size)→wpList P ops Q rest (a.put o.dst J) G:=by
  intro J G dss U D A I
  have Y:=hO.append U (v':=J) (w2:=G) D A I
  obtain ⟨p,cap,hf⟩:=Y.form
  rw [Ql] at hf
  subst hf
  exact h p cap _ G Y (He A hv hB I)
 by_cases hne:ys=[]
 ·subst hne
  obtain ⟨p,cap,rfl,_⟩:=hys.len
  rcases p with _ | ad
  ·refine Kd hgd s x t ho B E i r.k ht V v xs.length css.flatten hs hO.row cap hx ?_
   refine M v w [] (Cs.nil _ _ _) (by simpa using hO.row) ⟨rfl,rfl,rfl,Q9 _,fun _ _ _=>rfl⟩ (.inl rfl)
  refine wpList_append_own_at (P:=P) (w:=w) hgd s x t ho B E i z r.k bytes ht V hz hsize hby hzs hk v xs.length css.flatten hs hO.row ad 0 cap [] hx Qqk (fun j u N=>by simp at N) (fun u N=>by simp at N) (by unfold maxLen;simp at hl;omega) (by
    have:=Nat.mul_le_mul (show xs.length+0≤1000000 by simpa using hl) hb1
    omega) hB (fun J G D A _ I=>?_)
  exact M J G [] (Cs.nil _ _ _) (by simpa using D) A I
 obtain ⟨p,cap,dss,rfl,U,hb⟩:=hys.css hk
 obtain ⟨b,O,rfl,hS,aC,hc⟩:=hb hne
 refine wpList_append_own_at (P:=P) (w:=w) hgd s x t ho B E i z r.k bytes ht V hz hsize hby hzs hk v xs.length css.flatten hs hO.row ⟨b,O,none⟩ ys.length cap dss.flatten hx U.flat (fun j u N=>?_) (fun u N=>?_) (by unfold maxLen;omega) (by
   have:=Nat.mul_le_mul hl hb1
   omega) hB (fun J G D A _ I=>?_)
 ·rw [show (⟨b,O,none⟩:Addr).add j=⟨b,O+j,none⟩ by unfold Addr.add;split <;> simp_all]
  exact hc j u N
 ·obtain ⟨c,Z,aB⟩:=List.mem_flatten.1 N
  obtain ⟨i,V⟩:=Zk Z
  have aA:=(Qj V).1
  exact h1 _ w c _ (U.R i c _ V (Qx (by rw [← U.len];exact aA))) u aB
 exact M J G dss U D A I
end
theorem Dt (S:Nat→Prop) (v:Value) (l:List Rel) (x:Bs) (w:World) (hs:Sl Y7 S w v l):
  Calls prog 22 #[v,sv x] w fun e w'=>e=.returned (.int .i64 (V5 (fun r=>decide (r.table=x)) l))∧w=w':=by
 obtain ⟨p,cap,rfl,hl⟩:=hs.len
 have HS:=Qq hs
 clear hs
 obtain ⟨n,I⟩:=eX (l.length)
 rw [I] at HS hl;rw [I]
 have HN:=Qq I
 clear I
 obtain ⟨r,J⟩:∃ r,V5 (fun r=>decide (r.table=x)) l=r:=⟨_,rfl⟩
 rw [J]
 have HR:=Qq J
 clear J
 unfold sv
 go_enter func22,ntmps22
 go_wp2_with fail
 go_loop [5] (fun i=>∃ k:Nat,k≤n∧i=.int .i64 k∧Aside (∀ (j:Nat) (y:Rel),j<k→l[j]?=some y→decide (y.table=x)=false)) (fun i=>n - (intOf i).toNat)
 case atStart=>exact ⟨0,Q8 _,rfl,fun j _ hj=>absurd hj (Z6 _)⟩
 obtain ⟨k,hk,rfl,A⟩:=hrel
 by_cases hlt:k<n
 ·have O:(0:Int)≤(k:Int):=Qqj
  have T:(k:Int)<(n:Int):=Qqj
  obtain ⟨y,G⟩:∃ y,l[k]?=some y:=⟨_,Qx (by rw [HN.out];exact hlt)⟩
  obtain ⟨b,U,cs,rfl,_,_,_,⟨rv,rfl,_,_⟩,hc⟩:=HS.out.elem G
  have c0:=hc 0 _ rfl
  rw [show Y7.k=2 from rfl,Nat.add_zero] at c0
  unfold sv at c0
  have HY:=Qq G
  clear G hc
  by_cases he:y.table=x
  ·have hq:(y.table==x)=true:=by rw [he];simp
   have D:r=k:=by rw [← HR.out];exact K8 HY.out (by simp [he]) A.out
   subst D
   have HE:=Qq he
   clear he
   go_wp2_with fail
   go_ret
   exact ⟨rfl,rfl⟩
  have hq:(y.table==x)=false:=by rw [← Qt,beq_iff_eq];exact he
  have HE:=Qq he
  clear he
  go_wp2_with fail
  go_round
  case measure=>simp [intOf];omega
  case rel=>
   refine ⟨k+1,Qqj,by go_num,(show Aside _ from fun j z hj M=>?_)⟩
   by_cases e:j=k
   ·subst e
    have:=HY.out
    rw [this] at M
    cases M
    simpa using HE.out
   exact A.out j z Qqj M
 have N:¬ (k:Int)<(n:Int):=Qqj
 have:k=n:=Qqj
 subst this
 have D:r=-1:=by rw [← HR.out];exact Uc (fun j y G=>A.out j y (by have:=(Qj G).1;have:=HN.out;omega) G)
 subst D
 go_wp2_with fail
 go_ret
 exact ⟨rfl,rfl⟩
def R8 (S:Nat→Prop) (w:World) (rows:List Val) (e:Ending) (w':World):Prop:=∃ p cap,e=.returned (.slice p rows.length cap)∧Sl Ze S w (.slice p rows.length cap) rows∧w=w'
theorem K9 (l:List Rel) (x:Bs):(Ur l x=none∧V5 (fun r=>decide (r.table=x)) l=-1)∨∃ (i:Nat) (r:Rel),Ur l x=some i∧V5 (fun r=>decide (r.table=x)) l=i∧l[i]?=some r:=by
 unfold Ur V5
 cases h:l.findIdx? (fun r=>decide (r.table=x)) with
 | none=>exact .inl ⟨rfl,rfl⟩
 | some i=>
  rw [List.findIdx?_eq_some_iff_getElem] at h
  exact .inr ⟨i,_,rfl,rfl,Qx h.1⟩
theorem Ln (S:Nat→Prop) (v:Value) (l:List Rel) (x:Bs) (w:World) (hs:Sl Y7 S w v l):
  Calls prog 67 #[v,sv x] w (R8 S w (Vb l x)):=by
 have D:=Qq (fun W (h:w=W)=>Dt S v l x W (h ▸ hs))
 rcases K9 l x with ⟨J,I⟩ | ⟨i,r,J,I,M⟩
 ·have G:Vb l x=[]:=by unfold Vb;rw [J]
  rw [G]
  rw [I] at D
  clear J I G
  obtain ⟨p,cap,rfl,hl⟩:=hs.len
  clear hs
  unfold sv at D ⊢
  go_enter func67,ntmps67
  go_wp2_with (go_at_call 22;refine (D.out _ rfl).mono ?_;rintro e w' ⟨rfl,rfl⟩)
  go_ret
  exact ⟨none,0,rfl,Sl.nil _ _ _,rfl⟩
 have G:Vb l x=r.rows:=by unfold Vb;rw [J];simp [M]
 rw [G]
 rw [I] at D
 clear J I G
 obtain ⟨p,cap,rfl,hl⟩:=hs.len
 have Y:=(Qj M).1
 obtain ⟨b,Z,cs,rfl,O,_,_,⟨rv,rfl,_,A⟩,hc⟩:=hs.elem M
 have c1:=hc 1 _ rfl
 rw [show Y7.k=2 from rfl] at c1
 obtain ⟨q,qc,rfl,_⟩:=A.len
 have N:=Qq A
 have T:(0:Int)≤(i:Int):=Qqj
 have U:(i:Int)<(l.length:Int):=Qqj
 have V:decide ((i:Int)<0)=false:=Qqk
 clear hs M hc A
 unfold sv at D ⊢
 go_enter func67,ntmps67
 go_wp2_with (go_at_call 22;refine (D.out _ rfl).mono ?_;rintro e w' ⟨rfl,rfl⟩)
 go_ret
 exact ⟨q,qc,rfl,N.out,rfl⟩
theorem Mo {P:Program} (t e:TypeId) (size:Nat) (hu:P.underlying t=some (.slice e)) (hz:∀ w,(Go.sizeOf e).run P w=.ok size w) (a:Option Addr) (n cap k:Nat) (hk:k≤cap) (w:World):
  (Instr.slice t (.slice a n cap) none (some (.int .i64 (k:Int))) none).run P w=.ok (.slice (if cap=0 then a else a.map (·.add 0)) k cap) w:=by
 have h0:(0:Int)≤(k:Int):=Qqj
 simp [Instr.slice,Instr.sliceBounds,Instr.sliceBound,asIntOf,run_underlying hu,h0,hz,hk,go_sem]
theorem De {P:Program} (t e:TypeId) (size:Nat) (hu:P.underlying t=some (.slice e)) (hz:∀ w,(Go.sizeOf e).run P w=.ok size w) (a:Option Addr) (n cap k:Nat) (hk:k≤n) (w:World):
  (Instr.slice t (.slice a n cap) (some (.int .i64 (k:Int))) none none).run P w=.ok (.slice (if cap=k then a else a.map (·.add (k*size))) (n - k) (cap - k)) w:=by
 have h0:(0:Int)≤(k:Int):=Qqj
 simp [Instr.slice,Instr.sliceBounds,Instr.sliceBound,asIntOf,run_underlying hu,h0,hz,hk,go_sem]
theorem Lv (b off j:Nat):(⟨b,off,none⟩:Addr).add j=⟨b,off+j,none⟩:=by unfold Addr.add;split <;> simp_all
def CapV (v:Value) (n:Nat):Prop:=∃ p cap,v=.slice p n cap∧n≤cap
theorem Sl.empty {T:Type} (r:Rd T) (S:Nat→Prop) (w:World) (p:Option Addr) (c:Nat):Sl r S w (.slice p 0 c) []:=⟨p,c,rfl,Qqk,fun h=>absurd rfl h⟩
theorem Ux {P:Program} {T:Type} {r:Rd T} (t e:TypeId) (hu:P.underlying t=some (.slice e)) (hz:∀ w,(Go.sizeOf e).run P w=.ok r.k w) {S:Nat→Prop} {w:World} {v:Value} {l:List T} (h:Sl r S w v l) (hc:CapV v l.length) (k:Nat) (hk:k≤l.length):
  ∃ V1 V2,(∀ W,(Instr.slice t v none (some (.int .i64 (k:Int))) none).run P W=.ok V1 W)∧(∀ W,(Instr.slice t v (some (.int .i64 (k:Int))) none none).run P W=.ok V2 W)∧Sl r S w V1 (l.take k)∧Sl r S w V2 (l.drop k):=by
 obtain ⟨p,cap,rfl,N⟩:=hc
 refine ⟨_,_,fun W=>Mo t e r.k hu hz p l.length cap k Qqj W,fun W=>De t e r.k hu hz p l.length cap k hk W,?_,?_⟩
 ·by_cases hl:l=[]
  ·subst hl
   obtain rfl:k=0:=by simpa using hk
   exact Sl.empty r S w _ _
  obtain ⟨p',c',D,_,G⟩:=h
  obtain ⟨b,A,I,_,_,_⟩:=G hl
  simp only [Qr] at D
  obtain ⟨rfl,_,rfl⟩:=D
  subst I
  have J:Sl r S w (.slice (some ⟨b,A,none⟩) l.length cap) l:=⟨_,_,rfl,‹_›,G⟩
  have:=J.sub 0 k cap Qqj
  rw [List.drop_zero,Nat.zero_mul,Nat.add_zero] at this
  have e3:(if cap=0 then some (⟨b,A,none⟩:Addr) else (some (⟨b,A,none⟩:Addr)).map (·.add 0))=some ⟨b,A,none⟩:=by
   split
   ·rfl
   simp [Lv]
  rw [e3];exact this
 by_cases hl:l=[]
 ·subst hl
  obtain rfl:k=0:=by simpa using hk
  exact Sl.empty r S w _ _
 obtain ⟨p',c',D,_,G⟩:=h
 obtain ⟨b,A,I,_,_,_⟩:=G hl
 simp only [Qr] at D
 obtain ⟨rfl,_,rfl⟩:=D
 subst I
 have J:Sl r S w (.slice (some ⟨b,A,none⟩) l.length cap) l:=⟨_,_,rfl,‹_›,G⟩
 by_cases hkc:cap=k
 ·have M:k=l.length:=Qqj
  rw [if_pos hkc,M,Nat.sub_self,List.drop_length]
  exact Sl.empty r S w _ _
 rw [if_neg hkc]
 have:=J.sub k (l.length - k) (cap - k) Qqj
 rw [Zj (by rw [Zq];exact Q9 _)] at this
 simp only [Option.map_some,Lv]
 exact this
theorem Bf:∀ {l:List Val} {x:Val} {k:Nat} {y:Val},(∀ (j:Nat) (z:Val),j<k→l[j]?=some z→Yz z x≤0)→l[k]?=some y→¬ Yz y x≤0→U1 l x=k
 | [],_,_,_,_,hy,_=>by simp at hy
 | a::l,x,0,y,_,hy,hc=>by
  simp at hy;subst hy
  unfold U1;rw [List.takeWhile_cons,if_neg (by simpa using hc)];rfl
 | a::l,x,k+1,y,h,hy,hc=>by
  have ha:=h 0 a Qqj rfl
  have:=Bf (l:=l) (x:=x) (k:=k) (y:=y) (fun j z hj hz=>h (j+1) z Qqj (by simpa using hz)) (by simpa using hy) hc
  unfold U1 at this ⊢
  rw [List.takeWhile_cons,if_pos (by simpa using ha),List.length_cons,this]
theorem Er:∀ {l:List Val} {x:Val},(∀ (j:Nat) (z:Val),l[j]?=some z→Yz z x≤0)→U1 l x=l.length
 | [],_,_=>rfl
 | a::l,x,h=>by
  have ha:=h 0 a rfl
  have:=Er (l:=l) (x:=x) (fun j z hz=>h (j+1) z (by simpa using hz))
  unfold U1 at this ⊢
  rw [List.takeWhile_cons,if_pos (by simpa using ha),List.length_cons,this,List.length_cons]
theorem J7 {S S':Nat→Prop} {a b:Val} {p3 k3 p4 k4 q3 l3 q4 l4} {wr:World} (ha:Z9 S wr (vcs a p3 k3 p4 k4) a) (hb:Z9 S' wr (vcs b q3 l3 q4 l4) b):∀ n os,Calls prog 23 #[.agg (Qqg a p3 k3 p4 k4),.agg (Qqg b q3 l3 q4 l4)] (Sort.grow (wr.drewN n) os) fun e w'=>e=.returned (.int .i64 (Yz a b))∧Gr (Sort.grow (wr.drewN n) os) w':=
 fun _ _=>Dv S S' a b (vcs a p3 k3 p4 k4) (vcs b q3 l3 q4 l4) _ (ha.move (.of_below (Yg _ _ _).bl) Qzx) (hb.move (.of_below (Yg _ _ _).bl) Qzx)
theorem rhas_any (S S':Nat→Prop) (v:Value) (l:List Val) (x:Val) (cx:List Value) (w:World) (hs:Sl Ze S w v l) (hx:Z9 S' w cx x):
  Calls prog 106 #[v,cx] w fun e w'=>e=.returned (.bool (La l x))∧Below w w w':=by
 obtain ⟨p,cap,rfl,hl⟩:=hs.len
 obtain ⟨p3,k3,p4,k4,Z,_⟩:=Z9.cells hx
 have aG:=Qq hx
 simp only [vcs] at Z
 subst Z
 have HS:=Qq hs
 have mixed:prog.follows .mixedOrders=true:=Qqy
 obtain ⟨n,hn⟩:=eX (l.length)
 rw [hn] at HS hl ⊢
 have HN:=Qq hn
 obtain ⟨r,hr⟩:=eX (La l x)
 rw [hr]
 have HR:=Qq hr
 clear hr hn hs hx
 go_enter func106,ntmps106
 go_wp2_with fail
 generalize J:w.alloc _=W1
 have Y:=eqB J (Zg _ _)
 have V:=eqH (b:=w.heap.size) J (Qw _ _)
 have aD:=Qq Y;have aF:=Qq V
 clear J Y V
 go_loopw [5] (fun i wr=>∃ k:Nat,k≤n∧i=.int .i64 k∧Aside (∀ (j:Nat) (y:Val),j<k→l[j]?=some y→eqv y x=false)∧Aside (Gr W1 wr)) (fun i _=>n - (intOf i).toNat)
 case atStart=>exact ⟨0,Q8 _,rfl,fun j _ hj=>absurd hj (Z6 _),Gr.refl _⟩
 obtain ⟨k,hk,rfl,A,hG⟩:=hrel
 have HG:=Qq (show Gr W1 wr from hG)
 have I:=Qq (aD.out.thn HG.out.bl)
 have U:=Qq (kB HG.out.bl aF.out)
 clear hG
 by_cases hlt:k<n
 ·have aM:(0:Int)≤(k:Int):=Qqj
  have aN:(k:Int)<(n:Int):=Qqj
  obtain ⟨y,hy⟩:∃ y,l[k]?=some y:=⟨_,Qx (by rw [HN.out];exact hlt)⟩
  obtain ⟨b,aO,q3,l3,q4,l4,rfl,D,aB,d0,d1,d2,d3,d4⟩:=(HS.out.below I.out).val hy
  have N:=J7 aB (aG.out.move (.of_below I.out) Qzx)
  have G:=Z8 U.out
  have D0:=Zs D d0;have D1:=Zs D d1;have D2:=Zs D d2;have D3:=Zs D d3;have D4:=Zs D d4
  obtain ⟨x0,x1,x2,x3,x4⟩:=row5 U.out
  have X0:=Zs G x0;have X1:=Zs G x1;have X2:=Zs G x2;have X3:=Zs G x3;have X4:=Zs G x4
  have M:=Nv y x
  generalize Yz y x=c at N M
  have HY:=Qq hy;have T:=Qq M
  clear hy aB d0 d1 d2 d3 d4 x0 x1 x2 x3 x4 M
  by_cases hq:(c==0)=true
  ·have O:r=true:=by
    rw [← HR.out];unfold La
    exact List.any_eq_true.2 ⟨y,Qy HY.out,by rw [← T.out];exact hq⟩
   subst O
   go_wp2_with fail
   go_quiet_grown (first | (go_at_call 23;refine Calls.grown_of (N _ _)))
   go_wp2_with fail
   go_ret
   exact ⟨rfl,I.out.thn (Yg _ _ _).bl⟩
  have aI:(c==0)=false:=by simpa using hq
  clear hq
  go_wp2_with fail
  go_quiet_grown (first | (go_at_call 23;refine Calls.grown_of (N _ _)))
  go_wp2_with fail
  go_roundw
  case measure=>simp [intOf];omega
  case rel=>
   refine ⟨k+1,Qqj,by go_num,(show Aside _ from fun j z hj hz=>?_),HG.out.thn (Yg _ _ _)⟩
   by_cases e:j=k
   ·subst e
    have:=HY.out
    rw [this] at hz
    cases hz
    rw [← T.out];exact aI
   exact A.out j z Qqj hz
 have aL:¬ (k:Int)<(n:Int):=Qqj
 have:k=n:=Qqj
 subst this
 have O:r=false:=by
  rw [← HR.out];unfold La
  rw [List.any_eq_false]
  intro y hy
  obtain ⟨j,hj⟩:=Zk hy
  rw [A.out j y (by have:=(Qj hj).1;have:=HN.out;omega) hj]
  simp
 subst O
 go_wp2_with fail
 go_ret
 exact ⟨rfl,I.out⟩
def PutIs (S:Nat→Prop) (w:World) (zs:List Val) (e:Ending) (w':World):Prop:=∃ p cap,e=.returned (.slice p zs.length cap)∧zs.length≤cap∧Sl Ze (fun b=>S b∨w≤b) w' (.slice p zs.length cap) zs∧Below w w w'
theorem Own.cap {T:Type} {r:Rd T} {E:TypeId} {S:Nat→Prop} {B:Nat} {w:World} {p:Option Addr} {n cap:Nat} {xs:List T} {css:List (List Value)} (h:Own r E S B w (.slice p n cap) xs css):xs.length=n∧n≤cap:=by
 rcases h.row.2 with ⟨e,h0⟩ | ⟨g,A,D,e,_,_,hc,_⟩
 ·simp only [Qr] at e
  obtain ⟨rfl,rfl,rfl⟩:=e
  exact ⟨h0,Q9 _⟩
 simp only [Qr] at e
 obtain ⟨rfl,rfl,rfl⟩:=e
 exact ⟨rfl,hc⟩
theorem put_any (S:Nat→Prop) (v:Value) (l:List Val) (x:Val) (cx:List Value) (w:World) (hs0:Sl Ze S w v l) (hcv:CapV v l.length) (hx0:Z9 S w cx x) (hl1:l.length≤1000):
  Calls prog 65 #[v,cx] w (PutIs S w (Kj l x)):=by
 have hs:=hs0.up
 have hx:Z9 (fun b=>S b∧b<w) w cx x:=hx0.move (.refl _ _) (fun b hb h=>⟨h,hb⟩)
 clear hs0 hx0
 have bB:=Qq hcv
 obtain ⟨p,cap,rfl,aG⟩:=hcv
 obtain ⟨p3,k3,p4,k4,bW,_⟩:=Z9.cells hx
 have aN:=Qq hx
 have I:=Qq (fun W (hb:Below w w W)=>rhas_any _ _ _ l x cx W (hs.below hb) (hx.move (.of_below hb) Qzx))
 simp only [vcs] at bW
 subst bW
 have HS:=Qq hs
 have mixed:prog.follows .mixedOrders=true:=Qqy
 obtain ⟨i0,j1,j2,j3,j4⟩:=Y9 (P:=prog) (t:=36) (z:=.agg zV) (n:=5) (b:=80) Qqy
 obtain ⟨HJ,aI,aJ,aK⟩:=Qqp j1 j2 j3 j4
 obtain ⟨n,hn⟩:=eX (l.length)
 have Y:=Qq hn
 rw [hn] at HS bB hl1 aG I ⊢
 obtain ⟨r,hr⟩:=eX (La l x)
 have HR:=Qq hr
 rw [hr] at I
 clear hr hn hs hx j1 j2 j3 j4
 go_enter func65,ntmps65
 go_wp2_with fail
 refine (I.out _ (Zg _ _)).mono ?_
 rintro e w1 ⟨rfl,aT⟩
 have aS:=(aT.block w Qqk).trans (Qw _ _)
 have aH:=Qq ((Zg w _).thn aT);have dC:=Qq aS
 have dP:w.heap.size<w1.heap.size:=Z8 aS
 clear aT aS I
 cases r with
 | true=>
  go_wp2_with fail
  go_ret
  have hp:Kj l x=l:=by unfold Kj;rw [HR.out];rfl
  unfold PutIs
  rw [hp,Y.out]
  exact ⟨p,cap,rfl,aG,(HS.out.mono (fun b _ h=>.inl h.1)).below aH.out,aH.out⟩
 | false=>
  go_wp2_with fail
  go_loopw [6] (fun i wr=>∃ k:Nat,k≤n∧i=.int .i64 k∧Aside (∀ (j:Nat) (y:Val),j<k→l[j]?=some y→Yz y x≤0)∧Aside (Gr w1 wr)) (fun i _=>n - (intOf i).toNat)
  case atStart=>exact ⟨0,Q8 _,rfl,fun j _ hj=>absurd hj (Z6 _),Gr.refl _⟩
  obtain ⟨k,hk,rfl,A,hG⟩:=hrel
  have HG:=Qq (show Gr w1 wr from hG)
  have O:=Qq (aH.out.thn HG.out.bl)
  have aO:=Qq (kB HG.out.bl dC.out)
  clear hG
  have M:=Z8 aO.out
  obtain ⟨x0,x1,x2,x3,x4⟩:=row5 aO.out
  have X0:=Zs M x0;have X1:=Zs M x1;have X2:=Zs M x2;have X3:=Zs M x3;have X4:=Zs M x4
  clear x0 x1 x2 x3 x4
  have aV:(∃ y,l[k]?=some y∧Yz y x≤0)∨(U1 l x=k∧((∃ y,l[k]?=some y∧¬ Yz y x≤0)∨k=n)):=by
   by_cases G:k<n
   ·obtain ⟨y,N⟩:∃ y,l[k]?=some y:=⟨_,Qx (by rw [Y.out];exact G)⟩
    by_cases Z:Yz y x≤0
    ·exact .inl ⟨y,N,Z⟩
    exact .inr ⟨Bf A.out N Z,.inl ⟨y,N,Z⟩⟩
   have aE:k=n:=Qqj
   refine .inr ⟨?_,.inr aE⟩
   rw [aE,← Y.out]
   exact Er (fun j z hz=>A.out j z (by have:=(Qj hz).1;have:=Y.out;omega) hz)
  rcases aV with ⟨y,N,Z⟩ | ⟨cD,aV⟩
  ·have G:k<n:=by have:=(Qj N).1;have:=Y.out;omega
   have bY:(0:Int)≤(k:Int):=Qqj
   have bZ:(k:Int)<(n:Int):=Qqj
   have aD:decide (k<n)=true:=by simpa using G
   obtain ⟨b,dJ,q3,l3,q4,l4,rfl,D,V,d0,d1,d2,d3,d4⟩:=(HS.out.below O.out).val N
   have J:=J7 V (aN.out.move (.of_below O.out) Qzx)
   have D0:=Zs D d0;have D1:=Zs D d1;have D2:=Zs D d2;have D3:=Zs D d3;have D4:=Zs D d4
   have cR:=Qq Z
   have hq:decide (Yz y x≤0)=true:=by simpa using Z
   generalize aC:Yz y x=c at J hq
   have HY:=Qq N;have dS:=Qq aC
   clear N V d0 d1 d2 d3 d4 Z aC G
   go_wp2_with fail
   go_quiet_grown (first | (go_at_call 23;refine Calls.grown_of (J _ _)))
   go_wp2_with fail
   go_roundw
   case measure=>simp [intOf];omega
   case rel=>
    refine ⟨k+1,Qqj,by go_num,(show Aside _ from fun j z hj hz=>?_),HG.out.thn (Yg _ _ _)⟩
    by_cases e:j=k
    ·subst e
     have:=HY.out
     rw [this] at hz
     cases hz
     exact cR.out
    exact A.out j z Qqj hz
  obtain ⟨V1,V2,dT,dU,bS,bT⟩:=Ux (P:=prog) 34 36 underlying34 sizeOf36 HS.out (by rw [Y.out];exact bB.out) k (by rw [Y.out];exact hk)
  obtain ⟨dA,dB,cZ⟩:=Qqo bS bT cD
  clear bS bT cD
  have dE:k≤l.length:=by rw [Y.out];exact hk
  have cF:(l.take k).length=k:=by rw [Qm];omega
  have bX:(l.drop k).length=n - k:=by rw [Zq,Y.out]
  have aM:=Qq cF;have cS:=Qq bX
  clear cF bX dE
  rcases aV with ⟨y,N,Z⟩ | aE
  focus
   have G:k<n:=by have:=(Qj N).1;have:=Y.out;omega
   have bY:(0:Int)≤(k:Int):=Qqj
   have bZ:(k:Int)<(n:Int):=Qqj
   have aD:decide (k<n)=true:=by simpa using G
   obtain ⟨b,dJ,q3,l3,q4,l4,rfl,D,V,d0,d1,d2,d3,d4⟩:=(HS.out.below O.out).val N
   have J:=J7 V (aN.out.move (.of_below O.out) Qzx)
   have D0:=Zs D d0;have D1:=Zs D d1;have D2:=Zs D d2;have D3:=Zs D d3;have D4:=Zs D d4
   have hq:decide (Yz y x≤0)=false:=by simpa using Z
   generalize aC:Yz y x=c at J hq
   clear N V d0 d1 d2 d3 d4 Z aC G
   go_wp2_with fail
   go_quiet_grown (first | (go_at_call 23;refine Calls.grown_of (J _ _)))
   clear D0 D1 D2 D3 D4 J hq bY bZ aD
  rotate_left
  focus
   have aD:decide (k<n)=false:=by simp;omega
   clear aE
   go_wp2_with fail
   go_quiet_grown (fail)
   clear aD
  all_goals
   generalize bU:Sort.grow (wr.drewN nq) osq=W3
   have aU:Below wr wr W3:=by rw [← bU];exact (Yg _ _ _).bl
   have aY:=Qq (O.out.thn aU);have bF:=Qq (kE aU M aO.out)
   have cE:w.heap.size<W3.heap.size:=Z8 bF.out
   have bO:Sl Ze (But (fun b=>S b∧b<w) (.slice none 0 0)) W3 V1 (l.take k):=(dA.out.mono (S':=But (fun b=>S b∧b<w) (.slice none 0 0)) (fun b _ h=>⟨h,fun e=>by cases e⟩)).below aY.out
   have cP:=Qq bO
   have cB:([]:List Val).length+(l.take k).length=k:=by rw [aM.out];simp
   have cW:=Qq cB
   clear bU aU X0 X1 X2 X3 X4 bO cB
   go_upto_region 9 with (at_builtin;refine Xj (r:=Ze) Qqx Xw rfl (.tmp 28) (.tmp 31) _ rfl 36 i0 (.agg zV) 80 underlying34 HJ.out aI.out aJ.out aK.out rfl Qqj (fun b=>S b∧b<w) (w+1) W3 (.slice none 0 0) [] [] rfl (Own.nil _ _ _ _ _) V1 (l.take k) rfl cP.out k cW.out Qqj Qqj ?_;intro cG bG bH w4 aB aA)
   rw [List.nil_append] at aB
   have bV:=(aA.other w cE (fun e=>by cases e)).trans bF.out
   obtain ⟨x0,x1,x2,x3,x4⟩:=row5 bV
   have T:Below w w w4:=aY.out.trans (aA.below.mono Qqj)
   have dQ:=aA.size
   have aF:Ze.R (But (fun b=>S b∧b<w) (.slice cG k bG)) w4 (Qqg x p3 k3 p4 k4) x:=Z9.move aN.out (.of_below T) (fun b hb h=>⟨h,fun e=>by have:=(aB.row.lt b e.symm).1;omega⟩)
   obtain ⟨cX,aZ,bE⟩:=Qqo aB T aF
   clear aB aA bV T aF
   go_upto_region 10 with (at_builtin;refine Yl (r:=Ze) Qqx rfl (.tmp 33) (.tmp 35) _ rfl 36 i0 (.agg zV) 80 underlying34 HJ.out aI.out aJ.out aK.out rfl Qqj (fun b=>S b∧b<w) (w+1) w4 (.slice cG k bG) (l.take k) bH (Qqg x p3 k3 p4 k4) x rfl cX.out rfl bE.out (by simp [Value.oneCell']) k aM.out Qqj Qqj ?_;intro aW aP bI w5 aR aQ)
   have U:Below w w w5:=aZ.out.trans (aQ.below.mono Qqj)
   have dR:=aQ.size
   have bP:Sl Ze (But (fun b=>S b∧b<w) (.slice aW (k+1) aP)) w5 V2 (l.drop k):=(dB.out.mono (S':=But (fun b=>S b∧b<w) (.slice aW (k+1) aP)) (fun b hb h=>⟨h,fun e=>by have:=(aR.row.lt b e.symm).1;omega⟩)).below U
   have cC:(l.take k++[x]).length+(l.drop k).length=n+1:=by rw [Ql,aM.out,cS.out];simp;omega
   obtain ⟨aL,cQ,cY,bA⟩:=Qqp cC bP aR U
   clear x0 x1 x2 x3 x4 aR aQ U bP cC
   go_wp2_with (at_builtin;refine Xj (r:=Ze) Qqx Xw rfl (.tmp 37) (.tmp 40) _ rfl 36 i0 (.agg zV) 80 underlying34 HJ.out aI.out aJ.out aK.out rfl Qqj (fun b=>S b∧b<w) (w+1) w5 (.slice aW (k+1) aP) (l.take k++[x]) bI rfl cY.out V2 (l.drop k) rfl cQ.out (n+1) aL.out Qqj Qqj ?_;intro dK dD dO w6 bR bQ;have bC:=Qq bR;have cV:=Qq bQ;clear bR bQ)
   go_ret
   have hp:Kj l x=(l.take k++[x])++l.drop k:=by unfold Kj;rw [HR.out,cZ.out];simp
   have cA:(Kj l x).length=n+1:=by rw [hp,Ql];exact aL.out
   unfold PutIs
   rw [cA,hp]
   refine ⟨dK,dD,rfl,bC.out.cap.2,?_,bA.out.trans (cV.out.below.mono Qqj)⟩
   exact bC.out.sl (by rw [Ql,aL.out];omega) (fun b hb=>.inr Qqj) (fun b _ h=>.inl h.1)
end Go.Proofs.YtdpibdpbgokmoaaGreatDoor
