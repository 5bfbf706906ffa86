import Derived.Test.YtdpibdpbgokmoaaGreatDoorA15
set_option maxRecDepth 100000
set_option maxHeartbeats 400000000
namespace Go.Proofs.YtdpibdpbgokmoaaGreatDoor
open Go.RowKit Go.Shelf Go.Lib Tryz
theorem Ud.at {B:Nat} {w:World} {g n cap:Nat} {l:List Rel} {rvs:List Value} (h:Ud B w (.slice (some ⟨g,0,none⟩) n cap) l rvs) {i:Nat} {r:Rel} {rv:Value} (hi:l[i]?=some r) (hrv:rvs[i]?=some rv):
  ∃ cur,w.heap[g]?=some (.cells cur 70 (0,0))/\cur[i*2]?=some (sv r.table)/\cur[i*2+1]?=some rv:=by
 rcases h.row.2 with ⟨e,_⟩ | ⟨g',G,cur,e,hB,hh,_,_,_,ht⟩
 ·cases e
 simp only [Qr,Zv,Addr.mk.injEq] at e
 obtain ⟨⟨rfl,_⟩,_,rfl⟩:=e
 have hc:=Dv hi hrv
 have h0:=Vg (k:=2) Ka hc (j:=0) (u:=sv r.table) rfl
 have h1:=Vg (k:=2) Ka hc (j:=1) (u:=rv) rfl
 have A:∀ (j:Nat) (u:Value),(Yc l rvs).flatten[j]?=some u->cur[j]?=some u:=by
  intro j u D
  rw [<- ht,List.getElem?_take] at D
  split at D
  ·simpa using D
  cases D
 exact ⟨cur,hh,A _ _ h0,A _ _ h1⟩
theorem Ud.put' {B:Nat} {w w1:World} {g n cap:Nat} {l:List Rel} {rvs:List Value} {i:Nat} {r:Rel} {rv rv':Value} {zs:List Val} (hn:l.length=n) (h:Ud B w (.slice (some ⟨g,0,none⟩) n cap) l rvs) (hi:l[i]?=some r) (hrv:rvs[i]?=some rv)
  (ho:∃ css,Own Zc 36 (Ll (.slice (some ⟨g,0,none⟩) n cap) rvs) B w1 rv' zs css) (hg:w.grownBy w1 rv.ownBlock) (hat:rv'.ownBlock=rv.ownBlock\/∀ g',rv'.ownBlock=some g'->w.heap.size<=g'):
  Ud B (w1.setCell ⟨g,i*2+1,none⟩ rv') (.slice (some ⟨g,0,none⟩) n cap) (l.set i ⟨r.table,zs⟩) (rvs.set i rv'):=by
 subst hn
 exact h.put hi hrv ho hg hat
theorem Own.sl' {T:Type} {r:Rd T} {E:TypeId} {S S':Nat->Prop} {B:Nat} {w:World} {v:Value} {xs:List T} {css:List (List Value)} (h:Own r E S B w v xs css) (hl:xs.length<=1000000)
  (h1:∀ b,v.ownBlock=some b->S' b) (h2:∀ b,b<w.heap.size->S b->S' b):Sl r S' w v xs:=by
 rcases h.row.2 with ⟨rfl,h0⟩ | ⟨g,cap,A,rfl,hB,hg,_,_,_,ht⟩
 ·rw [Zy h0];exact Sl.nil _ _ _
 refine Sl.of_css (css:=css) hl (h.cs.move (.refl _ _) (λb hb h=>h2 b hb h.1)) (h1 g rfl) (Array.getElem?_eq_some_iff.1 hg).1 (λj u hu=>?_)
 rw [Nat.zero_add];exact Hw hg ht hu
theorem Ud.own {B:Nat} {w:World} {v:Value} {l:List Rel} {rvs:List Value} (h:Ud B w v l rvs) (hr:∀ r ∈ l,r.rows.length<=1000000):Own Yk 70 (λ_=>True) B w v l (Yc l rvs):=by
 refine ⟨h.row,⟨J1 h.len,λi c x hc D=>?_⟩⟩
 have hi:=(Qj D).1
 obtain ⟨rv,A⟩:∃ rv,rvs[i]?=some rv:=⟨_,Qx (by rw [h.len];exact hi)⟩
 rw [Dv D A] at hc
 cases hc
 obtain ⟨css,ho⟩:=h.rows i x rv D A
 refine ⟨rv,rfl,h.tl x (Qy D),ho.sl' (hr x (Qy D)) (λb hb=>⟨trivial,λe=>?_⟩) (λb _ hb=>⟨trivial,λe=>hb.1 e.symm⟩)⟩
 exact Yl h.row ho.row Ih e.symm hb
theorem Ny:∀ (css:List (List Value)) (i:Nat) (a b b':Value),(∀ c ∈ css,c.length=2)->css[i]?=some [a,b]->css.flatten.set (i*2+1) b'=(css.set i [a,b']).flatten:=by
 intro css
 induction css with
 | nil=>intro i a b b' _ h;simp at h
 | cons c css ih=>
  intro i a b b' hc h
  cases i with
  | zero=>simp at h;subst h;simp
  | succ i=>
   have h2:=hc c Ib
   have:=ih i a b b' (λd hd=>hc d (by simp [hd])) (by simpa using h)
   simp only [List.flatten_cons,List.set_cons_succ]
   rw [<- this,show (i+1)*2+1=c.length+(i*2+1) by rw [h2];omega,List.set_append_right _ _ (Nat.le_add_right _ _),Nat.add_sub_cancel_left]
theorem Mx {B:Nat} {w w1:World} {v v1:Value} (hg:w.grownBy w1 v.ownBlock) (hv:∀ g,v.ownBlock=some g->B<=g) (hB:B<=w) (hat:v1.ownBlock=v.ownBlock\/v1.ownBlock=some w.heap.size):M8 B w w1 v v1:=by
 have hb:Below B w w1:=(Qz B w).grown hg hB hv
 refine ⟨hb,hb.size,λb A D=>hg.block b A (λe=>D e),?_⟩
 rcases hat with h | h
 ·exact .inl h
 exact .inr ⟨_,h,Q9 _⟩
section
variable {P:Program} {T:Type}
theorem Fe (w:World) (base:Nat) (t ty e:TypeId) (i:TypeInfo) (size:Nat) (ht:P.underlying t=some (.slice e)) (hi:P.info? e=some i)
  (v:Value) (n:Nat) (xs:List Value) (hown:w.ownsRow base e size v n xs) (c:Nat):
  (Builtin.append_ #[t,t] ty #[v,.slice none 0 c]).run P w=.ok v w:=by
 rcases hown.2 with ⟨rfl,rfl⟩ | ⟨g,cap,D,rfl,_,_,A,_⟩
 ·simp [Builtin.append_,run_underlying ht,sizeOf,typeInfo,hi,Builtin.lenOf,Builtin.firstCells]
 simp [Builtin.append_,run_underlying ht,sizeOf,typeInfo,hi,Builtin.lenOf,Builtin.firstCells,A,storeCells]
theorem Dx {w:World} {ops:Array Oper} {rest:List Oper} {o:Oper} {a:Act} {Q:Exit->Act->World->Prop} (hgd:o.guard=none) (s x:Operand) (t:TypeId)
  (ho:o.op=.call { callee:=.builtin .append,args:=#[s,x],argTypes:=#[t,t] })
  (base:Nat) (e:TypeId) (i:TypeInfo) (size:Nat) (ht:P.underlying t=some (.slice e)) (hi:P.info? e=some i)
  (v:Value) (n:Nat) (xs:List Value) (hs:a.eval s=v) (hown:w.ownsRow base e size v n xs) (c:Nat) (hx:a.eval x=.slice none 0 c)
  (h:wpList P ops Q rest (a.put o.dst v) w):wpList P ops Q (o::rest) a w:=by
 refine wpList_plain hgd λK hK=>?_
 have A:=Fe (P:=P) w base t o.type e i size ht hi v n xs hown c
 unfold Oper.wp
 simp [execOp,ho,resolve,invoke,builtin,hs,hx,A,Result.andThen]
 exact hK _ _ h
theorem Xg {r:Rd T} (hk:0<r.k) (h1:∀ S w cs x,r.R S w cs x->∀ u ∈ cs,u.oneCell'=true) {ops:Array Oper} {rest:List Oper} {o:Oper} {a:Act} {Q:Exit->Act->World->Prop} (hgd:o.guard=none) (s x:Operand) (t:TypeId)
  (ho:o.op=.call { callee:=.builtin .append,args:=#[s,x],argTypes:=#[t,t] }) (E:TypeId) (i:TypeInfo) (z:Value) (bytes:Nat) (ht:P.underlying t=some (.slice E)) (V:P.info? E=some i) (hz:i.zero=some z)
  (hsize:i.size=r.k) (hby:i.bytes=bytes) (hzs:z.cells.size=r.k) (hb1:bytes<=1000) (S:Nat->Prop) (B:Nat) (w:World) (v:Value) (xs:List T) (css:List (List Value)) (hs:a.eval s=v)
  (hO:Own r E S B w v xs css) (v2:Value) (ys:List T) (hx:a.eval x=v2) (hys:Sl r (But S v) w v2 ys) (n:Nat) (hn:xs.length+ys.length=n) (hl:n<=1000000) (hB:B<=w)
  (h:∀ p cap css' G,Own r E S B G (.slice p n cap) (xs++ys) css'->M8 B w G v (.slice p n cap)->wpList P ops Q rest (a.put o.dst (.slice p n cap)) G):
  wpList P ops Q (o::rest) a w:=by
 subst hn
 have hv:∀ g,v.ownBlock=some g->B<=g:=λg hg=>(hO.row.lt g hg).1
 have M:∀ J G dss,Cs r (But S v) w dss ys->G.ownsRow B E r.k J (xs.length+ys.length) (css.flatten++dss.flatten)->w.grownBy G v.ownBlock->(J.ownBlock=v.ownBlock\/J.ownBlock=some w.heap.size)->wpList P ops Q rest (a.put o.dst J) G:=by
  intro J G dss U D A I
  have Y:=hO.append U (v':=J) (w2:=G) D A I
  obtain ⟨p,cap,hf⟩:=Y.form
  rw [Ql] at hf
  subst hf
  exact h p cap _ G Y (Mx A hv hB I)
 by_cases hne:ys=[]
 ·subst hne
  obtain ⟨p,cap,rfl,_⟩:=hys.len
  rcases p with _ | ad
  ·refine Dx hgd s x t ho B E i r.k ht V v xs.length css.flatten hs hO.row cap hx ?_
   refine M v w [] (Cs.nil _ _ _) (by simpa using hO.row) ⟨rfl,rfl,rfl,Q9 _,λ_ _ _=>rfl⟩ (.inl rfl)
  refine wpList_append_own_at (P:=P) (w:=w) hgd s x t ho B E i z r.k bytes ht V hz hsize hby hzs hk v xs.length css.flatten hs hO.row ad 0 cap [] hx Ib (λj u N=>by simp at N) (λu N=>by simp at N) (by unfold maxLen;simp at hl;omega) (by
    have:=Nat.mul_le_mul (show xs.length+0<=1000000 by simpa using hl) hb1
    omega) hB (λJ G D A _ I=>?_)
  exact M J G [] (Cs.nil _ _ _) (by simpa using D) A I
 obtain ⟨p,cap,dss,rfl,U,hb⟩:=hys.css hk
 obtain ⟨b,O,rfl,hS,aC,hc⟩:=hb hne
 refine wpList_append_own_at (P:=P) (w:=w) hgd s x t ho B E i z r.k bytes ht V hz hsize hby hzs hk v xs.length css.flatten hs hO.row ⟨b,O,none⟩ ys.length cap dss.flatten hx U.flat (λj u N=>?_) (λu N=>?_) (by unfold maxLen;omega) (by
   have:=Nat.mul_le_mul hl hb1
   omega) hB (λJ G D A _ I=>?_)
 ·rw [show (⟨b,O,none⟩:Addr).add j=⟨b,O+j,none⟩ by unfold Addr.add;split <;> simp_all]
  exact hc j u N
 ·obtain ⟨c,Z,aB⟩:=List.mem_flatten.1 N
  obtain ⟨i,V⟩:=Zk Z
  have aA:=(Qj V).1
  exact h1 _ w c _ (U.R i c _ V (Qx (by rw [<- U.len];exact aA))) u aB
 exact M J G dss U D A I
end
theorem Mn (S:Nat->Prop) (v:Value) (l:List Rel) (x:Bs) (w:World) (hs:Sl Yk S w v l):
  Calls prog 22 #[v,sv x] w λe w'=>e=.returned (.int .i64 (X8 (λr=>decide (r.table=x)) l))/\w=w':=by
 obtain ⟨p,cap,rfl,hl⟩:=hs.len
 have HS:=Qq hs
 clear hs
 obtain ⟨n,I⟩:=eX (l.length)
 rw [I] at HS hl;rw [I]
 have HN:=Qq I
 clear I
 obtain ⟨r,J⟩:∃ r,X8 (λr=>decide (r.table=x)) l=r:=⟨_,rfl⟩
 rw [J]
 have HR:=Qq J
 clear J
 unfold sv
 go_enter func22,ntmps22
 go_wp2_with fail
 go_loop [5] (λi=>∃ k:Nat,k<=n/\i=.int .i64 k/\Aside (∀ (j:Nat) (y:Rel),j<k->l[j]?=some y->decide (y.table=x)=false)) (λi=>n - (intOf i).toNat)
 case atStart=>exact ⟨0,Q8 _,rfl,λj _ hj=>absurd hj (Z6 _)⟩
 obtain ⟨k,hk,rfl,A⟩:=hrel
 by_cases hlt:k<n
 ·have O:(0:Int)<=(k:Int):=Ia
  have T:(k:Int)<(n:Int):=Ia
  obtain ⟨y,G⟩:∃ y,l[k]?=some y:=⟨_,Qx (by rw [HN.o];exact hlt)⟩
  obtain ⟨b,U,cs,rfl,_,_,_,⟨rv,rfl,_,_⟩,hc⟩:=HS.o.elem G
  have c0:=hc 0 _ rfl
  rw [show Yk.k=2 from rfl,Nat.add_zero] at c0
  unfold sv at c0
  have HY:=Qq G
  clear G hc
  by_cases he:y.table=x
  ·have hq:(y.table==x)=true:=by rw [he];simp
   have D:r=k:=by rw [<- HR.o];exact Jk HY.o (by simp [he]) A.o
   subst D
   have HE:=Qq he
   clear he
   go_wp2_with fail
   go_ret
   exact ⟨rfl,rfl⟩
  have hq:(y.table==x)=false:=by rw [<- Qt,beq_iff_eq];exact he
  have HE:=Qq he
  clear he
  go_wp2_with fail
  go_round
  case measure=>simp [intOf];omega
  case rel=>
   refine ⟨k+1,Ia,by go_num,(show Aside _ from λj z hj M=>?_)⟩
   by_cases e:j=k
   ·subst e
    have:=HY.o
    rw [this] at M
    cases M
    simpa using HE.o
   exact A.o j z Ia M
 have N:¬ (k:Int)<(n:Int):=Ia
 have:k=n:=Ia
 subst this
 have D:r=-1:=by rw [<- HR.o];exact U9 (λj y G=>A.o j y (by have:=(Qj G).1;have:=HN.o;omega) G)
 subst D
 go_wp2_with fail
 go_ret
 exact ⟨rfl,rfl⟩
def RowsIs (S:Nat->Prop) (w:World) (rows:List Val) (e:Ending) (w':World):Prop:=∃ p cap,e=.returned (.slice p rows.length cap)/\Sl Zc S w (.slice p rows.length cap) rows/\w=w'
theorem Fc (l:List Rel) (x:Bs):(Yr l x=none/\X8 (λr=>decide (r.table=x)) l=-1)\/∃ (i:Nat) (r:Rel),Yr l x=some i/\X8 (λr=>decide (r.table=x)) l=i/\l[i]?=some r:=by
 unfold Yr X8
 cases h:l.findIdx? (λr=>decide (r.table=x)) with
 | none=>exact .inl ⟨rfl,rfl⟩
 | some i=>
  rw [List.findIdx?_eq_some_iff_getElem] at h
  exact .inr ⟨i,_,rfl,rfl,Qx h.1⟩
theorem N9 (S:Nat->Prop) (v:Value) (l:List Rel) (x:Bs) (w:World) (hs:Sl Yk S w v l):
  Calls prog 67 #[v,sv x] w (RowsIs S w (Yg l x)):=by
 have D:=Qq (λW (h:w=W)=>Mn S v l x W (h ▸ hs))
 rcases Fc l x with ⟨J,I⟩ | ⟨i,r,J,I,M⟩
 ·have G:Yg l x=[]:=by unfold Yg;rw [J]
  rw [G]
  rw [I] at D
  clear J I G
  obtain ⟨p,cap,rfl,hl⟩:=hs.len
  clear hs
  unfold sv at D |-
  go_enter func67,ntmps67
  go_wp2_with (go_at_call 22;refine (D.o _ rfl).mono ?_;rintro e w' ⟨rfl,rfl⟩)
  go_ret
  exact ⟨none,0,rfl,Sl.nil _ _ _,rfl⟩
 have G:Yg l x=r.rows:=by unfold Yg;rw [J];simp [M]
 rw [G]
 rw [I] at D
 clear J I G
 obtain ⟨p,cap,rfl,hl⟩:=hs.len
 have Y:=(Qj M).1
 obtain ⟨b,Z,cs,rfl,O,_,_,⟨rv,rfl,_,A⟩,hc⟩:=hs.elem M
 have c1:=hc 1 _ rfl
 rw [show Yk.k=2 from rfl] at c1
 obtain ⟨q,qc,rfl,_⟩:=A.len
 have N:=Qq A
 have T:(0:Int)<=(i:Int):=Ia
 have U:(i:Int)<(l.length:Int):=Ia
 have V:decide ((i:Int)<0)=false:=Ib
 clear hs M hc A
 unfold sv at D |-
 go_enter func67,ntmps67
 go_wp2_with (go_at_call 22;refine (D.o _ rfl).mono ?_;rintro e w' ⟨rfl,rfl⟩)
 go_ret
 exact ⟨q,qc,rfl,N.o,rfl⟩
theorem Ok {P:Program} (t e:TypeId) (size:Nat) (hu:P.underlying t=some (.slice e)) (hz:∀ w,(Go.sizeOf e).run P w=.ok size w) (a:Option Addr) (n cap k:Nat) (hk:k<=cap) (w:World):
  (Instr.slice t (.slice a n cap) none (some (.int .i64 (k:Int))) none).run P w=.ok (.slice (if cap=0 then a else a.map (·.add 0)) k cap) w:=by
 have h0:(0:Int)<=(k:Int):=Ia
 simp [Instr.slice,Instr.sliceBounds,Instr.sliceBound,asIntOf,run_underlying hu,h0,hz,hk,go_sem]
theorem Df {P:Program} (t e:TypeId) (size:Nat) (hu:P.underlying t=some (.slice e)) (hz:∀ w,(Go.sizeOf e).run P w=.ok size w) (a:Option Addr) (n cap k:Nat) (hk:k<=n) (w:World):
  (Instr.slice t (.slice a n cap) (some (.int .i64 (k:Int))) none none).run P w=.ok (.slice (if cap=k then a else a.map (·.add (k*size))) (n - k) (cap - k)) w:=by
 have h0:(0:Int)<=(k:Int):=Ia
 simp [Instr.slice,Instr.sliceBounds,Instr.sliceBound,asIntOf,run_underlying hu,h0,hz,hk,go_sem]
theorem Hl (b off j:Nat):(⟨b,off,none⟩:Addr).add j=⟨b,off+j,none⟩:=by unfold Addr.add;split <;> simp_all
def CapV (v:Value) (n:Nat):Prop:=∃ p cap,v=.slice p n cap/\n<=cap
theorem Sl.empty {T:Type} (r:Rd T) (S:Nat->Prop) (w:World) (p:Option Addr) (c:Nat):Sl r S w (.slice p 0 c) []:=⟨p,c,rfl,Ib,λh=>absurd rfl h⟩
theorem Jz {P:Program} {T:Type} {r:Rd T} (t e:TypeId) (hu:P.underlying t=some (.slice e)) (hz:∀ w,(Go.sizeOf e).run P w=.ok r.k w) {S:Nat->Prop} {w:World} {v:Value} {l:List T} (h:Sl r S w v l) (hc:CapV v l.length) (k:Nat) (hk:k<=l.length):
  ∃ V1 V2,(∀ W,(Instr.slice t v none (some (.int .i64 (k:Int))) none).run P W=.ok V1 W)/\(∀ W,(Instr.slice t v (some (.int .i64 (k:Int))) none none).run P W=.ok V2 W)/\Sl r S w V1 (l.take k)/\Sl r S w V2 (l.drop k):=by
 obtain ⟨p,cap,rfl,N⟩:=hc
 refine ⟨_,_,λW=>Ok t e r.k hu hz p l.length cap k Ia W,λW=>Df t e r.k hu hz p l.length cap k hk W,?_,?_⟩
 ·by_cases hl:l=[]
  ·subst hl
   obtain rfl:k=0:=by simpa using hk
   exact Sl.empty r S w _ _
  obtain ⟨p',c',D,_,G⟩:=h
  obtain ⟨b,A,I,_,_,_⟩:=G hl
  simp only [Qr] at D
  obtain ⟨rfl,_,rfl⟩:=D
  subst I
  have J:Sl r S w (.slice (some ⟨b,A,none⟩) l.length cap) l:=⟨_,_,rfl,‹_›,G⟩
  have:=J.sub 0 k cap Ia
  rw [List.drop_zero,Nat.zero_mul,Nat.add_zero] at this
  have e3:(if cap=0 then some (⟨b,A,none⟩:Addr) else (some (⟨b,A,none⟩:Addr)).map (·.add 0))=some ⟨b,A,none⟩:=by
   split
   ·rfl
   simp [Hl]
  rw [e3];exact this
 by_cases hl:l=[]
 ·subst hl
  obtain rfl:k=0:=by simpa using hk
  exact Sl.empty r S w _ _
 obtain ⟨p',c',D,_,G⟩:=h
 obtain ⟨b,A,I,_,_,_⟩:=G hl
 simp only [Qr] at D
 obtain ⟨rfl,_,rfl⟩:=D
 subst I
 have J:Sl r S w (.slice (some ⟨b,A,none⟩) l.length cap) l:=⟨_,_,rfl,‹_›,G⟩
 by_cases hkc:cap=k
 ·have M:k=l.length:=Ia
  rw [if_pos hkc,M,Nat.sub_self,List.drop_length]
  exact Sl.empty r S w _ _
 rw [if_neg hkc]
 have:=J.sub k (l.length - k) (cap - k) Ia
 rw [Zj (by rw [Zq];exact Q9 _)] at this
 simp only [Option.map_some,Hl]
 exact this
theorem Em:∀ {l:List Val} {x:Val} {k:Nat} {y:Val},(∀ (j:Nat) (z:Val),j<k->l[j]?=some z->Zu z x<=0)->l[k]?=some y->¬ Zu y x<=0->Xq l x=k
 | [],_,_,_,_,hy,_=>by simp at hy
 | a::l,x,0,y,_,hy,hc=>by
  simp at hy;subst hy
  unfold Xq;rw [List.takeWhile_cons,if_neg (by simpa using hc)];rfl
 | a::l,x,k+1,y,h,hy,hc=>by
  have ha:=h 0 a Ia rfl
  have:=Em (l:=l) (x:=x) (k:=k) (y:=y) (λj z hj hz=>h (j+1) z Ia (by simpa using hz)) (by simpa using hy) hc
  unfold Xq at this |-
  rw [List.takeWhile_cons,if_pos (by simpa using ha),List.length_cons,this]
theorem Lq:∀ {l:List Val} {x:Val},(∀ (j:Nat) (z:Val),l[j]?=some z->Zu z x<=0)->Xq l x=l.length
 | [],_,_=>rfl
 | a::l,x,h=>by
  have ha:=h 0 a rfl
  have:=Lq (l:=l) (x:=x) (λj z hz=>h (j+1) z (by simpa using hz))
  unfold Xq at this |-
  rw [List.takeWhile_cons,if_pos (by simpa using ha),List.length_cons,this,List.length_cons]
theorem Jt {S S':Nat->Prop} {a b:Val} {p3 k3 p4 k4 q3 l3 q4 l4} {wr:World} (ha:Z9 S wr (Il a p3 k3 p4 k4) a) (hb:Z9 S' wr (Il b q3 l3 q4 l4) b):∀ n os,Calls prog 23 #[.agg (Is a p3 k3 p4 k4),.agg (Is b q3 l3 q4 l4)] (Sort.grow (wr.drewN n) os) λe w'=>e=.returned (.int .i64 (Zu a b))/\Gr (Sort.grow (wr.drewN n) os) w':=
 λ_ _=>Mz S S' a b (Il a p3 k3 p4 k4) (Il b q3 l3 q4 l4) _ (ha.move (.f (Yh _ _ _).bl) Ij) (hb.move (.f (Yh _ _ _).bl) Ij)
theorem rhas_any (S S':Nat->Prop) (v:Value) (l:List Val) (x:Val) (cx:List Value) (w:World) (hs:Sl Zc S w v l) (hx:Z9 S' w cx x):
  Calls prog 106 #[v,cx] w λe w'=>e=.returned (.bool (Hk l x))/\Below w w w':=by
 obtain ⟨p,cap,rfl,hl⟩:=hs.len
 obtain ⟨p3,k3,p4,k4,Z,_⟩:=Z9.cells hx
 have aG:=Qq hx
 simp only [Il] at Z
 subst Z
 have HS:=Qq hs
 have mixed:prog.follows .mixedOrders=true:=Ir
 obtain ⟨n,hn⟩:=eX (l.length)
 rw [hn] at HS hl |-
 have HN:=Qq hn
 obtain ⟨r,hr⟩:=eX (Hk l x)
 rw [hr]
 have HR:=Qq hr
 clear hr hn hs hx
 go_enter func106,ntmps106
 go_wp2_with fail
 generalize J:w.alloc _=W1
 have Y:=Iq J (Zg _ _)
 have V:=Ik (b:=w.heap.size) J (Qw _ _)
 have aD:=Qq Y;have aF:=Qq V
 clear J Y V
 go_loopw [5] (λi wr=>∃ k:Nat,k<=n/\i=.int .i64 k/\Aside (∀ (j:Nat) (y:Val),j<k->l[j]?=some y->eqv y x=false)/\Aside (Gr W1 wr)) (λi _=>n - (intOf i).toNat)
 case atStart=>exact ⟨0,Q8 _,rfl,λj _ hj=>absurd hj (Z6 _),Gr.refl _⟩
 obtain ⟨k,hk,rfl,A,hG⟩:=hrel
 have HG:=Qq (show Gr W1 wr from hG)
 have I:=Qq (aD.o.n HG.o.bl)
 have U:=Qq (kB HG.o.bl aF.o)
 clear hG
 by_cases hlt:k<n
 ·have aM:(0:Int)<=(k:Int):=Ia
  have aN:(k:Int)<(n:Int):=Ia
  obtain ⟨y,hy⟩:∃ y,l[k]?=some y:=⟨_,Qx (by rw [HN.o];exact hlt)⟩
  obtain ⟨b,aO,q3,l3,q4,l4,rfl,D,aB,d0,d1,d2,d3,d4⟩:=(HS.o.below I.o).val hy
  have N:=Jt aB (aG.o.move (.f I.o) Ij)
  have G:=Z8 U.o
  have D0:=Zt D d0;have D1:=Zt D d1;have D2:=Zt D d2;have D3:=Zt D d3;have D4:=Zt D d4
  obtain ⟨x0,x1,x2,x3,x4⟩:=If U.o
  have X0:=Zt G x0;have X1:=Zt G x1;have X2:=Zt G x2;have X3:=Zt G x3;have X4:=Zt G x4
  have M:=Ol y x
  generalize Zu y x=c at N M
  have HY:=Qq hy;have T:=Qq M
  clear hy aB d0 d1 d2 d3 d4 x0 x1 x2 x3 x4 M
  by_cases hq:(c==0)=true
  ·have O:r=true:=by
    rw [<- HR.o];unfold Hk
    exact List.any_eq_true.2 ⟨y,Qy HY.o,by rw [<- T.o];exact hq⟩
   subst O
   go_wp2_with fail
   go_quiet_grown (first | (go_at_call 23;refine Calls.grown_of (N _ _)))
   go_wp2_with fail
   go_ret
   exact ⟨rfl,I.o.n (Yh _ _ _).bl⟩
  have aI:(c==0)=false:=by simpa using hq
  clear hq
  go_wp2_with fail
  go_quiet_grown (first | (go_at_call 23;refine Calls.grown_of (N _ _)))
  go_wp2_with fail
  go_roundw
  case measure=>simp [intOf];omega
  case rel=>
   refine ⟨k+1,Ia,by go_num,(show Aside _ from λj z hj hz=>?_),HG.o.n (Yh _ _ _)⟩
   by_cases e:j=k
   ·subst e
    have:=HY.o
    rw [this] at hz
    cases hz
    rw [<- T.o];exact aI
   exact A.o j z Ia hz
 have aL:¬ (k:Int)<(n:Int):=Ia
 have:k=n:=Ia
 subst this
 have O:r=false:=by
  rw [<- HR.o];unfold Hk
  rw [List.any_eq_false]
  intro y hy
  obtain ⟨j,hj⟩:=Zk hy
  rw [A.o j y (by have:=(Qj hj).1;have:=HN.o;omega) hj]
  simp
 subst O
 go_wp2_with fail
 go_ret
 exact ⟨rfl,I.o⟩
def PutIs (S:Nat->Prop) (w:World) (zs:List Val) (e:Ending) (w':World):Prop:=∃ p cap,e=.returned (.slice p zs.length cap)/\zs.length<=cap/\Sl Zc (λb=>S b\/w<=b) w' (.slice p zs.length cap) zs/\Below w w w'
theorem Own.cap {T:Type} {r:Rd T} {E:TypeId} {S:Nat->Prop} {B:Nat} {w:World} {p:Option Addr} {n cap:Nat} {xs:List T} {css:List (List Value)} (h:Own r E S B w (.slice p n cap) xs css):xs.length=n/\n<=cap:=by
 rcases h.row.2 with ⟨e,h0⟩ | ⟨g,A,D,e,_,_,hc,_⟩
 ·simp only [Qr] at e
  obtain ⟨rfl,rfl,rfl⟩:=e
  exact ⟨h0,Q9 _⟩
 simp only [Qr] at e
 obtain ⟨rfl,rfl,rfl⟩:=e
 exact ⟨rfl,hc⟩
theorem put_any (S:Nat->Prop) (v:Value) (l:List Val) (x:Val) (cx:List Value) (w:World) (hs0:Sl Zc S w v l) (hcv:CapV v l.length) (hx0:Z9 S w cx x) (hl1:l.length<=1000):
  Calls prog 65 #[v,cx] w (PutIs S w (Uk l x)):=by
 have hs:=hs0.up
 have hx:Z9 (λb=>S b/\b<w) w cx x:=hx0.move (.refl _ _) (λb hb h=>⟨h,hb⟩)
 clear hs0 hx0
 have bB:=Qq hcv
 obtain ⟨p,cap,rfl,aG⟩:=hcv
 obtain ⟨p3,k3,p4,k4,bW,_⟩:=Z9.cells hx
 have aN:=Qq hx
 have I:=Qq (λW (hb:Below w w W)=>rhas_any _ _ _ l x cx W (hs.below hb) (hx.move (.f hb) Ij))
 simp only [Il] at bW
 subst bW
 have HS:=Qq hs
 have mixed:prog.follows .mixedOrders=true:=Ir
 obtain ⟨i0,j1,j2,j3,j4⟩:=Y8 (P:=prog) (t:=36) (z:=.agg zV) (n:=5) (b:=80) Ir
 obtain ⟨HJ,aI,aJ,aK⟩:=It j1 j2 j3 j4
 obtain ⟨n,hn⟩:=eX (l.length)
 have Y:=Qq hn
 rw [hn] at HS bB hl1 aG I |-
 obtain ⟨r,hr⟩:=eX (Hk l x)
 have HR:=Qq hr
 rw [hr] at I
 clear hr hn hs hx j1 j2 j3 j4
 go_enter func65,ntmps65
 go_wp2_with fail
 refine (I.o _ (Zg _ _)).mono ?_
 rintro e w1 ⟨rfl,aT⟩
 have aS:=(aT.block w Ib).trans (Qw _ _)
 have aH:=Qq ((Zg w _).n aT);have dC:=Qq aS
 have dP:w.heap.size<w1.heap.size:=Z8 aS
 clear aT aS I
 cases r with
 | true=>
  go_wp2_with fail
  go_ret
  have hp:Uk l x=l:=by unfold Uk;rw [HR.o];rfl
  unfold PutIs
  rw [hp,Y.o]
  exact ⟨p,cap,rfl,aG,(HS.o.mono (λb _ h=>.inl h.1)).below aH.o,aH.o⟩
 | false=>
  go_wp2_with fail
  go_loopw [6] (λi wr=>∃ k:Nat,k<=n/\i=.int .i64 k/\Aside (∀ (j:Nat) (y:Val),j<k->l[j]?=some y->Zu y x<=0)/\Aside (Gr w1 wr)) (λi _=>n - (intOf i).toNat)
  case atStart=>exact ⟨0,Q8 _,rfl,λj _ hj=>absurd hj (Z6 _),Gr.refl _⟩
  obtain ⟨k,hk,rfl,A,hG⟩:=hrel
  have HG:=Qq (show Gr w1 wr from hG)
  have O:=Qq (aH.o.n HG.o.bl)
  have aO:=Qq (kB HG.o.bl dC.o)
  clear hG
  have M:=Z8 aO.o
  obtain ⟨x0,x1,x2,x3,x4⟩:=If aO.o
  have X0:=Zt M x0;have X1:=Zt M x1;have X2:=Zt M x2;have X3:=Zt M x3;have X4:=Zt M x4
  clear x0 x1 x2 x3 x4
  have aV:(∃ y,l[k]?=some y/\Zu y x<=0)\/(Xq l x=k/\((∃ y,l[k]?=some y/\¬ Zu y x<=0)\/k=n)):=by
   by_cases G:k<n
   ·obtain ⟨y,N⟩:∃ y,l[k]?=some y:=⟨_,Qx (by rw [Y.o];exact G)⟩
    by_cases Z:Zu y x<=0
    ·exact .inl ⟨y,N,Z⟩
    exact .inr ⟨Em A.o N Z,.inl ⟨y,N,Z⟩⟩
   have aE:k=n:=Ia
   refine .inr ⟨?_,.inr aE⟩
   rw [aE,<- Y.o]
   exact Lq (λj z hz=>A.o j z (by have:=(Qj hz).1;have:=Y.o;omega) hz)
  rcases aV with ⟨y,N,Z⟩ | ⟨cD,aV⟩
  ·have G:k<n:=by have:=(Qj N).1;have:=Y.o;omega
   have bY:(0:Int)<=(k:Int):=Ia
   have bZ:(k:Int)<(n:Int):=Ia
   have aD:decide (k<n)=true:=by simpa using G
   obtain ⟨b,dJ,q3,l3,q4,l4,rfl,D,V,d0,d1,d2,d3,d4⟩:=(HS.o.below O.o).val N
   have J:=Jt V (aN.o.move (.f O.o) Ij)
   have D0:=Zt D d0;have D1:=Zt D d1;have D2:=Zt D d2;have D3:=Zt D d3;have D4:=Zt D d4
   have cR:=Qq Z
   have hq:decide (Zu y x<=0)=true:=by simpa using Z
   generalize aC:Zu y x=c at J hq
   have HY:=Qq N;have dS:=Qq aC
   clear N V d0 d1 d2 d3 d4 Z aC G
   go_wp2_with fail
   go_quiet_grown (first | (go_at_call 23;refine Calls.grown_of (J _ _)))
   go_wp2_with fail
   go_roundw
   case measure=>simp [intOf];omega
   case rel=>
    refine ⟨k+1,Ia,by go_num,(show Aside _ from λj z hj hz=>?_),HG.o.n (Yh _ _ _)⟩
    by_cases e:j=k
    ·subst e
     have:=HY.o
     rw [this] at hz
     cases hz
     exact cR.o
    exact A.o j z Ia hz
  obtain ⟨V1,V2,dT,dU,bS,bT⟩:=Jz (P:=prog) 34 36 underlying34 sizeOf36 HS.o (by rw [Y.o];exact bB.o) k (by rw [Y.o];exact hk)
  obtain ⟨dA,dB,cZ⟩:=Im bS bT cD
  clear bS bT cD
  have dE:k<=l.length:=by rw [Y.o];exact hk
  have cF:(l.take k).length=k:=by rw [Qm];omega
  have bX:(l.drop k).length=n - k:=by rw [Zq,Y.o]
  have aM:=Qq cF;have cS:=Qq bX
  clear cF bX dE
  rcases aV with ⟨y,N,Z⟩ | aE
  focus
   have G:k<n:=by have:=(Qj N).1;have:=Y.o;omega
   have bY:(0:Int)<=(k:Int):=Ia
   have bZ:(k:Int)<(n:Int):=Ia
   have aD:decide (k<n)=true:=by simpa using G
   obtain ⟨b,dJ,q3,l3,q4,l4,rfl,D,V,d0,d1,d2,d3,d4⟩:=(HS.o.below O.o).val N
   have J:=Jt V (aN.o.move (.f O.o) Ij)
   have D0:=Zt D d0;have D1:=Zt D d1;have D2:=Zt D d2;have D3:=Zt D d3;have D4:=Zt D d4
   have hq:decide (Zu y x<=0)=false:=by simpa using Z
   generalize aC:Zu y x=c at J hq
   clear N V d0 d1 d2 d3 d4 Z aC G
   go_wp2_with fail
   go_quiet_grown (first | (go_at_call 23;refine Calls.grown_of (J _ _)))
   clear D0 D1 D2 D3 D4 J hq bY bZ aD
  rotate_left
  focus
   have aD:decide (k<n)=false:=by simp;omega
   clear aE
   go_wp2_with fail
   go_quiet_grown (fail)
   clear aD
  all_goals
   generalize bU:Sort.grow (wr.drewN nq) osq=W3
   have aU:Below wr wr W3:=by rw [<- bU];exact (Yh _ _ _).bl
   have aY:=Qq (O.o.n aU);have bF:=Qq (kE aU M aO.o)
   have cE:w.heap.size<W3.heap.size:=Z8 bF.o
   have bO:Sl Zc (But (λb=>S b/\b<w) (.slice none 0 0)) W3 V1 (l.take k):=(dA.o.mono (S':=But (λb=>S b/\b<w) (.slice none 0 0)) (λb _ h=>⟨h,λe=>by cases e⟩)).below aY.o
   have cP:=Qq bO
   have cB:([]:List Val).length+(l.take k).length=k:=by rw [aM.o];simp
   have cW:=Qq cB
   clear bU aU X0 X1 X2 X3 X4 bO cB
   go_upto_region 9 with (at_builtin;refine Xg (r:=Zc) Ih Xd rfl (.tmp 28) (.tmp 31) _ rfl 36 i0 (.agg zV) 80 underlying34 HJ.o aI.o aJ.o aK.o rfl Ia (λb=>S b/\b<w) (w+1) W3 (.slice none 0 0) [] [] rfl (Own.nil _ _ _ _ _) V1 (l.take k) rfl cP.o k cW.o Ia Ia ?_;intro cG bG bH w4 aB aA)
   rw [List.nil_append] at aB
   have bV:=(aA.other w cE (λe=>by cases e)).trans bF.o
   obtain ⟨x0,x1,x2,x3,x4⟩:=If bV
   have T:Below w w w4:=aY.o.trans (aA.below.mono Ia)
   have dQ:=aA.size
   have aF:Zc.R (But (λb=>S b/\b<w) (.slice cG k bG)) w4 (Is x p3 k3 p4 k4) x:=Z9.move aN.o (.f T) (λb hb h=>⟨h,λe=>by have:=(aB.row.lt b e.symm).1;omega⟩)
   obtain ⟨cX,aZ,bE⟩:=Im aB T aF
   clear aB aA bV T aF
   go_upto_region 10 with (at_builtin;refine Yo (r:=Zc) Ih rfl (.tmp 33) (.tmp 35) _ rfl 36 i0 (.agg zV) 80 underlying34 HJ.o aI.o aJ.o aK.o rfl Ia (λb=>S b/\b<w) (w+1) w4 (.slice cG k bG) (l.take k) bH (Is x p3 k3 p4 k4) x rfl cX.o rfl bE.o (by simp [Value.oneCell']) k aM.o Ia Ia ?_;intro aW aP bI w5 aR aQ)
   have U:Below w w w5:=aZ.o.trans (aQ.below.mono Ia)
   have dR:=aQ.size
   have bP:Sl Zc (But (λb=>S b/\b<w) (.slice aW (k+1) aP)) w5 V2 (l.drop k):=(dB.o.mono (S':=But (λb=>S b/\b<w) (.slice aW (k+1) aP)) (λb hb h=>⟨h,λe=>by have:=(aR.row.lt b e.symm).1;omega⟩)).below U
   have cC:(l.take k++[x]).length+(l.drop k).length=n+1:=by rw [Ql,aM.o,cS.o];simp;omega
   obtain ⟨aL,cQ,cY,bA⟩:=It cC bP aR U
   clear x0 x1 x2 x3 x4 aR aQ U bP cC
   go_wp2_with (at_builtin;refine Xg (r:=Zc) Ih Xd rfl (.tmp 37) (.tmp 40) _ rfl 36 i0 (.agg zV) 80 underlying34 HJ.o aI.o aJ.o aK.o rfl Ia (λb=>S b/\b<w) (w+1) w5 (.slice aW (k+1) aP) (l.take k++[x]) bI rfl cY.o V2 (l.drop k) rfl cQ.o (n+1) aL.o Ia Ia ?_;intro dK dD dO w6 bR bQ;have bC:=Qq bR;have cV:=Qq bQ;clear bR bQ)
   go_ret
   have hp:Uk l x=(l.take k++[x])++l.drop k:=by unfold Uk;rw [HR.o,cZ.o];simp
   have cA:(Uk l x).length=n+1:=by rw [hp,Ql];exact aL.o
   unfold PutIs
   rw [cA,hp]
   refine ⟨dK,dD,rfl,bC.o.cap.2,?_,bA.o.trans (cV.o.below.mono Ia)⟩
   exact bC.o.sl (by rw [Ql,aL.o];omega) (λb hb=>.inr Ia) (λb _ h=>.inl h.1)
theorem Gw:∀ {l:List Bs} {x:Bs} {k:Nat} {y:Bs},(∀ (j:Nat) (z:Bs),j<k->l[j]?=some z->Yi z x<0)->l[k]?=some y->¬ Yi y x<0->below l x=k
 | [],_,_,_,_,hy,_=>by simp at hy
 | a::l,x,0,y,_,hy,hc=>by
  simp at hy;subst hy
  unfold below;rw [List.takeWhile_cons,if_neg (by simpa using hc)];rfl
 | a::l,x,k+1,y,h,hy,hc=>by
  have ha:=h 0 a Ia rfl
  have:=Gw (l:=l) (x:=x) (k:=k) (y:=y) (λj z hj hz=>h (j+1) z Ia (by simpa using hz)) (by simpa using hy) hc
  unfold below at this |-
  rw [List.takeWhile_cons,if_pos (by simpa using ha),List.length_cons,this]
theorem B7:∀ {l:List Bs} {x:Bs},(∀ (j:Nat) (z:Bs),l[j]?=some z->Yi z x<0)->below l x=l.length
 | [],_,_=>rfl
 | a::l,x,h=>by
  have ha:=h 0 a rfl
  have:=B7 (l:=l) (x:=x) (λj z hz=>h (j+1) z (by simpa using hz))
  unfold below at this |-
  rw [List.takeWhile_cons,if_pos (by simpa using ha),List.length_cons,this,List.length_cons]
theorem P7 (l:List Bs) (x:Bs):below l x<=l.length:=by unfold below;exact (List.takeWhile_sublist _).length_le
theorem Jj {w w':World} {B:Nat} {e:TypeId} {sz n:Nat} {v:Value} {xs:List Value} (h:w.ownsRow B e sz v n xs) (hA:∀ b,b<w.heap.size->v.ownBlock=some b->w'.heap[b]?=w.heap[b]?):w'.ownsRow B e sz v n xs:=by
 refine ⟨h.1,?_⟩
 rcases h.2 with hn | ⟨g,cap,cur,rfl,hB,hg,rest⟩
 ·exact .inl hn
 refine .inr ⟨g,cap,cur,rfl,hB,?_,rest⟩
 rw [hA g (Array.getElem?_eq_some_iff.1 hg).1 rfl];exact hg
theorem vcs_mk (k n:Int) (s:Bs) (ns:List Bs) (ks:List Val) (p3:Option Addr) (k3:Nat) (p4:Option Addr) (k4:Nat):Il (.mk k n s ns ks) p3 k3 p4 k4=[.int .i64 k,.int .i64 n,.string ⟨s.toArray⟩,.slice p3 ns.length k3,.slice p4 ks.length k4]:=rfl
def M5 (v:Val) (name:Bs) (x:Val):Val:=.mk v.kind v.n v.s (Xp v.names (below v.names name) name) (Xp v.kids (below v.names name) x)
def NewRec (S:Nat->Prop) (w:World) (u:Val) (e:Ending) (w':World):Prop:=∃ p3 k3 p4 k4,e=.returned (.agg (Il u p3 k3 p4 k4).toArray)/\u.names.length<=k3/\u.kids.length<=k4/\Z9 (λb=>S b\/w<=b) w' (Il u p3 k3 p4 k4) u/\Below w w w'
theorem rins_any (S:Nat->Prop) (v x:Val) (name:Bs) (p3:Option Addr) (k3:Nat) (p4:Option Addr) (k4:Nat) (cx:List Value) (w:World) (hv0:Z9 S w (Il v p3 k3 p4 k4) v) (hx0:Z9 S w cx x) (hc3:v.names.length<=k3) (hc4:v.kids.length<=k4) (hlen:v.names.length=v.kids.length) (hl1:v.names.length<=1000) (hnm:name.length<=1000000):
  Calls prog 108 #[.agg (Il v p3 k3 p4 k4).toArray,sv name,cx] w (NewRec S w (M5 v name x)):=by
 have hv:Z9 (λb=>S b/\b<w) w (Il v p3 k3 p4 k4) v:=hv0.move (.refl _ _) (λb hb h=>⟨h,hb⟩)
 have hx:Z9 (λb=>S b/\b<w) w cx x:=hx0.move (.refl _ _) (λb hb h=>⟨h,hb⟩)
 clear hv0 hx0
 obtain ⟨q3,l3,q4,l4,eJ,_⟩:=Z9.cells hx
 have gM:=Qq hx
 simp only [Il] at eJ
 subst eJ
 obtain ⟨_,_,_,_,eT,cH,cG,gZ⟩:=Z9.cells hv
 simp only [Il,List.cons.injEq,Qr,true_and,and_true] at eT
 obtain ⟨⟨rfl,rfl⟩,rfl,rfl⟩:=eT
 obtain ⟨n,hn⟩:=eX (v.names.length)
 have hm:v.kids.length=n:=Ia
 have hO:below v.names name<=n:=by rw [<- hn];exact P7 _ _
 unfold Il
 rw [hn] at cH hc3 hl1 |-
 rw [hm] at cG hc4 |-
 obtain ⟨bT,fM,HN,HM⟩:=It cH cG hn hm
 clear hx hv cH cG hn hm hlen
 obtain ⟨i0,j1,j2,j3,j4⟩:=Y8 (P:=prog) (t:=36) (z:=.agg zV) (n:=5) (b:=80) Ir
 obtain ⟨HJ,bP,bQ,bR⟩:=It j1 j2 j3 j4
 clear j1 j2 j3 j4
 obtain ⟨i9,j1,j2,j3,j4⟩:=Y8 (P:=prog) (t:=9) (z:=.string ⟨#[]⟩) (n:=1) (b:=16) Ir
 obtain ⟨HS,aD,aE,aF⟩:=It j1 j2 j3 j4
 clear j1 j2 j3 j4
 unfold sv
 go_enter func108,ntmps108
 go_wp2_with fail
 generalize aH:((w.alloc _).alloc _).alloc _=W1
 have eH:=Iq aH (Xt _ _ _ _)
 have cB:=Ik (b:=w.heap.size) aH (Zp _ _ _ _)
 have eC:=Ik (b:=w.heap.size+1) aH (Zo _ _ _ _)
 have cA:=Ik (b:=w.heap.size+1+1) aH (Zi _ _ _ _)
 obtain ⟨aQ,gC,gK,fQ⟩:=It eH cB eC cA
 have hH:w.heap.size+2<W1.heap.size:=Z8 cA
 obtain ⟨c0,c1,c2,c3,c4⟩:=If cB
 clear aH eH cB eC cA
 go_loop [7] (λi=>∃ k:Nat,k<=n/\i=.int .i64 k/\Aside (∀ (j:Nat) (y:Bs),j<k->v.names[j]?=some y->Yi y name<0)) (λi=>n - (intOf i).toNat)
 case atStart=>exact ⟨0,Q8 _,rfl,λj _ hj=>absurd hj (Z6 _)⟩
 obtain ⟨k,hk,rfl,A⟩:=hrel
 have cF:(∃ y,v.names[k]?=some y/\Yi y name<0)\/(below v.names name=k/\((∃ y,v.names[k]?=some y/\¬ Yi y name<0)\/k=n)):=by
  by_cases D:k<n
  ·obtain ⟨y,Y⟩:∃ y,v.names[k]?=some y:=⟨_,Qx (by rw [HN.o];exact D)⟩
   by_cases G:Yi y name<0
   ·exact .inl ⟨y,Y,G⟩
   exact .inr ⟨Gw A.o Y G,.inl ⟨y,Y,G⟩⟩
  have bA:k=n:=Ia
  refine .inr ⟨?_,.inr bA⟩
  rw [bA,<- HN.o]
  exact B7 (λj z hz=>A.o j z (by have:=(Qj hz).1;have:=HN.o;omega) hz)
 rcases cF with ⟨y,Y,G⟩ | ⟨eR,cF⟩
 ·have D:k<n:=by have:=(Qj Y).1;have:=HN.o;omega
  have eL:(0:Int)<=(k:Int):=Ia
  have eM:(k:Int)<(n:Int):=Ia
  have aZ:decide (k<n)=true:=by simpa using D
  obtain ⟨b,hC,rfl,eU,-⟩:=(bT.o.below aQ.o).str Y
  have hq:Op.bytesLess y name=true:=by rw [(Vn y name).1];simpa using G
  have HC:=Qq G;have HY:=Qq Y
  clear G Y D
  go_wp2_with fail
  go_round
  case measure=>simp [intOf];omega
  case rel=>
   refine ⟨k+1,Ia,by go_num,(show Aside _ from λj z hj hz=>?_)⟩
   by_cases e:j=k
   ·subst e
    have:=HY.o
    rw [this] at hz
    cases hz
    exact HC.o
   exact A.o j z Ia hz
 obtain ⟨V1,V2,hQ,hR,dV,dW⟩:=Jz (P:=prog) 33 9 underlying33 sizeOf9 bT.o (by rw [HN.o];exact ⟨_,_,rfl,hc3⟩) k (by rw [HN.o];exact hk)
 obtain ⟨V3,V4,hS,hT,dX,dY⟩:=Jz (P:=prog) 34 36 underlying34 sizeOf36 fM.o (by rw [HM.o];exact ⟨_,_,rfl,hc4⟩) k (by rw [HM.o];exact hk)
 obtain ⟨fY,fZ,gA,gB,fP⟩:=AO dV dW dX dY eR
 have eS:(v.names.take k).length=k:=by rw [Qm,HN.o];omega
 have eK:(v.names.drop k).length=n - k:=by rw [Zq,HN.o]
 have bN:(v.kids.take k).length=k:=by rw [Qm,HM.o];omega
 have bM:(v.kids.drop k).length=n - k:=by rw [Zq,HM.o]
 obtain ⟨bW,fK,aG,cP⟩:=It eS eK bN bM
 clear dV dW dX dY eR eS eK bN bM A
 rcases cF with ⟨y,Y,G⟩ | bA
 focus
  have D:k<n:=by have:=(Qj Y).1;have:=HN.o;omega
  have eL:(0:Int)<=(k:Int):=Ia
  have eM:(k:Int)<(n:Int):=Ia
  have aZ:decide (k<n)=true:=by simpa using D
  obtain ⟨b,hC,rfl,eU,-⟩:=(bT.o.below aQ.o).str Y
  have hq:Op.bytesLess y name=false:=by rw [(Vn y name).1];simpa using G
  clear G Y D
  go_upto_region 5 with fail
  clear hq eU eL eM aZ
 rotate_left
 focus
  have aZ:decide (k<n)=false:=by simp;omega
  clear bA
  go_upto_region 5 with fail
  clear aZ
 all_goals
  have dC:Sl Zh (But (λ_=>True) (.slice none 0 0)) W1 V1 (v.names.take k):=(fY.o.mono (S':=But (λ_=>True) (.slice none 0 0)) (λb _ h=>⟨trivial,λe=>by cases e⟩)).below aQ.o
  have fG:=Qq dC
  have eN:([]:List Bs).length+(v.names.take k).length=k:=by rw [bW.o];simp
  have fN:=Qq eN
  clear dC eN
  go_upto_region 6 with (at_builtin;refine Xg (r:=Zh) Ih X5 rfl (.tmp 26) (.tmp 30) _ rfl 9 i9 (.string ⟨#[]⟩) 16 underlying33 HS.o aD.o aE.o aF.o rfl Ia (λ_=>True) (w+3) W1 (.slice none 0 0) [] [] rfl (Own.nil _ _ _ _ _) V1 (v.names.take k) rfl fG.o k fN.o Ia Ia ?_;intro pa ca cX wa dK dG;have cS:=Qq dK;have aA:=Qq dG;clear dK dG)
  rw [List.nil_append] at cS
  have eA:=kE aA.o.below Ia gC.o;have eE:=kE aA.o.below Ia gK.o;have dR:=kE aA.o.below Ia fQ.o
  obtain ⟨gE,gN,fT⟩:=Im eA eE dR
  have hI:=aA.o.size
  clear eA eE dR
  have eI:Zh.R (But (λ_=>True) (.slice pa k ca)) wa [name] name:=⟨rfl,hnm⟩
  have cV:=Qq eI
  clear eI
  go_upto_region 7 with (at_builtin;refine Yo (r:=Zh) Ih rfl (.tmp 32) (.tmp 34) _ rfl 9 i9 (.string ⟨#[]⟩) 16 underlying33 HS.o aD.o aE.o aF.o rfl Ia (λ_=>True) (w+3) wa (.slice pa k ca) (v.names.take k) cX [name] name rfl cS.o rfl cV.o (by simp [Value.oneCell']) k bW.o Ia Ia ?_;intro pb cb cY wb dL dH;have cT:=Qq dL;have aB:=Qq dH;clear dL dH)
  have aV:=kE aB.o.below Ia gE.o;have eF:=kE aB.o.below Ia gN.o;have dS:=kE aB.o.below Ia fT.o
  obtain ⟨gF,gO,fU⟩:=Im aV eF dS
  have hJ:=aB.o.size
  have aK:Below w w wb:=(aQ.o.trans (aA.o.below.mono Ia)).trans (aB.o.below.mono Ia)
  have dD:Sl Zh (But (λ_=>True) (.slice pb (k+1) cb)) wb V2 (v.names.drop k):=(fZ.o.mono (S':=But (λ_=>True) (.slice pb (k+1) cb)) (λb hb _=>⟨trivial,λe=>by have:=(cT.o.row.lt b e.symm).1;omega⟩)).below aK
  have eO:(v.names.take k++[name]).length+(v.names.drop k).length=n+1:=by rw [Ql,bW.o,fK.o];simp;omega
  have c3:=Qk _ _ 3 _ _ _ aV;have f3:=fA 3 aV
  simp only [Qf,Qg,Qh] at c3
  obtain ⟨fH,cQ,cM⟩:=Im dD eO aK
  clear aV eF dS dD eO aK
  go_upto_region 8 with (at_builtin;refine Xg (r:=Zh) Ih X5 rfl (.tmp 36) (.tmp 40) _ rfl 9 i9 (.string ⟨#[]⟩) 16 underlying33 HS.o aD.o aE.o aF.o rfl Ia (λ_=>True) (w+3) wb (.slice pb (k+1) cb) (v.names.take k++[name]) cY rfl cT.o V2 (v.names.drop k) rfl fH.o (n+1) cQ.o Ia Ia ?_;intro Z U M wc dM bY;have aW:=kE bY.below Ia gF.o;have gW:=fA 3 aW;have gT:=AH aW;obtain ⟨bU,aR,gG⟩:=Im dM bY aW;clear dM bY aW)
  obtain ⟨W7,V⟩:=eX (wc.setCell ⟨w,3,none⟩ (.slice Z (n+1) U))
  rw [V]
  have cC:W7.heap[w.heap.size]?=some (.cells #[v.kind,v.n,v.s,.slice Z (n+1) U,.slice p4 n k4] 36 (0,0)):=by rw [<- V,Qi _ _ _ _ _ _ gG.o];rfl
  have bB:∀ b,b≠w.heap.size->W7.heap[b]?=wc.heap[b]?:=λb hb=>by rw [<- V];exact Za hb
  have eD:=(bB (w+1) Ia).trans (kE aR.o.below Ia gO.o)
  have dQ:=(bB (w+1+1) Ia).trans (kE aR.o.below Ia fU.o)
  have hP:W7.heap.size=wc.heap.size:=by rw [<- V];simp [World.setCell]
  have aJ:Below w w W7:=by rw [<- V];exact (cM.o.trans (aR.o.below.mono Ia)).setCell (p:=⟨w,3,none⟩) (Q9 _) _
  have bG:Own Zh 9 (λ_=>True) (w+3) W7 (.slice Z (n+1) U) (v.names.take k++[name]++v.names.drop k) M:=⟨Vb bU.o.row (Q9 _) (λb hb _=>bB b Ia),⟨bU.o.cs.len,λi c x G hx=>bU.o.cs.R i c x G hx⟩⟩
  have hK:=aR.o.size
  obtain ⟨gD,gL,fR,cK,aC⟩:=AO cC eD dQ aJ bG
  have c4:=Iz cC
  have dE:Sl Zc (But (λb=>S b/\b<w) (.slice none 0 0)) W7 V3 (v.kids.take k):=(gA.o.mono (S':=But (λb=>S b/\b<w) (.slice none 0 0)) (λb _ h=>⟨h,λe=>by cases e⟩)).below aJ
  have eP:([]:List Val).length+(v.kids.take k).length=k:=by rw [aG.o];simp
  have fI:=Qq dE;have fO:=Qq eP
  clear V cC bB eD dQ aJ bG dE eP c3 f3 gT gW
  go_upto_region 10 with (at_builtin;refine Xg (r:=Zc) Ih Xd rfl (.tmp 43) (.tmp 47) _ rfl 36 i0 (.agg zV) 80 underlying34 HJ.o bP.o bQ.o bR.o rfl Ia (λb=>S b/\b<w) (w+3) W7 (.slice none 0 0) [] [] rfl (Own.nil _ _ _ _ _) V3 (v.kids.take k) rfl fI.o k fO.o Ia Ia ?_;intro pd cd cZ wd dN dI;have aT:=Qq dN;have O:=Qq dI;clear dN dI)
  rw [List.nil_append] at aT
  have eB:=kE O.o.below Ia gD.o;have cE:=kE O.o.below Ia gL.o;have dT:=kE O.o.below Ia fR.o
  obtain ⟨gH,gP,fV⟩:=Im eB cE dT
  have hL:=O.o.size
  have bI:Own Zh 9 (λ_=>True) (w+3) wd (.slice Z (n+1) U) (v.names.take k++[name]++v.names.drop k) M:=⟨Vb aC.o.row (Q9 _) (λb _ D=>O.o.other b D (λe=>by cases e)),⟨aC.o.cs.len,λi c x G hx=>aC.o.cs.R i c x G hx⟩⟩
  have aL:Below w w wd:=cK.o.trans (O.o.below.mono Ia)
  have bK:Zc.R (But (λb=>S b/\b<w) (.slice pd k cd)) wd (Is x q3 l3 q4 l4) x:=Z9.move gM.o (.f aL) (λb hb h=>⟨h,λe=>by have:=(aT.o.row.lt b e.symm).1;omega⟩)
  obtain ⟨x0,x1,x2,x3,x4⟩:=If cE
  obtain ⟨J,cN,cW⟩:=Im bI aL bK
  clear eB cE dT bI aL bK c4
  go_upto_region 11 with (at_builtin;refine Yo (r:=Zc) Ih rfl (.tmp 49) (.tmp 51) _ rfl 36 i0 (.agg zV) 80 underlying34 HJ.o bP.o bQ.o bR.o rfl Ia (λb=>S b/\b<w) (w+3) wd (.slice pd k cd) (v.kids.take k) cZ (Is x q3 l3 q4 l4) x rfl aT.o rfl cW.o (by simp [Value.oneCell']) k aG.o Ia Ia ?_;intro pe ce dA we dO dJ;have bV:=Qq dO;have T:=Qq dJ;clear dO dJ)
  have cD:=kE T.o.below Ia gH.o;have eG:=kE T.o.below Ia gP.o;have dU:=kE T.o.below Ia fV.o
  obtain ⟨gI,hN,fW⟩:=Im cD eG dU
  have hM:=T.o.size
  have bJ:Own Zh 9 (λ_=>True) (w+3) we (.slice Z (n+1) U) (v.names.take k++[name]++v.names.drop k) M:=⟨Jj J.o.row (λb D aY=>T.o.other b D (λe=>Yl aT.o.row J.o.row Ih e.symm aY)),⟨J.o.cs.len,λi c x G hx=>J.o.cs.R i c x G hx⟩⟩
  have aM:Below w w we:=cN.o.trans (T.o.below.mono Ia)
  have dF:Sl Zc (But (λb=>S b/\b<w) (.slice pe (k+1) ce)) we V4 (v.kids.drop k):=(gB.o.mono (S':=But (λb=>S b/\b<w) (.slice pe (k+1) ce)) (λb hb h=>⟨h,λe=>by have:=(bV.o.row.lt b e.symm).1;omega⟩)).below aM
  have eQ:(v.kids.take k++[x]).length+(v.kids.drop k).length=n+1:=by rw [Ql,aG.o,cP.o];simp;omega
  have c4:=Iz cD
  obtain ⟨I,cO,fJ,cR⟩:=It bJ aM dF eQ
  clear cD eG dU bJ aM dF eQ x0 x1 x2 x3 x4
  go_upto_region 12 with (at_builtin;refine Xg (r:=Zc) Ih Xd rfl (.tmp 53) (.tmp 57) _ rfl 36 i0 (.agg zV) 80 underlying34 HJ.o bP.o bQ.o bR.o rfl Ia (λb=>S b/\b<w) (w+3) we (.slice pe (k+1) ce) (v.kids.take k++[x]) dA rfl bV.o V4 (v.kids.drop k) rfl fJ.o (n+1) cR.o Ia Ia ?_;intro pf cf dB wf dP bZ;have aX:=kE bZ.below Ia gI.o;have gX:=fA 4 aX;have gV:=Iz aX;obtain ⟨cU,bS,gJ⟩:=Im dP bZ aX;clear dP bZ aX)
  obtain ⟨W8,aI⟩:=eX (wf.setCell ⟨w,4,none⟩ (.slice pf (n+1) cf))
  rw [aI]
  have dZ:W8.heap[w.heap.size]?=some (.cells #[v.kind,v.n,v.s,.slice Z (n+1) U,.slice pf (n+1) cf] 36 (0,0)):=by rw [<- aI,Qi _ _ _ _ _ _ gJ.o];rfl
  have bC:∀ b,b≠w.heap.size->W8.heap[b]?=wf.heap[b]?:=λb hb=>by rw [<- aI];exact Za hb
  have aU:=(bC (w+1+1) Ia).trans (kE bS.o.below Ia fW.o)
  have bL:Below w w W8:=by rw [<- aI];exact (cO.o.trans (bS.o.below.mono Ia)).setCell (p:=⟨w,4,none⟩) (Q9 _) _
  have bH:Own Zh 9 (λ_=>False) (w+3) W8 (.slice Z (n+1) U) (v.names.take k++[name]++v.names.drop k) M:=⟨Jj I.o.row (λb D aY=>(bC b (by have:=(I.o.row.lt b aY).1;omega)).trans (bS.o.other b D (λe=>Yl bV.o.row I.o.row Ih e.symm aY))),⟨I.o.cs.len,λi c x G hx=>I.o.cs.R i c x G hx⟩⟩
  have bF:Own Zc 36 (λb=>S b/\b<w) (w+3) W8 (.slice pf (n+1) cf) (v.kids.take k++[x]++v.kids.drop k) dB:=cU.o.move (Q9 _) (λb _ h=>bC b (by
   rcases h with h | h
   ·have:=h.2;omega
   have:=(cU.o.row.lt b h).1;omega))
  obtain ⟨fS,cL,bE,bD⟩:=It aU bL bH bF
  obtain ⟨e0,e1,e2,e3,e4⟩:=If dZ
  obtain ⟨r0,r1,r2,r3,r4⟩:=If aU
  obtain ⟨f0,f1,f2,f3,f4⟩:=Ip aU
  clear aI dZ bC aU bL bH bF c4 gV gX
  go_wp2_with fail
  have hu:M5 v name x=.mk v.kind v.n v.s (v.names.take k++[name]++v.names.drop k) (v.kids.take k++[x]++v.kids.drop k):=by
   unfold M5 Xp;rw [fP.o];simp
  have aN:(v.names.take k++[name]++v.names.drop k).length=n+1:=by rw [Ql];have:=cQ.o;exact this
  have aO:(v.kids.take k++[x]++v.kids.drop k).length=n+1:=by rw [Ql];exact cR.o
  have N:Il (M5 v name x) Z U pf cf=[.int .i64 v.kind,.int .i64 v.n,.string ⟨v.s.toArray⟩,.slice Z (n+1) U,.slice pf (n+1) cf]:=by rw [hu,vcs_mk,aN,aO]
  show bodyPost _ _ _ _ _ (Zl W8 (w+1+1) v.kind v.n v.s (.slice Z (n+1) U) (.slice pf (n+1) cf))
  refine Q7 (v:=.agg #[v.kind,v.n,v.s,.slice Z (n+1) U,.slice pf (n+1) cf]) (by simp [results,results108,go_sem,Ze fS.o]) rfl ⟨Z,U,pf,cf,by rw [N],?_,?_,?_,Zd cL.o Ia⟩
  ·rw [hu];show (v.names.take k++[name]++v.names.drop k).length<=U;rw [aN];exact bE.o.cap.2
  ·rw [hu];show (v.kids.take k++[x]++v.kids.drop k).length<=cf;rw [aO];exact bD.o.cap.2
  rw [N,hu]
  refine Yb gZ ?_ ?_
  ·exact ((bE.o.sl (S':=λb=>w+3<=b) (by rw [aN];omega) (λb hb=>hb) (λb _ h=>h.elim)).frame (λb hb _=>Zf (by have:w.heap.size+3<=b:=hb;omega))).mono (λb _ hb=>.inr (by have:w.heap.size+3<=b:=hb;omega))
  refine ((bD.o.sl (S':=λb=>(S b/\b<w)\/w+3<=b) (by rw [aO];omega) (λb hb=>.inr hb) (λb _ hb=>.inl hb)).frame (λb hb _=>Zf Ia)).mono (λb _ hb=>?_)
  rcases hb with h | h
  ·exact .inl h.1
  exact .inr Ia
end Go.Proofs.YtdpibdpbgokmoaaGreatDoor
