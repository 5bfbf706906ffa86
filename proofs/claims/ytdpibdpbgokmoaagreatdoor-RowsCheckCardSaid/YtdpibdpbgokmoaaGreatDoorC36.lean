import Derived.Test.YtdpibdpbgokmoaaGreatDoorC35
set_option maxRecDepth 100000
set_option maxHeartbeats 400000000
namespace Go.Proofs.YtdpibdpbgokmoaaGreatDoor
open Go.RowKit Go.Shelf Go.Lib Tryz
theorem U0.none {n:Nat} {cf:Nat→Nat→Ft} {nm:Nat→Bs} {f:Ft} (h:U0 n cf nm f) (hz:∀ c i,c<5→i<n→(cf c i).code=0):f=Ft.zero:=by
 rcases h with ⟨h,_⟩ | ⟨c,i,hc,hi,A,_⟩
 ·exact h
 exact absurd (hz c i hc hi) A
theorem U0.at {n:Nat} {cf:Nat→Nat→Ft} {nm:Nat→Bs} {f:Ft} (h:U0 n cf nm f) (c0 i0:Nat) (hc0:c0<5) (hi0:i0<n) (hne0:(cf c0 i0).code≠0) (hb0:∀ c i,i<n→(c<c0∨c=c0∧i<i0)→(cf c i).code=0):
  f.code=(cf c0 i0).code∧f.table=nm i0:=by
 rcases h with ⟨_,h⟩ | ⟨c,i,hc,hi,A,rfl,hb⟩
 ·exact absurd (h c0 i0 hc0 hi0) hne0
 have h1:¬ (c<c0∨c=c0∧i<i0):=fun h=>A (hb0 c i hi h)
 have h2:¬ (c0<c∨c0=c∧i0<i):=fun h=>hne0 (hb c0 i0 hi0 h)
 have e1:c=c0:=Qqj
 have e2:i=i0:=Qqj
 subst e1;subst e2
 exact ⟨rfl,rfl⟩
theorem Eg {T:Type} {cf:T→T→Int} {xs:List T} (h:xs.Pairwise fun x y=>0≤cf y x):Srt cf xs:=by
 intro i j x y A hx hy
 obtain ⟨hi,rfl⟩:=Qj hx
 obtain ⟨hj,rfl⟩:=Qj hy
 exact List.pairwise_iff_getElem.1 h i j hi hj A
def K1 (v:Val):List Int:=match v.kids with
 | x::_=>[x.n]
 | []=>[]
def tyK:Ty→Int | .mk k _ _ _ _=>k
theorem Lu (us:List Sm) (x:Val) (y:Ty) (h:tyK y=0∨tyK y=1∨tyK y=2):Dk us x y (x.kind==tyK y):=by
 obtain ⟨k,s,n,names,kids⟩:=y
 exact Tr us x k h s n names kids
namespace Law
def tT:Tbl:=⟨[116],[⟨[97],Gen.whole⟩,⟨[98],Gen.whole⟩],[[97]],[⟨[98],[117]⟩],Gen.op [60] [Gen.a,Gen.b]⟩
def uT:Tbl:=⟨[117],[⟨[107],Gen.whole⟩],[[107]],[],Gen.yes⟩
def sc:Sc:=⟨[],[tT,uT]⟩
def rT (x y:Int):Val:=V8 [[97],[98]] [Y5 x,Y5 y]
def rU (x:Int):Val:=V8 [[107]] [Y5 x]
def st (l:List (Int × Int)):List Rel:=[⟨[116],l.map fun p=>rT p.1 p.2⟩,⟨[117],[rU 3]⟩]
theorem wordA:Va [97]:=⟨Qqx,Qqx,by intro c hc;simp at hc;subst hc;decide,Qqx,Qqx⟩
theorem wordB:Va [98]:=⟨Qqx,Qqx,by intro c hc;simp at hc;subst hc;decide,Qqx,Qqx⟩
theorem wordK:Va [107]:=⟨Qqx,Qqx,by intro c hc;simp at hc;subst hc;decide,Qqx,Qqx⟩
def Au (v:Val):Bool:=match v.kids with
 | x::y::_=>decide (Yz x y<0)
 | _=>true
theorem tT_ok (l:List (Int × Int)) (hl:l.length≤1000) (hb:∀ p ∈ l,(-1000≤p.1∧p.1≤1000)∧-1000≤p.2∧p.2≤1000):Pk [] tT (l.map fun p=>rT p.1 p.2) (fun _=>true) Au K1 where
 srt:=Eg Qqx
 few:=Qqx
 some:=Qqx
 typed:=by
  intro x D
  obtain ⟨p,A,rfl⟩:=List.mem_map.1 D
  refine ⟨.record _ _ rfl ?_ ?_ ?_,?_⟩
  ·intro y J
   simp at J
   rcases J with rfl | rfl
   ·exact wordA
   exact wordB
  ·intro i a b G hb
   match i,G,hb with
   | 0,G,hb=>simp at G hb;subst G;subst hb;decide
   | i+1,G,hb=>simp at hb
  ·intro k hk
   simp at hk
   have hq:=hb p A
   rcases hk with rfl | rfl <;> exact .int _ ⟨Qqj,Qqj⟩
  have:=Sp [] (rT p.1 p.2) [] [[97],[98]] [Gen.whole,Gen.whole] (fun x y=>x.kind==tyK y) (fun x _ y J=>Lu [] x y (by
   simp at J;subst J;exact .inl rfl))
  exact this
 keys:=fun _=>⟨fun r I=>by obtain ⟨p,A,rfl⟩:=List.mem_map.1 I;rfl,fun r I x D=>by
  obtain ⟨p,A,rfl⟩:=List.mem_map.1 I
  have:=hb p A
  simp [K1,rT,V8,Val.kids,Y5,Val.n] at D
  subst D;omega,fun r I=>by obtain ⟨p,A,rfl⟩:=List.mem_map.1 I;exact (by decide:1≤3)⟩
 many:=by rw [Z7];omega
 key:=Qqx
 check:=by
  intro _ x D
  obtain ⟨p,A,rfl⟩:=List.mem_map.1 D
  refine Ob Qqx ?_ (Q9 2)
  exact ev_less 0 [] [] [] Gen.a Gen.b 0 0 _ (Y5 p.1) (Y5 p.2) (Sw [97] 0 [] [] [] [] 0 0 _ _ rfl) (Sw [98] 0 [] [] [] [] 0 0 _ _ rfl)
theorem uT_ok:Pk [] uT [rU 3] (fun _=>true) (fun _=>true) K1 where
 srt:=Eg Qqx
 few:=Qqx
 some:=Qqx
 typed:=by
  intro x D
  simp at D
  subst D
  refine ⟨.record _ _ rfl ?_ ?_ ?_,?_⟩
  ·intro y G
   simp at G
   subst G
   exact wordK
  ·intro i a b ha hb
   simp at hb
  ·intro k hk
   simp at hk
   subst hk;exact .int _ Qqx
  have:=Sp [] (rU 3) [] [[107]] [Gen.whole] (fun x y=>x.kind==tyK y) (fun x _ y G=>Lu [] x y (by
   simp at G;subst G;exact .inl rfl))
  exact this
 keys:=fun _=>⟨fun r A=>by simp at A;subst A;rfl,fun r A x D=>by
  simp at A;subst A
  simp [K1,rU,V8,Val.kids,Y5,Val.n] at D
  subst D;omega,fun r A=>by simp at A;subst A;decide⟩
 many:=Qqx
 key:=Qqx
 check:=by
  intro _ x D
  simp at D
  subst D
  refine Ob Qqx ?_ Qqx
  exact Tu [] 1 [] [] [] [] 0 0 _
def cf (l:List (Int × Int)):Nat→Nat→Ft:=cfOf sc (st l) (fun _ _=>true) (fun i=>if i=0 then Au else fun _=>true) (fun _=>K1)
theorem st_ok (l:List (Int × Int)) (hl:l.length≤1000) (hb:∀ p ∈ l,(-1000≤p.1∧p.1≤1000)∧-1000≤p.2∧p.2≤1000) (i:Nat) (t:Tbl) (r:Rel) (ht:sc.tables[i]?=some t) (hr:(st l)[i]?=some r):
  Pk sc.sums t r.rows ((fun _ _=>true:Nat→Val→Bool) i) ((fun i=>if i=0 then Au else fun _=>true:Nat→Val→Bool) i) ((fun _=>K1:Nat→Val→List Int) i):=by
 match i,ht,hr with
 | 0,ht,hr=>
  cases ht;cases hr
  exact tT_ok l hl hb
 | 1,ht,hr=>
  cases ht;cases hr
  exact uT_ok
 | i+2,ht,hr=>simp [sc] at ht
theorem cf_u (l:List (Int × Int)) (c:Nat) (hc:c<5):(cf l c 1).code=0:=by
 match c,hc with
 | 0,_=>show (Ej [rU 3]).code=0;rw [Li Qqx];rfl
 | 1,_=>show (Xi 9 (fun _=>true) [rU 3]).code=0;rw [J4 (fun _ _=>rfl)];rfl
 | 2,_=>
  show (Uo [rU 3] (ust [rU 3].length ([rU 3].map fun r=>kb (K1 r)) [rU 3].length)).code=0
  rw [Bv rfl (fun i j a b A ha hb=>by
   have h1:=(Qj hb).1
   simp at h1
   omega)]
  rfl
 | 3,_=>rfl
 | 4,_=>show (Xi 13 (fun _=>true) [rU 3]).code=0;rw [J4 (fun _ _=>rfl)];rfl
theorem Tt (l:List (Int × Int)) (hl:l.length≤256):(cf l 0 0).code=0:=by
 show (Ej (l.map fun p=>rT p.1 p.2)).code=0
 rw [Li (by rw [Z7];exact hl)];rfl
theorem Ww (l:List (Int × Int)):(cf l 1 0).code=0:=by
 show (Xi 9 (fun _=>true) (l.map fun p=>rT p.1 p.2)).code=0
 rw [J4 (fun _ _=>rfl)];rfl
theorem kb1_inj {a b:Int} (h:kb [a]=kb [b]):a=b:=by
 unfold kb at h
 simp at h
 exact encI_inj h
theorem cf_t2 (l:List (Int × Int)) (hd:(l.map Prod.fst).Pairwise (·≠·)):(cf l 2 0).code=0:=by
 show (Uo (l.map fun p=>rT p.1 p.2) (ust (l.map fun p=>rT p.1 p.2).length ((l.map fun p=>rT p.1 p.2).map fun r=>kb (K1 r)) (l.map fun p=>rT p.1 p.2).length)).code=0
 rw [Bv (by rw [Z7]) (fun i j a b D A hb=>?_)]
 ·rfl
 rw [List.map_map,List.getElem?_map] at A hb
 cases hx:l[i]? with
 | none=>rw [hx] at A;cases A
 | some x=>
  cases hy:l[j]? with
  | none=>rw [hy] at hb;cases hb
  | some y=>
   rw [hx] at A;rw [hy] at hb
   cases A;cases hb
   intro e
   have e1:x.1=y.1:=kb1_inj e
   obtain ⟨hi,G⟩:=Qj hx
   obtain ⟨hj,I⟩:=Qj hy
   have:=List.pairwise_iff_getElem.1 hd i j (by simpa using hi) (by simpa using hj) D
   simp only [List.getElem_map] at this
   rw [G,I] at this
   exact this e1
theorem cf_t2d (a x y:Int):(cf [(a,x),(a,y)] 2 0).code=11:=by
 show (Uo [rT a x,rT a y] (ust 2 [kb [a],kb [a]] 2)).code=11
 generalize kb [a]=k
 have:ust 2 [k,k] 2=(0,1):=by
  show U5 [k] (U5 [] (2,0) k) k=(0,1)
  have h1:Yo [] k=none:=rfl
  have h2:Yo [k] k=some 0:=by unfold Yo;simp
  unfold U5
  rw [h1]
  simp only [h2]
  rfl
 rw [this]
 rfl
theorem refT (l:List (Int × Int)) (a y:Int):Kt sc (st l) ⟨[98],[117]⟩ (rT a y)=decide (y=3):=by
 show (Jj sc (st l) [117] [Y5 y]).isSome=_
 have h1:Jj sc (st l) [117] [Y5 y]=atP (lkP [[107]] [Y5 y]) [rU 3]:=rfl
 rw [h1]
 have h2:lkP [[107]] [Y5 y] (rU 3)=decide (y=3):=by
  show eqL eqv [Y5 3] [Y5 y]=_
  simp only [eqL,Bool.and_true]
  unfold eqv
  rw [decide_eq_decide]
  simp [key,Y5]
  exact eq_comm
 unfold atP
 by_cases h:y=3
 ·subst h;simp [h2]
 simp [h2,h]
theorem cf_t3 (l:List (Int × Int)) (h:∀ p ∈ l,p.2=3):(cf l 3 0).code=0:=by
 show (Yi sc (st l) (l.map fun p=>rT p.1 p.2) [⟨[98],[117]⟩]).code=0
 have:Xi 12 (Kt sc (st l) ⟨[98],[117]⟩) (l.map fun p=>rT p.1 p.2)=Ft.zero:=J4 (fun x hx=>by
  obtain ⟨p,hp,rfl⟩:=List.mem_map.1 hx
  rw [refT,h p hp];rfl)
 unfold Yi
 rw [this]
 rfl
theorem cf_t3d (a b y:Int) (hy:y≠3):(cf [(a,3),(b,y)] 3 0).code=12:=by
 show (Yi sc (st [(a,3),(b,y)]) [rT a 3,rT b y] [⟨[98],[117]⟩]).code=12
 have:(Xi 12 (Kt sc (st [(a,3),(b,y)]) ⟨[98],[117]⟩) [rT a 3,rT b y]).code=12:=by
  unfold Xi
  simp [List.findIdx?_cons,refT,hy]
 unfold Yi
 rw [this,if_neg Qqx]
 exact this
theorem T8 (x y:Int):Au (rT x y)=decide (x<y):=by
 show decide (Yz (Y5 x) (Y5 y)<0)=_
 rw [decide_eq_decide]
 simp [Yz,Y5]
 exact Mm
theorem cf_t4 (l:List (Int × Int)) (h:∀ p ∈ l,p.1<p.2):(cf l 4 0).code=0:=by
 show (Xi 13 Au (l.map fun p=>rT p.1 p.2)).code=0
 rw [J4 (fun x hx=>by
  obtain ⟨p,hp,rfl⟩:=List.mem_map.1 hx
  rw [T8];exact decide_eq_true (h p hp))]
 rfl
theorem cf_t4d (a b x y:Int) (h1:a<x) (h2:¬ b<y):(cf [(a,x),(b,y)] 4 0).code=13:=by
 show (Xi 13 Au [rT a x,rT b y]).code=13
 unfold Xi
 simp [List.findIdx?_cons,T8,h1,h2]
theorem st_norm (l:List (Int × Int)) (h:Ue (l.map fun p=>rT p.1 p.2)=true):Uy sc (st l)=true:=by
 show (Ue (l.map fun p=>rT p.1 p.2)&&decide (([116]:Bs)=[116])&&((Ue [rU 3]&&decide (([117]:Bs)=[117]))&&true))=true
 rw [h];rfl
theorem inc1 (a b:Int):Ue ([(a,b)].map fun p=>rT p.1 p.2)=true:=rfl
theorem cmp_rT (a b c d:Int):Yz (rT a b) (rT c d)=thn (ord a c) (thn (ord b d) 0):=by
 simp [rT,V8,Y5,Yz,Vy,Ky,Yf,Ul,thn]
theorem inc2 (a b c d:Int) (h:a<c∨a=c∧b<d):Ue ([(a,b),(c,d)].map fun p=>rT p.1 p.2)=true:=by
 show (decide (Yz (rT a b) (rT c d)<0)&&true)=true
 rw [Bool.and_true,decide_eq_true_eq,cmp_rT]
 rcases h with h | ⟨rfl,h⟩
 ·have:ord a c=-1:=by unfold ord;rw [if_pos h]
  rw [this];show (-1:Int)<0;omega
 rw [Ul,Us]
 have:ord b d=-1:=by unfold ord;rw [if_pos h]
 rw [this];decide
theorem code0 {f:Ft} (h:U0 sc.tables.length (cf [(1,3)]) (fun i=>((sc.tables[i]?).getD Tbl.zero).name) f):f.code=0:=by
 rw [h.none (fun c i hc hi=>?_)]
 ·rfl
 have A:i<2:=hi
 match i,A with
 | 1,_=>exact cf_u _ c hc
 | 0,_=>
  match c,hc with
  | 0,_=>exact Tt _ Qqx
  | 1,_=>exact Ww _
  | 2,_=>exact cf_t2 _ Qqx
  | 3,_=>exact cf_t3 _ Qqx
  | 4,_=>exact cf_t4 _ Qqx
theorem code1 {f:Ft} (h:U0 sc.tables.length (cf [(1,3),(1,4)]) (fun i=>((sc.tables[i]?).getD Tbl.zero).name) f):f.code=11:=by
 have h2:=cf_t2d 1 3 4
 rw [(h.at 2 0 Qqx Qqx (by rw [h2];decide) (fun c i hi hb=>?_)).1,h2]
 have A:i<2:=hi
 match i,A with
 | 1,_=>exact cf_u _ c Qqj
 | 0,_=>
  match c,hb with
  | 0,_=>exact Tt _ Qqx
  | 1,_=>exact Ww _
  | c+2,hb=>omega
theorem code2 {f:Ft} (h:U0 sc.tables.length (cf [(1,3),(2,4)]) (fun i=>((sc.tables[i]?).getD Tbl.zero).name) f):f.code=12:=by
 have h2:=cf_t3d 1 2 4 Qqx
 rw [(h.at 3 0 Qqx Qqx (by rw [h2];decide) (fun c i hi hb=>?_)).1,h2]
 have A:i<2:=hi
 match i,A with
 | 1,_=>exact cf_u _ c Qqj
 | 0,_=>
  match c,hb with
  | 0,_=>exact Tt _ Qqx
  | 1,_=>exact Ww _
  | 2,_=>exact cf_t2 _ Qqx
  | c+3,hb=>omega
theorem code3 {f:Ft} (h:U0 sc.tables.length (cf [(1,3),(5,3)]) (fun i=>((sc.tables[i]?).getD Tbl.zero).name) f):f.code=13:=by
 have h2:=cf_t4d 1 5 3 3 Qqx Qqx
 rw [(h.at 4 0 Qqx Qqx (by rw [h2];decide) (fun c i hi hb=>?_)).1,h2]
 have A:i<2:=hi
 match i,A with
 | 1,_=>exact cf_u _ c Qqj
 | 0,_=>
  match c,hb with
  | 0,_=>exact Tt _ Qqx
  | 1,_=>exact Ww _
  | 2,_=>exact cf_t2 _ Qqx
  | 3,_=>exact cf_t3 _ Qqx
  | c+4,hb=>omega
end Law
theorem gal3 (w:World) (o p q:Obj):Gr w (((w.alloc o).alloc p).alloc q):=(Vo w o p).alloc q
theorem hasLeafG (v:Val) (t:Ty) (hl:Jo t) (S S':Nat→Prop) (cv ct:List Value) (ps:Option Addr) (ns cs:Nat) (w:World) (hv:Z9 S w cv v) (ht:Xf S' w ct t):
  Calls prog 82 #[.slice ps ns cs,cv,ct] w fun e w'=>e=.returned (.bool (v.kind==t.kind))∧Gr w w':=by
 obtain ⟨k,s,n,names,kids⟩:=t
 obtain ⟨p3,k3,p4,k4,A,_⟩:=Z9.cells hv
 simp only [vcs] at A
 subst A
 obtain ⟨q3,l3,q4,l4,rfl,_⟩:=ht.cells'
 clear hv ht
 have hk:k=0∨k=1∨k=2:=hl
 clear hl
 simp only [Ty.kind]
 rcases hk with rfl | rfl | rfl
 all_goals
  go_enter func82,ntmps82
  go_wp2_with fail
  go_ret
  exact ⟨rfl,gal3 _ _ _ _⟩
theorem hasS3 (T:Nat) (S:Nat→Prop) (us:List Sm) (x:Bs) (w:World) (hc:w.cell? ⟨T,1,none⟩=some (.string ⟨x.toArray⟩)):Uz prog 119 #[Qqc T] Uu S us (fun u=>decide (u.name=x)) w:=by
 rintro W u cs hb hu ⟨rv,rfl,_,_⟩
 have A:=kD hb (Qv w _ hc) hc
 have D:=Qv W _ A
 have G:T<W.heap.size:=D
 have hq:(u.name==x)=decide (u.name=x):=by rw [Bool.eq_iff_iff,beq_iff_eq,decide_eq_true_eq]
 have HQ:=Qq hq
 clear hq hc hb hu
 show Calls prog 119 #[.agg #[sv u.name,rv],Qqc T] W _
 unfold sv
 go_enter func119,ntmps119
 go_wp2_with fail
 go_ret
 exact ⟨by rw [← HQ.out];rfl,Zg _ _⟩
theorem hasS4 (V:Nat) (S:Nat→Prop) (us:List Ct) (x:Bs) (w:World) (hc:w.cell? ⟨V,2,none⟩=some (.string ⟨x.toArray⟩)):Uz prog 121 #[Qqc V] Gg S us (fun u=>decide (u.name=x)) w:=by
 rintro W u cs hb hu ⟨tc,rfl,_,A⟩
 obtain ⟨tk,ts,tn,t3,n3,l3,t4,n4,l4,rfl⟩:=A.cells
 have D:=kD hb (Qv w _ hc) hc
 have G:=Qv W _ D
 have I:V<W.heap.size:=G
 have hq:(u.name==x)=decide (u.name=x):=by rw [Bool.eq_iff_iff,beq_iff_eq,decide_eq_true_eq]
 have HQ:=Qq hq
 clear hq hc hb hu A
 show Calls prog 121 #[.agg #[sv u.name,.bool u.has,tk,.string ts,tn,.slice t3 n3 l3,.slice t4 n4 l4],Qqc V] W _
 unfold sv
 go_enter func121,ntmps121
 go_wp2_with fail
 go_ret
 exact ⟨by rw [← HQ.out];rfl,Zg _ _⟩
theorem hasSum (us:List Sm) (v:Val) (s:Bs) (tn:Int) (names:List Bs) (kids:List Ty) (hl:∀ u ∈ us,∀ c ∈ u.ctors,Jo c.arg):Dk us v (.mk 3 s tn names kids) (Bt us v s):=by
 intro S0 dV dT cv ct ps ns cs w bB cJ cG
 have bM:Sl Uu (fun b=>b<w) w (.slice ps ns cs) us:=bB.mono (fun b hb _=>hb)
 have hv:Z9 (fun b=>b<w) w cv v:=cJ.move (.refl _ _) (fun b hb _=>hb)
 clear cJ bB
 obtain ⟨p3,k3,p4,k4,cD,_,aY,_⟩:=Z9.cells hv
 simp only [vcs] at cD
 subst cD
 obtain ⟨q3,l3,q4,l4,rfl,_⟩:=cG.cells'
 obtain ⟨r,hr⟩:=eX (Bt us v s)
 rw [hr]
 obtain ⟨HR,HU,HV,HL⟩:=Qqp hr bM aY hl
 obtain ⟨up,uc,hue,eI⟩:=bM.len
 cases hue
 clear hv aY bM hl hr cG
 go_enter func82,ntmps82
 go_upto_region 13 with fail
 generalize aL:((w.alloc _).alloc _).alloc _=W1
 have bJ:=eqB aL (Xm _ _ _ _)
 have bG:=eqH (b:=w.heap.size) aL (Zp _ _ _ _)
 have cA:=eqH (b:=w.heap.size+1) aL (Jq _ _ _ _)
 have bZ:=eqH (b:=w.heap.size+2) aL (Zi _ _ _ _)
 clear aL
 obtain ⟨cT,cZ,cX⟩:=Qqo bJ cA bG
 have HI:=Qq (H8 Tryz.ixSum Uu isAgg61 sizeOf61 119 #[Qqc (w+2)] (enters_of func119 Qqy rfl) _ (.slice ps us.length cs) us W1 (fun u=>decide (u.name=s)) (HU.out.below bJ)
  (hasS3 _ _ us s W1 (by rw [Qk _ _ 1 _ _ _ bZ];rfl)))
 have a0:=rA0 bG
 clear bJ cA bZ bG
 go_upto_region 14 with (refine HI.out.mono ?_;rintro e w2 ⟨rfl,aF⟩;have cU:=Qq aF)
 have aF:=cU.out
 have bH:=kB aF cX.out
 have aK:=kB aF cZ.out
 obtain ⟨dA,cY,aC⟩:=Qqo aK bH (cT.out.thn aF)
 have a0:=rA0 bH;have b0:=rA0 aK;have b2:=rA2 aK;have Y:=rA4 aK
 clear aF bH aK
 by_cases h3:v.kind=3
 ·have dE:(v.kind != 3)=false:=by rw [h3];rfl
  have J:(match atP (fun u=>decide (u.name=s)) us with
   | none=>false
   | some u=>J5 u v)=r:=by rw [← HR.out];unfold Bt;rw [h3];rfl
  have aD:=Qq J
  clear J
  rcases Ve (fun u:Sm=>decide (u.name=s)) us with ⟨hi,hn⟩ | ⟨i,u,hi,bN,cF⟩
  ·obtain rfl:false=r:=by rw [← aD.out,hn]
   rw [hi]
   go_wp2_with fail
   go_ret
   exact ⟨rfl,aC.out⟩
  have aE:=Qq (show J5 u v=r by rw [← aD.out,cF])
  rw [hi]
  have eE:=(Qj bN).1
  have eC:(0:Int)≤(i:Int):=Qqj
  have eD:(i:Int)<(us.length:Int):=Qqj
  obtain ⟨ub,aP,eJ,rfl,cH,_,_,⟨dX,rfl,_,aX⟩,cI⟩:=(HU.out.below aC.out).elem bN
  obtain ⟨cp,cc,rfl,dZ⟩:=aX.len
  have d1:=cI 1 _ rfl
  rw [show Uu.k=2 from rfl] at d1
  have HC:=Qq aX;have aI:=Qq (HL.out u (Qy bN))
  have cW:=Qq (H8 Tryz.ixCtor Gg isAgg58 sizeOf58 121 #[Qqc (w+1)] (enters_of func121 Qqy rfl) _ (.slice cp u.ctors.length cc) u.ctors w2 (fun c=>decide (c.name=v.s)) aX
   (hasS4 _ _ u.ctors v.s w2 b2))
  clear cI aX hi cF b2
  go_upto_region 17 with (refine cW.out.mono ?_;rintro e w3 ⟨rfl,Z⟩;have bT:=Qq Z)
  have Z:=bT.out
  have bY:=kB Z cY.out
  have cB:=kB Z dA.out
  have dB:=Qq cB;have aZ:=Qq (aC.out.thn Z)
  have a0:=rA0 bY
  have d1:=kC Z d1
  have cH:=Qa cH Z.size
  clear Z bY cB b0 Y
  rcases Ve (fun c:Ct=>decide (c.name=v.s)) u.ctors with ⟨hk,hn⟩ | ⟨k,c,hk,aW,cE⟩
  ·obtain rfl:false=r:=by rw [← aE.out];unfold J5;rw [hn]
   rw [hk]
   go_wp2_with fail
   go_ret
   exact ⟨rfl,aZ.out⟩
  have V:=Qq (show (if c.has then (match v.kids with
   | [x]=>x.kind==c.arg.kind
   | _=>false) else decide (v.kids.length=0))=r by rw [← aE.out];unfold J5;rw [cE];rfl)
  rw [hk]
  have eH:=(Qj aW).1
  have eF:(0:Int)≤(k:Int):=Qqj
  have eG:(k:Int)<(u.ctors.length:Int):=Qqj
  obtain ⟨cb,dU,dW,rfl,dY,_,_,⟨tc,rfl,eA,aO⟩,aA⟩:=(HC.out.below bT.out).elem aW
  obtain ⟨tk,ts,tm,t3,n3,m3,t4,n4,m4,rfl⟩:=aO.cells
  have e0:=aA 0 _ rfl;have e1:=aA 1 _ rfl;have e2:=aA 2 _ rfl;have e3:=aA 3 _ rfl;have e4:=aA 4 _ rfl;have e5:=aA 5 _ rfl;have e6:=aA 6 _ rfl
  rw [show Gg.k=7 from rfl] at e0 e1 e2 e3 e4 e5 e6
  rw [Nat.add_zero] at e0
  unfold sv at e0
  have aJ:=Qq aO;have aH:=Qq (aI.out c (Qy aW))
  clear aW aA aO hk cE
  go_upto_region 20 with fail
  generalize bI:w3.alloc _=M
  have aM:=eqB bI (Zg _ _)
  have T:=eqH (b:=w3.heap.size) bI (Qw _ _)
  have cC:=kB aM dB.out
  have U:=Qq (aZ.out.thn aM);have cV:=Qq aM
  have a0:=kC aM a0
  have Y:=rA4 cC;have O:=rA1 T;have g2:=rA2 T;have g3:=rA3 T;have g4:=rA4 T;have g5:=rA5 T;have g6:=rA6 T
  clear bI aM cC d1 e0 e1 e2 e3 e4 e5 e6
  cases hhas:c.has with
  | false=>
   rw [hhas] at O
   have J:=V.out
   rw [hhas] at J
   simp only [Bool.false_eq_true,if_false] at J
   by_cases h0:v.kids.length=0
   ·obtain rfl:true=r:=by rw [← J];simp [h0]
    have bL:((v.kids.length:Int)==0)=true:=by rw [beq_iff_eq];omega
    clear J h0 a0 g2 g3 g4 g5 g6 T V aE aD HR aJ aH HV HC aI HU
    have N:=Qq (show ∀ W,(fun W=>Below M M W) W→Qqa W (w+1) 4 (.slice p4 v.kids.length k4)∧Qqa W w3 1 (.bool false) from fun W h=>by
     have I:∀ {b j:Nat} {u:Value},M.cell? ⟨b,j,none⟩=some u→W.cell? ⟨b,j,none⟩=some u:=fun hc=>kC h hc
     exact ⟨I Y,I O⟩)
    clear Y O
    refine wp_region_held_drew (S:=fun W=>Below M M W) Qqy (Qz _ _).drew (fun G=>?_)
    refine tkD (v:=?_) 0 (fun D A=>?_) ?_;rotate_left
    ·(go_simp;try with_reducible rfl)
    refine tkD (v:=?_) 1 (fun D A=>?_) ?_;rotate_left
    ·(obtain ⟨-,O⟩:=N.out D A;go_simp;try with_reducible rfl)
    refine tkD (v:=?_) 2 (fun D A=>?_) ?_;rotate_left
    ·(go_simp;try with_reducible rfl)
    refine tkN 3 ?_
    refine tkN 4 ?_
    refine tkN 5 ?_
    refine tkN 6 ?_
    refine tkD (v:=?_) 7 (fun D A=>?_) ?_;rotate_left
    ·(go_simp;try with_reducible rfl)
    refine tkD (v:=?_) 8 (fun D A=>?_) ?_;rotate_left
    ·(go_simp;try with_reducible rfl)
    refine tkN 9 ?_
    refine tkN 10 ?_
    refine tkN 11 ?_
    refine tkN 12 ?_
    refine tkN 13 ?_
    refine tkN 14 ?_
    refine tkN 15 ?_
    refine tkN 16 ?_
    refine tkD (v:=?_) 17 (fun D A=>?_) ?_;rotate_left
    ·(go_simp;try with_reducible rfl)
    refine tkD (v:=?_) 18 (fun D A=>?_) ?_;rotate_left
    ·(go_simp;try with_reducible rfl)
    refine tkD (v:=?_) 19 (fun D A=>?_) ?_;rotate_left
    ·(go_simp;try with_reducible rfl)
    refine tkD (v:=?_) 20 (fun D A=>?_) ?_;rotate_left
    ·(obtain ⟨-,O⟩:=N.out D A;go_simp;try with_reducible rfl)
    refine tkD (v:=?_) 21 (fun D A=>?_) ?_;rotate_left
    ·(go_simp;try with_reducible rfl)
    refine tkD (v:=?_) 22 (fun D A=>?_) ?_;rotate_left
    ·(go_simp;try with_reducible rfl)
    refine tkD (v:=?_) 23 (fun D A=>?_) ?_;rotate_left
    ·(go_simp;try with_reducible rfl)
    refine tkD (v:=?_) 24 (fun D A=>?_) ?_;rotate_left
    ·(obtain ⟨Y,-⟩:=N.out D A;go_simp;try with_reducible rfl)
    refine tkD (v:=?_) 25 (fun D A=>?_) ?_;rotate_left
    ·(go_simp;try with_reducible rfl)
    refine tkD (v:=?_) 26 (fun D A=>?_) ?_;rotate_left
    ·(go_simp;try with_reducible rfl)
    refine tkD (v:=?_) 27 (fun D A=>?_) ?_;rotate_left
    ·(go_simp;try with_reducible rfl)
    refine tkD (v:=?_) 28 (fun D A=>?_) ?_;rotate_left
    ·(go_simp;try with_reducible rfl)
    refine tkD (v:=?_) 29 (fun D A=>?_) ?_;rotate_left
    ·(go_simp;try with_reducible rfl)
    refine wpAnyH_done Qqy ?_ _
    clear G
    go_wp2_with fail
    go_ret
    exact ⟨rfl,U.out.thn (Qz _ _).drew⟩
   obtain rfl:false=r:=by rw [← J];simp [h0]
   have bL:((v.kids.length:Int)==0)=false:=by rw [← Qt,beq_iff_eq];omega
   clear J h0 a0 g2 g3 g4 g5 g6 T V aE aD HR aJ aH HV HC aI HU
   have N:=Qq (show ∀ W,(fun W=>Below M M W) W→Qqa W (w+1) 4 (.slice p4 v.kids.length k4)∧Qqa W w3 1 (.bool false) from fun W h=>by
    have I:∀ {b j:Nat} {u:Value},M.cell? ⟨b,j,none⟩=some u→W.cell? ⟨b,j,none⟩=some u:=fun hc=>kC h hc
    exact ⟨I Y,I O⟩)
   clear Y O
   refine wp_region_held_drew (S:=fun W=>Below M M W) Qqy (Qz _ _).drew (fun G=>?_)
   refine tkD (v:=?_) 0 (fun D A=>?_) ?_;rotate_left
   ·(go_simp;try with_reducible rfl)
   refine tkD (v:=?_) 1 (fun D A=>?_) ?_;rotate_left
   ·(obtain ⟨-,O⟩:=N.out D A;go_simp;try with_reducible rfl)
   refine tkD (v:=?_) 2 (fun D A=>?_) ?_;rotate_left
   ·(go_simp;try with_reducible rfl)
   refine tkN 3 ?_
   refine tkN 4 ?_
   refine tkN 5 ?_
   refine tkN 6 ?_
   refine tkD (v:=?_) 7 (fun D A=>?_) ?_;rotate_left
   ·(go_simp;try with_reducible rfl)
   refine tkD (v:=?_) 8 (fun D A=>?_) ?_;rotate_left
   ·(go_simp;try with_reducible rfl)
   refine tkN 9 ?_
   refine tkN 10 ?_
   refine tkN 11 ?_
   refine tkN 12 ?_
   refine tkN 13 ?_
   refine tkN 14 ?_
   refine tkN 15 ?_
   refine tkN 16 ?_
   refine tkD (v:=?_) 17 (fun D A=>?_) ?_;rotate_left
   ·(go_simp;try with_reducible rfl)
   refine tkD (v:=?_) 18 (fun D A=>?_) ?_;rotate_left
   ·(go_simp;try with_reducible rfl)
   refine tkD (v:=?_) 19 (fun D A=>?_) ?_;rotate_left
   ·(go_simp;try with_reducible rfl)
   refine tkD (v:=?_) 20 (fun D A=>?_) ?_;rotate_left
   ·(obtain ⟨-,O⟩:=N.out D A;go_simp;try with_reducible rfl)
   refine tkD (v:=?_) 21 (fun D A=>?_) ?_;rotate_left
   ·(go_simp;try with_reducible rfl)
   refine tkD (v:=?_) 22 (fun D A=>?_) ?_;rotate_left
   ·(go_simp;try with_reducible rfl)
   refine tkD (v:=?_) 23 (fun D A=>?_) ?_;rotate_left
   ·(go_simp;try with_reducible rfl)
   refine tkD (v:=?_) 24 (fun D A=>?_) ?_;rotate_left
   ·(obtain ⟨Y,-⟩:=N.out D A;go_simp;try with_reducible rfl)
   refine tkD (v:=?_) 25 (fun D A=>?_) ?_;rotate_left
   ·(go_simp;try with_reducible rfl)
   refine tkD (v:=?_) 26 (fun D A=>?_) ?_;rotate_left
   ·(go_simp;try with_reducible rfl)
   refine tkD (v:=?_) 27 (fun D A=>?_) ?_;rotate_left
   ·(go_simp;try with_reducible rfl)
   refine tkD (v:=?_) 28 (fun D A=>?_) ?_;rotate_left
   ·(go_simp;try with_reducible rfl)
   refine tkD (v:=?_) 29 (fun D A=>?_) ?_;rotate_left
   ·(go_simp;try with_reducible rfl)
   refine wpAnyH_done Qqy ?_ _
   clear G
   go_wp2_with fail
   go_ret
   exact ⟨rfl,U.out.thn (Qz _ _).drew⟩
  | true=>
   rw [hhas] at O
   have J:=V.out
   rw [hhas] at J
   simp only [if_true] at J
   by_cases h1:v.kids.length=1
   ·obtain ⟨x,hx⟩:=List.length_eq_one_iff.1 h1
    rw [hx] at J
    have cL:v.kids[0]?=some x:=by rw [hx];rfl
    rw [h1] at HV Y
    obtain ⟨ga,oa,x3,bO,x4,bP,rfl,eB,cK,f0,f1,f2,f3,f4⟩:=(HV.out.below U.out).val cL
    simp only [Nat.zero_mul,Nat.add_zero] at f0 f1 f2 f3 f4
    have bA:(x.kind==c.arg.kind)=r:=J
    have bW:=Qq cK;have bV:=Qq (aJ.out.move (.of_below cV.out) Qzx)
    have bK:∀ W,Below M M W→Calls prog 82 #[Qqb ub aP us.length cs,.agg (vcs x x3 bO x4 bP).toArray,.agg #[tk,.string ts,tm,.slice t3 n3 m3,.slice t4 n4 m4]] W fun e w'=>e=.returned (.bool r)∧Below W W w':=fun W h=>by
     rw [← bA]
     exact (hasLeafG x c.arg aH.out _ _ _ _ _ _ _ _ (bW.out.move (.of_below h) Qzx) (bV.out.move (.of_below h) Qzx)).mono (by rintro e w' ⟨rfl,hg⟩;exact ⟨rfl,hg.bl⟩)
    unfold vcs at bK
    have bL:((1:Int)==1)=true:=rfl
    clear J bA h1 hx cL cK T V aE aD HR aJ aH HV HC aI HU bW bV
    cases r with
    | false=>
     have N:=Qq (show ∀ W,(fun W=>Below M M W) W→Qqa W w 0 (Qqb ub aP us.length cs)∧Qqa W (w+1) 4 (Qqb ga oa 1 k4)∧Qqa W w3 1 (.bool true)∧Qqa W w3 2 tk∧Qqa W w3 3 (.string ts)∧Qqa W w3 4 tm∧Qqa W w3 5 (.slice t3 n3 m3)∧Qqa W w3 6 (.slice t4 n4 m4)∧Qzh W ga oa x.kind x.n x.s (.slice x3 x.names.length bO) (.slice x4 x.kids.length bP) from fun W h=>by
      have I:∀ {b j:Nat} {u:Value},M.cell? ⟨b,j,none⟩=some u→W.cell? ⟨b,j,none⟩=some u:=fun hc=>kC h hc
      exact ⟨I a0,I Y,I O,I g2,I g3,I g4,I g5,I g6,I f0,I f1,I f2,I f3,I f4⟩)
     clear a0 Y O g2 g3 g4 g5 g6 f0 f1 f2 f3 f4
     refine wp_region_held_drew (S:=fun W=>Below M M W) Qqy (Qz _ _).drew (fun G=>?_)
     refine tkD (v:=?_) 0 (fun D A=>?_) ?_;rotate_left
     ·(go_simp;try with_reducible rfl)
     refine tkD (v:=?_) 1 (fun D A=>?_) ?_;rotate_left
     ·(obtain ⟨-,-,O,-,-,-,-,-,-,-,-,-,-⟩:=N.out D A;go_simp;try with_reducible rfl)
     refine tkD (v:=?_) 2 (fun D A=>?_) ?_;rotate_left
     ·(go_simp;try with_reducible rfl)
     refine tkD (v:=?_) 3 (fun D A=>?_) ?_;rotate_left
     ·(go_simp;try with_reducible rfl)
     refine tkD (v:=?_) 4 (fun D A=>?_) ?_;rotate_left
     ·(obtain ⟨-,Y,-,-,-,-,-,-,-,-,-,-,-⟩:=N.out D A;go_simp;try with_reducible rfl)
     refine tkD (v:=?_) 5 (fun D A=>?_) ?_;rotate_left
     ·(go_simp;try with_reducible rfl)
     refine tkD (v:=?_) 6 (fun D A=>?_) ?_;rotate_left
     ·(go_simp;try with_reducible rfl)
     refine tkD (v:=?_) 7 (fun D A=>?_) ?_;rotate_left
     ·(go_simp;try with_reducible rfl)
     refine tkD (v:=?_) 8 (fun D A=>?_) ?_;rotate_left
     ·(go_simp;try with_reducible rfl)
     refine tkD (v:=?_) 9 (fun D A=>?_) ?_;rotate_left
     ·(obtain ⟨a0,-,-,-,-,-,-,-,-,-,-,-,-⟩:=N.out D A;go_simp;try with_reducible rfl)
     refine tkD (v:=?_) 10 (fun D A=>?_) ?_;rotate_left
     ·(go_simp;try with_reducible rfl)
     refine tkD (v:=?_) 11 (fun D A=>?_) ?_;rotate_left
     ·(obtain ⟨-,Y,-,-,-,-,-,-,-,-,-,-,-⟩:=N.out D A;go_simp;try with_reducible rfl)
     refine tkD (v:=?_) 12 (fun D A=>?_) ?_;rotate_left
     ·(go_simp;try with_reducible rfl)
     refine tkD (v:=?_) 13 (fun D A=>?_) ?_;rotate_left
     ·(obtain ⟨-,-,-,-,-,-,-,-,f0,f1,f2,f3,f4⟩:=N.out D A;go_simp;try with_reducible rfl)
     refine tkD (v:=?_) 14 (fun D A=>?_) ?_;rotate_left
     ·(go_simp;try with_reducible rfl)
     refine tkD (v:=?_) 15 (fun D A=>?_) ?_;rotate_left
     ·(obtain ⟨-,-,-,g2,g3,g4,g5,g6,-,-,-,-,-⟩:=N.out D A;go_simp;try with_reducible rfl)
     refine rdD 16 (fun K hK=>?_) Qo
     go_simp
     refine (bK _ (Qz _ _).drew).mono ?_
     rintro e w5 ⟨rfl,aN⟩
     have aG:Hid (Below M M w5):=Qq ((Qz _ _).drew.thn aN)
     clear aN
     try dsimp only
     refine hK.out _ _ aG.out (fun G=>?_)
     clear hK K
     refine tkD (v:=?_) 17 (fun D A=>?_) ?_;rotate_left
     ·(go_simp;try with_reducible rfl)
     refine tkD (v:=?_) 18 (fun D A=>?_) ?_;rotate_left
     ·(go_simp;try with_reducible rfl)
     refine tkD (v:=?_) 19 (fun D A=>?_) ?_;rotate_left
     ·(go_simp;try with_reducible rfl)
     refine tkD (v:=?_) 20 (fun D A=>?_) ?_;rotate_left
     ·(obtain ⟨-,-,O,-,-,-,-,-,-,-,-,-,-⟩:=N.out D A;go_simp;try with_reducible rfl)
     refine tkD (v:=?_) 21 (fun D A=>?_) ?_;rotate_left
     ·(go_simp;try with_reducible rfl)
     refine tkD (v:=?_) 22 (fun D A=>?_) ?_;rotate_left
     ·(go_simp;try with_reducible rfl)
     refine tkN 23 ?_
     refine tkN 24 ?_
     refine tkN 25 ?_
     refine tkN 26 ?_
     refine tkD (v:=?_) 27 (fun D A=>?_) ?_;rotate_left
     ·(go_simp;try with_reducible rfl)
     refine tkD (v:=?_) 28 (fun D A=>?_) ?_;rotate_left
     ·(go_simp;try with_reducible rfl)
     refine tkD (v:=?_) 29 (fun D A=>?_) ?_;rotate_left
     ·(go_simp;try with_reducible rfl)
     refine wpAnyH_done Qqy ?_ _
     clear G
     go_wp2_with fail
     go_ret
     exact ⟨rfl,U.out.thn aG.out⟩
    | true=>
     have N:=Qq (show ∀ W,(fun W=>Below M M W) W→Qqa W w 0 (Qqb ub aP us.length cs)∧Qqa W (w+1) 4 (Qqb ga oa 1 k4)∧Qqa W w3 1 (.bool true)∧Qqa W w3 2 tk∧Qqa W w3 3 (.string ts)∧Qqa W w3 4 tm∧Qqa W w3 5 (.slice t3 n3 m3)∧Qqa W w3 6 (.slice t4 n4 m4)∧Qzh W ga oa x.kind x.n x.s (.slice x3 x.names.length bO) (.slice x4 x.kids.length bP) from fun W h=>by
      have I:∀ {b j:Nat} {u:Value},M.cell? ⟨b,j,none⟩=some u→W.cell? ⟨b,j,none⟩=some u:=fun hc=>kC h hc
      exact ⟨I a0,I Y,I O,I g2,I g3,I g4,I g5,I g6,I f0,I f1,I f2,I f3,I f4⟩)
     clear a0 Y O g2 g3 g4 g5 g6 f0 f1 f2 f3 f4
     refine wp_region_held_drew (S:=fun W=>Below M M W) Qqy (Qz _ _).drew (fun G=>?_)
     refine tkD (v:=?_) 0 (fun D A=>?_) ?_;rotate_left
     ·(go_simp;try with_reducible rfl)
     refine tkD (v:=?_) 1 (fun D A=>?_) ?_;rotate_left
     ·(obtain ⟨-,-,O,-,-,-,-,-,-,-,-,-,-⟩:=N.out D A;go_simp;try with_reducible rfl)
     refine tkD (v:=?_) 2 (fun D A=>?_) ?_;rotate_left
     ·(go_simp;try with_reducible rfl)
     refine tkD (v:=?_) 3 (fun D A=>?_) ?_;rotate_left
     ·(go_simp;try with_reducible rfl)
     refine tkD (v:=?_) 4 (fun D A=>?_) ?_;rotate_left
     ·(obtain ⟨-,Y,-,-,-,-,-,-,-,-,-,-,-⟩:=N.out D A;go_simp;try with_reducible rfl)
     refine tkD (v:=?_) 5 (fun D A=>?_) ?_;rotate_left
     ·(go_simp;try with_reducible rfl)
     refine tkD (v:=?_) 6 (fun D A=>?_) ?_;rotate_left
     ·(go_simp;try with_reducible rfl)
     refine tkD (v:=?_) 7 (fun D A=>?_) ?_;rotate_left
     ·(go_simp;try with_reducible rfl)
     refine tkD (v:=?_) 8 (fun D A=>?_) ?_;rotate_left
     ·(go_simp;try with_reducible rfl)
     refine tkD (v:=?_) 9 (fun D A=>?_) ?_;rotate_left
     ·(obtain ⟨a0,-,-,-,-,-,-,-,-,-,-,-,-⟩:=N.out D A;go_simp;try with_reducible rfl)
     refine tkD (v:=?_) 10 (fun D A=>?_) ?_;rotate_left
     ·(go_simp;try with_reducible rfl)
     refine tkD (v:=?_) 11 (fun D A=>?_) ?_;rotate_left
     ·(obtain ⟨-,Y,-,-,-,-,-,-,-,-,-,-,-⟩:=N.out D A;go_simp;try with_reducible rfl)
     refine tkD (v:=?_) 12 (fun D A=>?_) ?_;rotate_left
     ·(go_simp;try with_reducible rfl)
     refine tkD (v:=?_) 13 (fun D A=>?_) ?_;rotate_left
     ·(obtain ⟨-,-,-,-,-,-,-,-,f0,f1,f2,f3,f4⟩:=N.out D A;go_simp;try with_reducible rfl)
     refine tkD (v:=?_) 14 (fun D A=>?_) ?_;rotate_left
     ·(go_simp;try with_reducible rfl)
     refine tkD (v:=?_) 15 (fun D A=>?_) ?_;rotate_left
     ·(obtain ⟨-,-,-,g2,g3,g4,g5,g6,-,-,-,-,-⟩:=N.out D A;go_simp;try with_reducible rfl)
     refine rdD 16 (fun K hK=>?_) Qo
     go_simp
     refine (bK _ (Qz _ _).drew).mono ?_
     rintro e w5 ⟨rfl,aN⟩
     have aG:Hid (Below M M w5):=Qq ((Qz _ _).drew.thn aN)
     clear aN
     try dsimp only
     refine hK.out _ _ aG.out (fun G=>?_)
     clear hK K
     refine tkD (v:=?_) 17 (fun D A=>?_) ?_;rotate_left
     ·(go_simp;try with_reducible rfl)
     refine tkD (v:=?_) 18 (fun D A=>?_) ?_;rotate_left
     ·(go_simp;try with_reducible rfl)
     refine tkN 19 ?_
     refine tkN 20 ?_
     refine tkN 21 ?_
     refine tkN 22 ?_
     refine tkN 23 ?_
     refine tkN 24 ?_
     refine tkN 25 ?_
     refine tkN 26 ?_
     refine tkN 27 ?_
     refine tkD (v:=?_) 28 (fun D A=>?_) ?_;rotate_left
     ·(go_simp;try with_reducible rfl)
     refine tkD (v:=?_) 29 (fun D A=>?_) ?_;rotate_left
     ·(go_simp;try with_reducible rfl)
     refine wpAnyH_done Qqy ?_ _
     clear G
     go_wp2_with fail
     go_ret
     exact ⟨rfl,U.out.thn aG.out⟩
   obtain rfl:false=r:=by
    rw [← J]
    match aY:v.kids with
    | []=>rfl
    | [x]=>rw [aY] at h1;simp at h1
    | _::_::_=>rfl
   have bL:((v.kids.length:Int)==1)=false:=by rw [← Qt,beq_iff_eq];omega
   clear J h1 a0 g2 g3 g4 g5 g6 T V aE aD HR aJ aH HV HC aI HU
   have N:=Qq (show ∀ W,(fun W=>Below M M W) W→Qqa W (w+1) 4 (.slice p4 v.kids.length k4)∧Qqa W w3 1 (.bool true) from fun W h=>by
    have I:∀ {b j:Nat} {u:Value},M.cell? ⟨b,j,none⟩=some u→W.cell? ⟨b,j,none⟩=some u:=fun hc=>kC h hc
    exact ⟨I Y,I O⟩)
   clear Y O
   refine wp_region_held_drew (S:=fun W=>Below M M W) Qqy (Qz _ _).drew (fun G=>?_)
   refine tkD (v:=?_) 0 (fun D A=>?_) ?_;rotate_left
   ·(go_simp;try with_reducible rfl)
   refine tkD (v:=?_) 1 (fun D A=>?_) ?_;rotate_left
   ·(obtain ⟨-,O⟩:=N.out D A;go_simp;try with_reducible rfl)
   refine tkD (v:=?_) 2 (fun D A=>?_) ?_;rotate_left
   ·(go_simp;try with_reducible rfl)
   refine tkD (v:=?_) 3 (fun D A=>?_) ?_;rotate_left
   ·(go_simp;try with_reducible rfl)
   refine tkD (v:=?_) 4 (fun D A=>?_) ?_;rotate_left
   ·(obtain ⟨Y,-⟩:=N.out D A;go_simp;try with_reducible rfl)
   refine tkD (v:=?_) 5 (fun D A=>?_) ?_;rotate_left
   ·(go_simp;try with_reducible rfl)
   refine tkD (v:=?_) 6 (fun D A=>?_) ?_;rotate_left
   ·(go_simp;try with_reducible rfl)
   refine tkD (v:=?_) 7 (fun D A=>?_) ?_;rotate_left
   ·(go_simp;try with_reducible rfl)
   refine tkD (v:=?_) 8 (fun D A=>?_) ?_;rotate_left
   ·(go_simp;try with_reducible rfl)
   refine tkN 9 ?_
   refine tkN 10 ?_
   refine tkN 11 ?_
   refine tkN 12 ?_
   refine tkN 13 ?_
   refine tkN 14 ?_
   refine tkN 15 ?_
   refine tkN 16 ?_
   refine tkD (v:=?_) 17 (fun D A=>?_) ?_;rotate_left
   ·(go_simp;try with_reducible rfl)
   refine tkD (v:=?_) 18 (fun D A=>?_) ?_;rotate_left
   ·(go_simp;try with_reducible rfl)
   refine tkD (v:=?_) 19 (fun D A=>?_) ?_;rotate_left
   ·(go_simp;try with_reducible rfl)
   refine tkD (v:=?_) 20 (fun D A=>?_) ?_;rotate_left
   ·(obtain ⟨-,O⟩:=N.out D A;go_simp;try with_reducible rfl)
   refine tkD (v:=?_) 21 (fun D A=>?_) ?_;rotate_left
   ·(go_simp;try with_reducible rfl)
   refine tkD (v:=?_) 22 (fun D A=>?_) ?_;rotate_left
   ·(go_simp;try with_reducible rfl)
   refine tkN 23 ?_
   refine tkN 24 ?_
   refine tkN 25 ?_
   refine tkN 26 ?_
   refine tkD (v:=?_) 27 (fun D A=>?_) ?_;rotate_left
   ·(go_simp;try with_reducible rfl)
   refine tkD (v:=?_) 28 (fun D A=>?_) ?_;rotate_left
   ·(go_simp;try with_reducible rfl)
   refine tkD (v:=?_) 29 (fun D A=>?_) ?_;rotate_left
   ·(go_simp;try with_reducible rfl)
   refine wpAnyH_done Qqy ?_ _
   clear G
   go_wp2_with fail
   go_ret
   exact ⟨rfl,U.out.thn (Qz _ _).drew⟩
 have dE:(v.kind != 3)=true:=by rw [bne_iff_ne];exact h3
 obtain rfl:false=r:=by
  have dD:(v.kind==3)=false:=by simpa using h3
  rw [← HR.out];unfold Bt;rw [dD];rfl
 clear h3
 go_wp2_with fail
 go_ret
 exact ⟨rfl,aC.out⟩
theorem hasP_at (us:List Sm) (hu:Ko us) (v:Val) (t:Ty) (h:Jo t∨t.kind=3):Dk us v t (Mh us v t):=by
 obtain ⟨k,s,n,names,kids⟩:=t
 unfold Mh
 rcases h with h | h
 ·have A:k=0∨k=1∨k=2:=h
  rw [if_neg (show ¬ (Ty.mk k s n names kids).kind=3 from by simp only [Ty.kind];omega)]
  exact Tr us v k A s n names kids
 have A:k=3:=h
 subst A
 exact hasSum us v s n names kids hu
theorem Wu (x:Val):Yz x x=0:=Bk.2 rfl
end Go.Proofs.YtdpibdpbgokmoaaGreatDoor
