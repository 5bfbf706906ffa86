import Derived.Test.YtdpibdpbgokmoaaGreatDoorC25
import Derived.Test.YtdpibdpbgokmoaaGreatDoorC19
set_option maxRecDepth 100000
set_option maxHeartbeats 400000000
namespace Go.Proofs.YtdpibdpbgokmoaaGreatDoor
open Go.RowKit Go.Shelf Go.Lib Tryz
theorem Pp (k:Int) (nm:Bs) (n:Int) (sx:Bs) (names binds:List Bs) (kids:List Ex) (a z:Int) (S:Nat→Prop) (ce:List Value) (vv:Value) (vals:List Val) (w:World) (hN:H9 k nm names binds kids.length) (he:Yv S w ce (.mk k nm n sx names binds kids a z)) (hl:vals.length=kids.length) (hv0:Sl Ze S w vv vals) (hb:∀ v ∈ vals,Y3 v):
  Calls prog 148 #[ce,vv] w (X6 S w (Vq k nm names vals)):=by
 by_cases h5:k=5
 ·subst h5;exact Nm _ _ _ _ _ _ _ _ _ _ _ _ _ he hv0 hb
 by_cases h9:k=9
 ·subst h9;exact Pz _ _ _ _ _ _ _ _ _ _ _ _ _ he hv0 hb (Qqq hN.few)
 by_cases h6:k=6
 ·subst h6;exact Ru _ _ _ _ _ _ _ _ _ _ _ _ _ he hv0 hb (hN.words rfl).1 (hN.words rfl).2 hN.fewn
 by_cases h8:k=8
 ·subst h8
  have:=hN.fld rfl
  exact Nz _ _ _ _ _ _ _ _ _ _ _ _ _ he hv0 hb (vals[0]'Qqj) (Qx Qqj)
 by_cases h7:k=7
 ·subst h7
  obtain ⟨h1,h2⟩:=hN.one rfl
  obtain ⟨x1,rfl⟩:=List.length_eq_one_iff.1 h1
  rw [h2] at hl
  match vals,hl with
  | [v0,v1],_=>exact Ov _ _ _ _ _ _ _ _ _ _ _ _ _ he hv0 hb x1 rfl v0 v1 rfl
 exact Oh k _ _ _ _ _ _ _ _ _ _ _ _ _ he hv0 hb h5 h9 h6 h8 h7
def Y1:Nat→Ex→List Bs→List Val→Option Val
 | 0,_,_,_=>none
 | d+1,.mk k nm n s names binds kids _ _,ns,vs=>
  if k=0 then some (Y5 n)
  else if k=1 then (if s.length≤4096 then some (B5 s) else none)
  else if k=2 then some (Vv (decide (n=1)))
  else if k=3 then Ec nm ns vs ns.length
  else if k=11 then (kids[0]?.bind fun x=>Y1 d x ns vs).bind fun v=>kids[1]?.bind fun x=>Y1 d x (ns++[nm]) (vs++[v])
  else if k=12 then (kids[0]?.bind fun x=>Y1 d x ns vs).bind fun v=>if v.kind=2 then (if v.n=1 then kids[1]? else kids[2]?).bind fun x=>Y1 d x ns vs else none
  else if k=13 then Gl (Y1 d) names binds kids ns vs
  else if k=14 then opV (fun x=>Y1 d x ns vs) nm kids
  else (Jz (fun x=>Y1 d x ns vs) kids).bind (Vq k nm names)
section
variable {d:Nat} {nm s:Bs} {n a z:Int} {names binds:List Bs} {kids:List Ex} {x0 x1 x2:Ex} {ns:List Bs} {vs:List Val}
theorem revF_let (h0:kids[0]?=some x0) (h1:kids[1]?=some x1):Y1 (d+1) (.mk 11 nm n s names binds kids a z) ns vs=(Y1 d x0 ns vs).bind fun v=>Y1 d x1 (ns++[nm]) (vs++[v]):=by
 rw [Y1,if_neg Qqx,if_neg Qqx,if_neg Qqx,if_neg Qqx,if_pos rfl,h0,h1];rfl
theorem revF_if (h0:kids[0]?=some x0) (h1:kids[1]?=some x1) (h2:kids[2]?=some x2):Y1 (d+1) (.mk 12 nm n s names binds kids a z) ns vs=(Y1 d x0 ns vs).bind fun v=>if v.kind=2 then (if v.n=1 then Y1 d x1 ns vs else Y1 d x2 ns vs) else none:=by
 rw [Y1,if_neg Qqx,if_neg Qqx,if_neg Qqx,if_neg Qqx,if_neg Qqx,if_pos rfl,h0,h1,h2]
 show (Y1 d x0 ns vs).bind _=_
 congr 1
 funext v
 by_cases hk:v.kind=2
 ·rw [if_pos hk,if_pos hk]
  by_cases hn:v.n=1
  ·rw [if_pos hn,if_pos hn];rfl
  rw [if_neg hn,if_neg hn];rfl
 rw [if_neg hk,if_neg hk]
theorem revF_mat:Y1 (d+1) (.mk 13 nm n s names binds kids a z) ns vs=Gl (Y1 d) names binds kids ns vs:=by
 rw [Y1,if_neg Qqx,if_neg Qqx,if_neg Qqx,if_neg Qqx,if_neg Qqx,if_neg Qqx,if_pos rfl]
theorem revF_op:Y1 (d+1) (.mk 14 nm n s names binds kids a z) ns vs=opV (fun x=>Y1 d x ns vs) nm kids:=by
 rw [Y1,if_neg Qqx,if_neg Qqx,if_neg Qqx,if_neg Qqx,if_neg Qqx,if_neg Qqx,if_neg Qqx,if_pos rfl]
theorem Qjn {k:Int} (q0:k≠0) (q1:k≠1) (q2:k≠2) (q3:k≠3) (q11:k≠11) (q12:k≠12) (q13:k≠13) (q14:k≠14):Y1 (d+1) (.mk k nm n s names binds kids a z) ns vs=(Jz (fun x=>Y1 d x ns vs) kids).bind (Vq k nm names):=by
 rw [Y1,if_neg q0,if_neg q1,if_neg q2,if_neg q3,if_neg q11,if_neg q12,if_neg q13,if_neg q14]
end
def Xn (d:Nat) (e:Ex):Prop:=∀ (S:Nat→Prop) (ce:List Value) (nv vv:Value) (names:List Bs) (vals:List Val) (w:World),Yv S w ce e→Sl Zh S w nv names→Sl Ze S w vv vals→names.length≤vals.length→vals.length+d≤1000→(∀ v ∈ vals,Y3 v) →
 Calls prog 97 #[ce,nv,vv] w (X6 S w (Y1 d e names vals))
theorem Jk {S:Nat→Prop} {w W1 w2:World} {r:Option Val} {R:Nat} {k n:Int} {s:ByteArray} {p3:Option Addr} {n3 k3:Nat} {p4:Option Addr} {n4 k4:Nat} {b:Bool} (hB1:Below w w W1) (hR:w≤R) (hR1:R<W1) (hv:EvS (fun c=>(S c∧c<w)∨W1≤c) w2 [k,n,.string s,.slice p3 n3 k3,.slice p4 n4 k4] r b) (hB2:Below W1 W1 w2):
  X6 S w r (.returned (.tuple #[.agg #[k,n,.string s,.slice p3 n3 k3,.slice p4 n4 k4],.bool b])) (Zl w2 R k n (.string s) (.slice p3 n3 k3) (.slice p4 n4 k4)):=by
 have hs:=hB1.size
 exact ⟨k,n,s,p3,n3,k3,p4,n4,k4,b,rfl,hv.map fun v h1=>h1.move (fun c A _=>Zf (by rcases A with h | h;exact (by have:=h.2;omega);omega)) (fun c _ A=>by rcases A with h | h;exact .inl h.1;exact .inr Qqj),Zc (hB1.thn hB2) hR⟩
theorem Vz {S:Nat→Prop} {w w2:World} {r:Option Val} {R:Nat} {k n:Int} {s:ByteArray} {p3:Option Addr} {n3 k3:Nat} {p4:Option Addr} {n4 k4:Nat} (hR:w≤R) (hB2:Below w w w2) (hr:r=none):
  X6 S w r (.returned (.tuple #[.agg #[k,n,.string s,.slice p3 n3 k3,.slice p4 n4 k4],.bool false])) (Zl w2 R k n (.string s) (.slice p3 n3 k3) (.slice p4 n4 k4)):=
 ⟨k,n,s,p3,n3,k3,p4,n4,k4,false,rfl,.no hr,Zc hB2 hR⟩
theorem Kg {S:Nat→Prop} {w w2:World} {r:Option Val} {R:Nat} {k n:Int} {s:ByteArray} {p3:Option Addr} {n3 k3:Nat} {p4:Option Addr} {n4 k4:Nat} {b:Bool} (hR:w≤R) (hB2:Below w w w2) (hv:EvS (fun c=>(S c∧c<w)∨R<c) w2 [k,n,.string s,.slice p3 n3 k3,.slice p4 n4 k4] r b):
  X6 S w r (.returned (.tuple #[.agg #[k,n,.string s,.slice p3 n3 k3,.slice p4 n4 k4],.bool b])) (Zl w2 R k n (.string s) (.slice p3 n3 k3) (.slice p4 n4 k4)):=
 ⟨k,n,s,p3,n3,k3,p4,n4,k4,b,rfl,hv.map fun v h1=>h1.move (fun c A _=>Zf (by rcases A with h | h;exact (by have:=h.2;omega);omega)) (fun c _ A=>by rcases A with h | h;exact .inl h.1;exact .inr Qqj),Zc hB2 hR⟩
theorem X6.sub {S:Nat→Prop} {w W1:World} {r:Option Val} {e:Ending} {w2:World} (h:X6 (fun c=>S c∧c<w) W1 r e w2):∃ (k n:Int) (s:ByteArray) (p3:Option Addr) (n3 k3:Nat) (p4:Option Addr) (n4 k4:Nat) (b:Bool),
  e=.returned (.tuple #[.agg #[k,n,.string s,.slice p3 n3 k3,.slice p4 n4 k4],.bool b])∧EvS (fun c=>(S c∧c<w)∨W1≤c) w2 [k,n,.string s,.slice p3 n3 k3,.slice p4 n4 k4] r b∧Below W1 W1 w2:=h
theorem X6.drew {S:Nat→Prop} {w W:World} {r:Option Val} {e:Ending} (h:X6 S w r e W):X6 S w r e W.drew:=by
 obtain ⟨k,n,s,p3,n3,k3,p4,n4,k4,b,he,hv,hb⟩:=h
 exact ⟨k,n,s,p3,n3,k3,p4,n4,k4,b,he,hv.map fun v h1=>h1.move (fun _ _ _=>rfl) Qzx,hb.drew⟩
theorem Bw (b:Bool) (w:World):Calls prog 144 #[.bool b] w fun e w'=>∃ X:Int,X=(if b then 1 else 0)∧e=.returned (.tuple #[.agg #[.int .i64 2,X,Qqe,Qqf,Qqf],.bool true])∧Below w w w':=
 (Su b w).mono fun _ _ ⟨h1,h2⟩=>⟨_,rfl,h1,h2⟩
theorem Rw (n:Int) (w:World):Calls prog 143 #[n] w fun e w'=>∃ X:Int,X=n∧e=.returned (.tuple #[.agg #[Qqd,X,Qqe,Qqf,Qqf],.bool true])∧Below w w w':=
 (B1 n w).mono fun _ _ ⟨h1,h2⟩=>⟨n,rfl,h1,h2⟩
theorem Fw {X:Int} {b:Bool} (h:X=if b then 1 else 0):Y3 (.mk 2 X [] [] []):=.mk _ _ _ _ _ (fun _=>by rw [h];cases b <;> simp) (fun x h=>by simp at h)
theorem Qjf (nm:Bs) (n:Int) (s:Bs) (names binds:List Bs) (kids:List Ex) (a z:Int) (d:Nat) (ih:∀ x ∈ kids,Xn d x) :∀ (S:Nat→Prop) (ce:List Value) (nv vv:Value) (ns:List Bs) (vs:List Val) (w:World),Yv S w ce (.mk 0 nm n s names binds kids a z)→Sl Zh S w nv ns→Sl Ze S w vv vs→ns.length≤vs.length→vs.length+(d+1)≤1000→(∀ v ∈ vs,Y3 v) →
  Calls prog 97 #[ce,nv,vv] w (X6 S w (Y1 (d+1) (.mk 0 nm n s names binds kids a z) ns vs)):=by
 intro S ce nv vv ns vs w Z V Y G hd hb
 obtain ⟨r,hr⟩:=eX (Y1 (d+1) (.mk 0 nm n s names binds kids a z) ns vs)
 rw [hr]
 have HR:=Qq hr
 clear hr
 have hx:Yv (fun b=>S b∧b<w) w ce (.mk 0 nm n s names binds kids a z):=Z.move (.refl _ _) (fun b hb h=>⟨h,hb⟩)
 have hn:=V.up
 have hv:=Y.up
 obtain ⟨np,nc,rfl,_⟩:=hn.len
 obtain ⟨vp,vc,rfl,aS⟩:=hv.len
 have aO:=Qq hx
 obtain ⟨aT,bv,kv,rfl,aQ,aR,O,N,hk⟩:=Yx.1 hx
 obtain ⟨p1,c1,rfl,_⟩:=O.len
 obtain ⟨p2,c2,rfl,_⟩:=N.len
 obtain ⟨p3,c3,rfl,aP⟩:=hk.len
 obtain ⟨HN,HV,aL,aM,aK,HK,HI,aJ⟩:=Qqu hn hv hb O N hk ih G
 clear Z V Y hx hn hv O N hk hb ih G
 unfold sv at *
 go_enter func97,ntmps97
 go_upto_region 3 with fail
 generalize A:(w.alloc _).alloc _=W1
 have T:=eqB A (Zt _ _ _)
 have I:=eqH (b:=w.heap.size) A (Q5 _ _ _)
 have J:=eqH (b:=w.heap.size+1) A (Q6 _ _ _)
 obtain ⟨aA,aN,aC⟩:=Qqo T I J
 have U:=Z8 J
 obtain ⟨c0,c1,c2,c3,c4,c5,c6,c7,c8⟩:=row9 I
 clear A T I J
 go_wp2_with (go_at_call 143;refine (B1 _ _).mono ?_;rintro e w5 ⟨rfl,M⟩;have D:=kE M U aC.out;obtain ⟨y0,y1,y2,y3,y4⟩:=row5 D;obtain ⟨f0,f1,f2,f3,f4⟩:=frz5 D;have aD:=Qq D;have aB:=Qq M;clear D M)
 show bodyPost _ _ _ _ _ (Zl w5 (w+1) Qqd n Qqe Qqf Qqf)
 refine Q7 (v:=.tuple #[.agg #[Qqd,n,Qqe,Qqf,Qqf],.bool true]) (by simp [results,results97,go_sem,Zd aD.out]) rfl (Jk aA.out Qqj U (.yes (Y8 (s:=[]) Qqk (Sl.nil _ _ _) (Sl.nil _ _ _)) (E9 n) (by rw [← HR.out];rfl)) aB.out)
theorem Nw (nm:Bs) (n:Int) (s:Bs) (names binds:List Bs) (kids:List Ex) (a z:Int) (d:Nat) (ih:∀ x ∈ kids,Xn d x) (hq:(s.length:Int)≤4096):∀ (S:Nat→Prop) (ce:List Value) (nv vv:Value) (ns:List Bs) (vs:List Val) (w:World),Yv S w ce (.mk 1 nm n s names binds kids a z)→Sl Zh S w nv ns→Sl Ze S w vv vs→ns.length≤vs.length→vs.length+(d+1)≤1000→(∀ v ∈ vs,Y3 v) →
  Calls prog 97 #[ce,nv,vv] w (X6 S w (Y1 (d+1) (.mk 1 nm n s names binds kids a z) ns vs)):=by
 intro S ce nv vv ns vs w Y U V G hd hb
 obtain ⟨r,hr⟩:=eX (Y1 (d+1) (.mk 1 nm n s names binds kids a z) ns vs)
 rw [hr]
 have HR:=Qq hr
 clear hr
 have hx:Yv (fun b=>S b∧b<w) w ce (.mk 1 nm n s names binds kids a z):=Y.move (.refl _ _) (fun b hb h=>⟨h,hb⟩)
 have hn:=U.up
 have hv:=V.up
 obtain ⟨np,nc,rfl,_⟩:=hn.len
 obtain ⟨vp,vc,rfl,aR⟩:=hv.len
 have aO:=Qq hx
 obtain ⟨aS,bv,kv,rfl,aQ,aG,N,M,hk⟩:=Yx.1 hx
 obtain ⟨p1,c1,rfl,_⟩:=N.len
 obtain ⟨p2,c2,rfl,_⟩:=M.len
 obtain ⟨p3,c3,rfl,aP⟩:=hk.len
 obtain ⟨HN,HV,aL,aM,aK,HK,HI,aJ⟩:=Qqu hn hv hb N M hk ih G
 clear Y U V hx hn hv N M hk hb ih G
 unfold sv at *
 go_enter func97,ntmps97
 go_upto_region 5 with fail
 generalize D:(w.alloc _).alloc _=W1
 have T:=eqB D (Zt _ _ _)
 have I:=eqH (b:=w.heap.size) D (Q5 _ _ _)
 have J:=eqH (b:=w.heap.size+1) D (Q6 _ _ _)
 obtain ⟨Z,aN,aA⟩:=Qqo T I J
 have aD:=Z8 J
 obtain ⟨c0,c1,c2,c3,c4,c5,c6,c7,c8⟩:=row9 I
 clear D T I J
 have A:=kE (Qz W1 W1) aD aA.out
 obtain ⟨y0,y1,y2,y3,y4⟩:=row5 A
 obtain ⟨f0,f1,f2,f3,f4⟩:=frz5 A
 have O:=Qq A
 clear A
 go_region_with fail
 all_goals
  go_wp2_with fail
  show bodyPost _ _ _ _ _ (Zl W1 (w+1) (.int .i64 1) Qqd s Qqf Qqf).drew
  refine Q7 (v:=.tuple #[.agg #[.int .i64 1,Qqd,s,Qqf,Qqf],.bool true]) (by simp [results,results97,go_sem,Zd O.out]) rfl (Kg Qqj Z.out (.yes (Y8 aG (Sl.nil _ _ _) (Sl.nil _ _ _)) (.mk _ _ _ _ _ (fun h=>by cases h) (fun x h=>by simp at h)) (by rw [← HR.out];unfold Y1;rw [if_neg Qqx,if_pos rfl,if_pos Qqj];rfl))).drew
theorem Mr (nm:Bs) (n:Int) (s:Bs) (names binds:List Bs) (kids:List Ex) (a z:Int) (d:Nat) (ih:∀ x ∈ kids,Xn d x) (hq:decide ((s.length:Int)≤4096)=false):∀ (S:Nat→Prop) (ce:List Value) (nv vv:Value) (ns:List Bs) (vs:List Val) (w:World),Yv S w ce (.mk 1 nm n s names binds kids a z)→Sl Zh S w nv ns→Sl Ze S w vv vs→ns.length≤vs.length→vs.length+(d+1)≤1000→(∀ v ∈ vs,Y3 v) →
  Calls prog 97 #[ce,nv,vv] w (X6 S w (Y1 (d+1) (.mk 1 nm n s names binds kids a z) ns vs)):=by
 intro S ce nv vv ns vs w Y U V G hd hb
 obtain ⟨r,hr⟩:=eX (Y1 (d+1) (.mk 1 nm n s names binds kids a z) ns vs)
 rw [hr]
 have HR:=Qq hr
 clear hr
 have aA:Hid (r=none):=Qq (by rw [← HR.out];unfold Y1;rw [if_neg Qqx,if_pos rfl,if_neg (by have:=of_decide_eq_false hq;omega)])
 have hx:Yv (fun b=>S b∧b<w) w ce (.mk 1 nm n s names binds kids a z):=Y.move (.refl _ _) (fun b hb h=>⟨h,hb⟩)
 have hn:=U.up
 have hv:=V.up
 obtain ⟨np,nc,rfl,_⟩:=hn.len
 obtain ⟨vp,vc,rfl,aS⟩:=hv.len
 have aO:=Qq hx
 obtain ⟨aT,bv,kv,rfl,aQ,aR,N,M,hk⟩:=Yx.1 hx
 obtain ⟨p1,c1,rfl,_⟩:=N.len
 obtain ⟨p2,c2,rfl,_⟩:=M.len
 obtain ⟨p3,c3,rfl,aP⟩:=hk.len
 obtain ⟨HN,HV,aL,aM,aK,HK,HI,aJ⟩:=Qqu hn hv hb N M hk ih G
 clear Y U V hx hn hv N M hk hb ih G
 unfold sv at *
 go_enter func97,ntmps97
 go_upto_region 5 with fail
 generalize D:(w.alloc _).alloc _=W1
 have T:=eqB D (Zt _ _ _)
 have I:=eqH (b:=w.heap.size) D (Q5 _ _ _)
 have J:=eqH (b:=w.heap.size+1) D (Q6 _ _ _)
 obtain ⟨Z,aN,aB⟩:=Qqo T I J
 have aE:=Z8 J
 obtain ⟨c0,c1,c2,c3,c4,c5,c6,c7,c8⟩:=row9 I
 clear D T I J
 have A:=kE (Qz W1 W1) aE aB.out
 obtain ⟨y0,y1,y2,y3,y4⟩:=row5 A
 obtain ⟨f0,f1,f2,f3,f4⟩:=frz5 A
 have O:=Qq A
 clear A
 go_region_with fail
 all_goals
  go_wp2_with fail
  show bodyPost _ _ _ _ _ (Zl W1 (w+1) (.int .i64 1) Qqd s Qqf Qqf).drew
  refine Q7 (v:=.tuple #[.agg #[.int .i64 1,Qqd,s,Qqf,Qqf],.bool false]) (by simp [results,results97,go_sem,Zd O.out]) rfl (Vz Qqj Z.out aA.out).drew
theorem S8 (nm:Bs) (n:Int) (s:Bs) (names binds:List Bs) (kids:List Ex) (a z:Int) (d:Nat) (ih:∀ x ∈ kids,Xn d x) :∀ (S:Nat→Prop) (ce:List Value) (nv vv:Value) (ns:List Bs) (vs:List Val) (w:World),Yv S w ce (.mk 2 nm n s names binds kids a z)→Sl Zh S w nv ns→Sl Ze S w vv vs→ns.length≤vs.length→vs.length+(d+1)≤1000→(∀ v ∈ vs,Y3 v) →
  Calls prog 97 #[ce,nv,vv] w (X6 S w (Y1 (d+1) (.mk 2 nm n s names binds kids a z) ns vs)):=by
 intro S ce nv vv ns vs w aA Y Z G hd hb
 obtain ⟨r,hr⟩:=eX (Y1 (d+1) (.mk 2 nm n s names binds kids a z) ns vs)
 rw [hr]
 have HR:=Qq hr
 clear hr
 have hx:Yv (fun b=>S b∧b<w) w ce (.mk 2 nm n s names binds kids a z):=aA.move (.refl _ _) (fun b hb h=>⟨h,hb⟩)
 have hn:=Y.up
 have hv:=Z.up
 obtain ⟨np,nc,rfl,_⟩:=hn.len
 obtain ⟨vp,vc,rfl,aT⟩:=hv.len
 have aP:=Qq hx
 obtain ⟨aU,bv,kv,rfl,aR,aS,O,N,hk⟩:=Yx.1 hx
 obtain ⟨p1,c1,rfl,_⟩:=O.len
 obtain ⟨p2,c2,rfl,_⟩:=N.len
 obtain ⟨p3,c3,rfl,aQ⟩:=hk.len
 obtain ⟨HN,HV,aM,aN,aL,HK,HI,aK⟩:=Qqu hn hv hb O N hk ih G
 clear aA Y Z hx hn hv O N hk hb ih G
 unfold sv at *
 go_enter func97,ntmps97
 go_upto_region 7 with fail
 generalize A:(w.alloc _).alloc _=W1
 have U:=eqB A (Zt _ _ _)
 have I:=eqH (b:=w.heap.size) A (Q5 _ _ _)
 have J:=eqH (b:=w.heap.size+1) A (Q6 _ _ _)
 obtain ⟨aB,aO,aD⟩:=Qqo U I J
 have V:=Z8 J
 obtain ⟨c0,c1,c2,c3,c4,c5,c6,c7,c8⟩:=row9 I
 clear A U I J
 go_wp2_with (go_at_call 144;refine (Bw _ _).mono ?_;rintro e w5 ⟨X,hX,rfl,M⟩;have T:=Qq hX;clear hX;have D:=kE M V aD.out;obtain ⟨y0,y1,y2,y3,y4⟩:=row5 D;obtain ⟨f0,f1,f2,f3,f4⟩:=frz5 D;have aE:=Qq D;have aC:=Qq M;clear D M)
 show bodyPost _ _ _ _ _ (Zl w5 (w+1) (.int .i64 2) X Qqe Qqf Qqf)
 refine Q7 (v:=.tuple #[.agg #[.int .i64 2,X,Qqe,Qqf,Qqf],.bool true]) (by simp [results,results97,go_sem,Zd aE.out]) rfl (Jk aB.out Qqj V (.yes (S9 _ _ _) (Fw T.out) (by rw [← HR.out,T.out];unfold Y1;rw [if_neg Qqx,if_neg Qqx,if_pos rfl];rfl)) aC.out)
theorem Am (nm:Bs) (n:Int) (s:Bs) (names binds:List Bs) (kids:List Ex) (a z:Int) (d:Nat) (ih:∀ x ∈ kids,Xn d x) :∀ (S:Nat→Prop) (ce:List Value) (nv vv:Value) (ns:List Bs) (vs:List Val) (w:World),Yv S w ce (.mk 3 nm n s names binds kids a z)→Sl Zh S w nv ns→Sl Ze S w vv vs→ns.length≤vs.length→vs.length+(d+1)≤1000→(∀ v ∈ vs,Y3 v) →
  Calls prog 97 #[ce,nv,vv] w (X6 S w (Y1 (d+1) (.mk 3 nm n s names binds kids a z) ns vs)):=by
 intro S ce nv vv ns vs w aY aV aW N hd hb
 obtain ⟨r,hr⟩:=eX (Y1 (d+1) (.mk 3 nm n s names binds kids a z) ns vs)
 rw [hr]
 have HR:=Qq hr
 clear hr
 have hx:Yv (fun b=>S b∧b<w) w ce (.mk 3 nm n s names binds kids a z):=aY.move (.refl _ _) (fun b hb h=>⟨h,hb⟩)
 have hn:=aV.up
 have V:=aW.up
 obtain ⟨np,nc,rfl,_⟩:=hn.len
 obtain ⟨vp,vc,rfl,cD⟩:=V.len
 have bV:=Qq hx
 obtain ⟨cE,bv,kv,rfl,cB,cC,aD,aC,hk⟩:=Yx.1 hx
 obtain ⟨p1,c1,rfl,_⟩:=aD.len
 obtain ⟨p2,c2,rfl,_⟩:=aC.len
 obtain ⟨p3,c3,rfl,bZ⟩:=hk.len
 obtain ⟨HN,HV,bC,bU,bT,HK,HI,aF⟩:=Qqu hn V hb aD aC hk ih N
 clear aY aV aW hx hn V aD aC hk hb ih N
 unfold sv at *
 obtain ⟨m,hm⟩:=eX (ns.length)
 rw [hm] at HN ⊢
 have HM:=Qq hm
 have N:=aF.out
 rw [hm] at N
 have cA:m≤1000:=Qqj
 clear hm
 go_enter func97,ntmps97
 go_upto_region 9 with fail
 generalize U:(w.alloc _).alloc _=W1
 have aR:=eqB U (Zt _ _ _)
 have aP:=eqH (b:=w.heap.size) U (Q5 _ _ _)
 have aB:=eqH (b:=w.heap.size+1) U (Q6 _ _ _)
 obtain ⟨T,bG,aG⟩:=Qqo aR aP aB
 have aU:=Z8 aB
 clear U aR aP aB
 go_upto_region 10 with fail
 go_loopw [8] (fun i wr=>∃ (k:Nat) (j:Int),k≤m∧j=(k:Int) - 1∧i=.int .i64 j∧Aside (r=Ec nm ns vs k)∧Aside (Below W1 W1 wr)) (fun i _=>(intOf i+1).toNat)
 case atStart=>exact ⟨m,_,Q9 _,rfl,by go_num,(by rw [← HR.out,← HM.out];rfl),Qz _ _⟩
 obtain ⟨k,j,hk,hj,rfl,aT,aO⟩:=hrel
 have Z:=Qq (show r=Ec nm ns vs k from aT)
 clear aT
 have A:=Qq (show Below W1 W1 wr from aO)
 clear aO
 by_cases hk0:k=0
 ·have bM:decide (0≤j)=false:=by simp;omega
  clear hk hj
  have M:=kE A.out aU aG.out
  obtain ⟨y0,y1,y2,y3,y4⟩:=row5 M
  obtain ⟨f0,f1,f2,f3,f4⟩:=frz5 M
  have aI:=Qq M
  clear M
  go_wp2_with fail
  show bodyPost _ _ _ _ _ (Zl wr (w+1) Qqd Qqd Qqe Qqf Qqf)
  refine Q7 (v:=.tuple #[.agg zV,.bool false]) (by simp [results,results97,go_sem,Zd aI.out]) rfl (Vz Qqj (T.out.thn A.out) (by rw [Z.out,hk0];rfl))
 obtain ⟨O,rfl⟩:∃ O,k=O+1:=⟨k - 1,Qqj⟩
 obtain rfl:j=(O:Int):=Qqj
 have bM:decide ((0:Int)≤(O:Int))=true:=Qqk
 have bW:(0:Int)≤(O:Int):=Qqj
 have bX:(O:Int)<(m:Int):=Qqj
 have bY:(O:Int)<(vs.length:Int):=Qqj
 obtain ⟨y,hy⟩:∃ y,ns[O]?=some y:=⟨_,Qx (by rw [HM.out];omega)⟩
 obtain ⟨v,V⟩:∃ v,vs[O]?=some v:=⟨_,Qx Qqj⟩
 obtain ⟨nb,bR,rfl,aZ,-⟩:=(HN.out.below (T.out.thn A.out)).str hy
 obtain ⟨vb,bS,q3,l3,q4,l4,rfl,G,aX,d0,d1,d2,d3,d4⟩:=(HV.out.below (T.out.thn A.out)).val V
 have aQ:=kB A.out bG.out
 have c1:=rA1 aQ
 have bF:=Qq aX;have bD:=Qq (bC.out v (Qy V))
 have D:=Qq (Qe G (Qe d0 (Qe d1 (Qe d2 (Qe d3 d4)))))
 have aA:=Qq (Qe hy V)
 clear hy V aQ aX d0 d1 d2 d3 d4 G hj
 by_cases he:y=nm
 ·subst he
  have hq:(y==y)=true:=Qqk
  go_wp2_with fail
  go_quiet (fail)
  obtain ⟨wq,aE⟩:=eX (wr.drewN nq)
  have I:Below wr wr wq:=by rw [← aE];exact Yq _ _
  rw [aE]
  have Y:=Qq I
  obtain ⟨G,aJ,aK,aL,aM,aN⟩:=D.out
  have d0:=kD I G aJ;have d1:=kD I G aK;have d2:=kD I G aL;have d3:=kD I G aM;have d4:=kD I G aN
  clear aE I aJ aK aL aM aN aZ c1
  have J:=kE (A.out.thn Y.out) aU aG.out
  obtain ⟨y0,y1,y2,y3,y4⟩:=row5 J
  obtain ⟨f0,f1,f2,f3,f4⟩:=frz5 J
  have aH:=Qq J
  clear J
  go_wp2_with fail
  show bodyPost _ _ _ _ _ (Qqm wq (w+1) v q3 l3 q4 l4)
  refine Q7 (v:=.tuple #[.agg (Qqg v q3 l3 q4 l4),.bool true]) (by simp [results,results97,go_sem,Zd aH.out]) rfl (Kg Qqj ((T.out.thn A.out).thn Y.out) (.yes (bF.out.move (.of_below Y.out) (fun _ _ h=>.inl h)) bD.out (by rw [Z.out,Ec,if_pos aA.out.1];exact aA.out.2)))
 have hq:(y==nm)=false:=by rw [← Qt,beq_iff_eq];exact he
 have bE:Hid (r=Ec nm ns vs O):=Qq (by
  rw [Z.out,Ec,if_neg]
  rw [aA.out.1]
  intro h9
  exact he (Qb h9))
 clear he
 go_wp2_with fail
 go_quiet (fail)
 clear aZ c1
 go_wp2_with fail
 go_roundw
 case measure=>simp [intOf]
 case rel=>exact ⟨O,(O:Int) - 1,Qqj,rfl,rfl,bE.out,A.out.thn (Yq _ _)⟩
def Vt (d:Nat) (t:Tbl) (row:Val):Bool:=Vx t.check&&(match Y1 d t.check row.names row.kids with
 | some v=>decide (v.kind=2∧v.n=1)
 | none=>false)
theorem rsat_any (S S0:Nat→Prop) (d:Nat) (t:Tbl) (row:Val) (ct cr:List Value) (w:World) (he:Xn d t.check) (ht:Zn.R S w ct t) (hr:Z9 S0 w cr row) (hl:row.names.length≤row.kids.length) (hd:row.kids.length+d≤1000) (hb:∀ v ∈ row.kids,Y3 v):
  Calls prog 45 #[ct,cr] w fun e w'=>e=.returned (.bool (Vt d t row))∧Below w w w':=by
 obtain ⟨bN,bM,bP,bO,bX,bW,k0,aU,n0,aV,aR,aP,A,aS,n20,aC,aT,aQ,aD,a0,z0,rfl,_,_,_,_,G⟩:=Yj ht
 obtain ⟨q3,l3,q4,l4,aM,hn,hk,_⟩:=Z9.cells hr
 simp only [vcs] at aM
 subst aM
 unfold tcs
 have HS:=Qq (fun W (hW:Below w w W)=>Bc t.check S (Qqi k0 aU n0 aV aR aP A aS n20 aC aT aQ aD a0 z0) W (G.move (.of_below hW) Qzx))
 have HE:=Qq (fun W (hW:Below w w W)=>he (fun _=>True) (Qqi k0 aU n0 aV aR aP A aS n20 aC aT aQ aD a0 z0) _ _ row.names row.kids W (G.move (.of_below hW) (fun _ _ _=>trivial)) ((hn.below hW).mono (fun _ _ _=>trivial)) ((hk.below hW).mono (fun _ _ _=>trivial)) hl hd hb)
 clear ht hr G hn hk he hb hl hd
 obtain ⟨r,hr⟩:=eX (Vt d t row)
 rw [hr]
 have HR:=Qq hr
 clear hr
 obtain ⟨bs,Z⟩:=eX (Vx t.check)
 rw [Z] at HS
 have aB:=Qq Z
 clear Z
 go_enter func45,ntmps45
 go_upto_region 1 with fail
 generalize J:(w.alloc _).alloc _=W1
 have aI:=eqB J (Zt _ _ _)
 have V:=eqH (b:=w.heap.size) J (Q5 _ _ _)
 have aE:=eqH (b:=w.heap.size+1) J (Q6 _ _ _)
 obtain ⟨I,bA,aZ⟩:=Qqo aI V aE
 obtain ⟨c0,c1,c2,c3,c4,c5,c6,c7,c8,c9,A,T,U⟩:=row13 V
 clear J aI V aE
 go_upto_region 2 with (go_at_call 96;refine (HS.out _ I.out).mono ?_;rintro e w5 ⟨rfl,aJ⟩;have D:=Qq aJ;clear aJ)
 clear c0 c1 c2 c3 c4 c5 c6 c7 c8 c9 A T U
 cases bs with
 | false=>
  go_wp2_with fail
  go_ret
  refine ⟨?_,I.out.thn D.out⟩
  rw [← HR.out];unfold Vt;rw [aB.out];rfl
 | true=>
  have aG:=kB D.out bA.out
  have aF:=kB D.out aZ.out
  obtain ⟨c0,c1,c2,c3,c4,c5,c6,c7,c8,c9,A,T,U⟩:=row13 aG
  obtain ⟨r0,r1,r2,r3,r4⟩:=row5 aF
  clear aG aF
  go_upto_region 5 with (go_at_call 97;refine (HE.out _ (I.out.thn D.out)).mono ?_;rintro e w7 ⟨k7,n7,s7,bU,bS,bQ,bV,bT,bR,b7,rfl,aO,aK⟩;have O:=Qq aO;clear aO;have aY:=Qq aK;clear aK)
  generalize Y:w7.alloc _=W8
  have aL:=eqB Y (Zg _ _)
  have aH:=eqH (b:=w7.heap.size) Y (Qw _ _)
  have M:=Qq (((I.out.thn D.out).thn aY.out).thn aL)
  obtain ⟨v0,v1,v2,v3,v4⟩:=row5 aH
  clear Y aL aH c0 c1 c2 c3 c4 c5 c6 c7 c8 c9 A T U r0 r1 r2 r3 r4
  have aN:r=(match Y1 d t.check row.names row.kids with
   | some v=>decide (v.kind=2∧v.n=1)
   | none=>false):=by rw [← HR.out];unfold Vt;rw [aB.out];rfl
  have N:=Qq aN
  clear aN
  have bK:b7=false∨(b7=true∧(k7==2)=false)∨(b7=true∧(k7==2)=true):=by cases b7 <;> cases (k7==2) <;> simp
  rcases bK with rfl | ⟨rfl,hq⟩ | ⟨rfl,hq⟩
  focus
   go_wp2_with fail
   go_ret
   refine ⟨?_,M.out⟩
   rw [N.out,O.out.2 rfl];rfl
  focus
   go_wp2_with fail
   go_ret
   refine ⟨?_,M.out⟩
   obtain ⟨v,h1,h2,h3⟩:=O.out.1 rfl
   have hk:¬ v.kind=2:=by rw [h1.head.1];simpa using hq
   rw [N.out,h3]
   simp [hk]
  focus
   go_wp2_with fail
   go_ret
   refine ⟨?_,M.out⟩
   obtain ⟨v,h1,h2,h3⟩:=O.out.1 rfl
   have hk:v.kind=2:=by rw [h1.head.1];simpa using hq
   rw [N.out,h3]
   simp [hk,h1.head.2.1]
   rfl
def InsIs (S:Nat→Prop) (B:Nat) (w:World) (v:Value) (xs:List Val) (e:Ending) (w':World):Prop:=
 ∃ p cap css,e=.returned (.slice p xs.length cap)∧Own Ze 36 S B w' (.slice p xs.length cap) xs css∧w.grownBy w' v.ownBlock∧((Value.slice p xs.length cap).ownBlock=v.ownBlock∨(Value.slice p xs.length cap).ownBlock=some w.heap.size)
theorem insEnd (S:Nat→Prop) (B:Nat) (w:World) (v:Value) (xs:List Val) (css:List (List Value)) (y:Val) (q:Option Addr) (c:Nat) (hO:Own Ze 36 S B w v xs css) (hY:Sl Ze (But S v) w (.slice q 1 c) [y]) (hl:xs.length≤100000) (hB:B≤w):
  Calls prog 62 #[v,xs.length,.slice q 1 c] w (InsIs S B w v (xs++[y])):=by
 obtain ⟨i0,j1,j2,j3,j4⟩:=Y9 (P:=prog) (t:=36) (z:=.agg zV) (n:=5) (b:=80) Qqy
 obtain ⟨HJ,Y,Z,aA⟩:=Qqp j1 j2 j3 j4
 obtain ⟨qb,qo,_,rfl,_,_,_,_,_⟩:=hY.elem (i:=0) (x:=y) rfl
 have M:∀ N A D V,Own Ze 36 S B V (.slice N (xs.length+1) A) (xs++[y]) D→w.grownBy V v.ownBlock→((Value.slice N (xs.length+1) A).ownBlock=v.ownBlock∨(Value.slice N (xs.length+1) A).ownBlock=some w.heap.size)→InsIs S B w v (xs++[y]) (.returned (.slice N (xs.length+1) A)) V:=by
  intro N A D V h1 h2 h3
  refine ⟨N,A,D,by rw [Ql];rfl,by rw [Ql];exact h1,h2,by rw [Ql];exact h3⟩
 rcases hO.row.2 with ⟨rfl,h0⟩ | ⟨g,cap,aT,rfl,aU,_,aJ,aK,aN,_⟩
 ·have aH:xs=[]:=Zy h0
  obtain ⟨HO,HY,HE⟩:=Qqo hO hY M
  clear hO hY j1 j2 j3 j4 h0 M
  subst aH
  show Calls _ _ #[Qqf,Qqd,Qqb qb qo 1 c] _ _
  go_enter func62,ntmps62
  go_wp2_with (at_builtin;refine Uk (r:=Ze) Qqx rfl (.tmp 23) (.tmp 24) _ rfl 36 i0 (.agg zV) 80 underlying34 HJ.out Y.out Z.out aA.out rfl Qqj S B w (.slice none 0 0) [] css [y] (some ⟨qb,qo,none⟩) 1 c rfl HO.out rfl HY.out rfl Qqk Xw (by simp only [List.length_cons,List.length_nil];omega) hB ?_;intro N A D V I J G;obtain ⟨U,T,O⟩:=Qqo I J G;clear I J G)
  go_ret
  exact HE.out N A D V U.out T.out O.out
 obtain ⟨HO,HY,HE⟩:=Qqo hO hY M
 clear hO hY j1 j2 j3 j4 aN aK M
 have aI:(xs.length:Int)≤(cap:Int):=Qqj
 obtain ⟨n,hn⟩:=eX (xs.length)
 rw [hn] at HO HY hl aJ aI ⊢
 have HN:=Qq hn
 have aW:xs.length≤100000:=Qqj
 clear hn
 have aV:(0:Int)≤(n:Int):=Qqj
 by_cases hcn:cap=n
 ·subst hcn
  have aL:(cap:Int)≤(cap:Int):=Qqj
  go_enter func62,ntmps62
  go_wp2_with (at_builtin;refine Uk (r:=Ze) Qqx rfl (.tmp 23) (.tmp 24) _ rfl 36 i0 (.agg zV) 80 underlying34 HJ.out Y.out Z.out aA.out rfl Qqj S B w (.slice (some ⟨g,0,none⟩) cap cap) xs css [y] (some ⟨qb,qo,none⟩) 1 c rfl HO.out rfl HY.out rfl Qqk Xw (by simp only [List.length_cons,List.length_nil];omega) hB ?_;intro N A D V I J G;obtain ⟨U,T,O⟩:=Qqo I J G;clear I J G)
  go_ret
  exact HE.out N A D V U.out T.out O.out
 have aL:(n:Int)<(cap:Int):=Qqj
 have hd:cap - n≠0:=Qqj
 go_enter func62,ntmps62
 go_wp2_with (at_builtin;refine Uk (r:=Ze) Qqx rfl (.tmp 23) (.tmp 24) _ rfl 36 i0 (.agg zV) 80 underlying34 HJ.out Y.out Z.out aA.out rfl Qqj S B w (.slice (some ⟨g,0,none⟩) n cap) xs css [y] (some ⟨qb,qo,none⟩) 1 c rfl HO.out rfl HY.out rfl Qqk Xw (by simp only [List.length_cons,List.length_nil];omega) hB ?_;intro N A D V I J G;obtain ⟨U,T,O⟩:=Qqo I J G;clear I J G)
 go_ret
 exact HE.out N A D V U.out T.out O.out
theorem ins1_any (R:Nat) (S:Nat→Prop) (x:Val) (cx:List Value) (rows:List Val) (w:World) (hcx:∀ j u,cx[j]?=some u→w.cell? ⟨R,j,none⟩=some u) (hRl:R<w) (hx:Z9 S w cx x):
  Uz prog 58 #[Qqc R] Ze S rows (fun v=>eqv v x) w:=by
 intro W v cs hb hv I
 have D:=hx.move (.of_below hb) Qzx
 have HC:=Qq (fun W' (h':Below W W W')=>Ou S v x cs cx W' (Z9.move (show Z9 S W cs v from I) (.of_below h') Qzx) (D.move (.of_below h') Qzx))
 obtain ⟨p3,k3,p4,k4,G,_⟩:=Z9.cells (show Z9 S W cs v from I)
 obtain ⟨q3,l3,q4,l4,A,_⟩:=Z9.cells D
 simp only [vcs] at G A
 subst G;subst A
 have d:=fun j u hj=>(hb.cell (p:=⟨R,j,none⟩) hRl).trans (hcx j u hj)
 have d0:=d 0 _ rfl
 have d1:=d 1 _ rfl
 have d2:=d 2 _ rfl
 have d3:=d 3 _ rfl
 have d4:=d 4 _ rfl
 have J:R<W.heap.size:=Qv W _ d0
 show Calls prog 58 #[.agg (Qqg v p3 k3 p4 k4),Qqc R] W (fun e w'=>e=.returned (.bool (eqv v x))∧Below W W w')
 generalize eqv v x=b at HC ⊢
 clear d hcx hb hv I hx D
 go_enter func58,ntmps58
 go_wp2_with (go_at_call 53;refine (HC.out _ (Zg _ _)).mono ?_;rintro e w' ⟨rfl,hw⟩)
 go_ret
 exact ⟨rfl,(Zg _ _).thn hw⟩
theorem ins2_any (R:Nat) (S:Nat→Prop) (x:Val) (cx:List Value) (rows:List Val) (w:World) (hcx:∀ j u,cx[j]?=some u→w.cell? ⟨R,j,none⟩=some u) (hRl:R<w) (hx:Z9 S w cx x):
  Uz prog 60 #[Qqc R] Ze S rows (fun v=>decide (0<Yz v x)) w:=by
 intro W v cs hb hv I
 have D:=hx.move (.of_below hb) Qzx
 have HC:=Qq (fun W' (h':Below W W W')=>Ga S v x cs cx W' (Z9.move (show Z9 S W cs v from I) (.of_below h') Qzx) (D.move (.of_below h') Qzx))
 obtain ⟨p3,k3,p4,k4,G,_⟩:=Z9.cells (show Z9 S W cs v from I)
 obtain ⟨q3,l3,q4,l4,A,_⟩:=Z9.cells D
 simp only [vcs] at G A
 subst G;subst A
 have d:=fun j u hj=>(hb.cell (p:=⟨R,j,none⟩) hRl).trans (hcx j u hj)
 have d0:=d 0 _ rfl
 have d1:=d 1 _ rfl
 have d2:=d 2 _ rfl
 have d3:=d 3 _ rfl
 have d4:=d 4 _ rfl
 have J:R<W.heap.size:=Qv W _ d0
 show Calls prog 60 #[.agg (Qqg v p3 k3 p4 k4),Qqc R] W (fun e w'=>e=.returned (.bool (decide (0<Yz v x)))∧Below W W w')
 generalize Yz v x=b at HC ⊢
 clear d hcx hb hv I hx D
 go_enter func60,ntmps60
 go_wp2_with (go_at_call 61;refine (HC.out _ (Zg _ _)).mono ?_;rintro e w' ⟨rfl,hw⟩)
 go_ret
 exact ⟨rfl,(Zg _ _).thn hw.bl⟩
def AllAt (S:Nat→Prop) (w:World) (n:Nat):Option (List Val)→Ending→World→Prop
 | some vs=>fun e w'=>∃ p cap css,e=.returned (.slice p n cap)∧Own Ze 36 S w.heap.size w' (.slice p n cap) vs css∧vs.length=n∧Below w.heap.size w w'
 | none=>Bd w
theorem Nq (V:Nat) (S0 S':Nat→Prop) (kp:Option Addr) (kc:Nat) (kids:List Ex) (p:Value) (env:List (Bs × Val)) (f:Ex→Option Val) (w:World) (hk:Sl Xp S' w (.slice kp kids.length kc) kids) (hV:w.cell? ⟨V,0,none⟩=some p)
  (hSn:∀ b,w.heap.size≤b→S0 b) (hkw:Xl w) (he0:Xv S0 w p env) (hev:∀ e ∈ kids,EvO e env (f e)):Calls prog 133 #[.slice kp kids.length kc,Qqc V] w (AllAt S0 w kids.length (Jz f kids)):=by
 obtain ⟨i0,j1,j2,j3,j4⟩:=Y9 (P:=prog) (t:=36) (z:=.agg zV) (n:=5) (b:=80) Qqy
 obtain ⟨HJ,aP,aQ,aR⟩:=Qqp j1 j2 j3 j4
 clear j1 j2 j3 j4
 obtain ⟨q,rfl⟩:=he0.ptr
 have he:Xv (fun b=>S0 b∧b<w.heap.size) w (.pointer q) env:=he0.move (.refl _ _) (fun b hb h=>⟨h,hb⟩)
 have bE:kids.length≤1000000:=by obtain ⟨_,_,_,h⟩:=hk.len;exact h
 obtain ⟨m,hm⟩:=eX (kids.length)
 obtain ⟨R,hR⟩:=eX (Jz f kids)
 rw [hR]
 obtain ⟨HK,HE,aX,aS,aN,HR,aZ⟩:=Qqt hk he hSn hkw hev hR hV
 rw [hm] at bE HK ⊢
 have HM:=Qq hm
 clear hk he he0 hSn hev hR hV hm hkw
 go_enter func133,ntmps133
 go_wp2_with fail
 go_loopw [4,9] (fun o i wr=>∃ (k:Nat) (l:List Val) (Z:Option Addr) (cap:Nat),k≤m∧i=.int .i64 k∧o=.slice Z k cap∧l.length=k∧Aside (Jz f (kids.take k)=some l)∧Below w w wr∧(∃ css,Own Ze 36 S0 w wr (.slice Z k cap) l css)) (fun _ i _=>m - (intOf i).toNat)
 case atStart=>exact ⟨0,[],none,0,Q8 _,rfl,rfl,rfl,rfl,Qz _ _,[],Own.nil _ _ _ _ _⟩
 obtain ⟨k,l,Z,cap,bZ,rfl,rfl,aJ,hA,aE,css,hO⟩:=hrel
 obtain ⟨N,HO,HA,O⟩:=Qqp aE hO hA.out aJ
 clear aE hO hA aJ
 by_cases hlt:k<m
 ·have bX:(0:Int)≤(k:Int):=Qqj
  have bY:(k:Int)<(m:Int):=Qqj
  have M:k<kids.length:=by rw [HM.out];exact hlt
  obtain ⟨x,hx⟩:∃ x,kids[k]?=some x:=⟨_,Qx M⟩
  have aL:kids.take (k+1)=kids.take k++[x]:=by rw [Zz M];rw [Qx M] at hx;cases hx;rfl
  obtain ⟨xb,bL,cs,bF,cB,_,_,hr,D⟩:=HK.out.elem hx
  subst bF
  obtain ⟨ek,bV,en,bW,bS,bP,bM,bT,bQ,bN,bU,bR,bO,ea,ez,J⟩:=Yv.cells (show Yv S' w cs x from hr)
  subst J
  have I:∀ {b j:Nat} {u:Value},w.cell? ⟨b,j,none⟩=some u→wr.cell? ⟨b,j,none⟩=some u:=fun D=>kC N.out D
  have d0:=I (D 0 _ rfl)
  have d1:=I (D 1 _ rfl)
  have d2:=I (D 2 _ rfl)
  have d3:=I (D 3 _ rfl)
  have d4:=I (D 4 _ rfl)
  have d5:=I (D 5 _ rfl)
  have d6:=I (D 6 _ rfl)
  have d7:=I (D 7 _ rfl)
  have d8:=I (D 8 _ rfl)
  simp only [show Xp.k=9 from rfl,Nat.add_zero] at d0 d1 d2 d3 d4 d5 d6 d7 d8
  obtain ⟨HX,aY,aO,aW⟩:=Qqp hx aL hr (aN.out x (Qy hx))
  clear hx aL M D I hr
  go_upto_region 5 with fail
  generalize U:World.alloc wr _=w1
  have Y:=eqB U (Zg _ _)
  have aH:=eqH (b:=wr.heap.size) U (Qw _ _)
  obtain ⟨z0,z1,z2,z3,z4,z5,z6,z7,z8⟩:=row9 aH
  have A:=Qq (N.out.thn Y)
  have hv:=kC A.out aZ.out
  have G:=HO.out.below Y
  have T:=Qq G
  have aK:=A.out.size
  have HC:=Qq (aW.out (But S0 (.slice Z k cap)) S' _ (.pointer q) w1 (fun b hb=>⟨aX.out b Qqj,fun e=>by have:=(T.out.row.lt b e.symm).2;omega⟩) (aS.out.below A.out) (Yv.move aO.out (.of_below A.out) Qzx) (HE.out.move (.of_below A.out) (fun b _ h=>⟨h.1,fun e=>by have:=(T.out.row.lt b e.symm).1;have:=h.2;omega⟩)))
  clear U aH Y G d0 d1 d2 d3 d4 d5 d6 d7 d8
  cases hfx:f x with
  | none=>
   rw [hfx] at HC
   have bD:none=R:=by rw [← HR.out];exact (Gu f x hfx kids (Qy HX.out)).symm
   subst bD
   clear hfx
   go_wp2_with (go_at_call 91;refine HC.out.mono ?_;rintro e w5 ⟨rfl,hb⟩)
   exact ⟨rfl,rfl,A.out.thn hb⟩
  | some u=>
   rw [hfx] at HC
   have HF:=Qq hfx
   clear hfx
   have cA:w.heap.size≤w1.heap.size:=aK
   go_wp2_with (first
    | (at_builtin;refine Yl (r:=Ze) Qqx rfl (.tmp 13) (.tmp 17) _ rfl 36 i0 (.agg zV) 80 underlying34 HJ.out aP.out aQ.out aR.out rfl Qqj S0 w w5 (.slice Z k cap) l css (Qqg u a3 bA a4 bB) u rfl aU.out rfl HU.out (by simp [Value.oneCell']) k O.out Qqj Qqj ?_;intro p7 aC aD w7 aG aF;have aV:=Qq aG;have aT:=Qq aF;clear aG aF)
    | (go_at_call 91;refine HC.out.mono ?_;rintro e w5 ⟨cu,rfl,hu,hb⟩;obtain ⟨a3,bA,a4,bB,J,_⟩:=Z9.cells hu;simp only [vcs] at J;subst J;obtain ⟨HU,aM,aU⟩:=Qqo hu hb (T.out.below hb);have bK:=hb.size;clear hu hb;clear HC))
   go_roundw
   case measure=>simp [intOf];omega
   case rel=>
    refine ⟨k+1,l++[u],p7,aC,Qqj,by go_num,rfl,by have:=O.out;simp [this],(show Aside _ from ?_),(A.out.thn aM.out).trans aT.out.below,aD,aV.out⟩
    have:Jz f (kids.take (k+1))=some (l++[u]):=by rw [aY.out];exact Bz f x u HF.out _ _ HA.out
    exact this
 have aI:k=m:=Qqj
 subst aI
 have bI:some l=R:=by rw [← HR.out,← HA.out,Zj (by rw [HM.out];exact Q9 _)]
 subst bI
 go_wp2_with fail
 go_ret
 exact ⟨Z,cap,css,rfl,HO.out,O.out,N.out⟩
def nmT:List Bs:=[[97],[98],[99],[100],[101]]
def kdT (A B:Int) (C:Bs) (D:Int) (E:Val):List Val:=[Y5 A,Y5 B,.mk 1 0 C [] [],.mk 2 D [] [] [],E]
def F9:Option Val→Bool
 | some v=>decide (v.kind=2∧v.n=1)
 | none=>false
section
variable {d:Nat} {A B:Int} {C:Bs} {D:Int} {E:Val} {x y:Ex} {ns:List Bs} {vs:List Val} {u v:Val} {o:Bs}
theorem U2 (b:Bool):F9 (some (Vv b))=b:=by cases b <;> rfl
variable (A B C D E)
theorem rs_3:Y1 8 (Gen.check 3) nmT (kdT A B C D E)=some (Vv (decide (Yz (Y5 A) (Y5 (IntKind.i64.wrap (B+IntKind.i64.wrap (1*1))))≤0))):=rfl
theorem rs_4 (hD:D=0∨D=1):F9 (Y1 8 (Gen.check 4) nmT (kdT A B C D E))=(decide (D=1)||decide (Yz (.mk 1 0 C [] []) (B5 [97,98])≠0)):=by
 rcases hD with rfl | rfl
 ·exact U2 _
 rfl
theorem rs_5 (hD:D=0∨D=1):F9 (Y1 8 (Gen.check 5) nmT (kdT A B C D E))=if D=1 then decide (Yz (Y5 A) (Y5 B)<0) else decide (Yz (.mk 1 0 C [] []) (.mk 1 0 C [] [])=0):=by
 rcases hD with rfl | rfl
 ·exact U2 _
 exact U2 _
theorem rs_6r:Y1 8 (Gen.check 6) nmT (kdT A B C D (.mk 3 0 [82,101,100] [] []))=some (Vv true):=rfl
theorem rs_6d (n:Int):Y1 8 (Gen.check 6) nmT (kdT A B C D (.mk 3 0 [68,97,114,107] [] [Y5 n]))=some (Vv (decide (Yz (Y5 n) (Y5 B)<0))):=rfl
theorem rs_7:Y1 8 (Gen.check 7) nmT (kdT A B C D E)=some (Vv (decide (Yz (Y5 1) (Y5 A)<0))):=rfl
theorem rs_8 (hD:D=0∨D=1):F9 (Y1 8 (Gen.check 8) nmT (kdT A B C D E))=(decide (Yz (Y5 (IntKind.i64.wrap (A - B))) (Y5 1)<0)&&decide (D=0)):=by
 have h:∀ b:Bool,(if (Vv b).kind=2 then (if (Vv b).n=0 then some (Vv b) else (some (Vv (decide (D=0)))).bind fun v=>if v.kind=2 then some v else none) else none)=some (Vv (b&&decide (D=0))):=by
  intro b;rcases hD with rfl | rfl <;> cases b <;> rfl
 have e:Y1 8 (Gen.check 8) nmT (kdT A B C D E)=(if (Vv (decide (Yz (Y5 (IntKind.i64.wrap (A - B))) (Y5 1)<0))).kind=2 then (if (Vv (decide (Yz (Y5 (IntKind.i64.wrap (A - B))) (Y5 1)<0))).n=0 then some (Vv (decide (Yz (Y5 (IntKind.i64.wrap (A - B))) (Y5 1)<0))) else (some (Vv (decide (D=0)))).bind fun v=>if v.kind=2 then some v else none) else none):=rfl
 rw [e,h,U2]
theorem rs_9:Y1 8 (Gen.check 9) nmT (kdT A B C D E)=if C.length+C.length≤4096 then some (Vv (decide (Yz (B5 (C++C)) (B5 [])=0))) else none:=by
 have e:Y1 8 (Gen.check 9) nmT (kdT A B C D E)=(if (Val.mk 1 0 C [] []).kind=1∧(Val.mk 1 0 C [] []).kind=1∧C.length+C.length≤4096 then some (B5 (C++C)) else none).bind fun u=>(some (B5 [])).bind fun v=>two [61,61] u v:=rfl
 rw [e]
 by_cases h:C.length+C.length≤4096
 ·rw [if_pos ⟨rfl,rfl,h⟩,if_pos h];rfl
 rw [if_neg (fun h2=>h h2.2.2),if_neg h];rfl
theorem rs_10 (hD:D=0∨D=1):F9 (Y1 8 (Gen.check 10) nmT (kdT A B C D E))=false:=by
 rcases hD with rfl | rfl <;> rfl
theorem rs_11:Y1 8 (Gen.check 11) nmT (kdT A B C D E)=some (Vv (decide (Yz (.mk 5 0 [] [] [Y5 A,Y5 B]) (.mk 5 0 [] [] [Y5 1,Y5 A])≠0))):=rfl
end
end Go.Proofs.YtdpibdpbgokmoaaGreatDoor
