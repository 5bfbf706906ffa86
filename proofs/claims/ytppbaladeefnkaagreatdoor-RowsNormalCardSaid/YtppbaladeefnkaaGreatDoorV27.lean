import Derived.Test.YtppbaladeefnkaaGreatDoorV25
set_option maxRecDepth 100000
set_option maxHeartbeats 400000000
namespace Go.Proofs.YtppbaladeefnkaaGreatDoor
open Go.RowKit Go.Shelf Go.Lib Tryz
theorem Nr (k:Int) (nm:Bs) (n:Int) (sx:Bs) (names binds:List Bs) (kids:List Ex) (a z:Int) (S:Nat→Prop) (ce:List Value) (vv:Value) (vals:List Val) (w:World) (hN:Gj k nm names binds kids.length) (he:Z6 S w ce (.mk k nm n sx names binds kids a z)) (hl:vals.length=kids.length) (hv0:Sl Ql S w vv vals) (hb:∀ v ∈ vals,Z2 v):
  Calls prog 182 #[.agg ce.toArray,vv] w (Yi S w):=by
 by_cases h5:k=5
 ·subst h5;exact Lh _ _ _ _ _ _ _ _ _ _ _ _ _ he hv0 hb
 by_cases h9:k=9
 ·subst h9;exact L3 _ _ _ _ _ _ _ _ _ _ _ _ _ he hv0 hb (by have:=hN.few;omega)
 by_cases h6:k=6
 ·subst h6;exact Oe _ _ _ _ _ _ _ _ _ _ _ _ _ he hv0 hb (hN.words rfl) hN.fewn
 by_cases h8:k=8
 ·subst h8
  have:=hN.fld rfl
  exact Hx _ _ _ _ _ _ _ _ _ _ _ _ _ he hv0 hb (vals[0]'(by omega)) (Qx (by omega))
 by_cases h7:k=7
 ·subst h7
  obtain ⟨h1,h2⟩:=hN.one rfl
  obtain ⟨x1,rfl⟩:=List.length_eq_one_iff.1 h1
  rw [h2] at hl
  match vals,hl with
  | [v0,v1],_=>exact Lr _ _ _ _ _ _ _ _ _ _ _ _ _ he hv0 hb x1 rfl v0 v1 rfl
 exact Ml k _ _ _ _ _ _ _ _ _ _ _ _ _ he hv0 hb h5 h9 h6 h8 h7
def Yc (d:Nat) (e:Ex):Prop:=∀ (S:Nat→Prop) (ce:List Value) (nv vv:Value) (names:List Bs) (vals:List Val) (w:World),Z6 S w ce e→Sl Qp S w nv names→Sl Ql S w vv vals→names.length≤vals.length→vals.length+d≤1000→(∀ v ∈ vals,Z2 v) →
 Calls prog 140 #[.agg ce.toArray,nv,vv] w (Yi S w)
theorem Vh {S:Nat→Prop} {w W1 w2:World} {R:Nat} {k n:Int} {s:ByteArray} {p3:Option Addr} {n3 k3:Nat} {p4:Option Addr} {n4 k4:Nat} {b:Bool} (hB1:Below w.heap.size w W1) (hR:w.heap.size≤R) (hR1:R<W1.heap.size) (hv:b=true→∃ v,Qh (fun c=>(S c∧c<w.heap.size)∨W1.heap.size≤c) w2 [.int .i64 k,.int .i64 n,.string s,.slice p3 n3 k3,.slice p4 n4 k4] v∧Z2 v) (hB2:Below W1.heap.size W1 w2):
  Yi S w (.returned (.tuple #[.agg #[.int .i64 k,.int .i64 n,.string s,.slice p3 n3 k3,.slice p4 n4 k4],.bool b])) (Zz w2 R (.int .i64 k) (.int .i64 n) (.string s) (.slice p3 n3 k3) (.slice p4 n4 k4)):=by
 refine ⟨k,n,s,p3,n3,k3,p4,n4,k4,b,rfl,fun hb=>?_,Qo (hB1.thn hB2) hR⟩
 obtain ⟨v,h1,h2⟩:=hv hb
 have hs:=hB1.size
 exact ⟨v,h1.move (fun c hc _=>Qu (by rcases hc with h | h;exact (by have:=h.2;omega);omega)) (fun c _ hc=>by rcases hc with h | h;exact .inl h.1;exact .inr (by omega)),h2⟩
theorem Yf {S:Nat→Prop} {w w2:World} {R:Nat} {k n:Int} {s:ByteArray} {p3:Option Addr} {n3 k3:Nat} {p4:Option Addr} {n4 k4:Nat} (hR:w.heap.size≤R) (hB2:Below w.heap.size w w2):
  Yi S w (.returned (.tuple #[.agg #[.int .i64 k,.int .i64 n,.string s,.slice p3 n3 k3,.slice p4 n4 k4],.bool false])) (Zz w2 R (.int .i64 k) (.int .i64 n) (.string s) (.slice p3 n3 k3) (.slice p4 n4 k4)):=
 ⟨k,n,s,p3,n3,k3,p4,n4,k4,false,rfl,(fun h=>by cases h),Qo hB2 hR⟩
theorem J4 {S:Nat→Prop} {w w2:World} {R:Nat} {k n:Int} {s:ByteArray} {p3:Option Addr} {n3 k3:Nat} {p4:Option Addr} {n4 k4:Nat} {b:Bool} (hR:w.heap.size≤R) (hB2:Below w.heap.size w w2) (hv:b=true→∃ v,Qh (fun c=>(S c∧c<w.heap.size)∨R<c) w2 [.int .i64 k,.int .i64 n,.string s,.slice p3 n3 k3,.slice p4 n4 k4] v∧Z2 v):
  Yi S w (.returned (.tuple #[.agg #[.int .i64 k,.int .i64 n,.string s,.slice p3 n3 k3,.slice p4 n4 k4],.bool b])) (Zz w2 R (.int .i64 k) (.int .i64 n) (.string s) (.slice p3 n3 k3) (.slice p4 n4 k4)):=by
 refine ⟨k,n,s,p3,n3,k3,p4,n4,k4,b,rfl,fun hb=>?_,Qo hB2 hR⟩
 obtain ⟨v,h1,h2⟩:=hv hb
 exact ⟨v,h1.move (fun c hc _=>Qu (by rcases hc with h | h;exact (by have:=h.2;omega);omega)) (fun c _ hc=>by rcases hc with h | h;exact .inl h.1;exact .inr (by omega)),h2⟩
theorem Yi.sub {S:Nat→Prop} {w W1:World} {e:Ending} {w2:World} (h:Yi (fun c=>S c∧c<w.heap.size) W1 e w2):∃ (k n:Int) (s:ByteArray) (p3:Option Addr) (n3 k3:Nat) (p4:Option Addr) (n4 k4:Nat) (b:Bool),
  e=.returned (.tuple #[.agg #[.int .i64 k,.int .i64 n,.string s,.slice p3 n3 k3,.slice p4 n4 k4],.bool b])∧(b=true→∃ v,Qh (fun c=>(S c∧c<w.heap.size)∨W1.heap.size≤c) w2 [.int .i64 k,.int .i64 n,.string s,.slice p3 n3 k3,.slice p4 n4 k4] v∧Z2 v)∧Below W1.heap.size W1 w2:=h
theorem Yi.drew {S:Nat→Prop} {w W:World} {e:Ending} (h:Yi S w e W):Yi S w e W.drew:=by
 obtain ⟨k,n,s,p3,n3,k3,p4,n4,k4,b,he,hv,hb⟩:=h
 refine ⟨k,n,s,p3,n3,k3,p4,n4,k4,b,he,fun ht=>?_,hb.drew⟩
 obtain ⟨v,h1,h2⟩:=hv ht
 exact ⟨v,h1.move (fun _ _ _=>rfl) (fun _ _ h=>h),h2⟩
theorem Dc (b:Bool) (w:World):Calls prog 178 #[.bool b] w fun e w'=>∃ X:Int,(X=0∨X=1)∧e=.returned (.tuple #[.agg #[.int .i64 2,.int .i64 X,.string ⟨#[]⟩,.slice none 0 0,.slice none 0 0],.bool true])∧Below w.heap.size w w':=
 (O1 b w).mono fun _ _ ⟨h1,h2⟩=>⟨_,(by cases b <;> simp),h1,h2⟩
theorem Nq (n:Int) (w:World):Calls prog 177 #[.int .i64 n] w fun e w'=>∃ X:Int,True∧e=.returned (.tuple #[.agg #[.int .i64 0,.int .i64 X,.string ⟨#[]⟩,.slice none 0 0,.slice none 0 0],.bool true])∧Below w.heap.size w w':=
 (Ds n w).mono fun _ _ ⟨h1,h2⟩=>⟨n,trivial,h1,h2⟩
theorem Kv {X:Int} (h:X=0∨X=1):Z2 (.mk 2 X [] [] []):=.mk _ _ _ _ _ (fun _=>h) (fun x h=>by simp at h)
theorem Su (nm:Bs) (n:Int) (s:Bs) (names binds:List Bs) (kids:List Ex) (a z:Int) (d:Nat) (ih:∀ x ∈ kids,Yc d x) :∀ (S:Nat→Prop) (ce:List Value) (nv vv:Value) (ns:List Bs) (vs:List Val) (w:World),Z6 S w ce (.mk 0 nm n s names binds kids a z)→Sl Qp S w nv ns→Sl Ql S w vv vs→ns.length≤vs.length→vs.length+(d+1)≤1000→(∀ v ∈ vs,Z2 v) →
  Calls prog 140 #[.agg ce.toArray,nv,vv] w (Yi S w):=by
 intro S ce nv vv ns vs w hx0 hn0 hv0 hlen hd hb
 have hx:Z6 (fun b=>S b∧b<w.heap.size) w ce (.mk 0 nm n s names binds kids a z):=hx0.move (.refl _ _) (fun b hb h=>⟨h,hb⟩)
 have hn:=hn0.up
 have hv:=hv0.up
 obtain ⟨np,nc,rfl,_⟩:=hn.len
 obtain ⟨vp,vc,rfl,hvl⟩:=hv.len
 have HXX:=Qq hx
 obtain ⟨nv',bv,kv,rfl,hnm,hsx,hns,hbi,hk⟩:=Zf.1 hx
 obtain ⟨p1,c1,rfl,_⟩:=hns.len
 obtain ⟨p2,c2,rfl,_⟩:=hbi.len
 obtain ⟨p3,c3,rfl,hkl⟩:=hk.len
 have HN:=Qq hn;have HV:=Qq hv;have HBo:=Qq hb;have HNs:=Qq hns;have HBi:=Qq hbi;have HK:=Qq hk;have HI:=Qq ih;have HLen:=Qq hlen
 clear hx0 hn0 hv0 hx hn hv hns hbi hk hb ih hlen
 unfold sv at *
 go_enter func140,ntmps140
 go_upto_region 3 with fail
 generalize hW1:(w.alloc _).alloc _=W1
 have hb1:=eqB hW1 (Zv _ _ _)
 have hX1:=eqH (b:=w.heap.size) hW1 (Q5 _ _ _)
 have hZ1:=eqH (b:=w.heap.size+1) hW1 (Q6 _ _ _)
 have HB1:=Qq hb1;have HX1:=Qq hX1;have HZ1:=Qq hZ1
 have hlt:=Qf hZ1
 obtain ⟨c0,c1,c2,c3,c4,c5,c6,c7,c8⟩:=row9 hX1
 clear hW1 hb1 hX1 hZ1
 go_wp2_with (go_at_call 177;refine (Ds _ _).mono ?_;rintro e w5 ⟨rfl,hb5⟩;have hZ5:=kE hb5 hlt HZ1.out;have f0:=fA 0 hZ5;have y0:=Qk _ _ 0 _ _ _ hZ5;have f1:=fA 1 hZ5;have y1:=Qk _ _ 1 _ _ _ hZ5;have f2:=fA 2 hZ5;have y2:=Qk _ _ 2 _ _ _ hZ5;have f3:=fA 3 hZ5;have y3:=Qk _ _ 3 _ _ _ hZ5;have f4:=fA 4 hZ5;have y4:=Qk _ _ 4 _ _ _ hZ5;simp only [List.getElem?_toArray,List.getElem?_cons_zero,List.getElem?_cons_succ] at y0 y1 y2 y3 y4;have HZ5:=Qq hZ5;have HB5:=Qq hb5;clear hZ5 hb5)
 show bodyPost _ _ _ _ _ (Zz w5 (w.heap.size+1) (.int .i64 0) (.int .i64 n) (.string ⟨#[]⟩) (.slice none 0 0) (.slice none 0 0))
 refine Q7 (v:=.tuple #[.agg #[.int .i64 0,.int .i64 n,.string ⟨#[]⟩,.slice none 0 0,.slice none 0 0],.bool true]) (by simp [results,results140,go_sem,Qm HZ5.out]) rfl (Vh HB1.out (by omega) hlt (fun _=>⟨_,Zn (s:=[]) (by simp) (Sl.nil _ _ _) (Sl.nil _ _ _),G6 n⟩) HB5.out)
theorem Hd (nm:Bs) (n:Int) (s:Bs) (names binds:List Bs) (kids:List Ex) (a z:Int) (d:Nat) (ih:∀ x ∈ kids,Yc d x) (hq:(s.length:Int)≤4096):∀ (S:Nat→Prop) (ce:List Value) (nv vv:Value) (ns:List Bs) (vs:List Val) (w:World),Z6 S w ce (.mk 1 nm n s names binds kids a z)→Sl Qp S w nv ns→Sl Ql S w vv vs→ns.length≤vs.length→vs.length+(d+1)≤1000→(∀ v ∈ vs,Z2 v) →
  Calls prog 140 #[.agg ce.toArray,nv,vv] w (Yi S w):=by
 intro S ce nv vv ns vs w hx0 hn0 hv0 hlen hd hb
 have hx:Z6 (fun b=>S b∧b<w.heap.size) w ce (.mk 1 nm n s names binds kids a z):=hx0.move (.refl _ _) (fun b hb h=>⟨h,hb⟩)
 have hn:=hn0.up
 have hv:=hv0.up
 obtain ⟨np,nc,rfl,_⟩:=hn.len
 obtain ⟨vp,vc,rfl,hvl⟩:=hv.len
 have HXX:=Qq hx
 obtain ⟨nv',bv,kv,rfl,hnm,hsx,hns,hbi,hk⟩:=Zf.1 hx
 obtain ⟨p1,c1,rfl,_⟩:=hns.len
 obtain ⟨p2,c2,rfl,_⟩:=hbi.len
 obtain ⟨p3,c3,rfl,hkl⟩:=hk.len
 have HN:=Qq hn;have HV:=Qq hv;have HBo:=Qq hb;have HNs:=Qq hns;have HBi:=Qq hbi;have HK:=Qq hk;have HI:=Qq ih;have HLen:=Qq hlen
 clear hx0 hn0 hv0 hx hn hv hns hbi hk hb ih hlen
 unfold sv at *
 go_enter func140,ntmps140
 go_upto_region 5 with fail
 generalize hW1:(w.alloc _).alloc _=W1
 have hb1:=eqB hW1 (Zv _ _ _)
 have hX1:=eqH (b:=w.heap.size) hW1 (Q5 _ _ _)
 have hZ1:=eqH (b:=w.heap.size+1) hW1 (Q6 _ _ _)
 have HB1:=Qq hb1;have HX1:=Qq hX1;have HZ1:=Qq hZ1
 have hlt:=Qf hZ1
 obtain ⟨c0,c1,c2,c3,c4,c5,c6,c7,c8⟩:=row9 hX1
 clear hW1 hb1 hX1 hZ1
 have hZW1:=kE (Qz W1.heap.size W1) hlt HZ1.out
 obtain ⟨y0,y1,y2,y3,y4⟩:=row5 hZW1
 obtain ⟨f0,f1,f2,f3,f4⟩:=frz5 hZW1
 have HZW1:=Qq hZW1
 clear hZW1
 go_region_with fail
 all_goals
  go_wp2_with fail
  show bodyPost _ _ _ _ _ (Zz W1 (w.heap.size+1) (.int .i64 1) (.int .i64 0) (.string ⟨s.toArray⟩) (.slice none 0 0) (.slice none 0 0)).drew
  refine Q7 (v:=.tuple #[.agg #[.int .i64 1,.int .i64 0,.string ⟨s.toArray⟩,.slice none 0 0,.slice none 0 0],.bool true]) (by simp [results,results140,go_sem,Qm HZW1.out]) rfl (J4 (by omega) HB1.out (fun _=>⟨_,Zn hsx (Sl.nil _ _ _) (Sl.nil _ _ _),.mk _ _ _ _ _ (fun h=>by cases h) (fun x h=>by simp at h)⟩)).drew
theorem H7 (nm:Bs) (n:Int) (s:Bs) (names binds:List Bs) (kids:List Ex) (a z:Int) (d:Nat) (ih:∀ x ∈ kids,Yc d x) (hq:decide ((s.length:Int)≤4096)=false):∀ (S:Nat→Prop) (ce:List Value) (nv vv:Value) (ns:List Bs) (vs:List Val) (w:World),Z6 S w ce (.mk 1 nm n s names binds kids a z)→Sl Qp S w nv ns→Sl Ql S w vv vs→ns.length≤vs.length→vs.length+(d+1)≤1000→(∀ v ∈ vs,Z2 v) →
  Calls prog 140 #[.agg ce.toArray,nv,vv] w (Yi S w):=by
 intro S ce nv vv ns vs w hx0 hn0 hv0 hlen hd hb
 have hx:Z6 (fun b=>S b∧b<w.heap.size) w ce (.mk 1 nm n s names binds kids a z):=hx0.move (.refl _ _) (fun b hb h=>⟨h,hb⟩)
 have hn:=hn0.up
 have hv:=hv0.up
 obtain ⟨np,nc,rfl,_⟩:=hn.len
 obtain ⟨vp,vc,rfl,hvl⟩:=hv.len
 have HXX:=Qq hx
 obtain ⟨nv',bv,kv,rfl,hnm,hsx,hns,hbi,hk⟩:=Zf.1 hx
 obtain ⟨p1,c1,rfl,_⟩:=hns.len
 obtain ⟨p2,c2,rfl,_⟩:=hbi.len
 obtain ⟨p3,c3,rfl,hkl⟩:=hk.len
 have HN:=Qq hn;have HV:=Qq hv;have HBo:=Qq hb;have HNs:=Qq hns;have HBi:=Qq hbi;have HK:=Qq hk;have HI:=Qq ih;have HLen:=Qq hlen
 clear hx0 hn0 hv0 hx hn hv hns hbi hk hb ih hlen
 unfold sv at *
 go_enter func140,ntmps140
 go_upto_region 5 with fail
 generalize hW1:(w.alloc _).alloc _=W1
 have hb1:=eqB hW1 (Zv _ _ _)
 have hX1:=eqH (b:=w.heap.size) hW1 (Q5 _ _ _)
 have hZ1:=eqH (b:=w.heap.size+1) hW1 (Q6 _ _ _)
 have HB1:=Qq hb1;have HX1:=Qq hX1;have HZ1:=Qq hZ1
 have hlt:=Qf hZ1
 obtain ⟨c0,c1,c2,c3,c4,c5,c6,c7,c8⟩:=row9 hX1
 clear hW1 hb1 hX1 hZ1
 have hZW1:=kE (Qz W1.heap.size W1) hlt HZ1.out
 obtain ⟨y0,y1,y2,y3,y4⟩:=row5 hZW1
 obtain ⟨f0,f1,f2,f3,f4⟩:=frz5 hZW1
 have HZW1:=Qq hZW1
 clear hZW1
 go_region_with fail
 all_goals
  go_wp2_with fail
  show bodyPost _ _ _ _ _ (Zz W1 (w.heap.size+1) (.int .i64 1) (.int .i64 0) (.string ⟨s.toArray⟩) (.slice none 0 0) (.slice none 0 0)).drew
  refine Q7 (v:=.tuple #[.agg #[.int .i64 1,.int .i64 0,.string ⟨s.toArray⟩,.slice none 0 0,.slice none 0 0],.bool false]) (by simp [results,results140,go_sem,Qm HZW1.out]) rfl (Yf (by omega) HB1.out).drew
theorem Oq (nm:Bs) (n:Int) (s:Bs) (names binds:List Bs) (kids:List Ex) (a z:Int) (d:Nat) (ih:∀ x ∈ kids,Yc d x) :∀ (S:Nat→Prop) (ce:List Value) (nv vv:Value) (ns:List Bs) (vs:List Val) (w:World),Z6 S w ce (.mk 2 nm n s names binds kids a z)→Sl Qp S w nv ns→Sl Ql S w vv vs→ns.length≤vs.length→vs.length+(d+1)≤1000→(∀ v ∈ vs,Z2 v) →
  Calls prog 140 #[.agg ce.toArray,nv,vv] w (Yi S w):=by
 intro S ce nv vv ns vs w hx0 hn0 hv0 hlen hd hb
 have hx:Z6 (fun b=>S b∧b<w.heap.size) w ce (.mk 2 nm n s names binds kids a z):=hx0.move (.refl _ _) (fun b hb h=>⟨h,hb⟩)
 have hn:=hn0.up
 have hv:=hv0.up
 obtain ⟨np,nc,rfl,_⟩:=hn.len
 obtain ⟨vp,vc,rfl,hvl⟩:=hv.len
 have HXX:=Qq hx
 obtain ⟨nv',bv,kv,rfl,hnm,hsx,hns,hbi,hk⟩:=Zf.1 hx
 obtain ⟨p1,c1,rfl,_⟩:=hns.len
 obtain ⟨p2,c2,rfl,_⟩:=hbi.len
 obtain ⟨p3,c3,rfl,hkl⟩:=hk.len
 have HN:=Qq hn;have HV:=Qq hv;have HBo:=Qq hb;have HNs:=Qq hns;have HBi:=Qq hbi;have HK:=Qq hk;have HI:=Qq ih;have HLen:=Qq hlen
 clear hx0 hn0 hv0 hx hn hv hns hbi hk hb ih hlen
 unfold sv at *
 go_enter func140,ntmps140
 go_upto_region 7 with fail
 generalize hW1:(w.alloc _).alloc _=W1
 have hb1:=eqB hW1 (Zv _ _ _)
 have hX1:=eqH (b:=w.heap.size) hW1 (Q5 _ _ _)
 have hZ1:=eqH (b:=w.heap.size+1) hW1 (Q6 _ _ _)
 have HB1:=Qq hb1;have HX1:=Qq hX1;have HZ1:=Qq hZ1
 have hlt:=Qf hZ1
 obtain ⟨c0,c1,c2,c3,c4,c5,c6,c7,c8⟩:=row9 hX1
 clear hW1 hb1 hX1 hZ1
 go_wp2_with (go_at_call 178;refine (Dc _ _).mono ?_;rintro e w5 ⟨X,hX,rfl,hb5⟩;have hZ5:=kE hb5 hlt HZ1.out;have f0:=fA 0 hZ5;have y0:=Qk _ _ 0 _ _ _ hZ5;have f1:=fA 1 hZ5;have y1:=Qk _ _ 1 _ _ _ hZ5;have f2:=fA 2 hZ5;have y2:=Qk _ _ 2 _ _ _ hZ5;have f3:=fA 3 hZ5;have y3:=Qk _ _ 3 _ _ _ hZ5;have f4:=fA 4 hZ5;have y4:=Qk _ _ 4 _ _ _ hZ5;simp only [List.getElem?_toArray,List.getElem?_cons_zero,List.getElem?_cons_succ] at y0 y1 y2 y3 y4;have HZ5:=Qq hZ5;have HB5:=Qq hb5;clear hZ5 hb5)
 show bodyPost _ _ _ _ _ (Zz w5 (w.heap.size+1) (.int .i64 2) (.int .i64 X) (.string ⟨#[]⟩) (.slice none 0 0) (.slice none 0 0))
 refine Q7 (v:=.tuple #[.agg #[.int .i64 2,.int .i64 X,.string ⟨#[]⟩,.slice none 0 0,.slice none 0 0],.bool true]) (by simp [results,results140,go_sem,Qm HZ5.out]) rfl (Vh HB1.out (by omega) hlt (fun _=>⟨_,Oa _ _ _,Kv hX⟩) HB5.out)
theorem Sr (nm:Bs) (n:Int) (s:Bs) (names binds:List Bs) (kids:List Ex) (a z:Int) (d:Nat) (ih:∀ x ∈ kids,Yc d x) :∀ (S:Nat→Prop) (ce:List Value) (nv vv:Value) (ns:List Bs) (vs:List Val) (w:World),Z6 S w ce (.mk 3 nm n s names binds kids a z)→Sl Qp S w nv ns→Sl Ql S w vv vs→ns.length≤vs.length→vs.length+(d+1)≤1000→(∀ v ∈ vs,Z2 v) →
  Calls prog 140 #[.agg ce.toArray,nv,vv] w (Yi S w):=by
 intro S ce nv vv ns vs w hx0 hn0 hv0 hlen hd hb
 have hx:Z6 (fun b=>S b∧b<w.heap.size) w ce (.mk 3 nm n s names binds kids a z):=hx0.move (.refl _ _) (fun b hb h=>⟨h,hb⟩)
 have hn:=hn0.up
 have hv:=hv0.up
 obtain ⟨np,nc,rfl,_⟩:=hn.len
 obtain ⟨vp,vc,rfl,hvl⟩:=hv.len
 have HXX:=Qq hx
 obtain ⟨nv',bv,kv,rfl,hnm,hsx,hns,hbi,hk⟩:=Zf.1 hx
 obtain ⟨p1,c1,rfl,_⟩:=hns.len
 obtain ⟨p2,c2,rfl,_⟩:=hbi.len
 obtain ⟨p3,c3,rfl,hkl⟩:=hk.len
 have HN:=Qq hn;have HV:=Qq hv;have HBo:=Qq hb;have HNs:=Qq hns;have HBi:=Qq hbi;have HK:=Qq hk;have HI:=Qq ih;have HLen:=Qq hlen
 clear hx0 hn0 hv0 hx hn hv hns hbi hk hb ih hlen
 unfold sv at *
 obtain ⟨m,hm⟩:=eX (ns.length)
 rw [hm] at HN ⊢
 have HM:=Qq hm
 have hlen:=HLen.out
 rw [hm] at hlen
 have hml:m≤1000:=by omega
 clear hm
 go_enter func140,ntmps140
 go_upto_region 9 with fail
 generalize hW1:(w.alloc _).alloc _=W1
 have hb1:=eqB hW1 (Zv _ _ _)
 have hX1:=eqH (b:=w.heap.size) hW1 (Q5 _ _ _)
 have hZ1:=eqH (b:=w.heap.size+1) hW1 (Q6 _ _ _)
 have HB1:=Qq hb1;have HX1:=Qq hX1;have HZ1:=Qq hZ1
 have hlt:=Qf hZ1
 clear hW1 hb1 hX1 hZ1
 go_upto_region 10 with fail
 go_loopw [8] (fun i wr=>∃ (k:Nat) (j:Int),k≤m∧j=(k:Int) - 1∧i=.int .i64 j∧Aside (Below W1.heap.size W1 wr)) (fun i _=>(intOf i+1).toNat)
 case atStart=>exact ⟨m,_,Q9 _,rfl,by go_num,Qz _ _⟩
 obtain ⟨k,j,hk,hj,rfl,hBr⟩:=hrel
 have HBr:=Qq (show Below W1.heap.size W1 wr from hBr)
 clear hBr
 by_cases hk0:k=0
 ·have hi0:decide (0≤j)=false:=by simp;omega
  clear hk hj
  have hZwr:=kE HBr.out hlt HZ1.out
  obtain ⟨y0,y1,y2,y3,y4⟩:=row5 hZwr
  obtain ⟨f0,f1,f2,f3,f4⟩:=frz5 hZwr
  have HZwr:=Qq hZwr
  clear hZwr
  go_wp2_with fail
  show bodyPost _ _ _ _ _ (Zz wr (w.heap.size+1) (.int .i64 0) (.int .i64 0) (.string ⟨#[]⟩) (.slice none 0 0) (.slice none 0 0))
  refine Q7 (v:=.tuple #[.agg zV,.bool false]) (by simp [results,results140,go_sem,Qm HZwr.out]) rfl (Yf (by omega) (HB1.out.thn HBr.out))
 obtain ⟨k',rfl⟩:∃ k',k=k'+1:=⟨k - 1,by omega⟩
 obtain rfl:j=(k':Int):=by omega
 have hi0:decide ((0:Int)≤(k':Int))=true:=by simp
 have hi1:(0:Int)≤(k':Int):=by omega
 have hi2:(k':Int)<(m:Int):=by omega
 have hi3:(k':Int)<(vs.length:Int):=by omega
 obtain ⟨y,hy⟩:∃ y,ns[k']?=some y:=⟨_,Qx (by rw [HM.out];omega)⟩
 obtain ⟨v,hv⟩:∃ v,vs[k']?=some v:=⟨_,Qx (by omega)⟩
 obtain ⟨nb,noff,rfl,hyc,-⟩:=(HN.out.below (HB1.out.thn HBr.out)).str hy
 obtain ⟨vb,voff,q3,l3,q4,l4,rfl,hvb,hvx,d0,d1,d2,d3,d4⟩:=(HV.out.below (HB1.out.thn HBr.out)).val hv
 have hXr:=kB HBr.out HX1.out
 have c1:=rA1 hXr
 have HVx:=Qq hvx;have HBv:=Qq (HBo.out v (Qy hv))
 have D:=Qq (Qe hvb (Qe d0 (Qe d1 (Qe d2 (Qe d3 d4)))))
 clear hy hv hXr hvx d0 d1 d2 d3 d4 hvb hj
 by_cases he:y=nm
 ·subst he
  have hq:(y==y)=true:=by simp
  go_wp2_with fail
  go_quiet (fail)
  obtain ⟨wq,hwq⟩:=eX (wr.drewN nq)
  have hbq:Below wr.heap.size wr wq:=by rw [← hwq];exact Zy _ _
  rw [hwq]
  have HBq:=Qq hbq
  obtain ⟨hvb,d0',d1',d2',d3',d4'⟩:=D.out
  have d0:=(hbq.cell (p:=⟨vb,voff+k'*5,none⟩) hvb).trans d0';have d1:=(hbq.cell (p:=⟨vb,voff+k'*5+1,none⟩) hvb).trans d1';have d2:=(hbq.cell (p:=⟨vb,voff+k'*5+2,none⟩) hvb).trans d2';have d3:=(hbq.cell (p:=⟨vb,voff+k'*5+3,none⟩) hvb).trans d3';have d4:=(hbq.cell (p:=⟨vb,voff+k'*5+4,none⟩) hvb).trans d4'
  clear hwq hbq d0' d1' d2' d3' d4' hyc c1
  have hZwq:=kE (HBr.out.thn HBq.out) hlt HZ1.out
  obtain ⟨y0,y1,y2,y3,y4⟩:=row5 hZwq
  obtain ⟨f0,f1,f2,f3,f4⟩:=frz5 hZwq
  have HZwq:=Qq hZwq
  clear hZwq
  go_wp2_with fail
  show bodyPost _ _ _ _ _ (Zz wq (w.heap.size+1) (.int .i64 v.kind) (.int .i64 v.n) (.string ⟨v.s.toArray⟩) (.slice q3 v.names.length l3) (.slice q4 v.kids.length l4))
  refine Q7 (v:=.tuple #[.agg #[.int .i64 v.kind,.int .i64 v.n,.string ⟨v.s.toArray⟩,.slice q3 v.names.length l3,.slice q4 v.kids.length l4],.bool true]) (by simp [results,results140,go_sem,Qm HZwq.out]) rfl (J4 (by omega) ((HB1.out.thn HBr.out).thn HBq.out) (fun _=>⟨v,HVx.out.move (.of_below HBq.out) (fun _ _ h=>.inl h),HBv.out⟩))
 have hq:(y==nm)=false:=by rw [← Bool.not_eq_true,beq_iff_eq];exact he
 clear he
 go_wp2_with fail
 go_quiet (fail)
 clear hyc c1
 go_wp2_with fail
 go_roundw
 case measure=>simp [intOf]
 case rel=>exact ⟨k',(k':Int) - 1,by omega,rfl,rfl,HBr.out.thn (Zy _ _)⟩
theorem rsat_any (S S0:Nat→Prop) (d:Nat) (t:Tbl) (row:Val) (ct cr:List Value) (w:World) (he:Yc d t.check) (ht:Qt.R S w ct t) (hr:Qh S0 w cr row) (hl:row.names.length≤row.kids.length) (hd:row.kids.length+d≤1000) (hb:∀ v ∈ row.kids,Z2 v):
  Calls prog 112 #[.agg ct.toArray,.agg cr.toArray] w (Ms w):=by
 obtain ⟨cp0,cc0,kp0,kc0,rp0,rc0,k0,s10,n0,s20,p10,n10,c10,p20,n20,c20,p30,n30,c30,a0,z0,rfl,_,_,_,_,hchk⟩:=Zk ht
 obtain ⟨q3,l3,q4,l4,hcr,hn,hk,_⟩:=Qh.cells hr
 simp only [vcs] at hcr
 subst hcr
 unfold tcs
 have HS:=Qq (fun W (hW:Below w.heap.size w W)=>Fk t.check S [.int .i64 k0,.string s10,.int .i64 n0,.string s20,.slice p10 n10 c10,.slice p20 n20 c20,.slice p30 n30 c30,.int .i64 a0,.int .i64 z0] W (hchk.move (.of_below hW) (fun _ _ h=>h)))
 have HE:=Qq (fun W (hW:Below w.heap.size w W)=>he (fun _=>True) [.int .i64 k0,.string s10,.int .i64 n0,.string s20,.slice p10 n10 c10,.slice p20 n20 c20,.slice p30 n30 c30,.int .i64 a0,.int .i64 z0] _ _ row.names row.kids W (hchk.move (.of_below hW) (fun _ _ _=>trivial)) ((hn.below hW).mono (fun _ _ _=>trivial)) ((hk.below hW).mono (fun _ _ _=>trivial)) hl hd hb)
 clear ht hr hchk hn hk he hb hl hd
 go_enter func112,ntmps112
 go_upto_region 1 with fail
 generalize hW1:(w.alloc _).alloc _=W1
 have hb1:=eqB hW1 (Zv _ _ _)
 have hT1:=eqH (b:=w.heap.size) hW1 (Q5 _ _ _)
 have hR1:=eqH (b:=w.heap.size+1) hW1 (Q6 _ _ _)
 have HB1:=Qq hb1;have HT1:=Qq hT1;have HR1:=Qq hR1
 obtain ⟨c0,c1,c2,c3,c4,c5,c6,c7,c8,c9,c10,c11,c12⟩:=row13 hT1
 clear hW1 hb1 hT1 hR1
 go_upto_region 2 with (go_at_call 139;refine (HS.out _ HB1.out).mono ?_;rintro e w5 ⟨⟨b,rfl⟩,hb5⟩;have HB5:=Qq hb5;clear hb5)
 clear c0 c1 c2 c3 c4 c5 c6 c7 c8 c9 c10 c11 c12
 cases b with
 | false=>
  go_wp2_with fail
  go_ret
  exact ⟨⟨_,rfl⟩,HB1.out.thn HB5.out⟩
 | true=>
  have hT5:=kB HB5.out HT1.out
  have hR5:=kB HB5.out HR1.out
  obtain ⟨c0,c1,c2,c3,c4,c5,c6,c7,c8,c9,c10,c11,c12⟩:=row13 hT5
  obtain ⟨r0,r1,r2,r3,r4⟩:=row5 hR5
  clear hT5 hR5
  go_upto_region 5 with (go_at_call 140;refine (HE.out _ (HB1.out.thn HB5.out)).mono ?_;rintro e w7 ⟨k7,n7,s7,q37,m37,l37,q47,m47,l47,b7,rfl,_,hb7⟩;have HB7:=Qq hb7;clear hb7)
  generalize hW8:w7.alloc _=W8
  have hb8:=eqB hW8 (Qn _ _)
  have hV8:=eqH (b:=w7.heap.size) hW8 (Qw _ _)
  have HB8:=Qq (((HB1.out.thn HB5.out).thn HB7.out).thn hb8)
  obtain ⟨v0,v1,v2,v3,v4⟩:=row5 hV8
  clear hW8 hb8 hV8 c0 c1 c2 c3 c4 c5 c6 c7 c8 c9 c10 c11 c12 r0 r1 r2 r3 r4
  have hsp:b7=false∨(b7=true∧(k7==2)=false)∨(b7=true∧(k7==2)=true):=by cases b7 <;> cases (k7==2) <;> simp
  rcases hsp with rfl | ⟨rfl,hq⟩ | ⟨rfl,hq⟩
  all_goals
   go_wp2_with fail
   go_ret
   exact ⟨⟨_,rfl⟩,HB8.out⟩
theorem Hw {T:Type} {r:Rd T} {E:TypeId} {S:Nat→Prop} {B b n:Nat} {w:World} {cells:Array Value} {xs:List T} {css:List (List Value)} (hb:w.heap[b]?=some (.cells cells E (0,0))) (hB:B≤b) (hcs:Cs r (fun x=>S x∧x≠b) w css xs) (hc:css.flatten=cells.toList) (hn:n=xs.length) (hl:xs.length≤1000000):Own r E S B w (.slice (some ⟨b,0,none⟩) n n) xs css:=by
 subst hn
 refine ⟨⟨hcs.flat,.inr ⟨b,xs.length,cells,rfl,hB,hb,Q9 _,by unfold maxLen;omega,?_,?_⟩⟩,hcs.move (.refl _ _) (fun c _ h=>⟨h.1,fun e=>h.2 (Qb e)⟩)⟩
 ·have:=hcs.flat
  rw [hc] at this
  simpa using this
 rw [← hc,List.take_of_length_le (by rw [hcs.flat];exact Q9 _)]
theorem U9 {g:Nat} {W W':World} {c:Nat} {o:Obj} (h:Below g W W') (hc:c<g) (hg:W.heap[c]?=some o):W'.heap[c]?=some o:=(h.block c hc).trans hg
def Y6 (S:Nat→Prop) (w:World) (v:Value) (xs:List Int):Prop:=
 ∃ p cap,v=.slice p xs.length cap∧xs.length≤9223372036854775807∧(xs≠[]→∃ b off,p=some ⟨b,off,none⟩∧S b∧b<w.heap.size∧∀ i x,xs[i]?=some x→w.cell? ⟨b,off+i,none⟩=some (.int .i64 x))
theorem Y6.len {S:Nat→Prop} {w:World} {v:Value} {xs:List Int} (h:Y6 S w v xs):∃ p cap,v=.slice p xs.length cap∧xs.length≤9223372036854775807:=by
 obtain ⟨p,cap,h1,h2,_⟩:=h;exact ⟨p,cap,h1,h2⟩
theorem Y6.below {S:Nat→Prop} {w w':World} {v:Value} {xs:List Int} (h:Y6 S w v xs) (hb:Below w.heap.size w w'):Y6 S w' v xs:=by
 obtain ⟨p,cap,h1,h2,h3⟩:=h
 refine ⟨p,cap,h1,h2,fun hne=>?_⟩
 obtain ⟨b,off,e,hS,hlt,hc⟩:=h3 hne
 exact ⟨b,off,e,hS,Qa hlt hb.size,fun i x hx=>(hb.cell (p:=⟨b,off+i,none⟩) hlt).trans (hc i x hx)⟩
theorem Zt (S:Nat→Prop) (v:Value) (l:List Int) (i:Nat) (m:Int) (w:World) (hs:Y6 S w v l) (hi:V9 l) (hm:1≤m) (hm2:m≤1000000000):
  Calls prog 26 #[v,.int .i64 i,.int .i64 m] w fun e w'=>e=.returned (.int .i64 (Zp l i m))∧w=w':=by
 have hd0:decide ((i:Int)<0)=false:=by simp
 obtain ⟨p,cap,rfl,hl,hc⟩:=hs
 by_cases h:i<l.length
 ·obtain ⟨n,hn⟩:∃ n,l[i]?=some n:=⟨_,Qx h⟩
  obtain ⟨b,off,rfl,_,hb,hc⟩:=hc (fun e=>by rw [e] at h;exact absurd h (Nat.not_lt_zero i))
  have c0:=hc i n hn
  have HA:=Qq (fun W=>Gn n m W (hi n (Qy hn)).1 (hi n (Qy hn)).2 hm (by omega))
  have hr:Zp l i m=Yu n m:=by unfold Zp;rw [hn]
  rw [hr]
  generalize Yu n m=r at HA ⊢
  have h1:(i:Int)<(l.length:Int):=by omega
  have h2:decide ((l.length:Int)≤(i:Int))=false:=by simp;omega
  clear hi hn hc hr
  go_enter func26,ntmps26
  go_wp2_with (go_at_call 19;refine (HA.out _).mono ?_;rintro e w' ⟨rfl,rfl⟩)
  go_ret
  exact ⟨rfl,rfl⟩
 have hr:Zp l i m=0:=by unfold Zp;rw [List.getElem?_eq_none (by omega)]
 rw [hr]
 have h2:decide ((l.length:Int)≤(i:Int))=true:=by simp;omega
 clear hi hr hc
 go_enter func26,ntmps26
 go_wp2_with fail
 go_ret
 exact ⟨rfl,rfl⟩
theorem X5 {S:World→Prop} {W:World} (hS:∀ w',Below W.heap.size W w'→S w') (hB:∀ w',S w'→Below W.heap.size W w'):Hid (S W.drew)∧Hid (S W)∧Hid (∀ w',S w'→S w'.drew)∧Hid (∀ w',S w'→Below W.heap.size W w')∧Hid (∀ w' o,S w'→S (w'.alloc o))∧Hid (∀ w',Below W.heap.size W w'→S w'):=
 ⟨Qq (hS _ (Qz _ _).drew),Qq (hS _ (Qz _ _)),Qq (fun w' h=>hS _ (hB w' h).drew),Qq hB,Qq (fun w' o h=>hS _ ((hB w' h).alloc (hB w' h).size o)),Qq hS⟩
end Go.Proofs.YtppbaladeefnkaaGreatDoor
