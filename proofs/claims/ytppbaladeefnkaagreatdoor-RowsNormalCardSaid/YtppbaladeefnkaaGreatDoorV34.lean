import Derived.Test.YtppbaladeefnkaaGreatDoorV32
import Derived.Test.YtppbaladeefnkaaGreatDoorV29
set_option maxRecDepth 100000
set_option maxHeartbeats 400000000
namespace Go.Proofs.YtppbaladeefnkaaGreatDoor
open Go.RowKit Go.Shelf Go.Lib Tryz
def Vr (us:List Sm):Prop:=∀ u ∈ us,∀ c ∈ u.ctors,Ji c.arg∧Fx c.name
def Jf (w:World) (e:Ending) (w':World):Prop:=∃ v p3 k3 p4 k4,e=.returned (.agg (vcs v p3 k3 p4 k4).toArray)∧Zr v∧v.kids.length≤1∧Qh (fun b=>w.heap.size≤b) w' (vcs v p3 k3 p4 k4) v∧Below w.heap.size w w'
theorem Ub {w w':World} {k n:Int} {s:Bs} (hg:Zr (.mk k n s [] [])) (hs:s.length≤1000000) (hb:Below w.heap.size w w'):Jf w (.returned (.agg #[.int .i64 k,.int .i64 n,.string ⟨s.toArray⟩,.slice none 0 0,.slice none 0 0])) w':=
 ⟨.mk k n s [] [],none,0,none,0,rfl,hg,Q8 _,Zn hs (Sl.nil _ _ _) (Sl.nil _ _ _),hb⟩
theorem Kh (n:Int) (m:Int) (hn:0≤n) (hm:0<m):0≤n.tmod m∧n.tmod m<m:=by
 rw [Int.tmod_eq_emod_of_nonneg hn];exact ⟨Int.emod_nonneg _ (by omega),Int.emod_lt_of_pos _ hm⟩
theorem Nj (s:Sc) (nm:Bs) (tn:Int) (names:List Bs) (kids:List Ty) (n:Int) (hn0:0≤n) (S0 S1:Nat→Prop) (cs ct:List Value) (w:World) (hs:Yn S0 w cs s) (ht:Y7 S1 w ct (.mk 0 nm tn names kids)):
  Calls prog 71 #[.agg cs.toArray,.agg ct.toArray,.int .i64 n] w (Jf w):=by
 obtain ⟨uv,tv,rfl,hu,ht0⟩:=hs
 obtain ⟨up,uc,rfl,_⟩:=hu.len
 obtain ⟨tp,tc,rfl,_⟩:=ht0.len
 obtain ⟨q3,l3,q4,l4,rfl,_⟩:=ht.cells'
 obtain ⟨m8,hm8⟩:=eX (n.tmod 8)
 have hbd:=Kh n 8 hn0 (by omega)
 rw [hm8] at hbd
 obtain ⟨hbd1,hbd2⟩:=hbd
 clear hu ht0 ht
 go_enter func71,ntmps71
 go_upto_region 4 with fail
 generalize hW1:(((w.alloc _).alloc _).alloc _).alloc _=W1
 have hb1:=eqB hW1 (Zq (Zq (Zq (Qn w _) _) _) _)
 have hS1:=eqH (b:=w.heap.size) hW1 (Qi (Qi (Qi (Z8 rfl _) _) _) _)
 have hT1:=eqH (b:=w.heap.size+1) hW1 (Qi (Qi (Z8 (by simp) _) _) _)
 have hZ1:=eqH (b:=w.heap.size+1+1) hW1 (Qi (Z8 (by simp) _) _)
 have hD1:=eqH (b:=w.heap.size+1+1+1) hW1 (Z8 (by simp) _)
 have HB1:=Qq hb1;have HS1:=Qq hS1;have HT1:=Qq hT1;have HZ1:=Qq hZ1;have HD1:=Qq hD1
 clear hW1 hb1 hS1 hT1 hD1
 obtain ⟨y0,y1,y2,y3,y4⟩:=row5 hZ1
 obtain ⟨f0,f1,f2,f3,f4⟩:=frz5 hZ1
 clear hZ1
 go_wp2_with fail
 show bodyPost _ _ _ _ _ (Zz W1 (w.heap.size+1+1) (.int .i64 0) (.int .i64 (m8 - 2)) (.string ⟨#[]⟩) (.slice none 0 0) (.slice none 0 0))
 exact Q7 (v:=.agg #[.int .i64 0,.int .i64 (m8 - 2),.string ⟨#[]⟩,.slice none 0 0,.slice none 0 0]) (by simp [results,results71,go_sem,Qm HZ1.out]) rfl (Ub (s:=[]) (.int _) (by simp) (Qo HB1.out (by omega)))
theorem Ls (s:Sc) (nm:Bs) (tn:Int) (names:List Bs) (kids:List Ty) (n:Int) (hn0:0≤n) (S0 S1:Nat→Prop) (cs ct:List Value) (w:World) (hs:Yn S0 w cs s) (ht:Y7 S1 w ct (.mk 2 nm tn names kids)):
  Calls prog 71 #[.agg cs.toArray,.agg ct.toArray,.int .i64 n] w (Jf w):=by
 obtain ⟨uv,tv,rfl,hu,ht0⟩:=hs
 obtain ⟨up,uc,rfl,_⟩:=hu.len
 obtain ⟨tp,tc,rfl,_⟩:=ht0.len
 obtain ⟨q3,l3,q4,l4,rfl,_⟩:=ht.cells'
 obtain ⟨m8,hm8⟩:=eX (n.tmod 2)
 have hbd:=Kh n 2 hn0 (by omega)
 rw [hm8] at hbd
 obtain ⟨hbd1,hbd2⟩:=hbd
 clear hu ht0 ht
 go_enter func71,ntmps71
 go_upto_region 8 with fail
 generalize hW1:(((w.alloc _).alloc _).alloc _).alloc _=W1
 have hb1:=eqB hW1 (Zq (Zq (Zq (Qn w _) _) _) _)
 have hS1:=eqH (b:=w.heap.size) hW1 (Qi (Qi (Qi (Z8 rfl _) _) _) _)
 have hT1:=eqH (b:=w.heap.size+1) hW1 (Qi (Qi (Z8 (by simp) _) _) _)
 have hZ1:=eqH (b:=w.heap.size+1+1) hW1 (Qi (Z8 (by simp) _) _)
 have hD1:=eqH (b:=w.heap.size+1+1+1) hW1 (Z8 (by simp) _)
 have HB1:=Qq hb1;have HS1:=Qq hS1;have HT1:=Qq hT1;have HZ1:=Qq hZ1;have HD1:=Qq hD1
 clear hW1 hb1 hS1 hT1 hD1
 obtain ⟨y0,y1,y2,y3,y4⟩:=row5 hZ1
 obtain ⟨f0,f1,f2,f3,f4⟩:=frz5 hZ1
 clear hZ1
 go_wp2_with fail
 show bodyPost _ _ _ _ _ (Zz W1 (w.heap.size+1+1) (.int .i64 2) (.int .i64 m8) (.string ⟨#[]⟩) (.slice none 0 0) (.slice none 0 0))
 exact Q7 (v:=.agg #[.int .i64 2,.int .i64 m8,.string ⟨#[]⟩,.slice none 0 0,.slice none 0 0]) (by simp [results,results71,go_sem,Qm HZ1.out]) rfl (Ub (s:=[]) (.bool _ (by omega)) (by simp) (Qo HB1.out (by omega)))
theorem Mb (s:Sc) (nm:Bs) (tn:Int) (names:List Bs) (kids:List Ty) (n:Int) (hn0:0≤n) (S0 S1:Nat→Prop) (cs ct:List Value) (w:World) (hs:Yn S0 w cs s) (ht:Y7 S1 w ct (.mk 1 nm tn names kids)):
  Calls prog 71 #[.agg cs.toArray,.agg ct.toArray,.int .i64 n] w (Jf w):=by
 obtain ⟨uv,tv,rfl,hu,ht0⟩:=hs
 obtain ⟨up,uc,rfl,_⟩:=hu.len
 obtain ⟨tp,tc,rfl,_⟩:=ht0.len
 obtain ⟨q3,l3,q4,l4,rfl,_⟩:=ht.cells'
 obtain ⟨m8,hm8⟩:=eX (n.tmod 5)
 have hbd:=Kh n 5 hn0 (by omega)
 rw [hm8] at hbd
 obtain ⟨hbd1,hbd2⟩:=hbd
 clear hu ht0 ht
 go_enter func71,ntmps71
 go_upto_region 6 with fail
 generalize hW1:(((w.alloc _).alloc _).alloc _).alloc _=W1
 have hb1:=eqB hW1 (Zq (Zq (Zq (Qn w _) _) _) _)
 have hS1:=eqH (b:=w.heap.size) hW1 (Qi (Qi (Qi (Z8 rfl _) _) _) _)
 have hT1:=eqH (b:=w.heap.size+1) hW1 (Qi (Qi (Z8 (by simp) _) _) _)
 have hZ1:=eqH (b:=w.heap.size+1+1) hW1 (Qi (Z8 (by simp) _) _)
 have hD1:=eqH (b:=w.heap.size+1+1+1) hW1 (Z8 (by simp) _)
 have HB1:=Qq hb1;have HS1:=Qq hS1;have HT1:=Qq hT1;have HZ1:=Qq hZ1;have HD1:=Qq hD1
 clear hW1 hb1 hS1 hT1
 obtain ⟨y0,y1,y2,y3,y4⟩:=row5 hZ1
 obtain ⟨f0,f1,f2,f3,f4⟩:=frz5 hZ1
 clear hZ1
 obtain ⟨j,rfl⟩:∃ j:Nat,m8=(j:Int):=⟨m8.toNat,by omega⟩
 obtain ⟨x,hx,hxl⟩:∃ x:Bs,W1.cell? ⟨w.heap.size+1+1+1,0+j,none⟩=some (.string ⟨x.toArray⟩)∧x.length≤1000000:=by
  have hj:j<5:=by omega
  rw [Qk _ _ _ _ _ _ hD1]
  match j,hj with
  | 0,_=>exact ⟨[],rfl,by simp⟩
  | 1,_=>exact ⟨[97],rfl,by simp⟩
  | 2,_=>exact ⟨[98],rfl,by simp⟩
  | 3,_=>exact ⟨[97,98],rfl,by simp⟩
  | 4,_=>exact ⟨[195,169],rfl,by simp⟩
 rw [Nat.zero_add] at hx
 clear hD1
 go_wp2_with fail
 show bodyPost _ _ _ _ _ (Zz W1 (w.heap.size+1+1) (.int .i64 1) (.int .i64 0) (.string ⟨x.toArray⟩) (.slice none 0 0) (.slice none 0 0))
 exact Q7 (v:=.agg #[.int .i64 1,.int .i64 0,.string ⟨x.toArray⟩,.slice none 0 0,.slice none 0 0]) (by simp [results,results71,go_sem,Qm HZ1.out]) rfl (Ub (.text x) hxl (Qo HB1.out (by omega)))
theorem Dt (s:Sc) (t:Ty) (hl:Ji t) (n:Int) (hn0:0≤n) (S0 S1:Nat→Prop) (cs ct:List Value) (w:World) (hs:Yn S0 w cs s) (ht:Y7 S1 w ct t):
  Calls prog 71 #[.agg cs.toArray,.agg ct.toArray,.int .i64 n] w (Jf w):=by
 obtain ⟨k,nm,tn,names,kids⟩:=t
 rcases hl with h | h | h
 all_goals cases (show k=_ from h)
 ·exact Nj s nm tn names kids n hn0 S0 S1 cs ct w hs ht
 ·exact Mb s nm tn names kids n hn0 S0 S1 cs ct w hs ht
 exact Ls s nm tn names kids n hn0 S0 S1 cs ct w hs ht
theorem Lt (nm:Bs) (n:Int) (s:Bs) (names binds:List Bs) (kids:List Ex) (a z:Int) (d:Nat) (HM:∀ (S:Nat→Prop) (ce:List Value) (nv vv:Value) (ns:List Bs) (vs:List Val) (w:World),Z6 S w ce (.mk 13 nm n s names binds kids a z)→Sl Qp S w nv ns→Sl Ql S w vv vs→ns.length≤vs.length→vs.length+(d+1)≤1000→(∀ v ∈ vs,Z2 v) →
  Calls prog 180 #[.agg ce.toArray,nv,vv] w (Yi S w)):∀ (S:Nat→Prop) (ce:List Value) (nv vv:Value) (ns:List Bs) (vs:List Val) (w:World),Z6 S w ce (.mk 13 nm n s names binds kids a z)→Sl Qp S w nv ns→Sl Ql S w vv vs→ns.length≤vs.length→vs.length+(d+1)≤1000→(∀ v ∈ vs,Z2 v) →
  Calls prog 140 #[.agg ce.toArray,nv,vv] w (Yi S w):=by
 intro S ce nv vv ns vs w hx0 hn0 hv0 hlen hd hb
 have hx:Z6 (fun b=>S b∧b<w.heap.size) w ce (.mk 13 nm n s names binds kids a z):=hx0.move (.refl _ _) (fun b hb h=>⟨h,hb⟩)
 have hn:=hn0.up
 have hv:=hv0.up
 obtain ⟨np,nc,rfl,_⟩:=hn.len
 obtain ⟨vp,vc,rfl,hvl⟩:=hv.len
 have HXX:=Qq hx
 obtain ⟨nv',bv,kv,rfl,hnm,hsx,hns,hbi,hk⟩:=Zf.1 hx
 obtain ⟨p1,c1,rfl,_⟩:=hns.len
 obtain ⟨p2,c2,rfl,_⟩:=hbi.len
 obtain ⟨p3,c3,rfl,hkl⟩:=hk.len
 have HN:=Qq hn;have HV:=Qq hv;have HBo:=Qq hb;have HNs:=Qq hns;have HBi:=Qq hbi;have HK:=Qq hk;have HMm:=Qq HM;have HLen:=Qq hlen
 clear hx0 hn0 hv0 hx hn hv hns hbi hk hb HM hlen
 have HXw:=Qq (fun W (hW:Below w.heap.size w W)=>HMm.out (fun b=>S b∧b<w.heap.size) _ _ _ ns vs W (HXX.out.move (.of_below hW) (fun _ _ h=>h)) (HN.out.below hW) (HV.out.below hW) HLen.out hd HBo.out)
 unfold sv at *
 go_enter func140,ntmps140
 go_upto_region 26 with fail
 generalize hW1:(w.alloc _).alloc _=W1
 have hb1:=eqB hW1 (Zv _ _ _)
 have hX1:=eqH (b:=w.heap.size) hW1 (Q5 _ _ _)
 have hZ1:=eqH (b:=w.heap.size+1) hW1 (Q6 _ _ _)
 have HB1:=Qq hb1;have HX1:=Qq hX1;have HZ1:=Qq hZ1
 have hlt:=Qf hZ1
 obtain ⟨c0,c1,c2,c3,c4,c5,c6,c7,c8⟩:=row9 hX1
 clear hW1 hb1 hX1 hZ1
 go_wp2_with (go_at_call 180;refine (HXw.out _ HB1.out).mono ?_;rintro e w7 ⟨k7,n7,s7,q37,m37,l37,q47,m47,l47,b7,rfl,hv7,hb7⟩;have hZ7:=kE (hb7) hlt HZ1.out;have f0:=fA 0 hZ7;have y0:=Qk _ _ 0 _ _ _ hZ7;have f1:=fA 1 hZ7;have y1:=Qk _ _ 1 _ _ _ hZ7;have f2:=fA 2 hZ7;have y2:=Qk _ _ 2 _ _ _ hZ7;have f3:=fA 3 hZ7;have y3:=Qk _ _ 3 _ _ _ hZ7;have f4:=fA 4 hZ7;have y4:=Qk _ _ 4 _ _ _ hZ7;simp only [List.getElem?_toArray,List.getElem?_cons_zero,List.getElem?_cons_succ] at y0 y1 y2 y3 y4;have HZ7:=Qq hZ7;clear hZ7;have HV7:=Qq hv7;have HB7:=Qq hb7;clear hv7 hb7)
 show bodyPost _ _ _ _ _ (Zz w7 (w.heap.size+1) (.int .i64 k7) (.int .i64 n7) (.string s7) (.slice q37 m37 l37) (.slice q47 m47 l47))
 refine Q7 (v:=.tuple #[.agg #[.int .i64 k7,.int .i64 n7,.string s7,.slice q37 m37 l37,.slice q47 m47 l47],.bool b7]) (by simp [results,results140,go_sem,Qm HZ7.out]) rfl (Vh HB1.out (by omega) hlt HV7.out HB7.out)
theorem Bd (nm:Bs) (n:Int) (s:Bs) (names binds:List Bs) (kids:List Ex) (a z:Int) (d:Nat) (HM:∀ (S:Nat→Prop) (ce:List Value) (nv vv:Value) (ns:List Bs) (vs:List Val) (w:World),Z6 S w ce (.mk 14 nm n s names binds kids a z)→Sl Qp S w nv ns→Sl Ql S w vv vs→ns.length≤vs.length→vs.length+(d+1)≤1000→(∀ v ∈ vs,Z2 v) →
  Calls prog 181 #[.agg ce.toArray,nv,vv] w (Yi S w)):∀ (S:Nat→Prop) (ce:List Value) (nv vv:Value) (ns:List Bs) (vs:List Val) (w:World),Z6 S w ce (.mk 14 nm n s names binds kids a z)→Sl Qp S w nv ns→Sl Ql S w vv vs→ns.length≤vs.length→vs.length+(d+1)≤1000→(∀ v ∈ vs,Z2 v) →
  Calls prog 140 #[.agg ce.toArray,nv,vv] w (Yi S w):=by
 intro S ce nv vv ns vs w hx0 hn0 hv0 hlen hd hb
 have hx:Z6 (fun b=>S b∧b<w.heap.size) w ce (.mk 14 nm n s names binds kids a z):=hx0.move (.refl _ _) (fun b hb h=>⟨h,hb⟩)
 have hn:=hn0.up
 have hv:=hv0.up
 obtain ⟨np,nc,rfl,_⟩:=hn.len
 obtain ⟨vp,vc,rfl,hvl⟩:=hv.len
 have HXX:=Qq hx
 obtain ⟨nv',bv,kv,rfl,hnm,hsx,hns,hbi,hk⟩:=Zf.1 hx
 obtain ⟨p1,c1,rfl,_⟩:=hns.len
 obtain ⟨p2,c2,rfl,_⟩:=hbi.len
 obtain ⟨p3,c3,rfl,hkl⟩:=hk.len
 have HN:=Qq hn;have HV:=Qq hv;have HBo:=Qq hb;have HNs:=Qq hns;have HBi:=Qq hbi;have HK:=Qq hk;have HMm:=Qq HM;have HLen:=Qq hlen
 clear hx0 hn0 hv0 hx hn hv hns hbi hk hb HM hlen
 have HXw:=Qq (fun W (hW:Below w.heap.size w W)=>HMm.out (fun b=>S b∧b<w.heap.size) _ _ _ ns vs W (HXX.out.move (.of_below hW) (fun _ _ h=>h)) (HN.out.below hW) (HV.out.below hW) HLen.out hd HBo.out)
 unfold sv at *
 go_enter func140,ntmps140
 go_upto_region 28 with fail
 generalize hW1:(w.alloc _).alloc _=W1
 have hb1:=eqB hW1 (Zv _ _ _)
 have hX1:=eqH (b:=w.heap.size) hW1 (Q5 _ _ _)
 have hZ1:=eqH (b:=w.heap.size+1) hW1 (Q6 _ _ _)
 have HB1:=Qq hb1;have HX1:=Qq hX1;have HZ1:=Qq hZ1
 have hlt:=Qf hZ1
 obtain ⟨c0,c1,c2,c3,c4,c5,c6,c7,c8⟩:=row9 hX1
 clear hW1 hb1 hX1 hZ1
 go_wp2_with (go_at_call 181;refine (HXw.out _ HB1.out).mono ?_;rintro e w7 ⟨k7,n7,s7,q37,m37,l37,q47,m47,l47,b7,rfl,hv7,hb7⟩;have hZ7:=kE (hb7) hlt HZ1.out;have f0:=fA 0 hZ7;have y0:=Qk _ _ 0 _ _ _ hZ7;have f1:=fA 1 hZ7;have y1:=Qk _ _ 1 _ _ _ hZ7;have f2:=fA 2 hZ7;have y2:=Qk _ _ 2 _ _ _ hZ7;have f3:=fA 3 hZ7;have y3:=Qk _ _ 3 _ _ _ hZ7;have f4:=fA 4 hZ7;have y4:=Qk _ _ 4 _ _ _ hZ7;simp only [List.getElem?_toArray,List.getElem?_cons_zero,List.getElem?_cons_succ] at y0 y1 y2 y3 y4;have HZ7:=Qq hZ7;clear hZ7;have HV7:=Qq hv7;have HB7:=Qq hb7;clear hv7 hb7)
 show bodyPost _ _ _ _ _ (Zz w7 (w.heap.size+1) (.int .i64 k7) (.int .i64 n7) (.string s7) (.slice q37 m37 l37) (.slice q47 m47 l47))
 refine Q7 (v:=.tuple #[.agg #[.int .i64 k7,.int .i64 n7,.string s7,.slice q37 m37 l37,.slice q47 m47 l47],.bool b7]) (by simp [results,results140,go_sem,Qm HZ7.out]) rfl (Vh HB1.out (by omega) hlt HV7.out HB7.out)
theorem Hy (S:Nat→Prop) (v:Value) (l:List Int) (w:World) (hs:Y6 S w v l) (hi:V9 l) (hk:Zp l 0 13=0):
  Calls prog 35 #[v,.int .i64 0] w (Vi w (Gen.check 0)):=by
 have HP:=Qq (fun W (hb:Below w.heap.size w W)=>Zt S v l 0 13 W (hs.below hb) hi (by omega) (by omega))
 rw [hk] at HP
 obtain ⟨p,cap,rfl,_⟩:=hs.len
 clear hs hi hk
 go_enter func35,ntmps35
 go_upto_region 8 with fail
 generalize hW8:(((((((w.alloc _).alloc _).alloc _).alloc _).alloc _).alloc _).alloc _).alloc _=W8
 have hb8:=eqB hW8 (Zq (Zq (Zq (Zq (Zq (Zq (Zq (Qn w _) _) _) _) _) _) _) _)
 have hz8:W8.heap.size=w.heap.size+8:=by rw [← hW8];simp
 have r8:=eqH (b:=w.heap.size) hW8 (Qi (Qi (Qi (Qi (Qi (Qi (Qi (Z8 rfl _) _) _) _) _) _) _) _)
 have hyes:=eqH (b:=w.heap.size+1+1+1+1+1+1+1) hW8 (Z8 (by simp) _)
 have hRl:w.heap.size<W8.heap.size:=by omega
 have hRn:w.heap.size≠W8.heap.size:=by omega
 have HZ8:=Qq hz8
 clear hz8
 have HB8:=Qq hb8;have HR8:=Qq r8
 clear hW8 hb8 r8
 obtain ⟨yes0,yes1,yes2,yes3,yes4,yes5,yes6,yes7,yes8⟩:=row9 hyes
 clear hyes
 go_upto_region 12 with (go_at_call 26;refine (HP.out _ HB8.out).mono ?_;rintro e w' ⟨rfl,rfl⟩)
 obtain ⟨y0,y1,y2,y3,y4,y5,y6,y7,y8⟩:=row9 HR8.out
 obtain ⟨f0,f1,f2,f3,f4,f5,f6,f7,f8⟩:=frz9 HR8.out
 go_wp2_with fail
 show bodyPost _ _ _ _ _ (put9 W8 w.heap.size (.int .i64 2) (.string ⟨#[]⟩) (.int .i64 1) (.string ⟨#[]⟩) (.slice none 0 0) (.slice none 0 0) (.slice none 0 0) (.int .i64 0) (.int .i64 0))
 exact Q7 (v:=.agg #[.int .i64 2,.string ⟨#[]⟩,.int .i64 1,.string ⟨#[]⟩,.slice none 0 0,.slice none 0 0,.slice none 0 0,.int .i64 0,.int .i64 0]) (by simp [results,results35,go_sem,Y4 HR8.out]) rfl (Vy (Zx 2 [] 1 [] (by simp) (by simp)) HB8.out rfl)
theorem H9 (S:Nat→Prop) (v:Value) (l:List Int) (w:World) (hs:Y6 S w v l) (hi:V9 l) (hk:Zp l 0 13=1):
  Calls prog 35 #[v,.int .i64 0] w (Vi w (Gen.check 1)):=by
 have HP:=Qq (fun W (hb:Below w.heap.size w W)=>Zt S v l 0 13 W (hs.below hb) hi (by omega) (by omega))
 rw [hk] at HP
 obtain ⟨p,cap,rfl,_⟩:=hs.len
 clear hs hi hk
 go_enter func35,ntmps35
 go_upto_region 8 with fail
 generalize hW8:(((((((w.alloc _).alloc _).alloc _).alloc _).alloc _).alloc _).alloc _).alloc _=W8
 have hb8:=eqB hW8 (Zq (Zq (Zq (Zq (Zq (Zq (Zq (Qn w _) _) _) _) _) _) _) _)
 have hz8:W8.heap.size=w.heap.size+8:=by rw [← hW8];simp
 have r8:=eqH (b:=w.heap.size) hW8 (Qi (Qi (Qi (Qi (Qi (Qi (Qi (Z8 rfl _) _) _) _) _) _) _) _)
 have hyes:=eqH (b:=w.heap.size+1+1+1+1+1+1+1) hW8 (Z8 (by simp) _)
 have hRl:w.heap.size<W8.heap.size:=by omega
 have hRn:w.heap.size≠W8.heap.size:=by omega
 have HZ8:=Qq hz8
 clear hz8
 have HB8:=Qq hb8;have HR8:=Qq r8
 clear hW8 hb8 r8
 obtain ⟨yes0,yes1,yes2,yes3,yes4,yes5,yes6,yes7,yes8⟩:=row9 hyes
 clear hyes
 go_upto_region 12 with (go_at_call 26;refine (HP.out _ HB8.out).mono ?_;rintro e w' ⟨rfl,rfl⟩)
 obtain ⟨y0,y1,y2,y3,y4,y5,y6,y7,y8⟩:=row9 HR8.out
 obtain ⟨f0,f1,f2,f3,f4,f5,f6,f7,f8⟩:=frz9 HR8.out
 go_wp2_with fail
 show bodyPost _ _ _ _ _ (put9 W8 w.heap.size (.int .i64 2) (.string ⟨#[]⟩) (.int .i64 1) (.string ⟨#[]⟩) (.slice none 0 0) (.slice none 0 0) (.slice none 0 0) (.int .i64 0) (.int .i64 0))
 exact Q7 (v:=.agg #[.int .i64 2,.string ⟨#[]⟩,.int .i64 1,.string ⟨#[]⟩,.slice none 0 0,.slice none 0 0,.slice none 0 0,.int .i64 0,.int .i64 0]) (by simp [results,results35,go_sem,Y4 HR8.out]) rfl (Vy (Zx 2 [] 1 [] (by simp) (by simp)) HB8.out rfl)
theorem Ep (S:Nat→Prop) (v:Value) (l:List Int) (w:World) (hs:Y6 S w v l) (hi:V9 l) (hk:Zp l 0 13=2):
  Calls prog 35 #[v,.int .i64 0] w (Vi w (Gen.check 2)):=by
 have HP:=Qq (fun W (hb:Below w.heap.size w W)=>Zt S v l 0 13 W (hs.below hb) hi (by omega) (by omega))
 rw [hk] at HP
 obtain ⟨p,cap,rfl,_⟩:=hs.len
 clear hs hi hk
 go_enter func35,ntmps35
 go_upto_region 8 with fail
 generalize hW8:(((((((w.alloc _).alloc _).alloc _).alloc _).alloc _).alloc _).alloc _).alloc _=W8
 have hb8:=eqB hW8 (Zq (Zq (Zq (Zq (Zq (Zq (Zq (Qn w _) _) _) _) _) _) _) _)
 have hz8:W8.heap.size=w.heap.size+8:=by rw [← hW8];simp
 have r8:=eqH (b:=w.heap.size) hW8 (Qi (Qi (Qi (Qi (Qi (Qi (Qi (Z8 rfl _) _) _) _) _) _) _) _)
 have hyes:=eqH (b:=w.heap.size+1+1+1+1+1+1+1) hW8 (Z8 (by simp) _)
 have hRl:w.heap.size<W8.heap.size:=by omega
 have hRn:w.heap.size≠W8.heap.size:=by omega
 have HZ8:=Qq hz8
 clear hz8
 have HB8:=Qq hb8;have HR8:=Qq r8
 clear hW8 hb8 r8
 obtain ⟨yes0,yes1,yes2,yes3,yes4,yes5,yes6,yes7,yes8⟩:=row9 hyes
 clear hyes
 go_upto_region 12 with (go_at_call 26;refine (HP.out _ HB8.out).mono ?_;rintro e w' ⟨rfl,rfl⟩)
 obtain ⟨y0,y1,y2,y3,y4,y5,y6,y7,y8⟩:=row9 HR8.out
 obtain ⟨f0,f1,f2,f3,f4,f5,f6,f7,f8⟩:=frz9 HR8.out
 go_wp2_with fail
 show bodyPost _ _ _ _ _ (put9 W8 w.heap.size (.int .i64 2) (.string ⟨#[]⟩) (.int .i64 1) (.string ⟨#[]⟩) (.slice none 0 0) (.slice none 0 0) (.slice none 0 0) (.int .i64 0) (.int .i64 0))
 exact Q7 (v:=.agg #[.int .i64 2,.string ⟨#[]⟩,.int .i64 1,.string ⟨#[]⟩,.slice none 0 0,.slice none 0 0,.slice none 0 0,.int .i64 0,.int .i64 0]) (by simp [results,results35,go_sem,Y4 HR8.out]) rfl (Vy (Zx 2 [] 1 [] (by simp) (by simp)) HB8.out rfl)
theorem Sf (S:Nat→Prop) (v:Value) (l:List Int) (w:World) (hs:Y6 S w v l) (hi:V9 l) (hk:Zp l 0 13=9):
  Calls prog 35 #[v,.int .i64 0] w (Vi w (Gen.check 9)):=by
 have HP:=Qq (fun W (hb:Below w.heap.size w W)=>Zt S v l 0 13 W (hs.below hb) hi (by omega) (by omega))
 rw [hk] at HP
 obtain ⟨p,cap,rfl,_⟩:=hs.len
 clear hs hi hk
 go_enter func35,ntmps35
 go_upto_region 8 with fail
 generalize hW8:(((((((w.alloc _).alloc _).alloc _).alloc _).alloc _).alloc _).alloc _).alloc _=W8
 have hb8:=eqB hW8 (Zq (Zq (Zq (Zq (Zq (Zq (Zq (Qn w _) _) _) _) _) _) _) _)
 have hz8:W8.heap.size=w.heap.size+8:=by rw [← hW8];simp
 have r8:=eqH (b:=w.heap.size) hW8 (Qi (Qi (Qi (Qi (Qi (Qi (Qi (Z8 rfl _) _) _) _) _) _) _) _)
 have hc:=eqH (b:=w.heap.size+1+1+1) hW8 (Qi (Qi (Qi (Qi (Z8 (by simp) _) _) _) _) _)
 have hRl:w.heap.size<W8.heap.size:=by omega
 have hRn:w.heap.size≠W8.heap.size:=by omega
 have HZ8:=Qq hz8
 clear hz8
 have HB8:=Qq hb8;have HR8:=Qq r8
 clear hW8 hb8 r8
 obtain ⟨c0,c1,c2,c3,c4,c5,c6,c7,c8⟩:=row9 hc
 clear hc
 go_upto_region 28 with (go_at_call 26;refine (HP.out _ HB8.out).mono ?_;rintro e w' ⟨rfl,rfl⟩)
 go_wp2_with (first
   | (go_at_call 70;refine (Xx w.heap.size [61,61] _ _ [.int .i64 ek1,.string es1,.int .i64 en1,.string et1,.slice e11 f11 g11,.slice e21 f21 g21,.slice e31 f31 g31,.int .i64 ea1,.int .i64 ez1] [.int .i64 1,.string ⟨#[]⟩,.int .i64 0,.string ⟨#[]⟩,.slice none 0 0,.slice none 0 0,.slice none 0 0,.int .i64 0,.int .i64 0] _ (by simp) H1_1.out (Zx 1 [] 0 [] (by simp) (by simp)) (by have h:=(HB1.out:Below W8.heap.size W8 _).size;omega)).mono ?_;rintro e w2 ⟨ek2,es2,en2,et2,e12,f12,g12,e22,f22,g22,e32,f32,g32,ea2,ez2,rfl,hx2,hb2⟩;have hB2:Below W8.heap.size W8 w2:=(HB1.out).thn hb2;have hZ2:=kE hB2 (show w.heap.size<W8.heap.size by omega) HR8.out;have f0:=fA 0 hZ2;have y0:=Qk _ _ 0 _ _ _ hZ2;have f1:=fA 1 hZ2;have y1:=Qk _ _ 1 _ _ _ hZ2;have f2:=fA 2 hZ2;have y2:=Qk _ _ 2 _ _ _ hZ2;have f3:=fA 3 hZ2;have y3:=Qk _ _ 3 _ _ _ hZ2;have f4:=fA 4 hZ2;have y4:=Qk _ _ 4 _ _ _ hZ2;have f5:=fA 5 hZ2;have y5:=Qk _ _ 5 _ _ _ hZ2;have f6:=fA 6 hZ2;have y6:=Qk _ _ 6 _ _ _ hZ2;have f7:=fA 7 hZ2;have y7:=Qk _ _ 7 _ _ _ hZ2;have f8:=fA 8 hZ2;have y8:=Qk _ _ 8 _ _ _ hZ2;simp only [List.getElem?_toArray,List.getElem?_cons_zero,List.getElem?_cons_succ] at y0 y1 y2 y3 y4 y5 y6 y7 y8;clear hZ2;have H1_2:=Qq (H1_1.out.move (.of_below hb2) (fun _ _ h=>h));have H2_2:=Qq hx2;have HB2:=Qq hB2;clear hx2 hb2 hB2)
   | (go_at_call 70;refine (Xx w.heap.size [43,43] _ _ [.int .i64 3,.string ⟨#[99]⟩,.int .i64 0,.string ⟨#[]⟩,.slice none 0 0,.slice none 0 0,.slice none 0 0,.int .i64 0,.int .i64 0] [.int .i64 3,.string ⟨#[99]⟩,.int .i64 0,.string ⟨#[]⟩,.slice none 0 0,.slice none 0 0,.slice none 0 0,.int .i64 0,.int .i64 0] _ (by simp) (Zx 3 [99] 0 [] (by simp) (by simp)) (Zx 3 [99] 0 [] (by simp) (by simp)) (by have h:=((Qz _ _):Below W8.heap.size W8 _).size;omega)).mono ?_;rintro e w1 ⟨ek1,es1,en1,et1,e11,f11,g11,e21,f21,g21,e31,f31,g31,ea1,ez1,rfl,hx1,hb1⟩;have hB1:Below W8.heap.size W8 w1:=((Qz _ _)).thn hb1;have H1_1:=Qq hx1;have HB1:=Qq hB1;clear hx1 hb1 hB1))
 have hR:=kE HB2.out (by omega) HR8.out
 show bodyPost _ _ _ _ _ (put9 w2 w.heap.size (.int .i64 ek2) (.string es2) (.int .i64 en2) (.string et2) (.slice e12 f12 g12) (.slice e22 f22 g22) (.slice e32 f32 g32) (.int .i64 ea2) (.int .i64 ez2))
 exact Q7 (v:=.agg #[.int .i64 ek2,.string es2,.int .i64 en2,.string et2,.slice e12 f12 g12,.slice e22 f22 g22,.slice e32 f32 g32,.int .i64 ea2,.int .i64 ez2]) (by simp [results,results35,go_sem,Y4 hR]) rfl (Vy H2_2.out (HB8.out.thn HB2.out) rfl)
theorem Ob (S:Nat→Prop) (v:Value) (l:List Int) (w:World) (hs:Y6 S w v l) (hi:V9 l) (hk:Zp l 0 13=12):
  Calls prog 35 #[v,.int .i64 0] w (Vi w (Gen.check 12)):=by
 have HP:=Qq (fun W (hb:Below w.heap.size w W)=>Zt S v l 0 13 W (hs.below hb) hi (by omega) (by omega))
 rw [hk] at HP
 obtain ⟨p,cap,rfl,_⟩:=hs.len
 clear hs hi hk
 go_enter func35,ntmps35
 go_upto_region 8 with fail
 generalize hW8:(((((((w.alloc _).alloc _).alloc _).alloc _).alloc _).alloc _).alloc _).alloc _=W8
 have hb8:=eqB hW8 (Zq (Zq (Zq (Zq (Zq (Zq (Zq (Qn w _) _) _) _) _) _) _) _)
 have hz8:W8.heap.size=w.heap.size+8:=by rw [← hW8];simp
 have r8:=eqH (b:=w.heap.size) hW8 (Qi (Qi (Qi (Qi (Qi (Qi (Qi (Z8 rfl _) _) _) _) _) _) _) _)
 have hRl:w.heap.size<W8.heap.size:=by omega
 have hRn:w.heap.size≠W8.heap.size:=by omega
 have HZ8:=Qq hz8
 clear hz8
 have HB8:=Qq hb8;have HR8:=Qq r8
 clear hW8 hb8 r8
 go_upto_region 33 with (go_at_call 26;refine (HP.out _ HB8.out).mono ?_;rintro e w' ⟨rfl,rfl⟩)
 have hTok1:=Qq True.intro
 go_wp2_with (have hk:=hTok1.out;clear hTok1 hk;generalize hWW9:World.alloc W8 _=W9;have hbW9:=eqB hWW9 (Qn _ _);have hKW9:=eqH (b:=W8.heap.size) hWW9 (Qw _ _);have hRW9:=kE hbW9 hRl HR8.out;have f0:=fA 0 hRW9;have y0:=Qk _ _ 0 _ _ _ hRW9;have f1:=fA 1 hRW9;have y1:=Qk _ _ 1 _ _ _ hRW9;have f2:=fA 2 hRW9;have y2:=Qk _ _ 2 _ _ _ hRW9;have f3:=fA 3 hRW9;have y3:=Qk _ _ 3 _ _ _ hRW9;have f4:=fA 4 hRW9;have y4:=Qk _ _ 4 _ _ _ hRW9;have f5:=fA 5 hRW9;have y5:=Qk _ _ 5 _ _ _ hRW9;have f6:=fA 6 hRW9;have y6:=Qk _ _ 6 _ _ _ hRW9;have f7:=fA 7 hRW9;have y7:=Qk _ _ 7 _ _ _ hRW9;have f8:=fA 8 hRW9;have y8:=Qk _ _ 8 _ _ _ hRW9;simp only [List.getElem?_toArray,List.getElem?_cons_zero,List.getElem?_cons_succ] at y0 y1 y2 y3 y4 y5 y6 y7 y8;have HKW9:=Qq hKW9;have HBW9:=Qq hbW9;have HRW9:=Qq hRW9;clear hWW9 hKW9 hbW9 hRW9)
 show bodyPost _ _ _ _ _ (put9 W9 w.heap.size (.int .i64 4) (.string ⟨#[97,110,121]⟩) (.int .i64 0) (.string ⟨#[]⟩) (.slice none 0 0) (.slice none 0 0) (.slice (some ⟨W8.heap.size,0,none⟩) 1 1) (.int .i64 0) (.int .i64 0))
 exact Q7 (v:=.agg #[.int .i64 4,.string ⟨#[97,110,121]⟩,.int .i64 0,.string ⟨#[]⟩,.slice none 0 0,.slice none 0 0,.slice (some ⟨W8.heap.size,0,none⟩) 1 1,.int .i64 0,.int .i64 0]) (by simp [results,results35,go_sem,Y4 HRW9.out]) rfl (Vy (Yk (nm:=[97,110,121]) (s:=[]) (by simp) (by simp) (Sl.nil _ _ _) (Sl.nil _ _ _) (Z4 (xs:=[Ex.mk 9 [] 0 [] [] [] [] 0 0]) HKW9.out hRl (Cs.one (r:=Ys) (x:=Ex.mk 9 [] 0 [] [] [] [] 0 0) (c:=[.int .i64 9,.string ⟨#[]⟩,.int .i64 0,.string ⟨#[]⟩,.slice none 0 0,.slice none 0 0,.slice none 0 0,.int .i64 0,.int .i64 0]) (show Z6 _ _ _ _ from Zx 9 [] 0 [] (by simp) (by simp))) rfl rfl (by simp))) (HB8.out.thn HBW9.out) rfl)
theorem Nu (S:Nat→Prop) (v:Value) (l:List Int) (w:World) (hs:Y6 S w v l) (hi:V9 l) (hk:Zp l 0 13=11):
  Calls prog 35 #[v,.int .i64 0] w (Vi w (Gen.check 11)):=by
 have HP:=Qq (fun W (hb:Below w.heap.size w W)=>Zt S v l 0 13 W (hs.below hb) hi (by omega) (by omega))
 rw [hk] at HP
 obtain ⟨p,cap,rfl,_⟩:=hs.len
 clear hs hi hk
 go_enter func35,ntmps35
 go_upto_region 8 with fail
 generalize hW8:(((((((w.alloc _).alloc _).alloc _).alloc _).alloc _).alloc _).alloc _).alloc _=W8
 have hb8:=eqB hW8 (Zq (Zq (Zq (Zq (Zq (Zq (Zq (Qn w _) _) _) _) _) _) _) _)
 have hz8:W8.heap.size=w.heap.size+8:=by rw [← hW8];simp
 have r8:=eqH (b:=w.heap.size) hW8 (Qi (Qi (Qi (Qi (Qi (Qi (Qi (Z8 rfl _) _) _) _) _) _) _) _)
 have ha:=eqH (b:=w.heap.size+1) hW8 (Qi (Qi (Qi (Qi (Qi (Qi (Z8 (by simp) _) _) _) _) _) _) _)
 have hb:=eqH (b:=w.heap.size+1+1) hW8 (Qi (Qi (Qi (Qi (Qi (Z8 (by simp) _) _) _) _) _) _)
 have hone:=eqH (b:=w.heap.size+1+1+1+1+1+1) hW8 (Qi (Z8 (by simp) _) _)
 have hRl:w.heap.size<W8.heap.size:=by omega
 have hRn:w.heap.size≠W8.heap.size:=by omega
 have HZ8:=Qq hz8
 clear hz8
 have HB8:=Qq hb8;have HR8:=Qq r8
 clear hW8 hb8 r8
 obtain ⟨a0,a1,a2,a3,a4,a5,a6,a7,a8⟩:=row9 ha
 clear ha
 obtain ⟨b0,b1,b2,b3,b4,b5,b6,b7,b8⟩:=row9 hb
 clear hb
 obtain ⟨one0,one1,one2,one3,one4,one5,one6,one7,one8⟩:=row9 hone
 clear hone
 go_upto_region 32 with (go_at_call 26;refine (HP.out _ HB8.out).mono ?_;rintro e w' ⟨rfl,rfl⟩)
 have hTok1:=Qq True.intro;have hTok2:=Qq True.intro
 go_wp2_with (first
   | (have hk:=hTok1.out;clear hTok1 hk;generalize hWW9:World.alloc W8 _=W9;have hbW9:=eqB hWW9 (Qn _ _);have hKW9:=eqH (b:=W8.heap.size) hWW9 (Qw _ _);have a0:=kC hbW9 a0;have a1:=kC hbW9 a1;have a2:=kC hbW9 a2;have a3:=kC hbW9 a3;have a4:=kC hbW9 a4;have a5:=kC hbW9 a5;have a6:=kC hbW9 a6;have a7:=kC hbW9 a7;have a8:=kC hbW9 a8;have one0:=kC hbW9 one0;have one1:=kC hbW9 one1;have one2:=kC hbW9 one2;have one3:=kC hbW9 one3;have one4:=kC hbW9 one4;have one5:=kC hbW9 one5;have one6:=kC hbW9 one6;have one7:=kC hbW9 one7;have one8:=kC hbW9 one8;have HKW9:=Qq hKW9;have HBW9:=Qq hbW9;clear hWW9 hKW9 hbW9)
   | (have hk:=hTok2.out;clear hTok2 hk;generalize hWW10:World.alloc W9 _=W10;have hbW10:=eqB hWW10 (Qn _ _);have hKW10:=eqH (b:=W9.heap.size) hWW10 (Qw _ _);have HKW10:=Qq hKW10;have HBW10:=Qq hbW10;clear hWW10 hKW10 hbW10)
   | (go_at_call 70;refine (Xx w.heap.size [33,61] _ _ [.int .i64 9,.string ⟨#[]⟩,.int .i64 0,.string ⟨#[]⟩,.slice none 0 0,.slice none 0 0,.slice (some ⟨W8.heap.size,0,none⟩) 2 2,.int .i64 0,.int .i64 0] [.int .i64 9,.string ⟨#[]⟩,.int .i64 0,.string ⟨#[]⟩,.slice none 0 0,.slice none 0 0,.slice (some ⟨W9.heap.size,0,none⟩) 2 2,.int .i64 0,.int .i64 0] _ (by simp) (Yk (nm:=[]) (s:=[]) (by simp) (by simp) (Sl.nil _ _ _) (Sl.nil _ _ _) (Z4 (xs:=[Gen.a,Gen.b]) (kB HBW10.out HKW9.out) hRl ((Cs.one (r:=Ys) (Zx 3 [97] 0 [] (by simp) (by simp))).app (Cs.one (r:=Ys) (Zx 3 [98] 0 [] (by simp) (by simp)))) rfl rfl (by simp))) (Yk (nm:=[]) (s:=[]) (by simp) (by simp) (Sl.nil _ _ _) (Sl.nil _ _ _) (Z4 (xs:=[Gen.one,Gen.a]) HKW10.out (Qa hRl HBW9.out.size) ((Cs.one (r:=Ys) (Zx 0 [] 1 [] (by simp) (by simp))).app (Cs.one (r:=Ys) (Zx 3 [97] 0 [] (by simp) (by simp)))) rfl rfl (by simp))) (Qa hRl (HBW9.out.thn HBW10.out).size)).mono ?_;rintro e w1 ⟨ek1,es1,en1,et1,e11,f11,g11,e21,f21,g21,e31,f31,g31,ea1,ez1,rfl,hx1,hb1⟩;have hR1:=kE (HBW9.out.thn (HBW10.out.thn hb1)) hRl HR8.out;have f0:=fA 0 hR1;have y0:=Qk _ _ 0 _ _ _ hR1;have f1:=fA 1 hR1;have y1:=Qk _ _ 1 _ _ _ hR1;have f2:=fA 2 hR1;have y2:=Qk _ _ 2 _ _ _ hR1;have f3:=fA 3 hR1;have y3:=Qk _ _ 3 _ _ _ hR1;have f4:=fA 4 hR1;have y4:=Qk _ _ 4 _ _ _ hR1;have f5:=fA 5 hR1;have y5:=Qk _ _ 5 _ _ _ hR1;have f6:=fA 6 hR1;have y6:=Qk _ _ 6 _ _ _ hR1;have f7:=fA 7 hR1;have y7:=Qk _ _ 7 _ _ _ hR1;have f8:=fA 8 hR1;have y8:=Qk _ _ 8 _ _ _ hR1;simp only [List.getElem?_toArray,List.getElem?_cons_zero,List.getElem?_cons_succ] at y0 y1 y2 y3 y4 y5 y6 y7 y8;have HR1:=Qq hR1;clear hR1;have H1:=Qq hx1;have HB1:=Qq hb1;clear hx1 hb1))
 show bodyPost _ _ _ _ _ (put9 w1 w.heap.size (.int .i64 ek1) (.string es1) (.int .i64 en1) (.string et1) (.slice e11 f11 g11) (.slice e21 f21 g21) (.slice e31 f31 g31) (.int .i64 ea1) (.int .i64 ez1))
 exact Q7 (v:=.agg #[.int .i64 ek1,.string es1,.int .i64 en1,.string et1,.slice e11 f11 g11,.slice e21 f21 g21,.slice e31 f31 g31,.int .i64 ea1,.int .i64 ez1]) (by simp [results,results35,go_sem,Y4 HR1.out]) rfl (Vy H1.out (HB8.out.thn (HBW9.out.thn (HBW10.out.thn HB1.out))) rfl)
end Go.Proofs.YtppbaladeefnkaaGreatDoor
