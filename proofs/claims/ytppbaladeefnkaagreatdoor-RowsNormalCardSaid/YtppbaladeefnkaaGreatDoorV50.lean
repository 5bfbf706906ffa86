import Derived.Test.YtppbaladeefnkaaGreatDoorV49
set_option maxRecDepth 100000
set_option maxHeartbeats 400000000
namespace Go.Proofs.YtppbaladeefnkaaGreatDoor
open Go.RowKit Go.Shelf Go.Lib Tryz
theorem Nw (X:World) (p:Addr):X.drew.cell? p=X.cell? p:=rfl
theorem Ze {W:World} {R b j:Nat} {x0 x1 x2 x3 x4 u:Value} (h:b≠R) (hc:W.cell? ⟨b,j,none⟩=some u):(Zz W R x0 x1 x2 x3 x4).drew.cell? ⟨b,j,none⟩=some u:=(Nw _ _).trans (Qr h hc)
theorem Ru (nm:Bs) (hnm:nm=[110,111,116]) (n:Int) (s:Bs) (names binds:List Bs) (kids:List Ex) (a z:Int) (d:Nat) (h2:kids.length=1) (ih:∀ x ∈ kids,Yc d x) :∀ (S:Nat→Prop) (ce:List Value) (nv vv:Value) (ns:List Bs) (vs:List Val) (w:World),Z6 S w ce (.mk 14 nm n s names binds kids a z)→Sl Qp S w nv ns→Sl Ql S w vv vs→ns.length≤vs.length→vs.length+(d+1)≤1000→(∀ v ∈ vs,Z2 v) →
  Calls prog 181 #[.agg ce.toArray,nv,vv] w (Yi S w):=by
 subst hnm
 intro S ce nv vv ns vs w hx0 hn0 hv0 hlen hd hb
 have hx:Z6 (fun b=>S b∧b<w.heap.size) w ce (.mk 14 [110,111,116] n s names binds kids a z):=hx0.move (.refl _ _) (fun b hb h=>⟨h,hb⟩)
 have hn:=hn0.up
 have hv:=hv0.up
 obtain ⟨np,nc,rfl,_⟩:=hn.len
 obtain ⟨vp,vc,rfl,hvl⟩:=hv.len
 have HXX:=Qq hx
 obtain ⟨nv',bv,kv,rfl,hnm,hsx,hns,hbi,hk⟩:=Zf.1 hx
 obtain ⟨p1,c1,rfl,_⟩:=hns.len
 obtain ⟨p2,c2,rfl,_⟩:=hbi.len
 obtain ⟨p3,c3,rfl,hkl⟩:=hk.len
 have HN:=Qq hn;have HV:=Qq hv;have HBo:=Qq hb;have HNs:=Qq hns;have HBi:=Qq hbi;have HK:=Qq hk;have HI:=Qq ih;have HLen:=Qq hlen
 clear hx0 hn0 hv0 hx hn hv hns hbi hk hb ih hlen
 unfold sv at *
 rw [h2] at HK ⊢
 obtain ⟨x0,hx0⟩:∃ x,kids[0]?=some x:=⟨_,Qx (by omega)⟩
 obtain ⟨kb0,ko0,ek0,es0,en0,et0,e10,f10,g10,e20,f20,g20,e30,f30,g30,ea0,ez0,hp30,hkb0,hvx0,d00,d10,d20,d30,d40,d50,d60,d70,d80⟩:=HK.out.ex hx0
 subst hp30
 simp only [Nat.zero_mul,Nat.add_zero] at d00 d10 d20 d30 d40 d50 d60 d70 d80
 have HE0:=Qq (fun W (hW:Below w.heap.size w W)=>HI.out x0 (Qy hx0) (fun b=>S b∧b<w.heap.size) _ _ _ ns vs W (hvx0.move (.of_below hW) (fun _ _ h=>h)) (HN.out.below hW) (HV.out.below hW) HLen.out (by omega) HBo.out)
 have HXx0:=Qq hvx0;have HM0:=Qq (Qy hx0)
 have DD0:=Qq (Qe hkb0 (Qe d00 (Qe d10 (Qe d20 (Qe d30 (Qe d40 (Qe d50 (Qe d60 (Qe d70 d80)))))))))
 clear hvx0 hx0 hkb0 d00 d10 d20 d30 d40 d50 d60 d70 d80
 go_enter func181,ntmps181
 go_upto_region 3 with fail
 generalize hW1:(w.alloc _).alloc _=W1
 have hb1:=eqB hW1 (Zv _ _ _)
 have hX1:=eqH (b:=w.heap.size) hW1 (Q5 _ _ _)
 have hZ1:=eqH (b:=w.heap.size+1) hW1 (Q6 _ _ _)
 have HB1:=Qq hb1;have HX1:=Qq hX1;have HZ1:=Qq hZ1
 have hlt:=Qf hZ1
 clear hW1 hb1 hX1 hZ1
 have hXW1:=((Qq (Qz W1.heap.size W1)).out.block _ (Qf HX1.out)).trans HX1.out
 have c6:=rA6 hXW1
 clear hXW1
 obtain ⟨qb,q0,q1,q2,q3,q4,q5,q6,q7,q8⟩:=DD0.out
 have d00:=kD HB1.out qb q0;have d10:=kD HB1.out qb q1;have d20:=kD HB1.out qb q2;have d30:=kD HB1.out qb q3;have d40:=kD HB1.out qb q4;have d50:=kD HB1.out qb q5;have d60:=kD HB1.out qb q6;have d70:=kD HB1.out qb q7;have d80:=kD HB1.out qb q8
 clear qb q0 q1 q2 q3 q4 q5 q6 q7 q8
 go_upto_region 4 with (go_at_call 140;refine (HE0.out _ HB1.out).mono ?_;rintro e w5 ⟨k5,n5,s5,q35,m35,l35,q45,m45,l45,b5,rfl,hv5,hb5⟩;have HV5:=Qq hv5;have HB5:=Qq hb5;clear hv5 hb5)
 generalize hW6:w5.alloc _=W6
 have hb6:=eqB hW6 (Qn _ _)
 have hV6:=eqH (b:=w5.heap.size) hW6 (Qw _ _)
 have HB6:=Qq (HB5.out.thn hb6);have HVB6:=Qq hV6;have HVX6:=Qq hb6
 clear hW6 hb6 hV6
 have hlt6:w.heap.size+1<W6.heap.size:=by have:=HB6.out.size;omega
 clear c6 d00 d10 d20 d30 d40 d50 d60 d70 d80
 have hXW6:=kB HB6.out HX1.out
 have c1:=rA1 hXW6;have c6:=rA6 hXW6
 clear hXW6
 have hsp:b5=false∨(b5=true∧(k5 != 2)=true)∨(b5=true∧k5=2):=by
  cases b5 with
  | false=>exact .inl rfl
  | true=>
   by_cases h:k5=2
   ·exact .inr (.inr ⟨rfl,h⟩)
   exact .inr (.inl ⟨rfl,by simpa using h⟩)
 rcases hsp with rfl | ⟨rfl,hq⟩ | ⟨rfl,rfl⟩
 focus
  obtain ⟨v0,v1,v2,v3,v4⟩:=row5 HVB6.out
  have hZW6:=kE HB6.out hlt HZ1.out
  obtain ⟨y0,y1,y2,y3,y4⟩:=row5 hZW6
  obtain ⟨f0,f1,f2,f3,f4⟩:=frz5 hZW6
  have HZW6:=Qq hZW6
  clear hZW6
  go_wp2_with fail
  show bodyPost _ _ _ _ _ (Zz W6 (w.heap.size+1) (.int .i64 k5) (.int .i64 n5) (.string s5) (.slice q35 m35 l35) (.slice q45 m45 l45))
  refine Q7 (v:=.tuple #[.agg #[.int .i64 k5,.int .i64 n5,.string s5,.slice q35 m35 l35,.slice q45 m45 l45],.bool false]) (by simp [results,results181,go_sem,Qm HZW6.out]) rfl (Yf (by omega) (HB1.out.thn HB6.out))
 focus
  obtain ⟨v0,v1,v2,v3,v4⟩:=row5 HVB6.out
  have hZW6:=kE HB6.out hlt HZ1.out
  obtain ⟨y0,y1,y2,y3,y4⟩:=row5 hZW6
  obtain ⟨f0,f1,f2,f3,f4⟩:=frz5 hZW6
  have HZW6:=Qq hZW6
  clear hZW6
  go_wp2_with fail
  show bodyPost _ _ _ _ _ (Zz W6 (w.heap.size+1) (.int .i64 k5) (.int .i64 n5) (.string s5) (.slice q35 m35 l35) (.slice q45 m45 l45))
  refine Q7 (v:=.tuple #[.agg #[.int .i64 k5,.int .i64 n5,.string s5,.slice q35 m35 l35,.slice q45 m45 l45],.bool false]) (by simp [results,results181,go_sem,Qm HZW6.out]) rfl (Yf (by omega) (HB1.out.thn HB6.out))
 focus
  obtain ⟨v0,v1,v2,v3,v4⟩:=row5 HVB6.out
  have hq:((2:Int) != 2)=false:=rfl
  go_wp2_with (go_at_call 178;refine (Dc _ _).mono ?_;rintro e w10 ⟨X,hX,rfl,hb10⟩;have hb110:=HB6.out.thn hb10;have hZ10:=kE (hb110) hlt HZ1.out;have f0:=fA 0 hZ10;have y0:=Qk _ _ 0 _ _ _ hZ10;have f1:=fA 1 hZ10;have y1:=Qk _ _ 1 _ _ _ hZ10;have f2:=fA 2 hZ10;have y2:=Qk _ _ 2 _ _ _ hZ10;have f3:=fA 3 hZ10;have y3:=Qk _ _ 3 _ _ _ hZ10;have f4:=fA 4 hZ10;have y4:=Qk _ _ 4 _ _ _ hZ10;simp only [List.getElem?_toArray,List.getElem?_cons_zero,List.getElem?_cons_succ] at y0 y1 y2 y3 y4;have HZ10:=Qq hZ10;clear hZ10;have HB10:=Qq hb110;clear hb10 hb110)
  show bodyPost _ _ _ _ _ (Zz w10 (w.heap.size+1) (.int .i64 2) (.int .i64 X) (.string ⟨#[]⟩) (.slice none 0 0) (.slice none 0 0))
  refine Q7 (v:=.tuple #[.agg #[.int .i64 2,.int .i64 X,.string ⟨#[]⟩,.slice none 0 0,.slice none 0 0],.bool true]) (by simp [results,results181,go_sem,Qm HZ10.out]) rfl (Vh HB1.out (by omega) hlt (fun _=>⟨_,Zn (s:=[]) (by simp) (Sl.nil _ _ _) (Sl.nil _ _ _),Kv hX⟩) HB10.out)
theorem Sh (nm:Bs) (hnm:nm=[97,110,100]) (n:Int) (s:Bs) (names binds:List Bs) (kids:List Ex) (a z:Int) (d:Nat) (h2:kids.length=2) (ih:∀ x ∈ kids,Yc d x) :∀ (S:Nat→Prop) (ce:List Value) (nv vv:Value) (ns:List Bs) (vs:List Val) (w:World),Z6 S w ce (.mk 14 nm n s names binds kids a z)→Sl Qp S w nv ns→Sl Ql S w vv vs→ns.length≤vs.length→vs.length+(d+1)≤1000→(∀ v ∈ vs,Z2 v) →
  Calls prog 181 #[.agg ce.toArray,nv,vv] w (Yi S w):=by
 subst hnm
 intro S ce nv vv ns vs w hx0 hn0 hv0 hlen hd hb
 have hx:Z6 (fun b=>S b∧b<w.heap.size) w ce (.mk 14 [97,110,100] n s names binds kids a z):=hx0.move (.refl _ _) (fun b hb h=>⟨h,hb⟩)
 have hn:=hn0.up
 have hv:=hv0.up
 obtain ⟨np,nc,rfl,_⟩:=hn.len
 obtain ⟨vp,vc,rfl,hvl⟩:=hv.len
 have HXX:=Qq hx
 obtain ⟨nv',bv,kv,rfl,hnm,hsx,hns,hbi,hk⟩:=Zf.1 hx
 obtain ⟨p1,c1,rfl,_⟩:=hns.len
 obtain ⟨p2,c2,rfl,_⟩:=hbi.len
 obtain ⟨p3,c3,rfl,hkl⟩:=hk.len
 have HN:=Qq hn;have HV:=Qq hv;have HBo:=Qq hb;have HNs:=Qq hns;have HBi:=Qq hbi;have HK:=Qq hk;have HI:=Qq ih;have HLen:=Qq hlen
 clear hx0 hn0 hv0 hx hn hv hns hbi hk hb ih hlen
 unfold sv at *
 rw [h2] at HK ⊢
 obtain ⟨x0,hx0⟩:∃ x,kids[0]?=some x:=⟨_,Qx (by omega)⟩
 obtain ⟨kb0,ko0,ek0,es0,en0,et0,e10,f10,g10,e20,f20,g20,e30,f30,g30,ea0,ez0,hp30,hkb0,hvx0,d00,d10,d20,d30,d40,d50,d60,d70,d80⟩:=HK.out.ex hx0
 subst hp30
 simp only [Nat.zero_mul,Nat.add_zero] at d00 d10 d20 d30 d40 d50 d60 d70 d80
 have HE0:=Qq (fun W (hW:Below w.heap.size w W)=>HI.out x0 (Qy hx0) (fun b=>S b∧b<w.heap.size) _ _ _ ns vs W (hvx0.move (.of_below hW) (fun _ _ h=>h)) (HN.out.below hW) (HV.out.below hW) HLen.out (by omega) HBo.out)
 have HXx0:=Qq hvx0;have HM0:=Qq (Qy hx0)
 have DD0:=Qq (Qe hkb0 (Qe d00 (Qe d10 (Qe d20 (Qe d30 (Qe d40 (Qe d50 (Qe d60 (Qe d70 d80)))))))))
 clear hvx0 hx0 hkb0 d00 d10 d20 d30 d40 d50 d60 d70 d80
 obtain ⟨x1,hx1⟩:∃ x,kids[1]?=some x:=⟨_,Qx (by omega)⟩
 obtain ⟨kb1,ko1,ek1,es1,en1,et1,e11,f11,g11,e21,f21,g21,e31,f31,g31,ea1,ez1,hp31,hkb1,hvx1,d01,d11,d21,d31,d41,d51,d61,d71,d81⟩:=HK.out.ex hx1
 simp only [Option.some.injEq,Addr.mk.injEq,and_true] at hp31
 obtain ⟨rfl,rfl⟩:=hp31
 simp only [Nat.one_mul] at d01 d11 d21 d31 d41 d51 d61 d71 d81
 have HE1:=Qq (fun W (hW:Below w.heap.size w W)=>HI.out x1 (Qy hx1) (fun b=>S b∧b<w.heap.size) _ _ _ ns vs W (hvx1.move (.of_below hW) (fun _ _ h=>h)) (HN.out.below hW) (HV.out.below hW) HLen.out (by omega) HBo.out)
 have HXx1:=Qq hvx1;have HM1:=Qq (Qy hx1)
 have DD1:=Qq (Qe hkb1 (Qe d01 (Qe d11 (Qe d21 (Qe d31 (Qe d41 (Qe d51 (Qe d61 (Qe d71 d81)))))))))
 clear hvx1 hx1 hkb1 d01 d11 d21 d31 d41 d51 d61 d71 d81
 go_enter func181,ntmps181
 go_upto_region 3 with fail
 generalize hW1:(w.alloc _).alloc _=W1
 have hb1:=eqB hW1 (Zv _ _ _)
 have hX1:=eqH (b:=w.heap.size) hW1 (Q5 _ _ _)
 have hZ1:=eqH (b:=w.heap.size+1) hW1 (Q6 _ _ _)
 have HB1:=Qq hb1;have HX1:=Qq hX1;have HZ1:=Qq hZ1
 have hlt:=Qf hZ1
 clear hW1 hb1 hX1 hZ1
 have hXW1:=((Qq (Qz W1.heap.size W1)).out.block _ (Qf HX1.out)).trans HX1.out
 have c6:=rA6 hXW1
 clear hXW1
 obtain ⟨qb,q0,q1,q2,q3,q4,q5,q6,q7,q8⟩:=DD0.out
 have d00:=kD HB1.out qb q0;have d10:=kD HB1.out qb q1;have d20:=kD HB1.out qb q2;have d30:=kD HB1.out qb q3;have d40:=kD HB1.out qb q4;have d50:=kD HB1.out qb q5;have d60:=kD HB1.out qb q6;have d70:=kD HB1.out qb q7;have d80:=kD HB1.out qb q8
 clear qb q0 q1 q2 q3 q4 q5 q6 q7 q8
 go_upto_region 4 with (go_at_call 140;refine (HE0.out _ HB1.out).mono ?_;rintro e w5 ⟨k5,n5,s5,q35,m35,l35,q45,m45,l45,b5,rfl,hv5,hb5⟩;have HV5:=Qq hv5;have HB5:=Qq hb5;clear hv5 hb5)
 generalize hW6:w5.alloc _=W6
 have hb6:=eqB hW6 (Qn _ _)
 have hV6:=eqH (b:=w5.heap.size) hW6 (Qw _ _)
 have HB6:=Qq (HB5.out.thn hb6);have HVB6:=Qq hV6;have HVX6:=Qq hb6
 clear hW6 hb6 hV6
 have hlt6:w.heap.size+1<W6.heap.size:=by have:=HB6.out.size;omega
 clear c6 d00 d10 d20 d30 d40 d50 d60 d70 d80
 have hXW6:=kB HB6.out HX1.out
 have c1:=rA1 hXW6;have c6:=rA6 hXW6
 clear hXW6
 have hsp:b5=false∨(b5=true∧(k5 != 2)=true)∨(b5=true∧k5=2):=by
  cases b5 with
  | false=>exact .inl rfl
  | true=>
   by_cases h:k5=2
   ·exact .inr (.inr ⟨rfl,h⟩)
   exact .inr (.inl ⟨rfl,by simpa using h⟩)
 rcases hsp with rfl | ⟨rfl,hq⟩ | ⟨rfl,rfl⟩
 focus
  obtain ⟨v0,v1,v2,v3,v4⟩:=row5 HVB6.out
  have hZW6:=kE HB6.out hlt HZ1.out
  obtain ⟨y0,y1,y2,y3,y4⟩:=row5 hZW6
  obtain ⟨f0,f1,f2,f3,f4⟩:=frz5 hZW6
  have HZW6:=Qq hZW6
  clear hZW6
  go_wp2_with fail
  show bodyPost _ _ _ _ _ (Zz W6 (w.heap.size+1) (.int .i64 k5) (.int .i64 n5) (.string s5) (.slice q35 m35 l35) (.slice q45 m45 l45))
  refine Q7 (v:=.tuple #[.agg #[.int .i64 k5,.int .i64 n5,.string s5,.slice q35 m35 l35,.slice q45 m45 l45],.bool false]) (by simp [results,results181,go_sem,Qm HZW6.out]) rfl (Yf (by omega) (HB1.out.thn HB6.out))
 focus
  obtain ⟨v0,v1,v2,v3,v4⟩:=row5 HVB6.out
  have hZW6:=kE HB6.out hlt HZ1.out
  obtain ⟨y0,y1,y2,y3,y4⟩:=row5 hZW6
  obtain ⟨f0,f1,f2,f3,f4⟩:=frz5 hZW6
  have HZW6:=Qq hZW6
  clear hZW6
  go_wp2_with fail
  show bodyPost _ _ _ _ _ (Zz W6 (w.heap.size+1) (.int .i64 k5) (.int .i64 n5) (.string s5) (.slice q35 m35 l35) (.slice q45 m45 l45))
  refine Q7 (v:=.tuple #[.agg #[.int .i64 k5,.int .i64 n5,.string s5,.slice q35 m35 l35,.slice q45 m45 l45],.bool false]) (by simp [results,results181,go_sem,Qm HZW6.out]) rfl (Yf (by omega) (HB1.out.thn HB6.out))
 have hn5:n5=0∨n5=1:=by
  obtain ⟨v,hvx,hvb⟩:=HV5.out rfl
  obtain ⟨h1,h2,_⟩:=hvx.head
  rw [← h2]
  have:=hvb.bool h1
  omega
 have hq:((2:Int) != 2)=false:=rfl
 rcases hn5 with rfl | rfl
 focus
  obtain ⟨v0,v1,v2,v3,v4⟩:=row5 HVB6.out
  have hZW6:=kE HB6.out hlt HZ1.out
  obtain ⟨y0,y1,y2,y3,y4⟩:=row5 hZW6
  obtain ⟨f0,f1,f2,f3,f4⟩:=frz5 hZW6
  have HZW6:=Qq hZW6
  clear hZW6
  go_wp2_with fail
  show bodyPost _ _ _ _ _ (Zz W6 (w.heap.size+1) (.int .i64 2) (.int .i64 0) (.string s5) (.slice q35 m35 l35) (.slice q45 m45 l45))
  refine Q7 (v:=.tuple #[.agg #[.int .i64 2,.int .i64 0,.string s5,.slice q35 m35 l35,.slice q45 m45 l45],.bool true]) (by simp [results,results181,go_sem,Qm HZW6.out]) rfl (J4 (by omega) (HB1.out.thn HB6.out) (fun _=>by
   obtain ⟨v,h1,h2⟩:=HV5.out (by first | rfl | trivial)
   refine ⟨v,h1.move (.of_below HVX6.out) (fun c _ hc=>?_),h2⟩
   rcases hc with hc | hc
   ·exact .inl hc
   exact .inr (by have h':W1.heap.size≤c:=hc;omega)))
 focus
  obtain ⟨v0,v1,v2,v3,v4⟩:=row5 HVB6.out
  obtain ⟨qb,q0,q1,q2,q3,q4,q5,q6,q7,q8⟩:=DD1.out
  have d01:=kD (HB1.out.thn HB6.out) qb q0;have d11:=kD (HB1.out.thn HB6.out) qb q1;have d21:=kD (HB1.out.thn HB6.out) qb q2;have d31:=kD (HB1.out.thn HB6.out) qb q3;have d41:=kD (HB1.out.thn HB6.out) qb q4;have d51:=kD (HB1.out.thn HB6.out) qb q5;have d61:=kD (HB1.out.thn HB6.out) qb q6;have d71:=kD (HB1.out.thn HB6.out) qb q7;have d81:=kD (HB1.out.thn HB6.out) qb q8
  clear qb q0 q1 q2 q3 q4 q5 q6 q7 q8
  go_upto_region 12 with (go_at_call 140;refine (HE1.out _ (HB1.out.thn HB6.out)).mono ?_;rintro e w7 ⟨k7,n7,s7,q37,m37,l37,q47,m47,l47,b7,rfl,hv7,hb7⟩;have HV7:=Qq hv7;have HB7:=Qq hb7;clear hv7 hb7)
  generalize hW8:w7.alloc _=W8
  have hb8:=eqB hW8 (Qn _ _)
  have hV8:=eqH (b:=w7.heap.size) hW8 (Qw _ _)
  have HB8:=Qq (HB7.out.thn hb8);have HVB8:=Qq hV8;have HVX8:=Qq hb8
  clear hW8 hb8 hV8
  have hlt8:w.heap.size+1<W8.heap.size:=by have:=HB8.out.size;omega
  clear d01 d11 d21 d31 d41 d51 d61 d71 d81
  have HB68:=Qq (HB6.out.thn HB8.out)
  clear c1 c6 v0 v1 v2 v3 v4 hq
  have hXW8:=kB HB68.out HX1.out
  have c1:=rA1 hXW8;have c6:=rA6 hXW8
  clear hXW8
  cases b7 with
  | false=>
   obtain ⟨u0,u1,u2,u3,u4⟩:=row5 HVB8.out
   have hZW8:=kE HB68.out hlt HZ1.out
   obtain ⟨y0,y1,y2,y3,y4⟩:=row5 hZW8
   obtain ⟨f0,f1,f2,f3,f4⟩:=frz5 hZW8
   have HZW8:=Qq hZW8
   clear hZW8
   go_wp2_with fail
   show bodyPost _ _ _ _ _ (Zz W8 (w.heap.size+1) (.int .i64 k7) (.int .i64 n7) (.string s7) (.slice q37 m37 l37) (.slice q47 m47 l47))
   refine Q7 (v:=.tuple #[.agg #[.int .i64 k7,.int .i64 n7,.string s7,.slice q37 m37 l37,.slice q47 m47 l47],.bool false]) (by simp [results,results181,go_sem,Qm HZW8.out]) rfl (Yf (by omega) (HB1.out.thn HB68.out))
  | true=>
   obtain ⟨u0,u1,u2,u3,u4⟩:=row5 HVB8.out
   go_upto_region 15 with fail
   by_cases hk:k7=2
   focus
    subst hk
    have hq:((2:Int)==2)=true:=rfl
    have hZW8:=kE HB68.out hlt HZ1.out
    obtain ⟨y0,y1,y2,y3,y4⟩:=row5 hZW8
    obtain ⟨f0,f1,f2,f3,f4⟩:=frz5 hZW8
    have HZW8:=Qq hZW8
    clear hZW8
    have h7z:w7.heap.size≠w.heap.size+1:=by have h1:=HB6.out.size;have h2:=HB7.out.size;omega
    refine let_mvar% ?Lq2:=fun w':World=>w'.cell? ⟨w7.heap.size,0,none⟩=some (.int .i64 2)∧w'.cell? ⟨w7.heap.size,1,none⟩=some (.int .i64 n7)∧w'.cell? ⟨w7.heap.size,2,none⟩=some (.string s7)∧w'.cell? ⟨w7.heap.size,3,none⟩=some (.slice q37 m37 l37)∧w'.cell? ⟨w7.heap.size,4,none⟩=some (.slice q47 m47 l47);?_
    have HS0:=Qq (show ?Lq2 W8.drew from ⟨u0,u1,u2,u3,u4⟩)
    have HP:∀ x0 x1 x2 x3 x4,?Lq2 (Zz W8 (w.heap.size+1) x0 x1 x2 x3 x4).drew:=fun x0 x1 x2 x3 x4=>⟨Ze h7z u0,Ze h7z u1,Ze h7z u2,Ze h7z u3,Ze h7z u4⟩
    unfold Zz at HP
    have HP':=Qq HP
    clear HP h7z u0 u1 u2 u3 u4
    go_region_held3 ?Lq2 (first | with_reducible exact HS0.out | with_reducible exact HP'.out _ _ _ _ _) (fail)
    all_goals
     go_wp2_with fail
     show bodyPost _ _ _ _ _ (Zz W8 (w.heap.size+1) (.int .i64 2) (.int .i64 n7) (.string s7) (.slice q37 m37 l37) (.slice q47 m47 l47)).drew
     refine Q7 (v:=.tuple #[.agg #[.int .i64 2,.int .i64 n7,.string s7,.slice q37 m37 l37,.slice q47 m47 l47],.bool true]) (by simp [results,results181,go_sem,Qm HZW8.out]) rfl (J4 (by omega) (HB1.out.thn HB68.out) (fun _=>by
      obtain ⟨v,h1,h2⟩:=HV7.out (by first | rfl | trivial)
      refine ⟨v,h1.move (.of_below HVX8.out) (fun c _ hc=>?_),h2⟩
      rcases hc with hc | hc
      ·exact .inl hc
      exact .inr (by have h':W6.heap.size≤c:=hc;omega))).drew
   focus
    have hq:(k7==2)=false:=by rw [← Bool.not_eq_true,beq_iff_eq];exact hk
    clear hk
    have hZW8:=kE HB68.out hlt HZ1.out
    obtain ⟨y0,y1,y2,y3,y4⟩:=row5 hZW8
    obtain ⟨f0,f1,f2,f3,f4⟩:=frz5 hZW8
    have HZW8:=Qq hZW8
    clear hZW8
    have h7z:w7.heap.size≠w.heap.size+1:=by have h1:=HB6.out.size;have h2:=HB7.out.size;omega
    refine let_mvar% ?Lq1:=fun w':World=>w'.cell? ⟨w7.heap.size,0,none⟩=some (.int .i64 k7)∧w'.cell? ⟨w7.heap.size,1,none⟩=some (.int .i64 n7)∧w'.cell? ⟨w7.heap.size,2,none⟩=some (.string s7)∧w'.cell? ⟨w7.heap.size,3,none⟩=some (.slice q37 m37 l37)∧w'.cell? ⟨w7.heap.size,4,none⟩=some (.slice q47 m47 l47);?_
    have HS0:=Qq (show ?Lq1 W8.drew from ⟨u0,u1,u2,u3,u4⟩)
    have HP:∀ x0 x1 x2 x3 x4,?Lq1 (Zz W8 (w.heap.size+1) x0 x1 x2 x3 x4).drew:=fun x0 x1 x2 x3 x4=>⟨Ze h7z u0,Ze h7z u1,Ze h7z u2,Ze h7z u3,Ze h7z u4⟩
    unfold Zz at HP
    have HP':=Qq HP
    clear HP h7z u0 u1 u2 u3 u4
    go_region_held3 ?Lq1 (first | with_reducible exact HS0.out | with_reducible exact HP'.out _ _ _ _ _) (fail)
    all_goals
     go_wp2_with fail
     show bodyPost _ _ _ _ _ (Zz W8 (w.heap.size+1) (.int .i64 k7) (.int .i64 n7) (.string s7) (.slice q37 m37 l37) (.slice q47 m47 l47)).drew
     refine Q7 (v:=.tuple #[.agg #[.int .i64 k7,.int .i64 n7,.string s7,.slice q37 m37 l37,.slice q47 m47 l47],.bool false]) (by simp [results,results181,go_sem,Qm HZW8.out]) rfl (Yf (by omega) (HB1.out.thn HB68.out)).drew
theorem roper_or (nm:Bs) (hnm:nm=[111,114]) (n:Int) (s:Bs) (names binds:List Bs) (kids:List Ex) (a z:Int) (d:Nat) (h2:kids.length=2) (ih:∀ x ∈ kids,Yc d x) :∀ (S:Nat→Prop) (ce:List Value) (nv vv:Value) (ns:List Bs) (vs:List Val) (w:World),Z6 S w ce (.mk 14 nm n s names binds kids a z)→Sl Qp S w nv ns→Sl Ql S w vv vs→ns.length≤vs.length→vs.length+(d+1)≤1000→(∀ v ∈ vs,Z2 v) →
  Calls prog 181 #[.agg ce.toArray,nv,vv] w (Yi S w):=by
 subst hnm
 intro S ce nv vv ns vs w hx0 hn0 hv0 hlen hd hb
 have hx:Z6 (fun b=>S b∧b<w.heap.size) w ce (.mk 14 [111,114] n s names binds kids a z):=hx0.move (.refl _ _) (fun b hb h=>⟨h,hb⟩)
 have hn:=hn0.up
 have hv:=hv0.up
 obtain ⟨np,nc,rfl,_⟩:=hn.len
 obtain ⟨vp,vc,rfl,hvl⟩:=hv.len
 have HXX:=Qq hx
 obtain ⟨nv',bv,kv,rfl,hnm,hsx,hns,hbi,hk⟩:=Zf.1 hx
 obtain ⟨p1,c1,rfl,_⟩:=hns.len
 obtain ⟨p2,c2,rfl,_⟩:=hbi.len
 obtain ⟨p3,c3,rfl,hkl⟩:=hk.len
 have HN:=Qq hn;have HV:=Qq hv;have HBo:=Qq hb;have HNs:=Qq hns;have HBi:=Qq hbi;have HK:=Qq hk;have HI:=Qq ih;have HLen:=Qq hlen
 clear hx0 hn0 hv0 hx hn hv hns hbi hk hb ih hlen
 unfold sv at *
 rw [h2] at HK ⊢
 obtain ⟨x0,hx0⟩:∃ x,kids[0]?=some x:=⟨_,Qx (by omega)⟩
 obtain ⟨kb0,ko0,ek0,es0,en0,et0,e10,f10,g10,e20,f20,g20,e30,f30,g30,ea0,ez0,hp30,hkb0,hvx0,d00,d10,d20,d30,d40,d50,d60,d70,d80⟩:=HK.out.ex hx0
 subst hp30
 simp only [Nat.zero_mul,Nat.add_zero] at d00 d10 d20 d30 d40 d50 d60 d70 d80
 have HE0:=Qq (fun W (hW:Below w.heap.size w W)=>HI.out x0 (Qy hx0) (fun b=>S b∧b<w.heap.size) _ _ _ ns vs W (hvx0.move (.of_below hW) (fun _ _ h=>h)) (HN.out.below hW) (HV.out.below hW) HLen.out (by omega) HBo.out)
 have HXx0:=Qq hvx0;have HM0:=Qq (Qy hx0)
 have DD0:=Qq (Qe hkb0 (Qe d00 (Qe d10 (Qe d20 (Qe d30 (Qe d40 (Qe d50 (Qe d60 (Qe d70 d80)))))))))
 clear hvx0 hx0 hkb0 d00 d10 d20 d30 d40 d50 d60 d70 d80
 obtain ⟨x1,hx1⟩:∃ x,kids[1]?=some x:=⟨_,Qx (by omega)⟩
 obtain ⟨kb1,ko1,ek1,es1,en1,et1,e11,f11,g11,e21,f21,g21,e31,f31,g31,ea1,ez1,hp31,hkb1,hvx1,d01,d11,d21,d31,d41,d51,d61,d71,d81⟩:=HK.out.ex hx1
 simp only [Option.some.injEq,Addr.mk.injEq,and_true] at hp31
 obtain ⟨rfl,rfl⟩:=hp31
 simp only [Nat.one_mul] at d01 d11 d21 d31 d41 d51 d61 d71 d81
 have HE1:=Qq (fun W (hW:Below w.heap.size w W)=>HI.out x1 (Qy hx1) (fun b=>S b∧b<w.heap.size) _ _ _ ns vs W (hvx1.move (.of_below hW) (fun _ _ h=>h)) (HN.out.below hW) (HV.out.below hW) HLen.out (by omega) HBo.out)
 have HXx1:=Qq hvx1;have HM1:=Qq (Qy hx1)
 have DD1:=Qq (Qe hkb1 (Qe d01 (Qe d11 (Qe d21 (Qe d31 (Qe d41 (Qe d51 (Qe d61 (Qe d71 d81)))))))))
 clear hvx1 hx1 hkb1 d01 d11 d21 d31 d41 d51 d61 d71 d81
 go_enter func181,ntmps181
 go_upto_region 3 with fail
 generalize hW1:(w.alloc _).alloc _=W1
 have hb1:=eqB hW1 (Zv _ _ _)
 have hX1:=eqH (b:=w.heap.size) hW1 (Q5 _ _ _)
 have hZ1:=eqH (b:=w.heap.size+1) hW1 (Q6 _ _ _)
 have HB1:=Qq hb1;have HX1:=Qq hX1;have HZ1:=Qq hZ1
 have hlt:=Qf hZ1
 clear hW1 hb1 hX1 hZ1
 have hXW1:=((Qq (Qz W1.heap.size W1)).out.block _ (Qf HX1.out)).trans HX1.out
 have c6:=rA6 hXW1
 clear hXW1
 obtain ⟨qb,q0,q1,q2,q3,q4,q5,q6,q7,q8⟩:=DD0.out
 have d00:=kD HB1.out qb q0;have d10:=kD HB1.out qb q1;have d20:=kD HB1.out qb q2;have d30:=kD HB1.out qb q3;have d40:=kD HB1.out qb q4;have d50:=kD HB1.out qb q5;have d60:=kD HB1.out qb q6;have d70:=kD HB1.out qb q7;have d80:=kD HB1.out qb q8
 clear qb q0 q1 q2 q3 q4 q5 q6 q7 q8
 go_upto_region 4 with (go_at_call 140;refine (HE0.out _ HB1.out).mono ?_;rintro e w5 ⟨k5,n5,s5,q35,m35,l35,q45,m45,l45,b5,rfl,hv5,hb5⟩;have HV5:=Qq hv5;have HB5:=Qq hb5;clear hv5 hb5)
 generalize hW6:w5.alloc _=W6
 have hb6:=eqB hW6 (Qn _ _)
 have hV6:=eqH (b:=w5.heap.size) hW6 (Qw _ _)
 have HB6:=Qq (HB5.out.thn hb6);have HVB6:=Qq hV6;have HVX6:=Qq hb6
 clear hW6 hb6 hV6
 have hlt6:w.heap.size+1<W6.heap.size:=by have:=HB6.out.size;omega
 clear c6 d00 d10 d20 d30 d40 d50 d60 d70 d80
 have hXW6:=kB HB6.out HX1.out
 have c1:=rA1 hXW6;have c6:=rA6 hXW6
 clear hXW6
 have hsp:b5=false∨(b5=true∧(k5 != 2)=true)∨(b5=true∧k5=2):=by
  cases b5 with
  | false=>exact .inl rfl
  | true=>
   by_cases h:k5=2
   ·exact .inr (.inr ⟨rfl,h⟩)
   exact .inr (.inl ⟨rfl,by simpa using h⟩)
 rcases hsp with rfl | ⟨rfl,hq⟩ | ⟨rfl,rfl⟩
 focus
  obtain ⟨v0,v1,v2,v3,v4⟩:=row5 HVB6.out
  have hZW6:=kE HB6.out hlt HZ1.out
  obtain ⟨y0,y1,y2,y3,y4⟩:=row5 hZW6
  obtain ⟨f0,f1,f2,f3,f4⟩:=frz5 hZW6
  have HZW6:=Qq hZW6
  clear hZW6
  go_wp2_with fail
  show bodyPost _ _ _ _ _ (Zz W6 (w.heap.size+1) (.int .i64 k5) (.int .i64 n5) (.string s5) (.slice q35 m35 l35) (.slice q45 m45 l45))
  refine Q7 (v:=.tuple #[.agg #[.int .i64 k5,.int .i64 n5,.string s5,.slice q35 m35 l35,.slice q45 m45 l45],.bool false]) (by simp [results,results181,go_sem,Qm HZW6.out]) rfl (Yf (by omega) (HB1.out.thn HB6.out))
 focus
  obtain ⟨v0,v1,v2,v3,v4⟩:=row5 HVB6.out
  have hZW6:=kE HB6.out hlt HZ1.out
  obtain ⟨y0,y1,y2,y3,y4⟩:=row5 hZW6
  obtain ⟨f0,f1,f2,f3,f4⟩:=frz5 hZW6
  have HZW6:=Qq hZW6
  clear hZW6
  go_wp2_with fail
  show bodyPost _ _ _ _ _ (Zz W6 (w.heap.size+1) (.int .i64 k5) (.int .i64 n5) (.string s5) (.slice q35 m35 l35) (.slice q45 m45 l45))
  refine Q7 (v:=.tuple #[.agg #[.int .i64 k5,.int .i64 n5,.string s5,.slice q35 m35 l35,.slice q45 m45 l45],.bool false]) (by simp [results,results181,go_sem,Qm HZW6.out]) rfl (Yf (by omega) (HB1.out.thn HB6.out))
 have hn5:n5=1∨n5=0:=by
  obtain ⟨v,hvx,hvb⟩:=HV5.out rfl
  obtain ⟨h1,h2,_⟩:=hvx.head
  rw [← h2]
  have:=hvb.bool h1
  omega
 have hq:((2:Int) != 2)=false:=rfl
 rcases hn5 with rfl | rfl
 focus
  obtain ⟨v0,v1,v2,v3,v4⟩:=row5 HVB6.out
  have hZW6:=kE HB6.out hlt HZ1.out
  obtain ⟨y0,y1,y2,y3,y4⟩:=row5 hZW6
  obtain ⟨f0,f1,f2,f3,f4⟩:=frz5 hZW6
  have HZW6:=Qq hZW6
  clear hZW6
  go_wp2_with fail
  show bodyPost _ _ _ _ _ (Zz W6 (w.heap.size+1) (.int .i64 2) (.int .i64 1) (.string s5) (.slice q35 m35 l35) (.slice q45 m45 l45))
  refine Q7 (v:=.tuple #[.agg #[.int .i64 2,.int .i64 1,.string s5,.slice q35 m35 l35,.slice q45 m45 l45],.bool true]) (by simp [results,results181,go_sem,Qm HZW6.out]) rfl (J4 (by omega) (HB1.out.thn HB6.out) (fun _=>by
   obtain ⟨v,h1,h2⟩:=HV5.out (by first | rfl | trivial)
   refine ⟨v,h1.move (.of_below HVX6.out) (fun c _ hc=>?_),h2⟩
   rcases hc with hc | hc
   ·exact .inl hc
   exact .inr (by have h':W1.heap.size≤c:=hc;omega)))
 focus
  obtain ⟨v0,v1,v2,v3,v4⟩:=row5 HVB6.out
  obtain ⟨qb,q0,q1,q2,q3,q4,q5,q6,q7,q8⟩:=DD1.out
  have d01:=kD (HB1.out.thn HB6.out) qb q0;have d11:=kD (HB1.out.thn HB6.out) qb q1;have d21:=kD (HB1.out.thn HB6.out) qb q2;have d31:=kD (HB1.out.thn HB6.out) qb q3;have d41:=kD (HB1.out.thn HB6.out) qb q4;have d51:=kD (HB1.out.thn HB6.out) qb q5;have d61:=kD (HB1.out.thn HB6.out) qb q6;have d71:=kD (HB1.out.thn HB6.out) qb q7;have d81:=kD (HB1.out.thn HB6.out) qb q8
  clear qb q0 q1 q2 q3 q4 q5 q6 q7 q8
  go_upto_region 12 with (go_at_call 140;refine (HE1.out _ (HB1.out.thn HB6.out)).mono ?_;rintro e w7 ⟨k7,n7,s7,q37,m37,l37,q47,m47,l47,b7,rfl,hv7,hb7⟩;have HV7:=Qq hv7;have HB7:=Qq hb7;clear hv7 hb7)
  generalize hW8:w7.alloc _=W8
  have hb8:=eqB hW8 (Qn _ _)
  have hV8:=eqH (b:=w7.heap.size) hW8 (Qw _ _)
  have HB8:=Qq (HB7.out.thn hb8);have HVB8:=Qq hV8;have HVX8:=Qq hb8
  clear hW8 hb8 hV8
  have hlt8:w.heap.size+1<W8.heap.size:=by have:=HB8.out.size;omega
  clear d01 d11 d21 d31 d41 d51 d61 d71 d81
  have HB68:=Qq (HB6.out.thn HB8.out)
  clear c1 c6 v0 v1 v2 v3 v4 hq
  have hXW8:=kB HB68.out HX1.out
  have c1:=rA1 hXW8;have c6:=rA6 hXW8
  clear hXW8
  cases b7 with
  | false=>
   obtain ⟨u0,u1,u2,u3,u4⟩:=row5 HVB8.out
   have hZW8:=kE HB68.out hlt HZ1.out
   obtain ⟨y0,y1,y2,y3,y4⟩:=row5 hZW8
   obtain ⟨f0,f1,f2,f3,f4⟩:=frz5 hZW8
   have HZW8:=Qq hZW8
   clear hZW8
   go_wp2_with fail
   show bodyPost _ _ _ _ _ (Zz W8 (w.heap.size+1) (.int .i64 k7) (.int .i64 n7) (.string s7) (.slice q37 m37 l37) (.slice q47 m47 l47))
   refine Q7 (v:=.tuple #[.agg #[.int .i64 k7,.int .i64 n7,.string s7,.slice q37 m37 l37,.slice q47 m47 l47],.bool false]) (by simp [results,results181,go_sem,Qm HZW8.out]) rfl (Yf (by omega) (HB1.out.thn HB68.out))
  | true=>
   obtain ⟨u0,u1,u2,u3,u4⟩:=row5 HVB8.out
   go_upto_region 15 with fail
   by_cases hk:k7=2
   focus
    subst hk
    have hq:((2:Int)==2)=true:=rfl
    have hZW8:=kE HB68.out hlt HZ1.out
    obtain ⟨y0,y1,y2,y3,y4⟩:=row5 hZW8
    obtain ⟨f0,f1,f2,f3,f4⟩:=frz5 hZW8
    have HZW8:=Qq hZW8
    clear hZW8
    have h7z:w7.heap.size≠w.heap.size+1:=by have h1:=HB6.out.size;have h2:=HB7.out.size;omega
    refine let_mvar% ?Lq2:=fun w':World=>w'.cell? ⟨w7.heap.size,0,none⟩=some (.int .i64 2)∧w'.cell? ⟨w7.heap.size,1,none⟩=some (.int .i64 n7)∧w'.cell? ⟨w7.heap.size,2,none⟩=some (.string s7)∧w'.cell? ⟨w7.heap.size,3,none⟩=some (.slice q37 m37 l37)∧w'.cell? ⟨w7.heap.size,4,none⟩=some (.slice q47 m47 l47);?_
    have HS0:=Qq (show ?Lq2 W8.drew from ⟨u0,u1,u2,u3,u4⟩)
    have HP:∀ x0 x1 x2 x3 x4,?Lq2 (Zz W8 (w.heap.size+1) x0 x1 x2 x3 x4).drew:=fun x0 x1 x2 x3 x4=>⟨Ze h7z u0,Ze h7z u1,Ze h7z u2,Ze h7z u3,Ze h7z u4⟩
    unfold Zz at HP
    have HP':=Qq HP
    clear HP h7z u0 u1 u2 u3 u4
    go_region_held3 ?Lq2 (first | with_reducible exact HS0.out | with_reducible exact HP'.out _ _ _ _ _) (fail)
    all_goals
     go_wp2_with fail
     show bodyPost _ _ _ _ _ (Zz W8 (w.heap.size+1) (.int .i64 2) (.int .i64 n7) (.string s7) (.slice q37 m37 l37) (.slice q47 m47 l47)).drew
     refine Q7 (v:=.tuple #[.agg #[.int .i64 2,.int .i64 n7,.string s7,.slice q37 m37 l37,.slice q47 m47 l47],.bool true]) (by simp [results,results181,go_sem,Qm HZW8.out]) rfl (J4 (by omega) (HB1.out.thn HB68.out) (fun _=>by
      obtain ⟨v,h1,h2⟩:=HV7.out (by first | rfl | trivial)
      refine ⟨v,h1.move (.of_below HVX8.out) (fun c _ hc=>?_),h2⟩
      rcases hc with hc | hc
      ·exact .inl hc
      exact .inr (by have h':W6.heap.size≤c:=hc;omega))).drew
   focus
    have hq:(k7==2)=false:=by rw [← Bool.not_eq_true,beq_iff_eq];exact hk
    clear hk
    have hZW8:=kE HB68.out hlt HZ1.out
    obtain ⟨y0,y1,y2,y3,y4⟩:=row5 hZW8
    obtain ⟨f0,f1,f2,f3,f4⟩:=frz5 hZW8
    have HZW8:=Qq hZW8
    clear hZW8
    have h7z:w7.heap.size≠w.heap.size+1:=by have h1:=HB6.out.size;have h2:=HB7.out.size;omega
    refine let_mvar% ?Lq1:=fun w':World=>w'.cell? ⟨w7.heap.size,0,none⟩=some (.int .i64 k7)∧w'.cell? ⟨w7.heap.size,1,none⟩=some (.int .i64 n7)∧w'.cell? ⟨w7.heap.size,2,none⟩=some (.string s7)∧w'.cell? ⟨w7.heap.size,3,none⟩=some (.slice q37 m37 l37)∧w'.cell? ⟨w7.heap.size,4,none⟩=some (.slice q47 m47 l47);?_
    have HS0:=Qq (show ?Lq1 W8.drew from ⟨u0,u1,u2,u3,u4⟩)
    have HP:∀ x0 x1 x2 x3 x4,?Lq1 (Zz W8 (w.heap.size+1) x0 x1 x2 x3 x4).drew:=fun x0 x1 x2 x3 x4=>⟨Ze h7z u0,Ze h7z u1,Ze h7z u2,Ze h7z u3,Ze h7z u4⟩
    unfold Zz at HP
    have HP':=Qq HP
    clear HP h7z u0 u1 u2 u3 u4
    go_region_held3 ?Lq1 (first | with_reducible exact HS0.out | with_reducible exact HP'.out _ _ _ _ _) (fail)
    all_goals
     go_wp2_with fail
     show bodyPost _ _ _ _ _ (Zz W8 (w.heap.size+1) (.int .i64 k7) (.int .i64 n7) (.string s7) (.slice q37 m37 l37) (.slice q47 m47 l47)).drew
     refine Q7 (v:=.tuple #[.agg #[.int .i64 k7,.int .i64 n7,.string s7,.slice q37 m37 l37,.slice q47 m47 l47],.bool false]) (by simp [results,results181,go_sem,Qm HZW8.out]) rfl (Yf (by omega) (HB1.out.thn HB68.out)).drew
theorem Lo {S:Nat→Prop} {w:World} {cs:List Value} {v:Val} (h:Qh S w cs v):v.s.length≤1000000:=by
 obtain ⟨_,_,_,_,_,_,_,h4⟩:=Qh.cells h
 exact h4
theorem Pl (nm:Bs) (hnm:nm=[43,43]) (n:Int) (s:Bs) (names binds:List Bs) (kids:List Ex) (a z:Int) (d:Nat) (h2:kids.length=2) (ih:∀ x ∈ kids,Yc d x) :∀ (S:Nat→Prop) (ce:List Value) (nv vv:Value) (ns:List Bs) (vs:List Val) (w:World),Z6 S w ce (.mk 14 nm n s names binds kids a z)→Sl Qp S w nv ns→Sl Ql S w vv vs→ns.length≤vs.length→vs.length+(d+1)≤1000→(∀ v ∈ vs,Z2 v) →
  Calls prog 181 #[.agg ce.toArray,nv,vv] w (Yi S w):=by
 subst hnm
 intro S ce nv vv ns vs w hx0 hn0 hv0 hlen hd hb
 have hx:Z6 (fun b=>S b∧b<w.heap.size) w ce (.mk 14 [43,43] n s names binds kids a z):=hx0.move (.refl _ _) (fun b hb h=>⟨h,hb⟩)
 have hn:=hn0.up
 have hv:=hv0.up
 obtain ⟨np,nc,rfl,_⟩:=hn.len
 obtain ⟨vp,vc,rfl,hvl⟩:=hv.len
 have HXX:=Qq hx
 obtain ⟨nv',bv,kv,rfl,hnm,hsx,hns,hbi,hk⟩:=Zf.1 hx
 obtain ⟨p1,c1,rfl,_⟩:=hns.len
 obtain ⟨p2,c2,rfl,_⟩:=hbi.len
 obtain ⟨p3,c3,rfl,hkl⟩:=hk.len
 have HN:=Qq hn;have HV:=Qq hv;have HBo:=Qq hb;have HNs:=Qq hns;have HBi:=Qq hbi;have HK:=Qq hk;have HI:=Qq ih;have HLen:=Qq hlen
 clear hx0 hn0 hv0 hx hn hv hns hbi hk hb ih hlen
 unfold sv at *
 rw [h2] at HK ⊢
 obtain ⟨x0,hx0⟩:∃ x,kids[0]?=some x:=⟨_,Qx (by omega)⟩
 obtain ⟨kb0,ko0,ek0,es0,en0,et0,e10,f10,g10,e20,f20,g20,e30,f30,g30,ea0,ez0,hp30,hkb0,hvx0,d00,d10,d20,d30,d40,d50,d60,d70,d80⟩:=HK.out.ex hx0
 subst hp30
 simp only [Nat.zero_mul,Nat.add_zero] at d00 d10 d20 d30 d40 d50 d60 d70 d80
 have HE0:=Qq (fun W (hW:Below w.heap.size w W)=>HI.out x0 (Qy hx0) (fun b=>S b∧b<w.heap.size) _ _ _ ns vs W (hvx0.move (.of_below hW) (fun _ _ h=>h)) (HN.out.below hW) (HV.out.below hW) HLen.out (by omega) HBo.out)
 have HXx0:=Qq hvx0;have HM0:=Qq (Qy hx0)
 have DD0:=Qq (Qe hkb0 (Qe d00 (Qe d10 (Qe d20 (Qe d30 (Qe d40 (Qe d50 (Qe d60 (Qe d70 d80)))))))))
 clear hvx0 hx0 hkb0 d00 d10 d20 d30 d40 d50 d60 d70 d80
 obtain ⟨x1,hx1⟩:∃ x,kids[1]?=some x:=⟨_,Qx (by omega)⟩
 obtain ⟨kb1,ko1,ek1,es1,en1,et1,e11,f11,g11,e21,f21,g21,e31,f31,g31,ea1,ez1,hp31,hkb1,hvx1,d01,d11,d21,d31,d41,d51,d61,d71,d81⟩:=HK.out.ex hx1
 simp only [Option.some.injEq,Addr.mk.injEq,and_true] at hp31
 obtain ⟨rfl,rfl⟩:=hp31
 simp only [Nat.one_mul] at d01 d11 d21 d31 d41 d51 d61 d71 d81
 have HE1:=Qq (fun W (hW:Below w.heap.size w W)=>HI.out x1 (Qy hx1) (fun b=>S b∧b<w.heap.size) _ _ _ ns vs W (hvx1.move (.of_below hW) (fun _ _ h=>h)) (HN.out.below hW) (HV.out.below hW) HLen.out (by omega) HBo.out)
 have HXx1:=Qq hvx1;have HM1:=Qq (Qy hx1)
 have DD1:=Qq (Qe hkb1 (Qe d01 (Qe d11 (Qe d21 (Qe d31 (Qe d41 (Qe d51 (Qe d61 (Qe d71 d81)))))))))
 clear hvx1 hx1 hkb1 d01 d11 d21 d31 d41 d51 d61 d71 d81
 go_enter func181,ntmps181
 go_upto_region 3 with fail
 generalize hW1:(w.alloc _).alloc _=W1
 have hb1:=eqB hW1 (Zv _ _ _)
 have hX1:=eqH (b:=w.heap.size) hW1 (Q5 _ _ _)
 have hZ1:=eqH (b:=w.heap.size+1) hW1 (Q6 _ _ _)
 have HB1:=Qq hb1;have HX1:=Qq hX1;have HZ1:=Qq hZ1
 have hlt:=Qf hZ1
 clear hW1 hb1 hX1 hZ1
 have hXW1:=((Qq (Qz W1.heap.size W1)).out.block _ (Qf HX1.out)).trans HX1.out
 have c6:=rA6 hXW1
 clear hXW1
 obtain ⟨qb,q0,q1,q2,q3,q4,q5,q6,q7,q8⟩:=DD0.out
 have d00:=kD HB1.out qb q0;have d10:=kD HB1.out qb q1;have d20:=kD HB1.out qb q2;have d30:=kD HB1.out qb q3;have d40:=kD HB1.out qb q4;have d50:=kD HB1.out qb q5;have d60:=kD HB1.out qb q6;have d70:=kD HB1.out qb q7;have d80:=kD HB1.out qb q8
 clear qb q0 q1 q2 q3 q4 q5 q6 q7 q8
 go_upto_region 4 with (go_at_call 140;refine (HE0.out _ HB1.out).mono ?_;rintro e w5 ⟨k5,n5,s5,q35,m35,l35,q45,m45,l45,b5,rfl,hv5,hb5⟩;have HV5:=Qq hv5;have HB5:=Qq hb5;clear hv5 hb5)
 generalize hW6:w5.alloc _=W6
 have hb6:=eqB hW6 (Qn _ _)
 have hV6:=eqH (b:=w5.heap.size) hW6 (Qw _ _)
 have HB6:=Qq (HB5.out.thn hb6);have HVB6:=Qq hV6;have HVX6:=Qq hb6
 clear hW6 hb6 hV6
 have hlt6:w.heap.size+1<W6.heap.size:=by have:=HB6.out.size;omega
 clear c6 d00 d10 d20 d30 d40 d50 d60 d70 d80
 have hXW6:=kB HB6.out HX1.out
 have c1:=rA1 hXW6;have c6:=rA6 hXW6
 clear hXW6
 cases b5 with
 | false=>
  obtain ⟨v0,v1,v2,v3,v4⟩:=row5 HVB6.out
  have hZW6:=kE HB6.out hlt HZ1.out
  obtain ⟨y0,y1,y2,y3,y4⟩:=row5 hZW6
  obtain ⟨f0,f1,f2,f3,f4⟩:=frz5 hZW6
  have HZW6:=Qq hZW6
  clear hZW6
  go_wp2_with fail
  show bodyPost _ _ _ _ _ (Zz W6 (w.heap.size+1) (.int .i64 k5) (.int .i64 n5) (.string s5) (.slice q35 m35 l35) (.slice q45 m45 l45))
  refine Q7 (v:=.tuple #[.agg #[.int .i64 k5,.int .i64 n5,.string s5,.slice q35 m35 l35,.slice q45 m45 l45],.bool false]) (by simp [results,results181,go_sem,Qm HZW6.out]) rfl (Yf (by omega) (HB1.out.thn HB6.out))
 | true=>
  obtain ⟨v0,v1,v2,v3,v4⟩:=row5 HVB6.out
  obtain ⟨qb,q0,q1,q2,q3,q4,q5,q6,q7,q8⟩:=DD1.out
  have d01:=kD (HB1.out.thn HB6.out) qb q0;have d11:=kD (HB1.out.thn HB6.out) qb q1;have d21:=kD (HB1.out.thn HB6.out) qb q2;have d31:=kD (HB1.out.thn HB6.out) qb q3;have d41:=kD (HB1.out.thn HB6.out) qb q4;have d51:=kD (HB1.out.thn HB6.out) qb q5;have d61:=kD (HB1.out.thn HB6.out) qb q6;have d71:=kD (HB1.out.thn HB6.out) qb q7;have d81:=kD (HB1.out.thn HB6.out) qb q8
  clear qb q0 q1 q2 q3 q4 q5 q6 q7 q8
  go_upto_region 12 with (go_at_call 140;refine (HE1.out _ (HB1.out.thn HB6.out)).mono ?_;rintro e w7 ⟨k7,n7,s7,q37,m37,l37,q47,m47,l47,b7,rfl,hv7,hb7⟩;have HV7:=Qq hv7;have HB7:=Qq hb7;clear hv7 hb7)
  generalize hW8:w7.alloc _=W8
  have hb8:=eqB hW8 (Qn _ _)
  have hV8:=eqH (b:=w7.heap.size) hW8 (Qw _ _)
  have HB8:=Qq (HB7.out.thn hb8);have HVB8:=Qq hV8;have HVX8:=Qq hb8
  clear hW8 hb8 hV8
  have hlt8:w.heap.size+1<W8.heap.size:=by have:=HB8.out.size;omega
  clear d01 d11 d21 d31 d41 d51 d61 d71 d81
  have HB68:=Qq (HB6.out.thn HB8.out)
  clear c1 c6 v0 v1 v2 v3 v4
  have hXW8:=kB HB68.out HX1.out
  have c1:=rA1 hXW8;have c6:=rA6 hXW8
  clear hXW8
  cases b7 with
  | false=>
   obtain ⟨u0,u1,u2,u3,u4⟩:=row5 HVB8.out
   have hZW8:=kE HB68.out hlt HZ1.out
   obtain ⟨y0,y1,y2,y3,y4⟩:=row5 hZW8
   obtain ⟨f0,f1,f2,f3,f4⟩:=frz5 hZW8
   have HZW8:=Qq hZW8
   clear hZW8
   go_wp2_with fail
   show bodyPost _ _ _ _ _ (Zz W8 (w.heap.size+1) (.int .i64 k7) (.int .i64 n7) (.string s7) (.slice q37 m37 l37) (.slice q47 m47 l47))
   refine Q7 (v:=.tuple #[.agg #[.int .i64 k7,.int .i64 n7,.string s7,.slice q37 m37 l37,.slice q47 m47 l47],.bool false]) (by simp [results,results181,go_sem,Qm HZW8.out]) rfl (Yf (by omega) (HB1.out.thn HB68.out))
  | true=>
   obtain ⟨v,hvxV,hvbV⟩:=HV5.out (by first | rfl | trivial)
   obtain ⟨a3V,b3V,a4V,b4V,hcsV,-,-,hvsV⟩:=Qh.cells hvxV
   simp only [vcs,List.cons.injEq,Value.int.injEq,Value.string.injEq,Value.slice.injEq,true_and,and_true] at hcsV
   obtain ⟨rfl,rfl,rfl,⟨rfl,rfl,rfl⟩,rfl,rfl,rfl⟩:=hcsV
   have HXV:=Qq hvxV;have HVbV:=Qq hvbV
   clear hvxV hvbV
   obtain ⟨u,hvxU,hvbU⟩:=HV7.out (by first | rfl | trivial)
   obtain ⟨a3U,b3U,a4U,b4U,hcsU,-,-,hvsU⟩:=Qh.cells hvxU
   simp only [vcs,List.cons.injEq,Value.int.injEq,Value.string.injEq,Value.slice.injEq,true_and,and_true] at hcsU
   obtain ⟨rfl,rfl,rfl,⟨rfl,rfl,rfl⟩,rfl,rfl,rfl⟩:=hcsU
   have HXU:=Qq hvxU;have HVbU:=Qq hvbU
   clear hvxU hvbU
   have HC:=Qq (fun W (hW:Below W8.heap.size W8 W)=>B6 _ _ v u [.int .i64 v.kind,.int .i64 v.n,.string ⟨v.s.toArray⟩,.slice q35 v.names.length l35,.slice q45 v.kids.length l45] [.int .i64 u.kind,.int .i64 u.n,.string ⟨u.s.toArray⟩,.slice q37 u.names.length l37,.slice q47 u.kids.length l47] W (HXV.out.move (.of_below ((HVX6.out.thn HB8.out).thn hW)) (fun _ _ h=>h)) (HXU.out.move (.of_below (HVX8.out.thn hW)) (fun _ _ h=>h)))
   generalize Z1 v u=c at HC
   have hv8:=kB HB8.out HVB6.out
   have HV8:=Qq hv8
   clear hv8
   obtain ⟨v0,v1,v2,v3,v4⟩:=row5 HV8.out
   obtain ⟨u0,u1,u2,u3,u4⟩:=row5 HVB8.out
   have hsl:v.s.length≤1000000:=(Lo HXV.out)
   have hsu:u.s.length≤1000000:=(Lo HXU.out)
   have hcat:((⟨v.s.toArray⟩:ByteArray)++⟨u.s.toArray⟩)=⟨(v.s++u.s).toArray⟩:=ByteArray.ext (by simp)
   have hadd:∀ w,(Op.stringOp .add ⟨v.s.toArray⟩ ⟨u.s.toArray⟩).run prog w=.ok (.string ⟨(v.s++u.s).toArray⟩) w:=fun w=>by
    rw [run_string_add_sum w _ _ (by show v.s.toArray.size+u.s.toArray.size≤_;simp;omega),hcat]
   clear hcat
   go_upto_region 17 with (go_at_call 17;refine (HC.out _ (Qz _ _)).mono ?_;rintro e w9 ⟨rfl,hg9⟩;have HB9:=Qq (show Below W8.heap.size W8 w9 from hg9.bl);clear hg9)
   clear c1 c6
   have HB19:=Qq (HB68.out.thn HB9.out)
   have hx9:=kB HB19.out HX1.out
   have hv9:=kB HB9.out HV8.out
   have hu9:=kB HB9.out HVB8.out
   have HX9:=Qq hx9;have HV9:=Qq hv9;have HU9:=Qq hu9
   clear hx9 hv9 hu9 v0 v1 v2 v3 v4 u0 u1 u2 u3 u4
   have c1:=rA1 HX9.out
   obtain ⟨v0,v1,v2,v3,v4⟩:=row5 HV9.out
   obtain ⟨u0,u1,u2,u3,u4⟩:=row5 HU9.out
   go_upto_region 27 with fail
   have h5z:w5.heap.size≠w.heap.size+1:=by have:=HB5.out.size;omega
   have h7z:w7.heap.size≠w.heap.size+1:=by have h1:=HB6.out.size;have h2:=HB7.out.size;omega
   have hsp:(v.kind==1)=false∨((v.kind==1)=true∧(u.kind==1)=false)∨((v.kind==1)=true∧(u.kind==1)=true∧decide ((v.s.length:Int)+(u.s.length:Int)≤4096)=false)∨((v.kind==1)=true∧(u.kind==1)=true∧(v.s.length:Int)+(u.s.length:Int)≤4096):=by
    cases (v.kind==1) <;> cases (u.kind==1) <;> simp <;> omega
   clear c1 v1 v3 v4 u1 u3 u4
   rcases hsp with hq1 | ⟨hq1,hq2⟩ | ⟨hq1,hq2,hq3⟩ | ⟨hq1,hq2,hq3⟩
   focus
    have hZw9:=kE HB19.out hlt HZ1.out
    obtain ⟨y0,y1,y2,y3,y4⟩:=row5 hZw9
    obtain ⟨f0,f1,f2,f3,f4⟩:=frz5 hZw9
    have HZw9:=Qq hZw9
    clear hZw9
    go_region
    all_goals
     go_wp2_with fail
     show bodyPost _ _ _ _ _ (Zz w9 (w.heap.size+1) (.int .i64 1) (.int .i64 0) (.string ⟨(v.s++u.s).toArray⟩) (.slice none 0 0) (.slice none 0 0)).drew
     refine Q7 (v:=.tuple #[.agg #[.int .i64 1,.int .i64 0,.string ⟨(v.s++u.s).toArray⟩,.slice none 0 0,.slice none 0 0],.bool false]) (by simp [results,results181,go_sem,Qm HZw9.out]) rfl ((Yf (by omega) (HB1.out.thn HB19.out))).drew
   focus
    have hZw9:=kE HB19.out hlt HZ1.out
    obtain ⟨y0,y1,y2,y3,y4⟩:=row5 hZw9
    obtain ⟨f0,f1,f2,f3,f4⟩:=frz5 hZw9
    have HZw9:=Qq hZw9
    clear hZw9
    go_region
    all_goals
     go_wp2_with fail
     show bodyPost _ _ _ _ _ (Zz w9 (w.heap.size+1) (.int .i64 1) (.int .i64 0) (.string ⟨(v.s++u.s).toArray⟩) (.slice none 0 0) (.slice none 0 0)).drew
     refine Q7 (v:=.tuple #[.agg #[.int .i64 1,.int .i64 0,.string ⟨(v.s++u.s).toArray⟩,.slice none 0 0,.slice none 0 0],.bool false]) (by simp [results,results181,go_sem,Qm HZw9.out]) rfl ((Yf (by omega) (HB1.out.thn HB19.out))).drew
   focus
    have hZw9:=kE HB19.out hlt HZ1.out
    obtain ⟨y0,y1,y2,y3,y4⟩:=row5 hZw9
    obtain ⟨f0,f1,f2,f3,f4⟩:=frz5 hZw9
    have HZw9:=Qq hZw9
    clear hZw9
    go_region
    all_goals
     go_wp2_with fail
     show bodyPost _ _ _ _ _ (Zz w9 (w.heap.size+1) (.int .i64 1) (.int .i64 0) (.string ⟨(v.s++u.s).toArray⟩) (.slice none 0 0) (.slice none 0 0)).drew
     refine Q7 (v:=.tuple #[.agg #[.int .i64 1,.int .i64 0,.string ⟨(v.s++u.s).toArray⟩,.slice none 0 0,.slice none 0 0],.bool false]) (by simp [results,results181,go_sem,Qm HZw9.out]) rfl ((Yf (by omega) (HB1.out.thn HB19.out))).drew
   focus
    have hZw9:=kE HB19.out hlt HZ1.out
    obtain ⟨y0,y1,y2,y3,y4⟩:=row5 hZw9
    obtain ⟨f0,f1,f2,f3,f4⟩:=frz5 hZw9
    have HZw9:=Qq hZw9
    clear hZw9
    go_region
    all_goals
     go_wp2_with fail
     show bodyPost _ _ _ _ _ (Zz w9 (w.heap.size+1) (.int .i64 1) (.int .i64 0) (.string ⟨(v.s++u.s).toArray⟩) (.slice none 0 0) (.slice none 0 0)).drew
     refine Q7 (v:=.tuple #[.agg #[.int .i64 1,.int .i64 0,.string ⟨(v.s++u.s).toArray⟩,.slice none 0 0,.slice none 0 0],.bool true]) (by simp [results,results181,go_sem,Qm HZw9.out]) rfl ((J4 (by omega) (HB1.out.thn HB19.out) (fun _=>⟨_,Zn (by rw [List.length_append];omega) (Sl.nil _ _ _) (Sl.nil _ _ _),.mk _ _ _ _ _ (fun h=>by cases h) (fun x h=>by simp at h)⟩))).drew
end Go.Proofs.YtppbaladeefnkaaGreatDoor
