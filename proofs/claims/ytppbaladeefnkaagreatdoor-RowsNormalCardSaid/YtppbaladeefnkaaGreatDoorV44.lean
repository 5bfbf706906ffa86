import Derived.Test.YtppbaladeefnkaaGreatDoorV43
import Derived.Test.YtppbaladeefnkaaGreatDoorV42
import Derived.Test.YtppbaladeefnkaaGreatDoorV41
import Derived.Test.YtppbaladeefnkaaGreatDoorV40
import Derived.Test.YtppbaladeefnkaaGreatDoorV39
set_option maxRecDepth 100000
set_option maxHeartbeats 400000000
namespace Go.Proofs.YtppbaladeefnkaaGreatDoor
open Go.RowKit Go.Shelf Go.Lib Tryz
theorem Mn (S0 S1:Nat→Prop) (s:Sc) (cs:List Value) (lv:Value) (l:List Rel) (w:World) (hs:Yn S0 w cs s) (hl0:Sl Z0 S1 w lv l) (hlen:l.length=s.tables.length) (hsm:De s.sums) (hT:∀ t ∈ s.tables,L6 t) (hR:∀ r ∈ l,∀ v ∈ r.rows,Xu v):
  Calls prog 66 #[.agg cs.toArray,lv] w (Hp w):=
 Us.all Sw Sy Ry (Ey.all (Ky.all Sj T1)) S7 S0 S1 s cs lv l w hs hl0 hlen hsm hT hR
theorem Sl.valS {S:Nat→Prop} {w:World} {p:Option Addr} {n cap:Nat} {xs:List Val} (h:Sl Ql S w (.slice p n cap) xs) {i:Nat} {x:Val} (hx:xs[i]?=some x):
  ∃ b off p3 k3 p4 k4,p=some ⟨b,off,none⟩∧S b∧b<w.heap.size∧Qh S w (vcs x p3 k3 p4 k4) x∧w.cell? ⟨b,off+i*5,none⟩=some (.int .i64 x.kind)∧w.cell? ⟨b,off+i*5+1,none⟩=some (.int .i64 x.n)∧w.cell? ⟨b,off+i*5+2,none⟩=some (.string ⟨x.s.toArray⟩) ∧
   w.cell? ⟨b,off+i*5+3,none⟩=some (.slice p3 x.names.length k3)∧w.cell? ⟨b,off+i*5+4,none⟩=some (.slice p4 x.kids.length k4):=by
 obtain ⟨p',c',h1,_,h3⟩:=h
 simp only [Value.slice.injEq] at h1
 obtain ⟨rfl,_,_⟩:=h1
 obtain ⟨b,off,e,hS,hb,hc⟩:=h3 (by intro e;subst e;simp at hx)
 obtain ⟨cs,h4,h5⟩:=hc i x hx
 obtain ⟨p3,k3,p4,k4,rfl,_⟩:=Qh.cells h5
 exact ⟨b,off,p3,k3,p4,k4,e,hS,hb,h5,h4 0 _ rfl,h4 1 _ rfl,h4 2 _ rfl,h4 3 _ rfl,h4 4 _ rfl⟩
theorem Re (nm:Bs) (n:Int) (s:Bs) (names binds:List Bs) (kids:List Ex) (a z:Int) (d:Nat) (ih:∀ x ∈ kids,Yc d x) (hk1:kids.length=names.length+1) (hb1:binds.length=names.length):∀ (S:Nat→Prop) (ce:List Value) (nv vv:Value) (ns:List Bs) (vs:List Val) (w:World),Z6 S w ce (.mk 13 nm n s names binds kids a z)→Sl Qp S w nv ns→Sl Ql S w vv vs→ns.length≤vs.length→vs.length+(d+1)≤1000→(∀ v ∈ vs,Z2 v) →
  Calls prog 180 #[.agg ce.toArray,nv,vv] w (Yi S w):=by
 intro S ce nv vv ns vs w hx0 hn0 hv0 hlen hd hb
 have hx:Z6 (fun b=>S b∧b<w.heap.size) w ce (.mk 13 nm n s names binds kids a z):=hx0.move (.refl _ _) (fun b hb h=>⟨h,hb⟩)
 have hn:=hn0.up
 have hv:=hv0.up
 obtain ⟨np,nc,rfl,_⟩:=hn.len
 obtain ⟨vp,vc,rfl,hvl⟩:=hv.len
 have HXX:=Qq hx
 obtain ⟨nv',bv,kv,rfl,hnm,hsx,hns,hbi,hk⟩:=Zf.1 hx
 obtain ⟨p1,c1,rfl,_⟩:=hns.len
 obtain ⟨p2,c2,rfl,_⟩:=hbi.len
 obtain ⟨p3,c3,rfl,hkl⟩:=hk.len
 have HN:=Qq hn;have HV:=Qq hv;have HBo:=Qq hb;have HNs:=Qq hns;have HBi:=Qq hbi;have HK:=Qq hk;have HI:=Qq ih;have HLen:=Qq hlen
 clear hx0 hn0 hv0 hx hn hv hns hbi hk hb ih hlen
 unfold sv at *
 obtain ⟨m,hm⟩:=eX (names.length)
 rw [hm] at hk1 hb1
 have hkl':m+1≤1000000:=by omega
 rw [hk1] at HK ⊢;rw [hm] at HNs ⊢;rw [hb1] at HBi ⊢
 have HM:=Qq hm;have HKM:=Qq hk1;have HBM:=Qq hb1
 obtain ⟨x0,hx0⟩:∃ x,kids[0]?=some x:=⟨_,Qx (by omega)⟩
 obtain ⟨kb0,ko0,ek0,es0,en0,et0,e10,f10,g10,e20,f20,g20,e30,f30,g30,ea0,ez0,hp30,hkb0,hvx0,d00,d10,d20,d30,d40,d50,d60,d70,d80⟩:=HK.out.ex hx0
 subst hp30
 simp only [Nat.zero_mul,Nat.add_zero] at d00 d10 d20 d30 d40 d50 d60 d70 d80
 have HE0:=Qq (fun W (hW:Below w.heap.size w W)=>HI.out x0 (Qy hx0) (fun b=>S b∧b<w.heap.size) _ _ _ ns vs W (hvx0.move (.of_below hW) (fun _ _ h=>h)) (HN.out.below hW) (HV.out.below hW) HLen.out (by omega) HBo.out)
 have HXx0:=Qq hvx0;have HM0:=Qq (Qy hx0)
 have DD0:=Qq (Qe hkb0 (Qe d00 (Qe d10 (Qe d20 (Qe d30 (Qe d40 (Qe d50 (Qe d60 (Qe d70 d80)))))))))
 clear hvx0 hx0 hkb0 d00 d10 d20 d30 d40 d50 d60 d70 d80
 clear hm hk1 hb1 hkl
 have hi0:(0:Int)<(m:Int)+1:=by omega
 go_enter func180,ntmps180
 go_upto_region 1 with fail
 generalize hW1:(w.alloc _).alloc _=W1
 have hb1:=eqB hW1 (Zv _ _ _)
 have hX1:=eqH (b:=w.heap.size) hW1 (Q5 _ _ _)
 have hZ1:=eqH (b:=w.heap.size+1) hW1 (Q6 _ _ _)
 have HB1:=Qq hb1;have HX1:=Qq hX1;have HZ1:=Qq hZ1
 have hlt:=Qf hZ1
 clear hW1 hb1 hX1 hZ1
 have hXW1:=((Qq (Qz W1.heap.size W1)).out.block _ (Qf HX1.out)).trans HX1.out
 have c6:=rA6 hXW1
 clear hXW1
 obtain ⟨qb,q0,q1,q2,q3,q4,q5,q6,q7,q8⟩:=DD0.out
 have d00:=kD HB1.out qb q0;have d10:=kD HB1.out qb q1;have d20:=kD HB1.out qb q2;have d30:=kD HB1.out qb q3;have d40:=kD HB1.out qb q4;have d50:=kD HB1.out qb q5;have d60:=kD HB1.out qb q6;have d70:=kD HB1.out qb q7;have d80:=kD HB1.out qb q8
 clear qb q0 q1 q2 q3 q4 q5 q6 q7 q8
 go_upto_region 2 with (go_at_call 140;refine (HE0.out _ HB1.out).mono ?_;rintro e w5 ⟨k5,n5,s5,q35,m35,l35,q45,m45,l45,b5,rfl,hv5,hb5⟩;have HV5:=Qq hv5;have HB5:=Qq hb5;clear hv5 hb5)
 generalize hW6:w5.alloc _=W6
 have hb6:=eqB hW6 (Qn _ _)
 have hV6:=eqH (b:=w5.heap.size) hW6 (Qw _ _)
 have HB6:=Qq (HB5.out.thn hb6);have HVB6:=Qq hV6;have HVX6:=Qq hb6
 clear hW6 hb6 hV6
 have hlt6:w.heap.size+1<W6.heap.size:=by have:=HB6.out.size;omega
 clear c6 d00 d10 d20 d30 d40 d50 d60 d70 d80 hi0
 obtain ⟨v0,v1,v2,v3,v4⟩:=row5 HVB6.out
 have hsp:b5=false∨(b5=true∧(k5 != 3)=true)∨(b5=true∧k5=3):=by
  cases b5 with
  | false=>exact .inl rfl
  | true=>
   by_cases h:k5=3
   ·exact .inr (.inr ⟨rfl,h⟩)
   exact .inr (.inl ⟨rfl,by simpa using h⟩)
 rcases hsp with rfl | ⟨rfl,hq⟩ | ⟨rfl,hk3⟩
 ·clear v0 v1 v2 v3 v4
  obtain ⟨v0,v1,v2,v3,v4⟩:=row5 HVB6.out
  have hZW6:=kE HB6.out hlt HZ1.out
  obtain ⟨y0,y1,y2,y3,y4⟩:=row5 hZW6
  obtain ⟨f0,f1,f2,f3,f4⟩:=frz5 hZW6
  have HZW6:=Qq hZW6
  clear hZW6
  go_wp2_with fail
  show bodyPost _ _ _ _ _ (Zz W6 (w.heap.size+1) (.int .i64 k5) (.int .i64 n5) (.string s5) (.slice q35 m35 l35) (.slice q45 m45 l45))
  refine Q7 (v:=.tuple #[.agg #[.int .i64 k5,.int .i64 n5,.string s5,.slice q35 m35 l35,.slice q45 m45 l45],.bool false]) (by simp [results,results180,go_sem,Qm HZW6.out]) rfl (Yf (by omega) (HB1.out.thn HB6.out))
 ·skip
  have hZW6:=kE HB6.out hlt HZ1.out
  obtain ⟨y0,y1,y2,y3,y4⟩:=row5 hZW6
  obtain ⟨f0,f1,f2,f3,f4⟩:=frz5 hZW6
  have HZW6:=Qq hZW6
  clear hZW6
  go_wp2_with fail
  show bodyPost _ _ _ _ _ (Zz W6 (w.heap.size+1) (.int .i64 k5) (.int .i64 n5) (.string s5) (.slice q35 m35 l35) (.slice q45 m45 l45))
  refine Q7 (v:=.tuple #[.agg #[.int .i64 k5,.int .i64 n5,.string s5,.slice q35 m35 l35,.slice q45 m45 l45],.bool false]) (by simp [results,results180,go_sem,Qm HZW6.out]) rfl (Yf (by omega) (HB1.out.thn HB6.out))
 obtain ⟨v,hvx,hvb⟩:=HV5.out rfl
 obtain ⟨a3,b3,a4,b4,hcs,-,hvk,hvs⟩:=Qh.cells hvx
 simp only [vcs,List.cons.injEq,Value.int.injEq,Value.string.injEq,Value.slice.injEq,true_and,and_true] at hcs
 obtain ⟨rfl,rfl,rfl,⟨rfl,rfl,rfl⟩,rfl,rfl,rfl⟩:=hcs
 have hq:(v.kind != 3)=false:=by rw [hk3];rfl
 have HVX:=Qq hvx;have HVb:=Qq hvb;have HVK:=Qq hvk
 clear hvx hvb hvk hk3
 go_upto_region 5 with fail
 clear hq v0 v1 v2 v3 v4
 go_loopw [10] (fun i wr=>∃ j:Nat,j≤m∧i=.int .i64 j∧Aside (Below W6.heap.size W6 wr)) (fun i _=>m - (intOf i).toNat)
 case atStart=>exact ⟨0,Q8 _,rfl,Qz _ _⟩
 obtain ⟨j,hj,rfl,hBr⟩:=hrel
 have HBr:=Qq (show Below W6.heap.size W6 wr from hBr)
 clear hBr
 have HB6r:=Qq (HB6.out.thn HBr.out)
 have HBwr:=Qq (HB1.out.thn HB6r.out)
 have hV6r:=kB HBr.out HVB6.out
 have HV6r:=Qq hV6r
 clear hV6r
 have hXwr:=kB HB6r.out HX1.out
 have c4:=rA4 hXwr;have c5:=rA5 hXwr;have c6:=rA6 hXwr
 clear hXwr
 by_cases hlt2:j<m
 ·have hi1:(0:Int)≤(j:Int):=by omega
  have hi2:(j:Int)<(m:Int):=by omega
  obtain ⟨y,hy⟩:∃ y,names[j]?=some y:=⟨_,Qx (by rw [HM.out];omega)⟩
  obtain ⟨nb,noff,rfl,hyc,-⟩:=(HNs.out.below HBwr.out).str hy
  clear hy
  have v2:=rA2 HV6r.out
  by_cases he:y=v.s
  ·subst he
   have hq:(v.s != v.s)=false:=by simp
   have hq':(v.s==v.s)=true:=by simp
   obtain ⟨z,hz⟩:∃ z,binds[j]?=some z:=⟨_,Qx (by rw [HBM.out];omega)⟩
   obtain ⟨bb,boff,hbb,hzc0,hzl⟩:=HBi.out.str hz
   subst hbb
   have hbbl:=Qv _ _ hzc0
   have hbz:bb≠w.heap.size+1:=by have h:bb<w.heap.size:=hbbl;omega
   have HZC:=Qq hzc0
   clear hz hzc0
   go_upto_region 7 with fail
   go_quiet (fail)
   obtain ⟨wq,hwq⟩:=eX (wr.drewN nq)
   have hbq:Below wr.heap.size wr wq:=by rw [← hwq];exact Zy _ _
   rw [hwq]
   have HBq:=Qq (HB6r.out.thn hbq);have HBwq:=Qq (HBwr.out.thn hbq)
   have hVq:=kB hbq HV6r.out
   have HVq:=Qq hVq
   have hlq:w.heap.size+1<wq.heap.size:=by have:=HBq.out.size;omega
   have HVXq:=Qq (HVX.out.move (.of_below (HVX6.out.thn (HBr.out.thn hbq))) (fun _ _ h=>h))
   have HVKq:=Qq (HVK.out.below (HVX6.out.thn (HBr.out.thn hbq)))
   clear hwq hbq hVq hyc hq c4 c5 c6 v2
   have hXwq:=kB HBq.out HX1.out
   have c5:=rA5 hXwq;have c6:=rA6 hXwq
   clear hXwq
   have hzc:=(HBwq.out.cell (p:=⟨bb,boff+j,none⟩) hbbl).trans HZC.out
   obtain ⟨x1,hx1⟩:∃ x,kids[j+1]?=some x:=⟨_,Qx (by rw [HKM.out];omega)⟩
   obtain ⟨kb1,ko1,ek1,es1,en1,et1,e11,f11,g11,e21,f21,g21,e31,f31,g31,ea1,ez1,hp31,hkb1,hvx1,d01,d11,d21,d31,d41,d51,d61,d71,d81⟩:=HK.out.ex hx1
   simp only [Option.some.injEq,Addr.mk.injEq,and_true] at hp31
   obtain ⟨rfl,rfl⟩:=hp31
   have HE1:=Qq (fun W (hW:Below w.heap.size w W)=>HI.out x1 (Qy hx1) (fun b=>S b∧b<w.heap.size) _ _ _ ns vs W (hvx1.move (.of_below hW) (fun _ _ h=>h)) (HN.out.below hW) (HV.out.below hW) HLen.out (by omega) HBo.out)
   have HXx1:=Qq hvx1;have HM1:=Qq (Qy hx1)
   have DD1:=Qq (Qe hkb1 (Qe d01 (Qe d11 (Qe d21 (Qe d31 (Qe d41 (Qe d51 (Qe d61 (Qe d71 d81)))))))))
   clear hvx1 hx1 hkb1 d01 d11 d21 d31 d41 d51 d61 d71 d81
   obtain ⟨qb,q0,q1,q2,q3,q4,q5,q6,q7,q8⟩:=DD1.out
   have d01:=kD HBwq.out qb q0;have d11:=kD HBwq.out qb q1;have d21:=kD HBwq.out qb q2;have d31:=kD HBwq.out qb q3;have d41:=kD HBwq.out qb q4;have d51:=kD HBwq.out qb q5;have d61:=kD HBwq.out qb q6;have d71:=kD HBwq.out qb q7;have d81:=kD HBwq.out qb q8
   clear qb q0 q1 q2 q3 q4 q5 q6 q7 q8
   have hw1:IntKind.i64.wrap ((j:Int)+1)=(j:Int)+1:=by rw [IntKind.wrap_i64];omega
   have hi3:(0:Int)≤(j:Int)+1:=by omega
   have hi4:(j:Int)+1<(m:Int)+1:=by omega
   have hi5:((j:Int)+1).toNat=j+1:=by omega
   cases z with
   | nil=>
    go_wp2_with (go_at_call 140;refine (HE1.out _ HBwq.out).mono ?_;rintro e w7 ⟨k7,n7,s7,q37,m37,l37,q47,m47,l47,b7,rfl,hv7,hb7⟩;have hZ7:=kE (HBq.out.thn hb7) hlt HZ1.out;have f0:=fA 0 hZ7;have y0:=Qk _ _ 0 _ _ _ hZ7;have f1:=fA 1 hZ7;have y1:=Qk _ _ 1 _ _ _ hZ7;have f2:=fA 2 hZ7;have y2:=Qk _ _ 2 _ _ _ hZ7;have f3:=fA 3 hZ7;have y3:=Qk _ _ 3 _ _ _ hZ7;have f4:=fA 4 hZ7;have y4:=Qk _ _ 4 _ _ _ hZ7;simp only [List.getElem?_toArray,List.getElem?_cons_zero,List.getElem?_cons_succ] at y0 y1 y2 y3 y4;have HZ7:=Qq hZ7;clear hZ7;have HV7:=Qq hv7;have HB7:=Qq hb7;clear hv7 hb7)
    show bodyPost _ _ _ _ _ (Zz w7 (w.heap.size+1) (.int .i64 k7) (.int .i64 n7) (.string s7) (.slice q37 m37 l37) (.slice q47 m47 l47))
    refine Q7 (v:=.tuple #[.agg #[.int .i64 k7,.int .i64 n7,.string s7,.slice q37 m37 l37,.slice q47 m47 l47],.bool b7]) (by simp [results,results180,go_sem,Qm HZ7.out]) rfl (Vh HBwq.out (by omega) hlq HV7.out HB7.out)
   | cons c z=>
    by_cases h1:v.kids.length=1
    ·obtain ⟨y,hy⟩:∃ y,v.kids[0]?=some y:=⟨_,Qx (by omega)⟩
     obtain ⟨ub,uoff,t3,l3,t4,l4,hub,hSu,hul,hvu,u0,u1,u2,u3,u4⟩:=HVKq.out.valS hy
     subst hub
     rw [h1] at HVq HVXq HVKq
     simp only [Nat.zero_mul,Nat.add_zero] at u0 u1 u2 u3 u4
     have huz:ub≠w.heap.size+1:=by rcases hSu with h | h;exact (by have:=h.2;omega);exact (by have h':W1.heap.size≤ub:=h;omega)
     have hE:=Qq (fun W (hW:Below wq.heap.size wq W)=>Gs d x1 (HI.out x1 HM1.out) (fun c=>(S c∧c<w.heap.size)∨W1.heap.size≤c) _ _ _ ns vs (c::z) y [.int .i64 y.kind,.int .i64 y.n,.string ⟨y.s.toArray⟩,.slice t3 y.names.length l3,.slice t4 y.kids.length l4] W (HXx1.out.move (.of_below (HBwq.out.thn hW)) (fun _ _ h=>.inl h)) ((HN.out.below (HBwq.out.thn hW)).mono (fun _ _ h=>.inl h)) ((HV.out.below (HBwq.out.thn hW)).mono (fun _ _ h=>.inl h)) HLen.out (by omega) HBo.out hzl (hvu.move (.of_below hW) (fun _ _ h=>h)) (HVb.out.kids y (Qy hy)))
     unfold sv at hE
     have hq1:((1:Int) != 1)=false:=rfl
     have v4:=rA4 HVq.out
     go_upto_region 12 with fail
     have hkz:kb0≠w.heap.size+1:=by have:=DD1.out.1;omega
     have h5z:w5.heap.size≠w.heap.size+1:=by have:=HB5.out.size;omega
     refine let_mvar% ?Lq1:=fun w':World=>w'.cell? ⟨w.heap.size,5,none⟩=some (.slice (some ⟨bb,boff,none⟩) m c2)∧w'.cell? ⟨w.heap.size,6,none⟩=some (.slice (some ⟨kb0,ko0,none⟩) (m+1) c3)∧w'.cell? ⟨bb,boff+j,none⟩=some (.string ⟨(c::z).toArray⟩)∧w'.cell? ⟨w5.heap.size,4,none⟩=some (.slice (some ⟨ub,uoff,none⟩) 1 l45)∧w'.cell? ⟨kb0,ko0+(j+1)*9,none⟩=some (.int .i64 ek1)∧w'.cell? ⟨kb0,ko0+(j+1)*9+1,none⟩=some (.string es1)∧w'.cell? ⟨kb0,ko0+(j+1)*9+2,none⟩=some (.int .i64 en1)∧w'.cell? ⟨kb0,ko0+(j+1)*9+3,none⟩=some (.string et1)∧w'.cell? ⟨kb0,ko0+(j+1)*9+4,none⟩=some (.slice e11 f11 g11)∧w'.cell? ⟨kb0,ko0+(j+1)*9+5,none⟩=some (.slice e21 f21 g21)∧w'.cell? ⟨kb0,ko0+(j+1)*9+6,none⟩=some (.slice e31 f31 g31)∧w'.cell? ⟨kb0,ko0+(j+1)*9+7,none⟩=some (.int .i64 ea1)∧w'.cell? ⟨kb0,ko0+(j+1)*9+8,none⟩=some (.int .i64 ez1)∧w'.cell? ⟨ub,uoff,none⟩=some (.int .i64 y.kind)∧w'.cell? ⟨ub,uoff+1,none⟩=some (.int .i64 y.n)∧w'.cell? ⟨ub,uoff+2,none⟩=some (.string ⟨y.s.toArray⟩)∧w'.cell? ⟨ub,uoff+3,none⟩=some (.slice t3 y.names.length l3)∧w'.cell? ⟨ub,uoff+4,none⟩=some (.slice t4 y.kids.length l4);?_
     have HS:∀ w',Below wq.heap.size wq w'→?Lq1 w':=by
      intro w' h
      have hh:∀ {b j:Nat} {u:Value},wq.cell? ⟨b,j,none⟩=some u→w'.cell? ⟨b,j,none⟩=some u:=fun hc=>kC h hc
      exact ⟨hh c5,hh c6,hh hzc,hh v4,hh d01,hh d11,hh d21,hh d31,hh d41,hh d51,hh d61,hh d71,hh d81,hh u0,hh u1,hh u2,hh u3,hh u4⟩
     have HP:∀ w' x0 x1 x2 x3 x4,?Lq1 w'→?Lq1 (Zz w' (w.heap.size+1) x0 x1 x2 x3 x4):=fun w' x0 x1 x2 x3 x4 h=>⟨Qr (by omega) h.1,Qr (by omega) h.2.1,Qr hbz h.2.2.1,Qr h5z h.2.2.2.1,Qr hkz h.2.2.2.2.1,Qr hkz h.2.2.2.2.2.1,Qr hkz h.2.2.2.2.2.2.1,Qr hkz h.2.2.2.2.2.2.2.1,Qr hkz h.2.2.2.2.2.2.2.2.1,Qr hkz h.2.2.2.2.2.2.2.2.2.1,Qr hkz h.2.2.2.2.2.2.2.2.2.2.1,Qr hkz h.2.2.2.2.2.2.2.2.2.2.2.1,Qr hkz h.2.2.2.2.2.2.2.2.2.2.2.2.1,Qr huz h.2.2.2.2.2.2.2.2.2.2.2.2.2.1,Qr huz h.2.2.2.2.2.2.2.2.2.2.2.2.2.2.1,Qr huz h.2.2.2.2.2.2.2.2.2.2.2.2.2.2.2.1,Qr huz h.2.2.2.2.2.2.2.2.2.2.2.2.2.2.2.2.1,Qr huz h.2.2.2.2.2.2.2.2.2.2.2.2.2.2.2.2.2⟩
     unfold Zz at HP
     have HS0:=Qq (HS wq.drew (Qz _ _).drew);have HSq:=Qq HS;have HP':=Qq HP
     clear HS HP c5 c6 hzc v4 d01 d11 d21 d31 d41 d51 d61 d71 d81 u0 u1 u2 u3 u4 hSu hvu hy
     go_region_held3 ?Lq1 (first | with_reducible exact HS0.out | with_reducible exact hS2 | with_reducible exact HP'.out _ _ _ _ _ _ hS2)
      (first
       | (go_at_call 179;refine (hE.out _ (Qz _ _).drew).mono ?_;rintro e w7 ⟨k7,n7,s7,q37,m37,l37,q47,m47,l47,b7,rfl,hv7,hb7⟩;have hb7':=(Qz _ wq).drew.thn hb7;have hS2:=HSq.out w7 hb7';have hb17:=HBq.out.thn hb7';have hZ7:=kE (hb17) hlt HZ1.out;have f0:=fA 0 hZ7;have y0:=Qk _ _ 0 _ _ _ hZ7;have f1:=fA 1 hZ7;have y1:=Qk _ _ 1 _ _ _ hZ7;have f2:=fA 2 hZ7;have y2:=Qk _ _ 2 _ _ _ hZ7;have f3:=fA 3 hZ7;have y3:=Qk _ _ 3 _ _ _ hZ7;have f4:=fA 4 hZ7;have y4:=Qk _ _ 4 _ _ _ hZ7;simp only [List.getElem?_toArray,List.getElem?_cons_zero,List.getElem?_cons_succ] at y0 y1 y2 y3 y4;have HZ7:=Qq hZ7;clear hZ7;have HV7:=Qq hv7;have HB7:=Qq hb17;clear hv7 hb7 hb17 hb7'))
     all_goals
      go_wp2_with fail
      show bodyPost _ _ _ _ _ (Zz w7 (w.heap.size+1) (.int .i64 k7) (.int .i64 n7) (.string s7) (.slice q37 m37 l37) (.slice q47 m47 l47))
      refine Q7 (v:=.tuple #[.agg #[.int .i64 k7,.int .i64 n7,.string s7,.slice q37 m37 l37,.slice q47 m47 l47],.bool b7]) (by simp [results,results180,go_sem,Qm HZ7.out]) rfl (Vh HB1.out (by omega) hlt (fun hb=>by
        obtain ⟨v,h1,h2⟩:=HV7.out hb
        refine ⟨v,h1.move (.refl _ _) (fun c _ hc=>?_),h2⟩
        rcases hc with hc | hc
        ·exact hc
        exact .inr (by have:=HBq.out.size;have h':wq.heap.size≤c:=hc;omega)) HB7.out)
    have hq1:((v.kids.length:Int) != 1)=true:=by simp;omega
    obtain ⟨v0,v1,v2,v3,v4⟩:=row5 HVq.out
    have hZwq:=kE HBq.out hlt HZ1.out
    obtain ⟨y0,y1,y2,y3,y4⟩:=row5 hZwq
    obtain ⟨f0,f1,f2,f3,f4⟩:=frz5 hZwq
    have HZwq:=Qq hZwq
    clear hZwq
    go_wp2_with fail
    show bodyPost _ _ _ _ _ (Zz wq (w.heap.size+1) (.int .i64 v.kind) (.int .i64 v.n) (.string ⟨v.s.toArray⟩) (.slice q35 v.names.length l35) (.slice q45 v.kids.length l45))
    refine Q7 (v:=.tuple #[.agg #[.int .i64 v.kind,.int .i64 v.n,.string ⟨v.s.toArray⟩,.slice q35 v.names.length l35,.slice q45 v.kids.length l45],.bool false]) (by simp [results,results180,go_sem,Qm HZwq.out]) rfl (Yf (by omega) HBwq.out)
  have hq:(y != v.s)=true:=by rw [bne_iff_ne];exact he
  have hq':(y==v.s)=false:=by rw [← Bool.not_eq_true,beq_iff_eq];exact he
  clear he
  go_upto_region 7 with fail
  go_quiet (fail)
  go_wp2_with fail
  go_roundw
  case measure=>simp [intOf];omega
  case rel=>exact ⟨j+1,by omega,by go_num,HBr.out.thn (Zy _ _)⟩
 have hjm:j=m:=by omega
 subst hjm
 obtain ⟨v0,v1,v2,v3,v4⟩:=row5 HV6r.out
 have hZwr:=kE HB6r.out hlt HZ1.out
 obtain ⟨y0,y1,y2,y3,y4⟩:=row5 hZwr
 obtain ⟨f0,f1,f2,f3,f4⟩:=frz5 hZwr
 have HZwr:=Qq hZwr
 clear hZwr
 go_wp2_with fail
 show bodyPost _ _ _ _ _ (Zz wr (w.heap.size+1) (.int .i64 v.kind) (.int .i64 v.n) (.string ⟨v.s.toArray⟩) (.slice q35 v.names.length l35) (.slice q45 v.kids.length l45))
 refine Q7 (v:=.tuple #[.agg #[.int .i64 v.kind,.int .i64 v.n,.string ⟨v.s.toArray⟩,.slice q35 v.names.length l35,.slice q45 v.kids.length l45],.bool false]) (by simp [results,results180,go_sem,Qm HZwr.out]) rfl (Yf (by omega) HBwr.out)
end Go.Proofs.YtppbaladeefnkaaGreatDoor
