import Derived.Test.YtppbaladeefnkaaGreatDoorV34
set_option maxRecDepth 100000
set_option maxHeartbeats 400000000
namespace Go.Proofs.YtppbaladeefnkaaGreatDoor
open Go.RowKit Go.Shelf Go.Lib Tryz
def put7 (W:World) (R:Nat) (a0 a1 a2 a3 a4 a5 a6:Value):World:=(((((((W.setCell ⟨R,0,none⟩ a0).setCell ⟨R,1,none⟩ a1).setCell ⟨R,2,none⟩ a2).setCell ⟨R,3,none⟩ a3).setCell ⟨R,4,none⟩ a4).setCell ⟨R,5,none⟩ a5).setCell ⟨R,6,none⟩ a6)
theorem Od {B R:Nat} {w W:World} {a0 a1 a2 a3 a4 a5 a6:Value} (h:Below B w W) (hR:B≤R):Below B w (put7 W R a0 a1 a2 a3 a4 a5 a6):=
 ((((((h.setCell (p:=⟨R,0,none⟩) hR _).setCell (p:=⟨R,1,none⟩) hR _).setCell (p:=⟨R,2,none⟩) hR _).setCell (p:=⟨R,3,none⟩) hR _).setCell (p:=⟨R,4,none⟩) hR _).setCell (p:=⟨R,5,none⟩) hR _).setCell (p:=⟨R,6,none⟩) hR _
theorem F7 {w w':World} {nm:Bs} {kids:List Val} {p:Option Addr} {c:Nat} (hc:Fx nm) (hl:kids.length≤1) (hk:∀ x ∈ kids,Zr x) (hs:nm.length≤1000000) (hv:Sl Ql (fun b=>w.heap.size≤b) w' (.slice p kids.length c) kids) (hb:Below w.heap.size w w'):Jf w (.returned (.agg #[.int .i64 3,.int .i64 0,.string ⟨nm.toArray⟩,.slice none 0 0,.slice p kids.length c])) w':=
 ⟨.mk 3 0 nm [] kids,none,0,p,c,rfl,.make nm kids hc hl hk,hl,Zn hs (Sl.nil _ _ _) hv,hb⟩
theorem Ni (s:Sc) (hsg:Vr s.sums) (nm:Bs) (tn:Int) (names:List Bs) (kids:List Ty) (n:Int) (hn0:0≤n) (hn1:n≤1000000) (S0 S1:Nat→Prop) (cs ct:List Value) (w:World) (hs:Yn S0 w cs s) (ht:Y7 S1 w ct (.mk 3 nm tn names kids)):
  Calls prog 71 #[.agg cs.toArray,.agg ct.toArray,.int .i64 n] w (Jf w):=by
 have HSc:=Qq hs
 obtain ⟨uv,tv,rfl,hu,ht0⟩:=hs
 obtain ⟨up,uc,rfl,_⟩:=hu.len
 obtain ⟨tp,tc,rfl,_⟩:=ht0.len
 obtain ⟨q3,l3,q4,l4,rfl,_⟩:=ht.cells'
 obtain ⟨m,hm⟩:=eX (s.sums.length)
 rw [hm] at hu HSc ⊢
 have hml:m≤1000000:=by obtain ⟨_,_,_,h⟩:=hu.len;omega
 have HU:=Qq hu;have HM:=Qq hm;have HG:=Qq hsg
 have hn7:0≤n.tdiv 7∧n.tdiv 7≤1000000:=by
  rw [Int.tdiv_eq_ediv_of_nonneg hn0];omega
 obtain ⟨q7,hq7⟩:=eX (n.tdiv 7)
 rw [hq7] at hn7
 obtain ⟨hn7a,hn7b⟩:=hn7
 clear hu ht0 ht hm hsg
 go_enter func71,ntmps71
 go_wp2_with fail
 generalize hW1:(((w.alloc _).alloc _).alloc _).alloc _=W1
 have hb1:=eqB hW1 (Zq (Zq (Zq (Qn w _) _) _) _)
 have hS1:=eqH (b:=w.heap.size) hW1 (Qi (Qi (Qi (Z8 rfl _) _) _) _)
 have hT1:=eqH (b:=w.heap.size+1) hW1 (Qi (Qi (Z8 (by simp) _) _) _)
 have hZ1:=eqH (b:=w.heap.size+1+1) hW1 (Qi (Z8 (by simp) _) _)
 have hD1:=eqH (b:=w.heap.size+1+1+1) hW1 (Z8 (by simp) _)
 have HB1:=Qq hb1;have HS1:=Qq hS1;have HT1:=Qq hT1;have HZ1:=Qq hZ1;have HD1:=Qq hD1
 clear hW1 hb1 hS1 hT1 hD1 hZ1
 go_loopw [8,9,10] (fun t8 _ _ wr=>∃ k:Nat,k≤m∧t8=.int .i64 k∧Aside (Below W1.heap.size W1 wr)) (fun t8 _ _ _=>m - (intOf t8).toNat)
 case atStart=>exact ⟨0,Q8 _,rfl,Qz _ _⟩
 obtain ⟨k,hk,rfl,hBr⟩:=hrel
 have HBr:=Qq (show Below W1.heap.size W1 wr from hBr)
 have HWr:=Qq (HB1.out.thn HBr.out)
 clear hBr
 have hlt:=Qf HZ1.out
 have hSr:=kB HBr.out HS1.out
 have hTr:=kB HBr.out HT1.out
 have hZr:=kE HBr.out hlt HZ1.out
 have HZr:=Qq hZr;have HSr:=Qq hSr;have HTr:=Qq hTr
 have c0:=rA0 hSr;have b1:=rA1 hTr
 clear hSr hTr hZr
 by_cases hlt2:k<m
 ·have hi1:(0:Int)≤(k:Int):=by omega
  have hi2:(k:Int)<(m:Int):=by omega
  obtain ⟨u,hu⟩:∃ u,s.sums[k]?=some u:=⟨_,Qx (by rw [HM.out];exact hlt2)⟩
  obtain ⟨ub,uoff,ucs,hup,hub,_,_,hsm,hcc⟩:=(HU.out.below HWr.out).elem hu
  subst hup
  obtain ⟨ctv,hucs,hnl,hct⟩:=hsm
  subst hucs
  obtain ⟨cp,cc,hctv,hcl⟩:=hct.len
  obtain ⟨p,hp⟩:=eX (u.ctors.length)
  rw [hp] at hctv hcl
  subst hctv
  have d0:=hcc 0 _ rfl;have d1:=hcc 1 _ rfl
  rw [show Ke.k=2 from rfl] at d0 d1
  rw [Nat.add_zero] at d0
  unfold sv at d0
  have HCt:=Qq hct;have HP:=Qq hp;have HGu:=Qq (HG.out u (Qy hu))
  clear hu hcc hct hp
  by_cases he:u.name=nm
  ·have hq:(u.name==nm)=true:=by rw [he];simp
   clear he
   by_cases hp0:p=0
   ·have hg:¬ (0:Int)<(p:Int):=by omega
    go_upto_region 12 with fail
    go_quiet (fail)
    go_wp2_with fail
    go_roundw
    case measure=>simp [intOf];omega
    case rel=>exact ⟨k+1,by omega,by go_num,HBr.out.thn (Zy _ _)⟩
   have hg:(0:Int)<(p:Int):=by omega
   obtain ⟨m8,hm8⟩:=eX (n.tmod (p:Int))
   have hbd:=Kh n p hn0 hg
   rw [hm8] at hbd
   obtain ⟨hbd1,hbd2⟩:=hbd
   obtain ⟨j,rfl⟩:∃ j:Nat,m8=(j:Int):=⟨m8.toNat,by omega⟩
   have hjp:j<p:=by omega
   obtain ⟨c,hc⟩:∃ c,u.ctors[j]?=some c:=⟨_,Qx (by rw [HP.out];exact hjp)⟩
   obtain ⟨cb,coff,ccs,hcp,hcb,_,_,⟨tcx,hccs,hcn,hcty⟩,hcc2⟩:=HCt.out.elem hc
   subst hcp;subst hccs
   obtain ⟨tk,ts,tn2,t3,n3,k3,t4,n4,k4,rfl⟩:=hcty.cells
   have e0:=hcc2 0 _ rfl;have e1:=hcc2 1 _ rfl;have e2:=hcc2 2 _ rfl;have e3:=hcc2 3 _ rfl;have e4:=hcc2 4 _ rfl;have e5:=hcc2 5 _ rfl;have e6:=hcc2 6 _ rfl
   rw [show Be.k=7 from rfl] at e0 e1 e2 e3 e4 e5 e6
   rw [Nat.add_zero] at e0
   unfold sv at e0
   have HTy:=Qq hcty;have HGc:=Qq (HGu.out c (Qy hc))
   clear hc hcc2 hcty
   go_upto_region 12 with fail
   go_quiet (fail)
   obtain ⟨wq,hwq⟩:=eX (wr.drewN nq)
   have hbq:Below wr.heap.size wr wq:=by rw [← hwq];exact Zy _ _
   rw [hwq]
   have HBq:=Qq hbq
   have hh:∀ {b j:Nat} {x:Value},wr.cell? ⟨b,j,none⟩=some x→wq.cell? ⟨b,j,none⟩=some x:=fun hx=>kC hbq hx
   have c0:=hh c0;have d1:=hh d1;have e0:=hh e0;have e1:=hh e1;have e2:=hh e2;have e3:=hh e3;have e4:=hh e4;have e5:=hh e5;have e6:=hh e6
   clear hh hwq hbq hq d0 b1
   go_upto_region 13 with fail
   refine let_mvar% ?Lq1:=fun w':World=>w'.cell? ⟨w.heap.size,0,none⟩=some (.slice (some ⟨ub,uoff,none⟩) m uc)∧w'.cell? ⟨ub,uoff+k*2+1,none⟩=some (.slice (some ⟨cb,coff,none⟩) p cc)∧w'.cell? ⟨cb,coff+j*7,none⟩=some (.string ⟨c.name.toArray⟩)∧w'.cell? ⟨cb,coff+j*7+1,none⟩=some (.bool c.has)∧w'.cell? ⟨cb,coff+j*7+2,none⟩=some (.int .i64 tk)∧w'.cell? ⟨cb,coff+j*7+3,none⟩=some (.string ts)∧w'.cell? ⟨cb,coff+j*7+4,none⟩=some (.int .i64 tn2)∧w'.cell? ⟨cb,coff+j*7+5,none⟩=some (.slice t3 n3 k3)∧w'.cell? ⟨cb,coff+j*7+6,none⟩=some (.slice t4 n4 k4)∧Below wq.heap.size wq w';?_
   have HS:∀ w',Below wq.heap.size wq w'→?Lq1 w':=by
    intro w' h
    have hh:∀ {b j:Nat} {u:Value},wq.cell? ⟨b,j,none⟩=some u→w'.cell? ⟨b,j,none⟩=some u:=fun hc=>kC h hc
    exact ⟨hh c0,hh d1,hh e0,hh e1,hh e2,hh e3,hh e4,hh e5,hh e6,h⟩
   obtain ⟨HS0,HSr,HD',HSB',HA',HSq⟩:=X5 HS (fun w' h=>h.2.2.2.2.2.2.2.2.2)
   have HP:=fun w' x0 x1 x2 x3 x4 x5 x6 h=>HSq.out (put7 w' wq.heap.size x0 x1 x2 x3 x4 x5 x6) (Od (HSB'.out w' h) (Q9 _))
   unfold put7 at HP
   have HP':=Qq HP
   clear HS HP c0 d1 e0 e1 e2 e3 e4 e5 e6
   go_cut [9] from 33 to 89 (fun t9 wx=>∃ G,t9=.pointer (some ⟨G,0,none⟩)∧wx.heap[G]?=some (.cells #[.string ⟨c.name.toArray⟩,.bool c.has,.int .i64 tk,.string ts,.int .i64 tn2,.slice t3 n3 k3,.slice t4 n4 k4] 72 (0,0))∧Below wq.heap.size wq wx∧wq.heap.size≤G)
   case first=>
    go_region_held3 ?Lq1 (first | with_reducible exact HS0.out | with_reducible exact HD'.out _ (HA'.out _ _ HSr.out) | with_reducible exact HA'.out _ _ HSr.out | with_reducible exact HP'.out _ _ _ _ _ _ _ _ (HD'.out _ (HA'.out _ _ HSr.out))) (fail)
    all_goals
     go_wp2_with fail
     go_meet
     exact ⟨wq.heap.size,rfl,Qw _ _,(Qn _ _).drew,Q9 _⟩
   obtain ⟨G,rfl,hG,hbc,hGl⟩:=hcut
   have HBc:=Qq (HBr.out.thn (HBq.out.thn hbc));have HWc:=Qq (HWr.out.thn (HBq.out.thn hbc))
   have HTc:=Qq (HTy.out.move (.of_below (HBq.out.thn hbc)) (fun _ _ h=>h))
   have hGs:=Qf hG
   have HG:=Qq hG
   clear HS0 HSr HD' HSB' HA' HP' HSq hbc
   have g0:=rA0 hG;have g1:=rA1 hG;have g2:=rA2 hG;have g3:=rA3 hG;have g4:=rA4 hG;have g5:=rA5 hG;have g6:=rA6 hG
   clear hG
   have hlz:w.heap.size+1+1<wc.heap.size:=by have:=HBc.out.size;omega
   cases hhas:c.has with
   | false=>
    rw [hhas] at g1
    go_upto_region 17 with fail
    generalize hV:wc.alloc _=V1
    have hbV:=eqB hV (Qn _ _)
    have hv:=eqH (b:=wc.heap.size) hV (Qw _ _)
    have hZV:=kE (HBc.out.thn hbV) hlt HZ1.out
    obtain ⟨v0,v1,v2,v3,v4⟩:=row5 hv
    obtain ⟨y0,y1,y2,y3,y4⟩:=row5 hZV
    obtain ⟨f0,f1,f2,f3,f4⟩:=frz5 hZV
    have HZV:=Qq hZV;have HBV:=Qq (HWc.out.thn hbV)
    clear hV hv hZV hbV g0 g1 g2 g3 g4 g5 g6
    go_wp2_with fail
    show bodyPost _ _ _ _ _ (Zz V1 (w.heap.size+1+1) (.int .i64 3) (.int .i64 0) (.string ⟨c.name.toArray⟩) (.slice none 0 0) (.slice none 0 0))
    exact Q7 (v:=.agg #[.int .i64 3,.int .i64 0,.string ⟨c.name.toArray⟩,.slice none 0 0,.slice none 0 0]) (by simp [results,results71,go_sem,Qm HZV.out]) rfl (F7 (kids:=[]) HGc.out.2 (Q8 _) (fun x h=>by simp at h) hcn (Sl.nil _ _ _) (Qo HBV.out (by omega)))
   | true=>
    rw [hhas] at g1
    have hSc:=kB HBc.out HS1.out
    obtain ⟨s0,s1⟩:=row2 hSc
    have HSB2:=Qq hSc
    clear hSc
    go_upto_region 15 with fail
    generalize hV:wc.alloc _=V1
    have hbV:=eqB hV (Qn _ _)
    have hv:=eqH (b:=wc.heap.size) hV (Qw _ _)
    have HBV:=Qq (HBc.out.thn hbV);have HWV:=Qq (HWc.out.thn hbV);have HV1:=Qq hv
    have HVl:=Qq (Dt s c.arg HGc.out.1 q7 hn7a S0 _ _ [.int .i64 tk,.string ts,.int .i64 tn2,.slice t3 n3 k3,.slice t4 n4 k4] V1 (HSc.out.below HWV.out) (HTc.out.move (.of_below hbV) (fun _ _ h=>h)))
    have hcV:∀ {b j:Nat} {x:Value},wc.cell? ⟨b,j,none⟩=some x→V1.cell? ⟨b,j,none⟩=some x:=fun hx=>kC hbV hx
    have g1:=hcV g1;have g2:=hcV g2;have g3:=hcV g3;have g4:=hcV g4;have g5:=hcV g5;have g6:=hcV g6;have s0:=hcV s0;have s1:=hcV s1
    clear hV hv hbV hcV g0
    go_upto_region 17 with (go_at_call 71;refine HVl.out.mono ?_;rintro e w7 ⟨v,r3,o3,r4,o4,rfl,hg7,_,hv7,hb7⟩;unfold vcs;have hw7:wc.heap.size<w7.heap.size:=Qa (Qf HV1.out) hb7.size;have hv1:=kB hb7 HV1.out;have v4:=Qk _ _ 4 _ _ _ hv1;have fv4:=fA 4 hv1;simp only [List.getElem?_toArray,List.getElem?_cons_zero,List.getElem?_cons_succ] at v4;have HV7:=Qq hv1;have HX7:=Qq hv7;have HG7:=Qq hg7;have HB7:=Qq hb7;clear hv1 hv7 hg7 hb7)
    generalize hW9:World.alloc _ _=W9
    have hbs:Below wc.heap.size w7 (w7.setCell ⟨wc.heap.size,4,none⟩ (.slice (some ⟨w7.heap.size,0,none⟩) 1 1)):=(Qz _ _).setCell (p:=⟨wc.heap.size,4,none⟩) (Q9 _) _
    have hzs:(w7.setCell ⟨wc.heap.size,4,none⟩ (.slice (some ⟨w7.heap.size,0,none⟩) 1 1)).heap.size=w7.heap.size:=by simp
    have hwv:=HB7.out.size
    have hV1s:=Qf HV1.out
    have hb79:Below wc.heap.size w7 W9:=by rw [← hW9];exact hbs.alloc (by rw [hzs];omega) _
    have hv9:W9.heap[wc.heap.size]?=some (.cells #[.int .i64 3,.int .i64 0,.string ⟨c.name.toArray⟩,.slice none 0 0,.slice (some ⟨w7.heap.size,0,none⟩) 1 1] 44 (0,0)):=by
     rw [← hW9]
     exact Qi (heap_setCell_same _ _ 4 _ _ _ HV7.out) _
    have hk9:W9.heap[w7.heap.size]?=some (.cells #[.int .i64 v.kind,.int .i64 v.n,.string ⟨v.s.toArray⟩,.slice r3 v.names.length o3,.slice r4 v.kids.length o4] 44 (0,0)):=by
     rw [← hW9]
     exact Z8 hzs _
    have hb9:Below w.heap.size w W9:=(HWV.out.thn HB7.out).trans (hb79.mono (by omega))
    have hz9:W9.heap[w.heap.size+1+1]?=some (.cells zV 44 (0,0)):=kE hb79 hlz (((HBV.out.thn HB7.out).block _ hlt).trans HZ1.out)
    have hx9:Qh (fun b=>V1.heap.size≤b∧b<w7.heap.size) W9 (vcs v r3 o3 r4 o4) v:=(HX7.out.move (S':=fun b=>V1.heap.size≤b∧b<w7.heap.size) (.refl _ _) (fun b hb h=>⟨h,hb⟩)).move (fun b hb hlb=>by
     rw [← hW9,Below.heap_alloc _ _ _ (by rw [hzs];exact hlb),Qg (show b≠wc.heap.size from by have h1:V1.heap.size≤b:=hb.1;omega)]) (fun _ _ h=>h)
    obtain ⟨v0,v1,v2,v3,v4⟩:=row5 hv9
    obtain ⟨y0,y1,y2,y3,y4⟩:=row5 hz9
    obtain ⟨f0,f1,f2,f3,f4⟩:=frz5 hz9
    have HX9:=Qq hx9;have HK9:=Qq hk9;have HB9:=Qq hb9;have HZ9:=Qq hz9
    clear hW9 hv9 hk9 hb9 hz9 hx9 hb79 fv4 hbs hzs
    have hw7s:w.heap.size+1+1<w7.heap.size:=by omega
    go_wp2_with fail
    show bodyPost _ _ _ _ _ (Zz W9 (w.heap.size+1+1) (.int .i64 3) (.int .i64 0) (.string ⟨c.name.toArray⟩) (.slice none 0 0) (.slice (some ⟨w7.heap.size,0,none⟩) 1 1))
    refine Q7 (v:=.agg #[.int .i64 3,.int .i64 0,.string ⟨c.name.toArray⟩,.slice none 0 0,.slice (some ⟨w7.heap.size,0,none⟩) 1 1]) (by simp [results,results71,go_sem,Qm HZ9.out]) rfl (F7 (kids:=[v]) HGc.out.2 (by simp) (fun x h=>by simp only [List.mem_cons,List.not_mem_nil,or_false] at h;subst h;exact HG7.out) hcn ?_ (Qo HB9.out (by omega)))
    exact Z4 (xs:=[v]) ((Qu (by omega)).trans HK9.out) (by show w.heap.size≤w7.heap.size;omega) (Cs.one (r:=Ql) ((HX9.out.move (fun b hb _=>Qu (by have:=hb.1;omega)) (fun b _ h=>by show w.heap.size≤b;have:=h.1;omega)))) rfl rfl (by simp)
  have hq:(u.name==nm)=false:=by rw [← Bool.not_eq_true,beq_iff_eq];exact he
  clear he
  go_upto_region 12 with fail
  go_quiet (fail)
  go_wp2_with fail
  go_roundw
  case measure=>simp [intOf];omega
  case rel=>exact ⟨k+1,by omega,by go_num,HBr.out.thn (Zy _ _)⟩
 have hq:¬ (k:Int)<(m:Int):=by omega
 obtain ⟨y0,y1,y2,y3,y4⟩:=row5 HZr.out
 obtain ⟨f0,f1,f2,f3,f4⟩:=frz5 HZr.out
 go_wp2_with fail
 show bodyPost _ _ _ _ _ (Zz wr (w.heap.size+1+1) (.int .i64 0) (.int .i64 0) (.string ⟨#[]⟩) (.slice none 0 0) (.slice none 0 0))
 exact Q7 (v:=.agg zV) (by simp [results,results71,go_sem,Qm HZr.out]) rfl (Ub (s:=[]) (.int 0) (by simp) (Qo HWr.out (by omega)))
end Go.Proofs.YtppbaladeefnkaaGreatDoor
