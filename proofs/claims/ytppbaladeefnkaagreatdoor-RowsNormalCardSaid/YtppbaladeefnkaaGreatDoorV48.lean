import Derived.Test.YtppbaladeefnkaaGreatDoorV47
set_option maxRecDepth 100000
set_option maxHeartbeats 400000000
namespace Go.Proofs.YtppbaladeefnkaaGreatDoor
open Go.RowKit Go.Shelf Go.Lib Tryz
theorem Gg (HCk:Dk) (s:Sc) (hS:Pv s) (hne:0<s.tables.length) (S0 S3 S4:Nat→Prop) (cs:List Value) (nv mv:Value) (ns ms:List Int) (w:World) (hs:Yn S0 w cs s) (hn0:Y6 S3 w nv ns) (hm0:Y6 S4 w mv ms) (hi:V9 ns) (hi2:V9 ms):
  Calls prog 8 #[.agg cs.toArray,nv,mv] w (Om s w):=by
 have HSc:=Qq hs;have HMs:=Qq hm0;have HGen:=Qq hS
 have HPk:=Qq (fun (i:Nat) (m:Int) (h1:1≤m) (h2:m≤1000000000) W (hW:Below w.heap.size w W)=>Zt S4 mv ms i m W (hm0.below hW) hi2 h1 h2)
 obtain ⟨n,hn⟩:=eX (s.tables.length)
 have hn9:n≤20:=by have:=hS.few;omega
 have hn1:0<n:=by omega
 have HSt:=Qq (fun W (hW:Below w.heap.size w W)=>(Ng HCk s hS S0 S3 cs nv ns W (hs.below hW) (hn0.below hW) hi).mono (R':=fun e w2=>∃ p cap,e=.returned (.slice p n cap)∧Ks s 5 W w2 (.slice p n cap) n∧Below W.heap.size W w2) (by
  rintro e w2 ⟨l,p,cap,css,rfl,h1,h2,h3⟩
  have hl:l.length=n:=by rw [h1.len,hn]
  have hsz:=hW.size
  rw [hl] at h2 ⊢
  exact ⟨p,cap,rfl,⟨l,css,h1.dy,hl,h2⟩,h3⟩))
 obtain ⟨uv,tv,rfl,hu,ht⟩:=hs
 obtain ⟨up,uc,rfl,_⟩:=hu.len
 obtain ⟨tp,tc,rfl,_⟩:=ht.len
 obtain ⟨np,nc,rfl,_⟩:=hn0.len
 obtain ⟨mp,mc,rfl,_⟩:=hm0.len
 rw [hn] at ht HSc HSt ⊢
 have HT:=Qq ht;have HN:=Qq hn;have HI2:=Qq hi2
 obtain ⟨cn,hcn,hcn4⟩:∃ cn:Nat,Zp ms 0 4=(cn:Int)∧cn≤3:=by
  obtain ⟨h1,h2⟩:=Jx ms 0 4 (by omega)
  exact ⟨(Zp ms 0 4).toNat,by omega,by omega⟩
 have HP0:=Qq (fun W (hW:Below w.heap.size w W)=>HPk.out 0 4 (by omega) (by omega) W hW)
 rw [hcn] at HP0
 have HP21:=Qq (fun W (hW:Below w.heap.size w W)=>HPk.out 21 12 (by omega) (by omega) W hW)
 obtain ⟨z21,hz21⟩:=eX (Zp ms 21 12)
 rw [hz21] at HP21
 simp only [Int.cast_ofNat_Int] at HP0 HP21
 clear hu ht hn0 hm0 hi hi2 hcn hz21 hne hS hn
 obtain ⟨i0,j1,j2,j3,j4⟩:=Za (P:=prog) (t:=44) (z:=.agg zV) (n:=5) (b:=80) (by kernel_rfl)
 have HJ:=Qq j1;have HJ2:=Qq j2;have HJ3:=Qq j3;have HJ4:=Qq j4
 clear j1 j2 j3 j4
 go_enter func8,ntmps8
 go_upto_region 1 with fail
 generalize hW1:w.alloc _=W1
 have hb1:=eqB hW1 (Qn _ _)
 have hX1:=eqH (b:=w.heap.size) hW1 (Qw _ _)
 have HB1:=Qq hb1;have HX1:=Qq hX1
 obtain ⟨c0,c1⟩:=row2 hX1
 clear hW1 hb1 hX1
 have hlt1:=Qf HX1.out
 go_upto_region 2 with (go_at_call 31;refine (HSt.out _ HB1.out).mono ?_;rintro e w2 ⟨p2,cap2,rfl,hd2,hb2⟩;have HD2:=Qq hd2;have HB2:=Qq (show Below W1.heap.size W1 w2 from hb2);have hX2:=kE hb2 hlt1 HX1.out;have c1':=rA1 hX2;clear hd2 hb2 hX2)
 have hq0:((n:Int)==0)=false:=by simp;omega
 clear HSt c0 c1
 go_upto_region 5 with fail
 clear c1' hq0
 go_loopw [7,8,9,10,11,12] (fun t7 t8 _ _ _ _ wr=>∃ (k:Nat) (p:Option Addr) (cap:Nat),k≤cn∧t7=.slice p n cap∧t8=.int .i64 k∧Aside (Ks s (5+k) W1 wr (.slice p n cap) n∧Below W1.heap.size W1 wr)) (fun _ t8 _ _ _ _ _=>cn - (intOf t8).toNat)
 case atStart=>exact ⟨0,_,_,Q8 _,rfl,rfl,⟨HD2.out,HB2.out⟩⟩
 obtain ⟨k,pa,capa,hkn,rfl,rfl,hA⟩:=hrel
 have HDa:=Qq hA.out.1;have HBa:=Qq hA.out.2
 have HWa:=Qq (HB1.out.thn hA.out.2)
 clear hA
 by_cases hk:k<cn
 ·have g1:(k:Int)<(cn:Int):=by omega
  obtain ⟨a,ha⟩:∃ a:Nat,5*(k:Int)=(a:Int):=⟨5*k,by omega⟩
  have ha9:a+2≤1000:=by omega
  have hw0:IntKind.i64.wrap (a:Int)=(a:Int):=IntWalk.i64_in _ (by omega)
  have hw1:IntKind.i64.wrap ((a:Int)+1)=(a:Int)+1:=IntWalk.i64_in _ (by omega)
  obtain ⟨j,hj,hjn⟩:∃ j:Nat,Zp ms (a+1) n=(j:Int)∧j<n:=by
   obtain ⟨h1,h2⟩:=Jx ms (a+1) n (by omega)
   exact ⟨(Zp ms (a+1) n).toNat,by omega,by omega⟩
  have HP1:=Qq (fun W (hW:Below w.heap.size w W)=>HPk.out (a+1) n (by omega) (by omega) W hW)
  rw [hj] at HP1
  obtain ⟨z3,hz3⟩:=eX (Zp ms (a+3) 6)
  obtain ⟨z4,hz4⟩:=eX (Zp ms (a+4) 8)
  have HP3:=Qq (fun W (hW:Below w.heap.size w W)=>HPk.out (a+3) 6 (by omega) (by omega) W hW)
  have HP4:=Qq (fun W (hW:Below w.heap.size w W)=>HPk.out (a+4) 8 (by omega) (by omega) W hW)
  rw [hz3] at HP3;rw [hz4] at HP4
  simp only [Int.natCast_add,Int.cast_ofNat_Int] at HP1 HP3 HP4
  clear hj hz3 hz4
  obtain ⟨t,ht⟩:∃ t,s.tables[j]?=some t:=⟨_,Qx (by rw [HN.out];exact hjn)⟩
  obtain ⟨tb,toff,tcs',htp,htb,_,_,hTR,htc⟩:=(HT.out.below HWa.out).elem ht
  subst htp
  obtain ⟨cp9,cc9,kp9,kc9,rp9,rc9,k9,s19,n9,s29,p19,n19,c19,p29,n29,c29,p39,n39,c39,a9,z9,hcs,_⟩:=Zk hTR
  simp only [tcs] at hcs
  subst hcs
  have hXa:=kE HBa.out hlt1 HX1.out
  obtain ⟨c0,c1⟩:=row2 hXa
  have d0:=htc 0 _ rfl;have d1:=htc 1 _ rfl;have d2:=htc 2 _ rfl;have d3:=htc 3 _ rfl;have d4:=htc 4 _ rfl;have d5:=htc 5 _ rfl;have d6:=htc 6 _ rfl;have d7:=htc 7 _ rfl;have d8:=htc 8 _ rfl;have d9:=htc 9 _ rfl;have d10:=htc 10 _ rfl;have d11:=htc 11 _ rfl;have d12:=htc 12 _ rfl
  rw [show Qt.k=13 from rfl] at d0 d1 d2 d3 d4 d5 d6 d7 d8 d9 d10 d11 d12
  rw [Nat.add_zero] at d0
  try unfold sv at d0
  have HTR:=Qq hTR;have HTm:=Qq (Qy ht);have HTi:=Qq ht
  have hj1:(0:Int)≤(j:Int):=by omega
  have hj2:(j:Int)<(n:Int):=by omega
  clear hXa htc hTR ht
  go_upto_region 7 with (go_at_call 26;refine (HP0.out _ HWa.out).mono ?_;rintro e w' ⟨rfl,rfl⟩)
  refine let_mvar% ?Lq1:=fun w':World=>w'.cell? ⟨w.heap.size,1,none⟩=some (.slice (some ⟨tb,toff,none⟩) n tc)∧w'.cell? ⟨tb,toff+j*13,none⟩=some (.string ⟨t.name.toArray⟩)∧w'.cell? ⟨tb,toff+j*13+1,none⟩=some (.slice cp9 t.columns.length cc9)∧w'.cell? ⟨tb,toff+j*13+2,none⟩=some (.slice kp9 t.key.length kc9)∧w'.cell? ⟨tb,toff+j*13+3,none⟩=some (.slice rp9 t.refs.length rc9)∧w'.cell? ⟨tb,toff+j*13+4,none⟩=some (.int .i64 k9)∧w'.cell? ⟨tb,toff+j*13+5,none⟩=some (.string s19)∧w'.cell? ⟨tb,toff+j*13+6,none⟩=some (.int .i64 n9)∧w'.cell? ⟨tb,toff+j*13+7,none⟩=some (.string s29)∧w'.cell? ⟨tb,toff+j*13+8,none⟩=some (.slice p19 n19 c19)∧w'.cell? ⟨tb,toff+j*13+9,none⟩=some (.slice p29 n29 c29)∧w'.cell? ⟨tb,toff+j*13+10,none⟩=some (.slice p39 n39 c39)∧w'.cell? ⟨tb,toff+j*13+11,none⟩=some (.int .i64 a9)∧w'.cell? ⟨tb,toff+j*13+12,none⟩=some (.int .i64 z9)∧Below wr.heap.size wr w';?_
  have HS:∀ w',Below wr.heap.size wr w'→?Lq1 w':=by
   intro w' h
   have hh:∀ {b j:Nat} {u:Value},wr.cell? ⟨b,j,none⟩=some u→w'.cell? ⟨b,j,none⟩=some u:=fun hc=>kC h hc
   exact ⟨hh c1,hh d0,hh d1,hh d2,hh d3,hh d4,hh d5,hh d6,hh d7,hh d8,hh d9,hh d10,hh d11,hh d12,h⟩
  obtain ⟨HS0,HSr,HD',HSB',HA',HSq⟩:=X5 HS (fun w' h=>h.2.2.2.2.2.2.2.2.2.2.2.2.2.2)
  have HP:=fun w' x0 x1 x2 x3 x4 x5 x6 x7 x8 x9 x10 x11 x12 h=>HSq.out (Xa w' wr.heap.size x0 x1 x2 x3 x4 x5 x6 x7 x8 x9 x10 x11 x12) (Yd (HSB'.out w' h) (Q9 _))
  unfold Xa at HP
  have HP':=Qq HP
  clear HS HP c1 d0 d1 d2 d3 d4 d5 d6 d7 d8 d9 d10 d11 d12
  go_cut [9] from 21 to 95 (fun t9 wx=>∃ G,t9=.pointer (some ⟨G,0,none⟩)∧wx.heap[G]?=some (.cells #[.string ⟨t.name.toArray⟩,.slice cp9 t.columns.length cc9,.slice kp9 t.key.length kc9,.slice rp9 t.refs.length rc9,.int .i64 k9,.string s19,.int .i64 n9,.string s29,.slice p19 n19 c19,.slice p29 n29 c29,.slice p39 n39 c39,.int .i64 a9,.int .i64 z9] 37 (0,0))∧Below wr.heap.size wr wx∧wr.heap.size≤G)
  case first=>
   clear c0
   go_region_held3 ?Lq1 (first | with_reducible exact HS0.out | with_reducible exact hS2 | with_reducible exact HD'.out _ (HA'.out _ _ HSr.out) | with_reducible exact HA'.out _ _ hS2 | with_reducible exact HP'.out _ _ _ _ _ _ _ _ _ _ _ _ _ _ hS2)
    (first | (go_at_call 26;refine (HP1.out _ (HWa.out.thn (HSB'.out _ (by assumption)))).mono ?_;rintro e w' ⟨rfl,rfl⟩))
   all_goals
    go_wp2_with fail
    go_meet
    exact ⟨_,rfl,Qw _ _,(Qz _ _).drew.thn (Qn _ _),Q9 _⟩
  obtain ⟨G,rfl,hG,hbc,hGl⟩:=hcut
  obtain ⟨w7,rfl⟩:∃ w7,w7=wc:=⟨_,rfl⟩
  have HG:=Qq hG;have HB7:=Qq (HBa.out.thn hbc);have HW7:=Qq (HWa.out.thn hbc);have HTR7:=Qq (Qt.frame HTR.out (.of_below hbc));have HD7:=Qq (HDa.out.grow hbc)
  have hGw:=Qf hG
  clear hbc HTR c0
  clear HS0 HSr HD' HSB' HA' HP' HSq
  obtain ⟨g0,g1,g2,g3,g4,g5,g6,g7,g8,g9,g10,g11,g12⟩:=row13 hG
  have hX7:=kE HB7.out hlt1 HX1.out
  obtain ⟨c0,c1⟩:=row2 hX7
  clear hG hX7
  obtain ⟨l,css,hgl,hll,hO⟩:=HD7.out
  obtain ⟨g,cap',hpv,hgB,hgs⟩:=hO.row.form (by omega)
  simp only [Value.slice.injEq] at hpv
  obtain ⟨rfl,-,rfl⟩:=hpv
  have hgw7:g<w7.heap.size:=hgs
  have hSl:Sl Zl (fun b=>W1.heap.size≤b) w7 (.slice (some ⟨g,0,none⟩) n capa) l:=by
   have:=hO.sl (S':=(fun b=>W1.heap.size≤b)) (by omega) (fun _ h=>h) (fun _ _ h=>h)
   exact this
  have HGl:=Qq hgl;have HSl:=Qq hSl;have HO:=Qq hO;have HLl:=Qq hll
  have HRow:=Qq ((rrow_P (fun b=>b≠g) S0 (fun b=>W1.heap.size≤b) _ S4 s [.slice up s.sums.length uc,.slice (some ⟨tb,toff,none⟩) n tc] (.slice (some ⟨g,0,none⟩) n capa) l t [.string ⟨t.name.toArray⟩,.slice cp9 t.columns.length cc9,.slice kp9 t.key.length kc9,.slice rp9 t.refs.length rc9,.int .i64 k9,.string s19,.int .i64 n9,.string s29,.slice p19 n19 c19,.slice p29 n29 c29,.slice p39 n39 c39,.int .i64 a9,.int .i64 z9] (.slice mp ms.length mc) ms (a+2) w7 (HSc.out.below HW7.out) (own_relP (by omega) (fun _ h=>h) hO) HTR7.out (HMs.out.below HW7.out) HI2.out ha9 (HGen.out.gen t HTm.out) HGen.out.sums (fun t ht=>(HGen.out.ok t ht).key) (fun r hr v hv=>(hgl.rows r hr v hv).good)).mono (R':=fun e w2=>∃ v q3 m3 q4 m4 mk,e=.returned (.agg #[.int .i64 v.kind,.int .i64 v.n,.string ⟨v.s.toArray⟩,.slice q3 v.names.length m3,.slice q4 mk m4])∧v.kids.length=mk∧mk≤m4∧Xu v∧Qh (fun b=>W1.heap.size≤b∧b≠g) w2 (vcs v q3 m3 q4 m4) v∧Below w7.heap.size w7 w2) (by
   rintro e w2 ⟨v,q3,m3,q4,m4,rfl,x1,x2,x3,x4⟩
   have hw9:=HB7.out.size
   have hf9:=(HGen.out.gen t HTm.out).few
   exact ⟨v,q3,m3,q4,m4,_,rfl,rfl,x2.2,⟨x1,by omega⟩,x3.move (.refl _ _) (fun b _ h=>h.elim id (fun h=>⟨by omega,by omega⟩)),x4⟩))
  simp only [Int.natCast_add,Int.cast_ofNat_Int] at HRow
  clear hgl hll hO hSl
  go_upto_region 9 with (go_at_call 36;refine HRow.out.mono ?_;rintro e w8 ⟨v,q3,m3,q4,m4,mk,rfl,hmk,hmk4,hvo,hv8,hb8⟩;have HMk:=Qq hmk;have HVo:=Qq hvo;have HV8:=Qq hv8;have HB8:=Qq hb8;clear hmk hvo hv8 hb8)
  generalize hW9:w8.alloc _=W9
  have hb9:=eqB hW9 (Qn _ _)
  have hlt9:w8.heap.size<W9.heap.size:=by rw [← hW9];simp
  have hx9:=eqH (b:=w8.heap.size) hW9 (Qw _ _)
  have HB9:=Qq hb9;have HX9:=Qq hx9
  have HV9:=Qq ((HV8.out.move (S':=fun b=>(W1.heap.size≤b∧b≠g)∧b<w8.heap.size) (.refl _ _) (fun b hb h=>⟨h,hb⟩)).move (.of_below hb9) (fun _ _ h=>h))
  obtain ⟨v0,v1,v2,v3,v4⟩:=row5 hx9
  obtain ⟨f0,f1,f2,f3,f4⟩:=frz5 hx9
  clear hW9 hb9 hx9 HV8 g0 g1 g2 g3 g4 g5 g6 g7 g8 g9 g10 g11 g12 c0 c1
  have HW9:=Qq (HW7.out.thn (HB8.out.thn HB9.out))
  have HB19:=Qq (HB7.out.thn (HB8.out.thn HB9.out))
  have hgw8:g<w8.heap.size:=Qa hgw7 HB8.out.size
  obtain ⟨bb,hbb⟩:∃ bb:Bool,bb=(decide (z3=0)&&decide (0<mk)):=⟨_,rfl⟩
  go_cut [58] from 21 to 95 (fun t58 wx=>t58=.bool bb∧wx=W9)
  case first=>
   by_cases hz3:z3=0
   ·have hq3:(z3==0)=true:=by rw [hz3];rfl
    by_cases hmp:0<mk
    ·have hmp':(0:Int)<(mk:Int):=by omega
     have hb1:bb=true:=by rw [hbb];simp [hz3,hmp]
     clear hbb
     go_wp2_with (go_at_call 26;refine (HP3.out _ HW9.out).mono ?_;rintro e w' ⟨rfl,rfl⟩)
     go_meet
     exact ⟨by rw [hb1],rfl⟩
    have hmp':¬ (0:Int)<(mk:Int):=by omega
    have hb1:bb=false:=by rw [hbb];simp [hz3,hmp]
    clear hbb
    go_wp2_with (go_at_call 26;refine (HP3.out _ HW9.out).mono ?_;rintro e w' ⟨rfl,rfl⟩)
    go_meet
    exact ⟨by rw [hb1],rfl⟩
   have hq3:(z3==0)=false:=by simpa using hz3
   have hb1:bb=false:=by rw [hbb];simp [hz3]
   clear hbb
   go_wp2_with (go_at_call 26;refine (HP3.out _ HW9.out).mono ?_;rintro e w' ⟨rfl,rfl⟩)
   go_meet
   exact ⟨by rw [hb1],rfl⟩
  obtain ⟨rfl,hwc⟩:=hcut
  have hwc':=hwc.symm
  subst hwc'
  clear hwc
  go_upto_if 58 with fail
  go_cut [] from 21 to 95 (fun wx=>∃ u x3 y3 x4 y4,wx.heap[w8.heap.size]?=some (.cells #[.int .i64 u.kind,.int .i64 u.n,.string ⟨u.s.toArray⟩,.slice x3 u.names.length y3,.slice x4 u.kids.length y4] 44 (0,0))∧Xu u∧Qh (fun b=>(W1.heap.size≤b∧b≠g)∧b≠w8.heap.size) wx (vcs u x3 y3 x4 y4) u∧Below w8.heap.size w8 wx)
  case first=>
   cases bb with
   | false=>
    go_wp2_with fail
    go_meet
    have hv9:=HV9.out
    have hx9:=HX9.out
    rw [← HMk.out] at hx9
    exact ⟨v,q3,m3,q4,m4,hx9,HVo.out,hv9.move (.refl _ _) (fun b hb h=>⟨h.1,Nat.ne_of_lt h.2⟩),HB9.out⟩
   | true=>
    obtain ⟨k',rfl⟩:∃ k',mk=k'+1:=⟨mk - 1,by simp at hbb;omega⟩
    obtain ⟨p3',k3',p4',k4',hcs,hns,hks,hss⟩:=Qh.cells HV9.out
    simp only [vcs,List.cons.injEq,Value.slice.injEq,true_and,and_true] at hcs
    obtain ⟨⟨rfl,rfl⟩,rfl,rfl⟩:=hcs
    rw [HMk.out] at hks
    obtain ⟨p5,c5,hrun,hs5,hl5⟩:=G5 (P:=prog) 40 44 underlying40 sizeOf44 hks hmk4 1 (by omega)
    have hrun1:∀ W,(Instr.slice 40 (.slice q4 (k'+1) m4) (some (.int .i64 1)) none none).run prog W=.ok (.slice p5 k' c5) W:=hrun
    have HS5:=Qq (show Sl Ql (fun b=>(W1.heap.size≤b∧b≠g)∧b<w8.heap.size) W9 (.slice p5 k' c5) (v.kids.drop 1) from hs5)
    have HNs:=Qq hns;have HSs:=Qq hss
    have HN5:=Qq (show [(.mk 5 0 [] [] []:Val)].length+(v.kids.drop 1).length=k'+1 by rw [hl5];simp;omega)
    have hTok:=Qq True.intro
    have hne8:w8.heap.size≠W9.heap.size:=by omega
    have hk9:k'+1≤900:=by have:=HVo.out.few;have:=HMk.out;omega
    clear hrun hs5 hl5 hns hks hss hbb
    go_wp2_with (first
     | (have hk:=hTok.out;clear hTok hk;generalize hW10:World.alloc W9 _=W10;have hb10:=eqB hW10 (Qn _ _);have hz10:W10.heap.size=W9.heap.size+1:=(by rw [← hW10];simp);have hk10:=eqH (b:=W9.heap.size) hW10 (Qw _ _);have hx10:=kB hb10 HX9.out;have v4':=rA4 hx10;have HB10:=Qq hb10;have HZ10:=Qq hz10;have HX10:=Qq hx10;have HO10:=Qq (Hw (r:=Ql) (S:=fun b=>(W1.heap.size≤b∧b≠g)∧b≠w8.heap.size) (B:=W9.heap.size) (xs:=[(.mk 5 0 [] [] []:Val)]) (n:=1) hk10 (Q9 _) (Cs.one (r:=Ql) (x:=(.mk 5 0 [] [] []:Val)) (Zn (s:=[]) (by simp) (Sl.nil _ _ _) (Sl.nil _ _ _))) rfl rfl (by simp));have HS10:=Qq ((HS5.out.below hb10).mono (S':=But (fun b=>(W1.heap.size≤b∧b≠g)∧b≠w8.heap.size) (.slice (some ⟨W9.heap.size,0,none⟩) 1 1)) (fun b _ h=>⟨⟨h.1,Nat.ne_of_lt h.2⟩,fun e=>(by have e':b=W9.heap.size:=Qb e;have:=h.2;omega)⟩));clear hW10 hb10 hz10 hk10 hx10)
     | (at_builtin;refine Yq (r:=Ql) (by decide) Zu rfl (.tmp 60) (.tmp 63) _ rfl 44 i0 (.agg zV) 80 underlying40 HJ.out HJ2.out HJ3.out HJ4.out rfl (by omega) (fun b=>(W1.heap.size≤b∧b≠g)∧b≠w8.heap.size) W9.heap.size W10 (.slice (some ⟨W9.heap.size,0,none⟩) 1 1) [(.mk 5 0 [] [] []:Val)] _ rfl HO10.out (.slice p5 k' c5) (v.kids.drop 1) rfl HS10.out (k'+1) HN5.out (by omega) (by have:=HZ10.out;omega) ?_;intro p6 c6 css6 w6 hO6 hL6;have hx6:=(hL6.other _ (Qf HX10.out) (fun e=>(by have e':w8.heap.size=W9.heap.size:=Qb e;omega))).trans HX10.out;have f4':=fA 4 hx6;have y4':=rA4 hx6;have HX6:=Qq hx6;have HO6:=Qq hO6;have HL6:=Qq hL6;clear hx6 hO6 hL6))
    go_meet
    have hul:([(.mk 5 0 [] [] []:Val)]++v.kids.drop 1).length=k'+1:=by rw [List.length_append];exact HN5.out
    have hbF:Below w8.heap.size w8 (w6.setCell ⟨w8.heap.size,4,none⟩ (.slice p6 (k'+1) c6)):=(((HB9.out.thn HB10.out).trans (HL6.out.below.mono (by omega)))).setCell (p:=⟨w8.heap.size,4,none⟩) (Q9 _) _
    refine ⟨.mk v.kind v.n v.s v.names ([(.mk 5 0 [] [] []:Val)]++v.kids.drop 1),q3,m3,p6,c6,?_,HVo.out.dirty (by rw [HMk.out];omega),?_,hbF⟩
    ·show (w6.setCell ⟨w8.heap.size,4,none⟩ (.slice p6 (k'+1) c6)).heap[w8.heap.size]?=some (.cells #[.int .i64 v.kind,.int .i64 v.n,.string ⟨v.s.toArray⟩,.slice q3 v.names.length m3,.slice p6 ([(.mk 5 0 [] [] []:Val)]++v.kids.drop 1).length c6] 44 (0,0))
     rw [hul,heap_setCell_same _ _ _ _ _ _ HX6.out];rfl
    show Qh _ _ [.int .i64 v.kind,.int .i64 v.n,.string ⟨v.s.toArray⟩,.slice q3 v.names.length m3,.slice p6 ([(.mk 5 0 [] [] []:Val)]++v.kids.drop 1).length c6] _
    rw [hul]
    refine Zn HSs.out ?_ ?_
    ·exact (HNs.out.frame (fun b hb _=>by
      rw [Qg (Nat.ne_of_lt hb.2),(HL6.out.other b (by have:=HZ10.out;have:=hb.2;omega) (fun e=>by have e':b=W9.heap.size:=Qb e;have:=hb.2;omega)),HB10.out.block b (by have:=hb.2;omega)])).mono (fun b _ h=>⟨h.1,Nat.ne_of_lt h.2⟩)
    have h6:=HO6.out.sl' (S':=fun b=>(W1.heap.size≤b∧b≠g)∧b≠w8.heap.size) (by rw [hul];omega) (fun b hb=>by have:=(HO6.out.row.lt b hb).1;have:=HB19.out.size;exact ⟨⟨by omega,by omega⟩,by omega⟩) (fun _ _ h=>h)
    exact h6.frame (fun b hb _=>Qg hb.2)
  obtain ⟨u,x3,y3,x4,y4,hxu,huo,hvu,hbc⟩:=hcut
  obtain ⟨w11,rfl⟩:∃ w11,w11=wc:=⟨_,rfl⟩
  have hb711:=HB8.out.thn hbc
  have HB711:=Qq hb711;have HB11:=Qq (HB7.out.thn hb711);have HW11:=Qq (HW7.out.thn hb711)
  have hO11:=HO.out.below hb711
  have hg11:g<w11.heap.size:=by have:=hb711.size;omega
  have hH11:w8.heap.size<w11.heap.size:=Qf hxu
  have hgH:w8.heap.size≠g:=by have:=HB8.out.size;omega
  have hrat:=tabs_at HGl.out.tabs HGen.out.once HTi.out
  have hidx:Y9 (fun r=>decide (r.table=t.name)) l=(j:Int):=by
   rcases Vk l t.name with ⟨h,_⟩ | ⟨i',r',h,h2,_⟩
   ·rw [hrat] at h;cases h
   rw [hrat] at h;cases h;exact h2
  obtain ⟨r,hr⟩:∃ r,l[j]?=some r:=⟨_,Qx (by rw [HLl.out];exact hjn)⟩
  have hSl11:=HSl.out.below hb711
  have HF:=Qq (Uh (fun b=>W1.heap.size≤b) (.slice (some ⟨g,0,none⟩) n capa) l t.name w11 hSl11.rel)
  rw [hidx] at HF
  unfold sv at HF
  have HXu:=Qq hxu;have HUo:=Qq huo;have HVu:=Qq hvu;have HR:=Qq hr;have HO11:=Qq hO11;have HSl11:=Qq hSl11;have HIdx:=Qq hidx
  have hG11:=kE hb711 hGw HG.out
  have n0:=rA0 hG11
  obtain ⟨h0,h1,h2,h3,h4⟩:=row5 hxu
  clear hxu huo hvu hr hO11 hSl11 hidx hrat hG11 hb711 hbc
  by_cases hz4:z4=0
  ·have hq4:(z4==0)=true:=by rw [hz4];rfl
   obtain ⟨c,hc⟩:∃ c,css[j]?=some c:=⟨_,Qx (by rw [HO11.out.cs.len,HLl.out];exact hjn)⟩
   obtain ⟨rv,rfl,htl,hrv,hcap⟩:=HO11.out.cs.R j c r hc HR.out
   have hrow:=HO11.out.row
   rw [HLl.out] at hrow
   have l1:=hrow.cellAt (j*2+1) (by show _<n*2;omega)
   rw [show css.flatten[j*2+1]?=some rv from Yg (k:=2) HO11.out.cs.all hc (j:=1) rfl] at l1
   have fl1:=hrow.frozenAt (j*2+1)
   obtain ⟨q,qc,rfl,_⟩:=hrv.len
   obtain ⟨mr,hmr⟩:=eX (r.rows.length)
   have hmr8:mr≤5+k:=by rw [← hmr];exact HGl.out.few r (Qy HR.out)
   rw [hmr] at hrv l1
   have HMr:=Qq hmr
   have HRV:=Qq (hrv.mono (S':=But (fun b=>But (fun b=>W1.heap.size≤b) (.slice (some ⟨g,0,none⟩) n capa) b∧b<w11.heap.size) (.slice none 0 0)) (fun b hb h=>⟨⟨h,hb⟩,fun e=>by cases e⟩))
   have HN1:=Qq (show ([]:List Val).length+r.rows.length=mr by rw [hmr];simp)
   have HU11:=Qq (HVu.out.move (S':=(fun b=>But (fun b=>W1.heap.size≤b) (.slice (some ⟨g,0,none⟩) n capa) b∧b<w11.heap.size)) (.refl _ _) (fun b hb h=>⟨⟨h.1.1,fun e=>h.1.2 (Qb e)⟩,hb⟩))
   have HL1:=Qq l1;have HFl:=Qq fl1
   clear hc hrv hcap htl hmr fl1 hrow
   go_upto_region 15 with (first
     | (go_at_call 37;refine HF.out.mono ?_;rintro e w' ⟨rfl,rfl⟩)
     | (go_at_call 26;refine (HP4.out _ HW11.out).mono ?_;rintro e w' ⟨rfl,rfl⟩)
     | (at_builtin;refine Yq (r:=Ql) (by decide) Zu rfl (.tmp 76) (.tmp 81) _ rfl 44 i0 (.agg zV) 80 underlying40 HJ.out HJ2.out HJ3.out HJ4.out rfl (by omega) (fun b=>But (fun b=>W1.heap.size≤b) (.slice (some ⟨g,0,none⟩) n capa) b∧b<w11.heap.size) w11.heap.size w11 (.slice none 0 0) [] [] rfl (Own.nil _ _ _ _ _) (.slice q mr qc) r.rows rfl HRV.out mr HN1.out (by omega) (by omega) ?_;intro p5 c5 css5 w5 hO5 hL5;have HO5:=Qq hO5;have HL5:=Qq hL5;clear hO5 hL5))
   have hx5:=(HL5.out.other _ hH11 (fun e=>by cases e)).trans HXu.out
   clear h0 h1 h2 h3 h4 l1
   obtain ⟨h0,h1,h2,h3,h4⟩:=row5 hx5
   have hr5:(Value.slice p5 mr c5).ownBlock=none∨∃ b,(Value.slice p5 mr c5).ownBlock=some b∧w11.heap.size≤b:=by
    cases e:(Value.slice p5 mr c5).ownBlock with
    | none=>exact .inl rfl
    | some b=>exact .inr ⟨b,rfl,(HO5.out.row.lt b e).1⟩
   have hne5:∀ b,b<w11.heap.size→some b≠(Value.slice p5 mr c5).ownBlock:=fun b hb e=>by have:=(HO5.out.row.lt b e.symm).1;omega
   have HNe5:=Qq hne5
   have HU5:=Qq (show Qh (But (fun b=>But (fun b=>W1.heap.size≤b) (.slice (some ⟨g,0,none⟩) n capa) b∧b<w11.heap.size) (.slice p5 mr c5)) w5 (vcs u x3 y3 x4 y4) u from (HU11.out.move (S':=(fun b=>But (fun b=>W1.heap.size≤b) (.slice (some ⟨g,0,none⟩) n capa) b∧b<w11.heap.size)) (fun b hb _=>HL5.out.other b hb.2 (fun e=>by cases e)) (fun _ _ h=>h)).move (.refl _ _) (fun b _ h=>⟨h,hne5 b h.2⟩))
   have HN2:=Qq (show ([]++r.rows).length=mr by rw [List.nil_append,HMr.out])
   unfold vcs at HU5
   clear hx5 hr5 hne5
   go_wp2_with (at_builtin;refine Zm (r:=Ql) (by decide) rfl (.tmp 85) (.tmp 87) _ rfl 44 i0 (.agg zV) 80 underlying40 HJ.out HJ2.out HJ3.out HJ4.out rfl (by omega) (fun b=>But (fun b=>W1.heap.size≤b) (.slice (some ⟨g,0,none⟩) n capa) b∧b<w11.heap.size) w11.heap.size w5 (.slice p5 mr c5) ([]++r.rows) css5 [.int .i64 u.kind,.int .i64 u.n,.string ⟨u.s.toArray⟩,.slice x3 u.names.length y3,.slice x4 u.kids.length y4] u rfl HO5.out rfl HU5.out (by simp [Value.oneCell']) mr HN2.out (by omega) (HL5.out.size) ?_;intro p6 c6 css6 w6 hO6 hL6;have l6:=(World.cell?_of_block (hL6.other g (by have:=HL5.out.size;omega) (HNe5.out g hg11))).trans ((World.cell?_of_block (HL5.out.other g hg11 (fun e=>by cases e))).trans HL1.out);have fl6:=(World.frozen?_of_block (a:=⟨g,j*2+1,none⟩) (hL6.other g (by have:=HL5.out.size;omega) (HNe5.out g hg11))).trans ((World.frozen?_of_block (a:=⟨g,j*2+1,none⟩) (HL5.out.other g hg11 (fun e=>by cases e))).trans HFl.out);have HO6:=Qq hO6;have HL6:=Qq hL6;clear hO6 hL6)
   have hlz:([]++r.rows++[u]).length=mr+1:=by rw [List.length_append,HN2.out];rfl
   have hO6':=HO11.out.below (HL5.out.below.trans HL6.out.below)
   have hs6:Sl Ql (But (fun b=>W1.heap.size≤b) (.slice (some ⟨g,0,none⟩) n capa)) w6 (.slice p6 (mr+1) c6) ([]++r.rows++[u]):=HO6.out.sl' (by rw [hlz];omega) (fun b hb=>by
    have:=(HO6.out.row.lt b hb).1;have:=HB11.out.size
    exact ⟨by show W1.heap.size≤b;omega,fun e=>by have e':b=g:=Qb e;omega⟩) (fun b _ h=>h.1)
   obtain ⟨css',hO7⟩:=Gh (zs:=[]++r.rows++[u]) HLl.out hO6' HR.out (rv':=.slice p6 (mr+1) c6) hs6 ⟨p6,c6,by rw [hlz],by rw [hlz];exact HO6.out.cap.2⟩
   have hdy:Ua s (5+(k+1)) (l.set j ⟨r.table,[]++r.rows++[u]⟩):=(HGl.out.mono (by omega)).set HR.out _ (fun v hv=>by
    rcases List.mem_append.1 hv with hv | hv
    ·exact HGl.out.rows r (Qy HR.out) v (by simpa using hv)
    obtain rfl:=List.mem_singleton.1 hv
    exact HUo.out) (by rw [hlz];omega)
   exact ⟨⟨k+1,_,_,by omega,rfl,by go_num,⟨_,css',hdy,by rw [List.length_set,HLl.out],hO7⟩,(HB11.out.thn (HL5.out.below.trans HL6.out.below)).setCell (p:=⟨g,j*2+1,none⟩) hgB _⟩,by simp [intOf];omega⟩
  have hq4:(z4==0)=false:=by simpa using hz4
  have HIns:=Qq ((Jc (fun b=>W1.heap.size≤b) (.slice (some ⟨g,0,none⟩) n capa) l t.name u [.int .i64 u.kind,.int .i64 u.n,.string ⟨u.s.toArray⟩,.slice x3 u.names.length y3,.slice x4 u.kids.length y4] w11 HSl11.out (HVu.out.move (.refl _ _) (fun b _ h=>h.1.1)) (by rw [HLl.out];omega) (fun r hr=>by have:=HGl.out.few r hr;omega)).mono (R':=fun e w2=>∃ p cap css,e=.returned (.slice p n cap)∧Own Zl 57 (fun b=>W1.heap.size≤b) W1.heap.size w2 (.slice p n cap) (Uv l t.name u) css∧Below w11.heap.size w11 w2) (by
   rintro e w2 ⟨p,cap,css,rfl,x1,x2⟩
   have hw9:=HB11.out.size
   rw [Ut,HLl.out] at x1 ⊢
   exact ⟨p,cap,css,rfl,x1.weak (by omega) (fun b _ h=>h.elim id (fun h=>by show W1.heap.size≤b;omega)),x2⟩))
  unfold sv at HIns
  go_wp2_with (first
    | (go_at_call 37;refine HF.out.mono ?_;rintro e w' ⟨rfl,rfl⟩)
    | (go_at_call 26;refine (HP4.out _ HW11.out).mono ?_;rintro e w' ⟨rfl,rfl⟩)
    | (go_at_call 23;refine HIns.out.mono ?_;rintro e w12 ⟨p9,cap9,css9,rfl,hO9,hb9'⟩;have HO9:=Qq hO9;have HB12:=Qq hb9';clear hO9 hb9'))
  go_roundw
  case measure=>simp [intOf];omega
  case rel=>exact ⟨k+1,_,_,by omega,rfl,by go_num,⟨_,css9,(HGl.out.ins t.name u HUo.out),by rw [Ut,HLl.out],HO9.out⟩,HB11.out.thn HB12.out⟩
 have hkc:k=cn:=by omega
 have hq:¬ (k:Int)<(cn:Int):=by omega
 obtain ⟨l,css,hgl,hll,hO⟩:=HDa.out
 have hcap:=hO.cap
 have hSl:Sl Zl (fun b=>w.heap.size≤b) wr (.slice pa n capa) l:=by
  have:=hO.sl (S':=fun b=>w.heap.size≤b) (by omega) (fun b h=>by show w.heap.size≤b;omega) (fun b _ h=>by show w.heap.size≤b;have h':W1.heap.size≤b:=h;omega)
  exact this
 obtain ⟨p5,c5,hrun,hs5,hl5⟩:=G5 (P:=prog) 28 57 underlying28 sizeOf57 hSl hcap.2 1 (by omega)
 have hrun1:∀ W,(Instr.slice 28 (.slice pa n capa) (some (.int .i64 1)) none none).run prog W=.ok (.slice p5 (n - 1) c5) W:=hrun
 have HS5:=Qq hs5;have HL5:=Qq hl5;have HSl:=Qq hSl;have HLl:=Qq hll;have HN':=Qq HN.out
 have HGl:=Qq (show ∀ r ∈ l,(∀ v ∈ r.rows,Xu v)∧r.rows.length≤8 from fun r hr=>⟨hgl.rows r hr,by have:=hgl.few r hr;omega⟩)
 have HTb:=Qq hgl.tabs
 clear hcap hSl hs5 hl5 hgl hO hrun hll
 go_upto_region 17 with (go_at_call 26;refine (HP0.out _ HWa.out).mono ?_;rintro e w' ⟨rfl,rfl⟩)
 by_cases hz:z21=0
 ·have hqz:(z21==0)=true:=by rw [hz];rfl
  go_wp2_with (go_at_call 26;refine (HP21.out _ HWa.out).mono ?_;rintro e w' ⟨rfl,rfl⟩)
  go_ret
  exact ⟨l.drop 1,p5,c5,by rw [HL5.out];rfl,fun r hr=>HGl.out r (List.mem_of_mem_drop hr),by rw [HL5.out,HN.out];omega,⟨1,by rw [List.map_drop,HTb.out]⟩,by rw [HL5.out];exact HS5.out,HWa.out⟩
 have hqz:(z21==0)=false:=by simpa using hz
 go_wp2_with (go_at_call 26;refine (HP21.out _ HWa.out).mono ?_;rintro e w' ⟨rfl,rfl⟩)
 go_ret
 exact ⟨l,pa,capa,by rw [HLl.out];rfl,HGl.out,by rw [HLl.out,HN.out];exact Q9 _,⟨0,by rw [HTb.out];rfl⟩,by rw [HLl.out];exact HSl.out,HWa.out⟩
theorem Sz (S:Nat→Prop) (v:Value) (l:List Int) (w:World) (hs:Y6 S w v l) (hi:V9 l) (hk:Zp l 0 13=5):
  Calls prog 35 #[v,.int .i64 0] w (Vi w (Gen.check 5)):=by
 have HP:=Qq (fun W (hb:Below w.heap.size w W)=>Zt S v l 0 13 W (hs.below hb) hi (by omega) (by omega))
 rw [hk] at HP
 obtain ⟨p,cap,rfl,_⟩:=hs.len
 clear hs hi hk
 go_enter func35,ntmps35
 go_upto_region 8 with fail
 generalize hW8:(((((((w.alloc _).alloc _).alloc _).alloc _).alloc _).alloc _).alloc _).alloc _=W8
 have hb8:=eqB hW8 (Zq (Zq (Zq (Zq (Zq (Zq (Zq (Qn w _) _) _) _) _) _) _) _)
 have hz8:W8.heap.size=w.heap.size+8:=by rw [← hW8];simp
 have r8:=eqH (b:=w.heap.size) hW8 (Qi (Qi (Qi (Qi (Qi (Qi (Qi (Z8 rfl _) _) _) _) _) _) _) _)
 have hS2:=((((Yj.row (show W8.heap[w.heap.size+1+1+1+1]?=some (.cells zQ 35 (0,0)) from by rw [← hW8];exact Qi (Qi (Qi (Z8 (by simp) _) _) _) _)).app (Yj.row (show W8.heap[w.heap.size+1]?=some (.cells #[.int .i64 3,.string ⟨#[97]⟩,.int .i64 0,.string ⟨#[]⟩,.slice none 0 0,.slice none 0 0,.slice none 0 0,.int .i64 0,.int .i64 0] 35 (0,0)) from by rw [← hW8];exact Qi (Qi (Qi (Qi (Qi (Qi (Z8 (by simp) _) _) _) _) _) _) _))).app (Yj.row (show W8.heap[w.heap.size+1+1]?=some (.cells #[.int .i64 3,.string ⟨#[98]⟩,.int .i64 0,.string ⟨#[]⟩,.slice none 0 0,.slice none 0 0,.slice none 0 0,.int .i64 0,.int .i64 0] 35 (0,0)) from by rw [← hW8];exact Qi (Qi (Qi (Qi (Qi (Z8 (by simp) _) _) _) _) _) _))).app (Yj.row (show W8.heap[w.heap.size+1+1+1]?=some (.cells #[.int .i64 3,.string ⟨#[99]⟩,.int .i64 0,.string ⟨#[]⟩,.slice none 0 0,.slice none 0 0,.slice none 0 0,.int .i64 0,.int .i64 0] 35 (0,0)) from by rw [← hW8];exact Qi (Qi (Qi (Qi (Z8 (by simp) _) _) _) _) _)))
 have hG:=(Vz (Vz (Vz (Y2 (show w.heap.size<w.heap.size+1+1+1+1 by omega) (.int .i64 3) (.string ⟨#[100]⟩) (.int .i64 0) (.string ⟨#[]⟩) (.slice none 0 0) (.slice none 0 0) (.slice none 0 0) (.int .i64 0) (.int .i64 0)) (Y2 (show w.heap.size<w.heap.size+1 by omega) (.int .i64 3) (.string ⟨#[97]⟩) (.int .i64 0) (.string ⟨#[]⟩) (.slice none 0 0) (.slice none 0 0) (.slice none 0 0) (.int .i64 0) (.int .i64 0))) (Y2 (show w.heap.size<w.heap.size+1+1 by omega) (.int .i64 3) (.string ⟨#[98]⟩) (.int .i64 0) (.string ⟨#[]⟩) (.slice none 0 0) (.slice none 0 0) (.slice none 0 0) (.int .i64 0) (.int .i64 0))) (Y2 (show w.heap.size<w.heap.size+1+1+1 by omega) (.int .i64 3) (.string ⟨#[99]⟩) (.int .i64 0) (.string ⟨#[]⟩) (.slice none 0 0) (.slice none 0 0) (.slice none 0 0) (.int .i64 0) (.int .i64 0)))
 have HB8:=Qq hb8;have HR:=Qq r8
 clear hW8 hb8 r8 hz8
 go_upto_region 18 with (go_at_call 26;refine (HP.out _ HB8.out).mono ?_;rintro e w' ⟨rfl,rfl⟩)
 refine let_mvar% ?Lq1:=fun w':World=>w'.cell? ⟨w.heap.size+1+1+1+1,0,none⟩=some (.int .i64 3)∧w'.cell? ⟨w.heap.size+1+1+1+1,1,none⟩=some (.string ⟨#[100]⟩)∧w'.cell? ⟨w.heap.size+1+1+1+1,2,none⟩=some (.int .i64 0)∧w'.cell? ⟨w.heap.size+1+1+1+1,3,none⟩=some (.string ⟨#[]⟩)∧w'.cell? ⟨w.heap.size+1+1+1+1,4,none⟩=some (.slice none 0 0)∧w'.cell? ⟨w.heap.size+1+1+1+1,5,none⟩=some (.slice none 0 0)∧w'.cell? ⟨w.heap.size+1+1+1+1,6,none⟩=some (.slice none 0 0)∧w'.cell? ⟨w.heap.size+1+1+1+1,7,none⟩=some (.int .i64 0)∧w'.cell? ⟨w.heap.size+1+1+1+1,8,none⟩=some (.int .i64 0)∧w'.cell? ⟨w.heap.size+1,0,none⟩=some (.int .i64 3)∧w'.cell? ⟨w.heap.size+1,1,none⟩=some (.string ⟨#[97]⟩)∧w'.cell? ⟨w.heap.size+1,2,none⟩=some (.int .i64 0)∧w'.cell? ⟨w.heap.size+1,3,none⟩=some (.string ⟨#[]⟩)∧w'.cell? ⟨w.heap.size+1,4,none⟩=some (.slice none 0 0)∧w'.cell? ⟨w.heap.size+1,5,none⟩=some (.slice none 0 0)∧w'.cell? ⟨w.heap.size+1,6,none⟩=some (.slice none 0 0)∧w'.cell? ⟨w.heap.size+1,7,none⟩=some (.int .i64 0)∧w'.cell? ⟨w.heap.size+1,8,none⟩=some (.int .i64 0)∧w'.cell? ⟨w.heap.size+1+1,0,none⟩=some (.int .i64 3)∧w'.cell? ⟨w.heap.size+1+1,1,none⟩=some (.string ⟨#[98]⟩)∧w'.cell? ⟨w.heap.size+1+1,2,none⟩=some (.int .i64 0)∧w'.cell? ⟨w.heap.size+1+1,3,none⟩=some (.string ⟨#[]⟩)∧w'.cell? ⟨w.heap.size+1+1,4,none⟩=some (.slice none 0 0)∧w'.cell? ⟨w.heap.size+1+1,5,none⟩=some (.slice none 0 0)∧w'.cell? ⟨w.heap.size+1+1,6,none⟩=some (.slice none 0 0)∧w'.cell? ⟨w.heap.size+1+1,7,none⟩=some (.int .i64 0)∧w'.cell? ⟨w.heap.size+1+1,8,none⟩=some (.int .i64 0)∧w'.cell? ⟨w.heap.size+1+1+1,0,none⟩=some (.int .i64 3)∧w'.cell? ⟨w.heap.size+1+1+1,1,none⟩=some (.string ⟨#[99]⟩)∧w'.cell? ⟨w.heap.size+1+1+1,2,none⟩=some (.int .i64 0)∧w'.cell? ⟨w.heap.size+1+1+1,3,none⟩=some (.string ⟨#[]⟩)∧w'.cell? ⟨w.heap.size+1+1+1,4,none⟩=some (.slice none 0 0)∧w'.cell? ⟨w.heap.size+1+1+1,5,none⟩=some (.slice none 0 0)∧w'.cell? ⟨w.heap.size+1+1+1,6,none⟩=some (.slice none 0 0)∧w'.cell? ⟨w.heap.size+1+1+1,7,none⟩=some (.int .i64 0)∧w'.cell? ⟨w.heap.size+1+1+1,8,none⟩=some (.int .i64 0);?_
 have HS:=Qq (fun w' (h:Yj (Vu (w.heap.size+1+1+1+1) (.int .i64 3) (.string ⟨#[100]⟩) (.int .i64 0) (.string ⟨#[]⟩) (.slice none 0 0) (.slice none 0 0) (.slice none 0 0) (.int .i64 0) (.int .i64 0)++Vu (w.heap.size+1) (.int .i64 3) (.string ⟨#[97]⟩) (.int .i64 0) (.string ⟨#[]⟩) (.slice none 0 0) (.slice none 0 0) (.slice none 0 0) (.int .i64 0) (.int .i64 0)++Vu (w.heap.size+1+1) (.int .i64 3) (.string ⟨#[98]⟩) (.int .i64 0) (.string ⟨#[]⟩) (.slice none 0 0) (.slice none 0 0) (.slice none 0 0) (.int .i64 0) (.int .i64 0)++Vu (w.heap.size+1+1+1) (.int .i64 3) (.string ⟨#[99]⟩) (.int .i64 0) (.string ⟨#[]⟩) (.slice none 0 0) (.slice none 0 0) (.slice none 0 0) (.int .i64 0) (.int .i64 0)) w')=>(show ?Lq1 w' from Yj.spread h))
 have HG:=Qq hG
 have HPt:=Qq (fun w' z0 z1 z2 z3 z4 z5 z6 z7 z8 (h:Yj _ w')=>HS.out _ (h.put9 HG.out z0 z1 z2 z3 z4 z5 z6 z7 z8))
 unfold put9 at HPt
 have HBc:=HB8
 clear hG
 have hTok1:=Qq True.intro;have hTok2:=Qq True.intro;have hTokK:=Qq True.intro;have hTokL:=Qq True.intro
 go_region_held3 ?Lq1 (first | with_reducible exact HS.out _ hS2 | with_reducible exact HS.out _ hS2.drew | with_reducible exact HS.out _ (hS2.alloc _) | with_reducible exact HS.out _ (hS2.alloc _).drew | with_reducible exact HS.out _ ((hS2.alloc _).alloc _) | with_reducible exact HS.out _ ((hS2.alloc _).alloc _).drew | with_reducible exact HS.out _ (((hS2.alloc _).alloc _).alloc _) | with_reducible exact HPt.out _ _ _ _ _ _ _ _ _ _ hS2)
  (first
   | (have hn:=HX2.out;clear hn;(repeat (first
      | (have hn:=HX2.out;clear hn;have hk:=hTokK.out;clear hTokK hk;generalize hWK:World.alloc _ (Obj.cells #[.int .i64 3,.string ⟨#[100]⟩,.int .i64 0,.string ⟨#[]⟩,.slice none 0 0,.slice none 0 0,.slice none 0 0,.int .i64 0,.int .i64 0,.int .i64 ek1,.string es1,.int .i64 en1,.string et1,.slice e11 f11 g11,.slice e21 f21 g21,.slice e31 f31 g31,.int .i64 ea1,.int .i64 ez1,.int .i64 ek2,.string es2,.int .i64 en2,.string et2,.slice e12 f12 g12,.slice e22 f22 g22,.slice e32 f32 g32,.int .i64 ea2,.int .i64 ez2] 35 _)=WK;have hbK:=Xw hWK;have hkK:=Uw hWK;have hlK:=Je hWK HR.out;have hS3:=hS2.later hbK;clear hS2;have hS2:=hS3;clear hS3;have HR0:=Qq (Zi hbK HR.out);clear HR;have HR:=HR0;clear HR0;have HC0:=Qq (HBc.out.thn hbK);clear HBc;have HBc:=HC0;clear HC0;(try (have h0:=Qq (HX1.out.move (.of_below hbK) (fun _ _ h=>h));clear HX1;have HX1:=h0;clear h0));(try (have h0:=Qq (HX2.out.move (.of_below hbK) (fun _ _ h=>h));clear HX2;have HX2:=h0;clear h0));have HKK:=Qq hkK;have HLK:=Qq hlK;clear hWK hbK hkK hlK)
      | fail));have hn:=HKK.out;clear hn;have hk:=hTokL.out;clear hTokL hk;obtain ⟨⟨f0,f1,f2,f3,f4,f5,f6,f7,f8⟩,y0,y1,y2,y3,y4,y5,y6,y7,y8⟩:=Rc HR.out;go_simp)
   | (have hn:=HX1.out;clear hn;have hk:=hTok2.out;go_at_call 70;refine (Xx w.heap.size [61,61] _ _ _ _ _ (by simp) (by exact (Zx 3 [99] 0 [] (by simp) (by simp))) (by exact (Zx 3 [99] 0 [] (by simp) (by simp))) (by exact Qf HR.out)).mono ?_;rintro e W2 ⟨ek2,es2,en2,et2,e12,f12,g12,e22,f22,g22,e32,f32,g32,ea2,ez2,rfl,hx2,hb2⟩;clear hTok2 hk;(try (have hb0:=X8 hb2;clear hb2;have hb2:=hb0;clear hb0));have hS3:=hS2.later hb2;clear hS2;have hS2:=hS3;clear hS3;have HR0:=Qq (Zi hb2 HR.out);clear HR;have HR:=HR0;clear HR0;have HC0:=Qq (HBc.out.thn hb2);clear HBc;have HBc:=HC0;clear HC0;(try (have h0:=Qq (Zi hb2 HKK.out);clear HKK;have HKK:=h0;clear h0));(try (have h0:=Qq (HX1.out.move (.of_below hb2) (fun _ _ h=>h));clear HX1;have HX1:=h0;clear h0));have HX2:=Qq hx2;clear hx2 hb2)
   | (have hk:=hTok1.out;go_at_call 70;refine (Xx w.heap.size [60] _ _ _ _ _ (by simp) (by exact (Zx 3 [97] 0 [] (by simp) (by simp))) (by exact (Zx 3 [98] 0 [] (by simp) (by simp))) (by exact Qf HR.out)).mono ?_;rintro e W1 ⟨ek1,es1,en1,et1,e11,f11,g11,e21,f21,g21,e31,f31,g31,ea1,ez1,rfl,hx1,hb1⟩;clear hTok1 hk;(try (have hb0:=X8 hb1;clear hb1;have hb1:=hb0;clear hb0));have hS3:=hS2.later hb1;clear hS2;have hS2:=hS3;clear hS3;have HR0:=Qq (Zi hb1 HR.out);clear HR;have HR:=HR0;clear HR0;have HC0:=Qq (HBc.out.thn hb1);clear HBc;have HBc:=HC0;clear HC0;(try (have h0:=Qq (Zi hb1 HKK.out);clear HKK;have HKK:=h0;clear h0));(try (have h0:=Qq (HX2.out.move (.of_below hb1) (fun _ _ h=>h));clear HX2;have HX2:=h0;clear h0));have HX1:=Qq hx1;clear hx1 hb1)
   | fail)
 all_goals
  go_wp2_with fail
  show bodyPost _ _ _ _ _ (put9 _ w.heap.size (.int .i64 12) (.string ⟨#[]⟩) (.int .i64 0) (.string ⟨#[]⟩) (.slice none 0 0) (.slice none 0 0) (.slice (some ⟨_,0,none⟩) 3 3) (.int .i64 0) (.int .i64 0))
  exact Q7 (v:=.agg #[.int .i64 12,.string ⟨#[]⟩,.int .i64 0,.string ⟨#[]⟩,.slice none 0 0,.slice none 0 0,.slice (some ⟨_,0,none⟩) 3 3,.int .i64 0,.int .i64 0]) (by simp [results,results35,go_sem,Y4 HR.out]) rfl (Vy (Yk (nm:=[]) (s:=[]) (by simp) (by simp) (Sl.nil _ _ _) (Sl.nil _ _ _) (Z4 (xs:=[Gen.d,Gen.op [60] [Gen.a,Gen.b],Gen.op [61,61] [Gen.c,Gen.c]]) HKK.out HLK.out (((Cs.one (r:=Ys) (Zx 3 [100] 0 [] (by simp) (by simp))).app (Cs.one (r:=Ys) HX1.out)).app (Cs.one (r:=Ys) HX2.out)) rfl rfl (by simp))) HBc.out rfl)
theorem Lc (S:Nat→Prop) (v:Value) (l:List Int) (w:World) (hs:Y6 S w v l) (hi:V9 l):
  Calls prog 35 #[v,.int .i64 0] w (Vi w (Gen.check (Zp l 0 13).toNat)):=by
 obtain ⟨h1,h2⟩:=Jx l 0 13 (by omega)
 obtain ⟨z,hz⟩:=eX (Zp l 0 13)
 rw [hz] at h1 h2
 have h:z=0∨z=1∨z=2∨z=3∨z=4∨z=5∨z=6∨z=7∨z=8∨z=9∨z=10∨z=11∨z=12:=by omega
 rcases h with h | h | h | h | h | h | h | h | h | h | h | h | h
 ·rw [hz,h];exact Hy S v l w hs hi (by rw [hz,h])
 ·rw [hz,h];exact H9 S v l w hs hi (by rw [hz,h])
 ·rw [hz,h];exact Ep S v l w hs hi (by rw [hz,h])
 ·rw [hz,h];exact Ss S v l w hs hi (by rw [hz,h])
 ·rw [hz,h];exact Tw S v l w hs hi (by rw [hz,h])
 ·rw [hz,h];exact Sz S v l w hs hi (by rw [hz,h])
 ·rw [hz,h];exact Si S v l w hs hi (by rw [hz,h])
 ·rw [hz,h];exact Sg S v l w hs hi (by rw [hz,h])
 ·rw [hz,h];exact Se S v l w hs hi (by rw [hz,h])
 ·rw [hz,h];exact Sf S v l w hs hi (by rw [hz,h])
 ·rw [hz,h];exact Nk S v l w hs hi (by rw [hz,h])
 ·rw [hz,h];exact Nu S v l w hs hi (by rw [hz,h])
 rw [hz,h];exact Ob S v l w hs hi (by rw [hz,h])
end Go.Proofs.YtppbaladeefnkaaGreatDoor
