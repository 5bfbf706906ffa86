import Derived.Test.YtppbaladeefnkaaGreatDoorV37
set_option maxRecDepth 100000
set_option maxHeartbeats 400000000
namespace Go.Proofs.YtppbaladeefnkaaGreatDoor
open Go.RowKit Go.Shelf Go.Lib Tryz
theorem S7:Us.P5:=by
 intro _ _ s l w _ _ _ _ tc _ _ _ _ HTO HRO _ n _ HL _ _ _ HT HN HNl W1 HB1 HX1 HZ1 hlt _ _ _ _ _ _ _ _ _ _ _ _ _ _ _ _ _ _ _ _ _ _ _ k hkk HBr HWr _ _ _ _ _ _ _ _ _ _ _ _ _ _ _ _ _ _ _ _ _ _ _ _ _ _ _ _ _ _ _ _ _ _ _ _ _ _ _ _ _ _ _ _ _ _ _ _ _ _ _ _ _ _ _ _ _ _ _ _ _ _ _ _ _ _ _ _ _ _ _ _ _ _ _ _ _ _ _ _ _ _ _ _ _ _ _ _ _ _ _ _ _ _ _ _ _ _ _ _ _ _ _ _ _ _ _ _ _ _ _ _ _ _ _ _ _ _ _ _ _ _ _ _ _ _ _ _ _ _ _ _ _ _ _ _ _ _ _ _ _ _ _ _ _ _ _ _ _ _ _ _ _ _ _ _ _ _ _ _ _ _ _ _ _ _ _ _ _ _ _ _ _ _ _ _ _ _ _ _ _ _ _ _ _ _ _ _ _ _ _ _ _ _ _ _ _ _ _ _ _ _ _ _ _ _ _ _ _ _ _ _ _ _ _ _ _ _ _ _ _ _ _ _ _ _ _ _ _ _ _ _ _ _ _ _ _ _ _ _ _ _ _ _ _ _ _ _ _ _ _ _ _ _ _ _ _ _ _ wr _ _ _ _ _ _ _ _ _ _ _ _ _ _ _ _ _ _ _ _ _ _ _ _ _ _ _ _ _ _ _ _ _ _ _ _ _ _ _ _ _ _ _ _ _ _ _ _ i _ HBo _ hlt2
 have hli:i<l.length:=by rw [HNl.out];exact hlt2
 have hi1i:(0:Int)≤(i:Int):=by omega
 have hi2i:(i:Int)<(n:Int):=by omega
 obtain ⟨r,hr⟩:∃ r,l[i]?=some r:=⟨_,Qx (by rw [HNl.out];assumption)⟩
 obtain ⟨lb,loff,rcs,hlp,hlb,_,_,⟨rv,hrcs,_,hrv⟩,hrc⟩:=HL.out.elem hr
 subst hlp;subst hrcs
 obtain ⟨q,qc,hrvq,hml⟩:=hrv.len
 obtain ⟨m,hm⟩:=eX (r.rows.length)
 rw [hm] at hrvq hml
 subst hrvq
 have HRv:=Qq hrv;have HM:=Qq hm;have HRr:=Qq (HRO.out r (Qy hr))
 have HRC:=hT2 (o:=loff+i*2) (x0:=.string ⟨r.table.toArray⟩) hlb hrc
 have hlbw:lb<w.heap.size:=hlb
 clear hr hrc hrv hm hlb
 obtain ⟨t,ht⟩:∃ t,s.tables[i]?=some t:=⟨_,Qx (by rw [HN.out];assumption)⟩
 obtain ⟨tb,toff,tcs',htp,htb,_,_,hTR,htc⟩:=HT.out.elem ht
 subst htp
 obtain ⟨cp9,cc9,kp9,kc9,rp9,rc9,k9,s19,n9,s29,p19,n19,c19,p29,n29,c29,p39,n39,c39,a9,z9,hcs,htn,hcol,hkey,href,hchk⟩:=Zk hTR
 simp only [tcs] at hcs
 subst hcs
 have HTR:=Qq hTR;have HTo:=Qq (HTO.out t (Qy ht));have HRf:=Qq href
 have HTC:=hT13 (o:=toff+i*13) htb htc
 have htbw:tb<w.heap.size:=htb
 clear ht hTR htc htn hcol hkey href hchk htb
 go_upto_region 47 with fail
 go_loopw [22,23] (fun t22 _ wr=>∃ k:Nat,k≤m∧t22=.int .i64 k∧Aside (Below W1.heap.size W1 wr)) (fun t22 _ _=>m - (intOf t22).toNat)
 case atStart=>exact ⟨0,Q8 _,rfl,HBo.out⟩
 obtain ⟨k,hkk,rfl,hBr⟩:=hrel
 have HBr:=Qq (show Below W1.heap.size W1 wr from hBr)
 have HWr:=Qq (HB1.out.thn HBr.out)
 clear hBr
 obtain ⟨e0,e1⟩:=HRC.out wr HWr.out
 by_cases hlt3:k<m
 ·have hlr:k<r.rows.length:=by rw [HM.out];exact hlt3
  have hi1k:(0:Int)≤(k:Int):=by omega
  have hi2k:(k:Int)<(m:Int):=by omega
  obtain ⟨x,hx⟩:∃ x,r.rows[k]?=some x:=⟨_,Qx (by rw [HM.out];assumption)⟩
  obtain ⟨xb,xoff,xp3,xk3,xp4,xk4,hqx,hxbx,hvx,d0,d1,d2,d3,d4⟩:=HRv.out.val hx
  subst hqx
  have hxbw:xb<w.heap.size:=hxbx
  have HVx:=Qq hvx;have HOx:=Qq (HRr.out x (Qy hx))
  have HCx:=Qq (fun W (h:Below w.heap.size w W)=>(Qe (show W.cell? ⟨xb,xoff+k*5,none⟩=some (.int .i64 x.kind) from kD h hxbx d0) (Qe (show W.cell? ⟨xb,xoff+k*5+1,none⟩=some (.int .i64 x.n) from kD h hxbx d1) (Qe (show W.cell? ⟨xb,xoff+k*5+2,none⟩=some (.string ⟨x.s.toArray⟩) from kD h hxbx d2) (Qe (show W.cell? ⟨xb,xoff+k*5+3,none⟩=some (.slice xp3 x.names.length xk3) from kD h hxbx d3) (show W.cell? ⟨xb,xoff+k*5+4,none⟩=some (.slice xp4 x.kids.length xk4) from kD h hxbx d4))))))
  clear hx hvx hxbx d0 d1 d2 d3 d4
  obtain ⟨x0,x1,x2,x3,x4⟩:=HCx.out wr HWr.out
  obtain ⟨g0,g1,g2,g3,g4,g5,g6,g7,g8,g9,g10,g11,g12⟩:=HTC.out wr HWr.out
  have hXwr:=kB HBr.out HX1.out
  have c1:=rA1 hXwr
  clear hXwr
  refine let_mvar% ?Lq1:=fun w':World=>w'.cell? ⟨w.heap.size,1,none⟩=some (.slice (some ⟨tb,toff,none⟩) n tc)∧w'.cell? ⟨lb,loff+i*2+1,none⟩=some (.slice (some ⟨xb,xoff,none⟩) m qc)∧w'.cell? ⟨xb,xoff+k*5,none⟩=some (.int .i64 x.kind)∧w'.cell? ⟨xb,xoff+k*5+1,none⟩=some (.int .i64 x.n)∧w'.cell? ⟨xb,xoff+k*5+2,none⟩=some (.string ⟨x.s.toArray⟩)∧w'.cell? ⟨xb,xoff+k*5+3,none⟩=some (.slice xp3 x.names.length xk3)∧w'.cell? ⟨xb,xoff+k*5+4,none⟩=some (.slice xp4 x.kids.length xk4)∧w'.cell? ⟨tb,toff+i*13,none⟩=some (.string ⟨t.name.toArray⟩)∧w'.cell? ⟨tb,toff+i*13+1,none⟩=some (.slice cp9 t.columns.length cc9)∧w'.cell? ⟨tb,toff+i*13+2,none⟩=some (.slice kp9 t.key.length kc9)∧w'.cell? ⟨tb,toff+i*13+3,none⟩=some (.slice rp9 t.refs.length rc9)∧w'.cell? ⟨tb,toff+i*13+4,none⟩=some (.int .i64 k9)∧w'.cell? ⟨tb,toff+i*13+5,none⟩=some (.string s19)∧w'.cell? ⟨tb,toff+i*13+6,none⟩=some (.int .i64 n9)∧w'.cell? ⟨tb,toff+i*13+7,none⟩=some (.string s29)∧w'.cell? ⟨tb,toff+i*13+8,none⟩=some (.slice p19 n19 c19)∧w'.cell? ⟨tb,toff+i*13+9,none⟩=some (.slice p29 n29 c29)∧w'.cell? ⟨tb,toff+i*13+10,none⟩=some (.slice p39 n39 c39)∧w'.cell? ⟨tb,toff+i*13+11,none⟩=some (.int .i64 a9)∧w'.cell? ⟨tb,toff+i*13+12,none⟩=some (.int .i64 z9);?_
  have HSf:=Qq (fun (w':World) (h:Below wr.heap.size wr w')=>(show ?Lq1 w' from ⟨kC h c1,kC h e1,kC h x0,kC h x1,kC h x2,kC h x3,kC h x4,kC h g0,kC h g1,kC h g2,kC h g3,kC h g4,kC h g5,kC h g6,kC h g7,kC h g8,kC h g9,kC h g10,kC h g11,kC h g12⟩))
  have HS0:=Qq (HSf.out wr.drew (Qz _ _).drew)
  have HSat:=Qq (fun W (hW:Below wr.heap.size wr W)=>rsat_any _ _ 8 t x [.string ⟨t.name.toArray⟩,.slice cp9 t.columns.length cc9,.slice kp9 t.key.length kc9,.slice rp9 t.refs.length rc9,.int .i64 k9,.string s19,.int .i64 n9,.string s29,.slice p19 n19 c19,.slice p29 n29 c29,.slice p39 n39 c39,.int .i64 a9,.int .i64 z9] _ W HTo.out.check (Qt.frame HTR.out (.of_below (HWr.out.thn hW))) (HVx.out.move (.of_below (HWr.out.thn hW)) (fun _ _ h=>h)) HOx.out.good.lens.1 (by have:=HOx.out.few;omega) (fun v hv=>(HOx.out.good.boolOk).kids v hv))
  unfold vcs at HSat
  go_upto_region 49 with fail
  clear c1 e1 x0 x1 x2 x3 x4 g0 g1 g2 g3 g4 g5 g6 g7 g8 g9 g10 g11 g12
  go_region_held3 ?Lq1 (first | with_reducible exact HS0.out | with_reducible exact hS2) (first
    | (go_at_call 112;refine (HSat.out _ (Qz _ _).drew).mono ?_;rintro e w6 ⟨⟨bb,rfl⟩,hb6⟩;have hb6':Below wr.heap.size wr w6:=(Qz _ _).drew.thn hb6;have hS2:=HSf.out w6 hb6';have HB6:=Qq hb6';clear hb6 hb6'))
  have HB9:=Qq (HBr.out.thn HB6.out);have HW9:=Qq (HB1.out.thn HB9.out)
  clear HSf HS0 HSat
  cases bb with
  | true=>
   go_wp2_with fail
   go_roundw
   case measure=>simp [intOf];omega
   case rel=>exact ⟨k+1,by omega,by go_num,HB9.out⟩
  | false=>
   obtain ⟨e0,e1⟩:=HRC.out w6 HW9.out
   obtain ⟨x0,x1,x2,x3,x4⟩:=HCx.out w6 HW9.out
   refine let_mvar% ?Lq2:=fun w':World=>w'.cell? ⟨lb,loff+i*2,none⟩=some (.string ⟨r.table.toArray⟩)∧w'.cell? ⟨lb,loff+i*2+1,none⟩=some (.slice (some ⟨xb,xoff,none⟩) m qc)∧w'.cell? ⟨xb,xoff+k*5,none⟩=some (.int .i64 x.kind)∧w'.cell? ⟨xb,xoff+k*5+1,none⟩=some (.int .i64 x.n)∧w'.cell? ⟨xb,xoff+k*5+2,none⟩=some (.string ⟨x.s.toArray⟩)∧w'.cell? ⟨xb,xoff+k*5+3,none⟩=some (.slice xp3 x.names.length xk3)∧w'.cell? ⟨xb,xoff+k*5+4,none⟩=some (.slice xp4 x.kids.length xk4);?_
   have HSf:=Qq (fun (w':World) (h:Below w6.heap.size w6 w')=>(show ?Lq2 w' from ⟨kC h e0,kC h e1,kC h x0,kC h x1,kC h x2,kC h x3,kC h x4⟩))
   have HP:∀ z0 z1 z2 z3 z4 z5 z6 z7 z8 z9 z10 z11,?Lq2 (Zh w6 (w.heap.size+1) z0 z1 z2 z3 z4 z5 z6 z7 z8 z9 z10 z11).drew:=fun z0 z1 z2 z3 z4 z5 z6 z7 z8 z9 z10 z11=>⟨Zj (by omega) e0,Zj (by omega) e1,Zj (by omega) x0,Zj (by omega) x1,Zj (by omega) x2,Zj (by omega) x3,Zj (by omega) x4⟩
   unfold Zh at HP
   have HP':=Qq HP
   clear HP
   have HS0:=Qq (HSf.out w6.drew (Qz _ _).drew)
   have hZw6:=kE HB9.out hlt HZ1.out
   obtain ⟨y0,y1,y2,y3,y4,y5,y6,y7,y8,y9,y10,y11⟩:=row12 hZw6
   obtain ⟨f0,f1,f2,f3,f4,f5,f6,f7,f8,f9,f10,f11⟩:=frz12 hZw6
   have HZw6:=Qq hZw6
   clear hZw6
   go_upto_region 51 with fail
   clear e0 e1 x0 x1 x2 x3 x4
   go_region_held3 ?Lq2 (first | with_reducible exact HS0.out | with_reducible exact hS2 | with_reducible exact HP'.out _ _ _ _ _ _ _ _ _ _ _ _) (fail)
   all_goals
    go_wp2_with fail
    show bodyPost _ _ _ _ _ (Zh w6 (w.heap.size+1) (.int .i64 13) (.string ⟨r.table.toArray⟩) (.int .i64 x.kind) (.int .i64 x.n) (.string ⟨x.s.toArray⟩) (.slice xp3 x.names.length xk3) (.slice xp4 x.kids.length xk4) (.int .i64 0) (.int .i64 0) (.string ⟨#[]⟩) (.slice none 0 0) (.slice none 0 0)).drew
    refine Q7 (v:=.agg #[.int .i64 13,.string ⟨r.table.toArray⟩,.int .i64 x.kind,.int .i64 x.n,.string ⟨x.s.toArray⟩,.slice xp3 x.names.length xk3,.slice xp4 x.kids.length xk4,.int .i64 0,.int .i64 0,.string ⟨#[]⟩,.slice none 0 0,.slice none 0 0]) (by simp [results,results66,go_sem,Zb HZw6.out]) rfl ⟨⟨_,_,_,_,_,_,_,_,_,_,_,_,rfl⟩,(Z3 (HB1.out.thn HB9.out) (by omega)).drew⟩
 have hkm:k=m:=by omega
 have hq:¬ (k:Int)<(m:Int):=by omega
 go_wp2_with fail
 go_roundw
 case measure=>simp [intOf];omega
 case rel=>exact ⟨i+1,by omega,by go_num,HBr.out⟩
end Go.Proofs.YtppbaladeefnkaaGreatDoor
