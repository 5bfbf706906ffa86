import Derived.Test.YtppbaladeefnkaaGreatDoorV27
import Derived.Test.YtppbaladeefnkaaGreatDoorV21
set_option maxRecDepth 100000
set_option maxHeartbeats 400000000
namespace Go.Proofs.YtppbaladeefnkaaGreatDoor
open Go.RowKit Go.Shelf Go.Lib Tryz
theorem cs_str {S S':Nat→Prop} {w w':World} {css:List (List Value)} {xs:List Bs} (h:Cs Qp S w css xs):Cs Qp S' w' css xs:=⟨h.len,fun i c x hc hx=>h.R i c x hc hx⟩
theorem Ki {E:TypeId} {S S':Nat→Prop} {B:Nat} {w w':World} {v:Value} {xs:List Bs} {css:List (List Value)} (h:Own Qp E S B w v xs css) (hA:∀ b,b<w.heap.size→v.ownBlock=some b→w'.heap[b]?=w.heap[b]?):Own Qp E S' B w' v xs css:=
 ⟨V0 h.row hA,cs_str h.cs⟩
theorem Of {E E':TypeId} {r':Rd Val} {S0 S0':Nat→Prop} {W0 w w6:World} {v v' v1':Value} {n n':Nat} {xs:List Bs} {xs':List Val} (h:Mk Qp E S0 W0 w v n xs) (h':Mk r' E' S0' W0 w v' n' xs') (hne:E≠E') (hL:Bo W0.heap.size w w6 v' v1'):Mk Qp E S0 W0 w6 v n xs:=by
 obtain ⟨css,h1,h2,h3⟩:=h
 obtain ⟨css',g1,_,_⟩:=h'
 exact ⟨css,Ki h1 (fun b hb hv=>hL.other b hb (fun e=>Zs h1.row g1.row hne hv e.symm)),h2,h3.trans hL.below⟩
theorem Ov {E E':TypeId} {r:Rd Val} {r':Rd Bs} {S0 S0':Nat→Prop} {W0 w w6:World} {v v' v1':Value} {n n':Nat} {xs:List Val} {xs':List Bs} (h:Mk r E S0 W0 w v n xs) (h':Mk r' E' S0' W0 w v' n' xs') (hne:E≠E') (hL:Bo W0.heap.size w w6 v' v1') (hS:∀ b,S0 b→some b≠v'.ownBlock):Mk r E S0 W0 w6 v n xs:=by
 obtain ⟨css,h1,h2,h3⟩:=h
 obtain ⟨css',g1,_,_⟩:=h'
 refine ⟨css,h1.move (Q9 _) (fun b hb hv=>hL.other b hb (fun e=>?_)),h2,h3.trans hL.below⟩
 rcases hv with hv | hv
 ·exact hS b hv e
 exact Zs h1.row g1.row hne hv e.symm
theorem Qr {W:World} {R b j:Nat} {x0 x1 x2 x3 x4 u:Value} (h:b≠R) (hc:W.cell? ⟨b,j,none⟩=some u):(Zz W R x0 x1 x2 x3 x4).cell? ⟨b,j,none⟩=some u:=(World.cell?_of_block (Qu h)).trans hc
theorem sl_val1 {S:Nat→Prop} {w:World} {b:Nat} {c0 c1 c2 c3 c4:Value} {x:Val} (hb:w.heap[b]?=some (.cells #[c0,c1,c2,c3,c4] 44 (0,0))) (hS:S b) (hx:Qh S w [c0,c1,c2,c3,c4] x):Sl Ql S w (.slice (some ⟨b,0,none⟩) 1 1) [x]:=
 Z4 hb hS (Cs.one (r:=Ql) hx) rfl rfl (by simp)
theorem Gs (d:Nat) (e:Ex) (he:Yc d e) (S:Nat→Prop) (ce:List Value) (nv vv:Value) (names:List Bs) (vals:List Val) (nm:Bs) (v:Val) (cv:List Value) (w:World) (hx0:Z6 S w ce e) (hn0:Sl Qp S w nv names) (hv0:Sl Ql S w vv vals) (hlen:names.length≤vals.length) (hd:vals.length+(d+1)≤1000) (hb:∀ v ∈ vals,Z2 v) (hnm:nm.length≤1000000) (hvv:Qh S w cv v) (hbv:Z2 v):
  Calls prog 179 #[.agg ce.toArray,nv,vv,sv nm,.agg cv.toArray] w (Yi S w):=by
 have hx:Z6 (fun b=>S b∧b<w.heap.size) w ce e:=hx0.move (.refl _ _) (fun b hb h=>⟨h,hb⟩)
 have hn:=hn0.up
 have hv:=hv0.up
 have hvx:Qh (fun b=>S b∧b<w.heap.size) w cv v:=hvv.move (.refl _ _) (fun b hb h=>⟨h,hb⟩)
 obtain ⟨np,nc,rfl,_⟩:=hn.len
 obtain ⟨vp,vc,rfl,_⟩:=hv.len
 obtain ⟨q3,l3,q4,l4,hcv,_⟩:=Qh.cells hvx
 have HVx:=Qq hvx
 simp only [vcs] at hcv
 subst hcv
 obtain ⟨ek,es1,en,es2,ep1,en1,ec1,ep2,en2,ec2,ep3,en3,ec3,ea,ez,hce⟩:=Z6.cells hx
 have HX:=Qq hx
 subst hce
 have HN:=Qq hn;have HV:=Qq hv;have HE:=Qq he;have HB:=Qq hb;have HBv:=Qq hbv
 clear hx0 hn0 hv0 hvv hx hn hv hvx he hb hbv
 obtain ⟨i0,j1,j2,j3,j4⟩:=Za (P:=prog) (t:=44) (z:=.agg zV) (n:=5) (b:=80) (by kernel_rfl)
 have HJ:=Qq j1;have HJ2:=Qq j2;have HJ3:=Qq j3;have HJ4:=Qq j4
 clear j1 j2 j3 j4
 obtain ⟨i9,j1,j2,j3,j4⟩:=Za (P:=prog) (t:=9) (z:=.string ⟨#[]⟩) (n:=1) (b:=16) (by kernel_rfl)
 have HS:=Qq j1;have HS2:=Qq j2;have HS3:=Qq j3;have HS4:=Qq j4
 clear j1 j2 j3 j4
 unfold sv
 go_enter func179,ntmps179
 go_upto_region 3 with fail
 generalize hW1:((w.alloc _).alloc _).alloc _=W1
 have hb1:=eqB hW1 (Xr _ _ _ _)
 have hz1:W1.heap.size=w.heap.size+3:=by rw [← hW1];simp
 have hE1:=eqH (b:=w.heap.size) hW1 (Zd _ _ _ _)
 have hV1:=eqH (b:=w.heap.size+1) hW1 (Z9 _ _ _ _)
 have hZ1:=eqH (b:=w.heap.size+1+1) hW1 (Zw _ _ _ _)
 have HB1:=Qq hb1;have HE1:=Qq hE1;have HV1:=Qq hV1;have HZ1:=Qq hZ1;have HZS:=Qq hz1
 have hA1:Sl Qp (But (fun _=>True) (.slice none 0 0)) W1 (.slice np names.length nc) names:=(HN.out.mono (S':=But (fun _=>True) (.slice none 0 0)) (fun b _ h=>⟨trivial,fun e=>by cases e⟩)).below hb1
 have HA1:=Qq hA1
 clear hW1 hb1 hE1 hV1 hZ1 hA1 hz1
 go_upto_region 4 with (at_builtin;refine Yq (r:=Qp) (by decide) Xd rfl (.tmp 14) (.tmp 15) _ rfl 9 i9 (.string ⟨#[]⟩) 16 underlying30 HS.out HS2.out HS3.out HS4.out rfl (by omega) (fun _=>True) W1.heap.size W1 (.slice none 0 0) [] [] rfl (Own.nil _ _ _ _ _) (.slice np names.length nc) names rfl HA1.out names.length (by simp) (by omega) (Q9 _) ?_;intro pa ca cssa wa hOa hLa;have HOa:=Qq hOa;have HLa:=Qq hLa;clear hOa hLa)
 rw [List.nil_append] at HOa
 have hbwa:Below w.heap.size w wa:=HB1.out.thn HLa.out.below
 have hsza:=HLa.out.size
 have hA2:Sl Ql (But (fun b=>S b∧b<w.heap.size) (.slice none 0 0)) wa (.slice vp vals.length vc) vals:=(HV.out.mono (S':=But (fun b=>S b∧b<w.heap.size) (.slice none 0 0)) (fun b _ h=>⟨h,fun e=>by cases e⟩)).below hbwa
 have HA2:=Qq hA2;have HBwa:=Qq hbwa
 clear hA2 hbwa
 go_upto_region 5 with (at_builtin;refine Yq (r:=Ql) (by decide) Zu rfl (.tmp 17) (.tmp 18) _ rfl 44 i0 (.agg zV) 80 underlying40 HJ.out HJ2.out HJ3.out HJ4.out rfl (by omega) (fun b=>S b∧b<w.heap.size) W1.heap.size wa (.slice none 0 0) [] [] rfl (Own.nil _ _ _ _ _) (.slice vp vals.length vc) vals rfl HA2.out vals.length (by simp) (by omega) hsza ?_;intro pb cb cssb wb hOb hLb;have HOb:=Qq hOb;have HLb:=Qq hLb;clear hOb hLb)
 rw [List.nil_append] at HOb
 have hszb:=HLb.out.size
 have hb1b:Below W1.heap.size W1 wb:=HLa.out.below.trans HLb.out.below
 have hMn:Mk Qp 9 (fun _=>True) W1 wb (.slice pa names.length ca) names.length names:=⟨cssa,Ki HOa.out (fun b hb _=>HLb.out.other b hb (fun e=>by cases e)),rfl,hb1b⟩
 have hMv:Mk Ql 44 (fun b=>(S b∧b<w.heap.size)∨wb.heap.size≤b) W1 wb (.slice pb vals.length cb) vals.length vals:=⟨cssb,HOb.out.weak (Q9 _) (fun b _ h=>.inl h),rfl,hb1b⟩
 have HMn:=Qq hMn;have HMv:=Qq hMv;have HBb:=Qq hb1b
 clear hMn hMv hb1b HOa HLa HOb HLb HA1 HA2
 have hEb:=kB HBb.out HE1.out
 have hVb:=kB HBb.out HV1.out
 have hzs:=HZS.out
 obtain ⟨e0,e1,e2,e3,e4,e5,e6,e7,e8⟩:=row9 hEb
 obtain ⟨v0,v1,v2,v3,v4⟩:=row5 hVb
 refine let_mvar% ?Lq1:=fun w':World=>w'.cell? ⟨w.heap.size,0,none⟩=some (.int .i64 ek)∧w'.cell? ⟨w.heap.size,1,none⟩=some (.string es1)∧w'.cell? ⟨w.heap.size,2,none⟩=some (.int .i64 en)∧w'.cell? ⟨w.heap.size,3,none⟩=some (.string es2)∧w'.cell? ⟨w.heap.size,4,none⟩=some (.slice ep1 en1 ec1)∧w'.cell? ⟨w.heap.size,5,none⟩=some (.slice ep2 en2 ec2)∧w'.cell? ⟨w.heap.size,6,none⟩=some (.slice ep3 en3 ec3)∧w'.cell? ⟨w.heap.size,7,none⟩=some (.int .i64 ea)∧w'.cell? ⟨w.heap.size,8,none⟩=some (.int .i64 ez)∧w'.cell? ⟨w.heap.size+1,0,none⟩=some (.int .i64 v.kind)∧w'.cell? ⟨w.heap.size+1,1,none⟩=some (.int .i64 v.n)∧w'.cell? ⟨w.heap.size+1,2,none⟩=some (.string ⟨v.s.toArray⟩)∧w'.cell? ⟨w.heap.size+1,3,none⟩=some (.slice q3 v.names.length l3)∧w'.cell? ⟨w.heap.size+1,4,none⟩=some (.slice q4 v.kids.length l4);?_
 have HSf:=Qq (fun (w':World) (h:Below W1.heap.size wb w')=>(show ?Lq1 w' from ⟨(h.cell (p:=⟨w.heap.size,0,none⟩) (by show w.heap.size<W1.heap.size;omega)).trans e0,(h.cell (p:=⟨w.heap.size,1,none⟩) (by show w.heap.size<W1.heap.size;omega)).trans e1,(h.cell (p:=⟨w.heap.size,2,none⟩) (by show w.heap.size<W1.heap.size;omega)).trans e2,(h.cell (p:=⟨w.heap.size,3,none⟩) (by show w.heap.size<W1.heap.size;omega)).trans e3,(h.cell (p:=⟨w.heap.size,4,none⟩) (by show w.heap.size<W1.heap.size;omega)).trans e4,(h.cell (p:=⟨w.heap.size,5,none⟩) (by show w.heap.size<W1.heap.size;omega)).trans e5,(h.cell (p:=⟨w.heap.size,6,none⟩) (by show w.heap.size<W1.heap.size;omega)).trans e6,(h.cell (p:=⟨w.heap.size,7,none⟩) (by show w.heap.size<W1.heap.size;omega)).trans e7,(h.cell (p:=⟨w.heap.size,8,none⟩) (by show w.heap.size<W1.heap.size;omega)).trans e8,(h.cell (p:=⟨w.heap.size+1,0,none⟩) (by show w.heap.size+1<W1.heap.size;omega)).trans v0,(h.cell (p:=⟨w.heap.size+1,1,none⟩) (by show w.heap.size+1<W1.heap.size;omega)).trans v1,(h.cell (p:=⟨w.heap.size+1,2,none⟩) (by show w.heap.size+1<W1.heap.size;omega)).trans v2,(h.cell (p:=⟨w.heap.size+1,3,none⟩) (by show w.heap.size+1<W1.heap.size;omega)).trans v3,(h.cell (p:=⟨w.heap.size+1,4,none⟩) (by show w.heap.size+1<W1.heap.size;omega)).trans v4⟩))
 have HAl:=Qq (fun (w':World) (o:Obj) (h:?Lq1 w')=>(show ?Lq1 (w'.alloc o) from ⟨kC (Qn w' o) h.1,kC (Qn w' o) h.2.1,kC (Qn w' o) h.2.2.1,kC (Qn w' o) h.2.2.2.1,kC (Qn w' o) h.2.2.2.2.1,kC (Qn w' o) h.2.2.2.2.2.1,kC (Qn w' o) h.2.2.2.2.2.2.1,kC (Qn w' o) h.2.2.2.2.2.2.2.1,kC (Qn w' o) h.2.2.2.2.2.2.2.2.1,kC (Qn w' o) h.2.2.2.2.2.2.2.2.2.1,kC (Qn w' o) h.2.2.2.2.2.2.2.2.2.2.1,kC (Qn w' o) h.2.2.2.2.2.2.2.2.2.2.2.1,kC (Qn w' o) h.2.2.2.2.2.2.2.2.2.2.2.2.1,kC (Qn w' o) h.2.2.2.2.2.2.2.2.2.2.2.2.2⟩))
 have HP:∀ w' x0 x1 x2 x3 x4,?Lq1 w'→?Lq1 (Zz w' (w.heap.size+1+1) x0 x1 x2 x3 x4):=fun w' x0 x1 x2 x3 x4 h=>⟨Qr (by omega) h.1,Qr (by omega) h.2.1,Qr (by omega) h.2.2.1,Qr (by omega) h.2.2.2.1,Qr (by omega) h.2.2.2.2.1,Qr (by omega) h.2.2.2.2.2.1,Qr (by omega) h.2.2.2.2.2.2.1,Qr (by omega) h.2.2.2.2.2.2.2.1,Qr (by omega) h.2.2.2.2.2.2.2.2.1,Qr (by omega) h.2.2.2.2.2.2.2.2.2.1,Qr (by omega) h.2.2.2.2.2.2.2.2.2.2.1,Qr (by omega) h.2.2.2.2.2.2.2.2.2.2.2.1,Qr (by omega) h.2.2.2.2.2.2.2.2.2.2.2.2.1,Qr (by omega) h.2.2.2.2.2.2.2.2.2.2.2.2.2⟩
 unfold Zz at HP
 have HP':=Qq HP
 have HS0:=Qq (HSf.out wb.drew (Qz _ _).drew)
 have HSe:=Qq (fun o=>HSf.out (wb.alloc o).drew ((Qn wb o).mono (by omega)).drew)
 have HSe2:=Qq (fun o o'=>HSf.out ((wb.alloc o).alloc o').drew ((Zv wb o o').mono (by omega)).drew)
 have hpa:∀ g,(Value.slice pa names.length ca).ownBlock=some g→W1.heap.size≤g∧g<wb.heap.size:=fun g e=>HMn.out.lt g e
 have hpb:∀ g,(Value.slice pb vals.length cb).ownBlock=some g→W1.heap.size≤g∧g<wb.heap.size:=fun g e=>HMv.out.lt g e
 have HPa:=Qq hpa;have HPb:=Qq hpb
 have HY1:=Qq (fun (w':World) (b:Nat) (hb:w'.heap[b]?=some (Obj.cells #[.string ⟨nm.toArray⟩] 9 (0,0))) (h:wb.heap.size≤b)=>P6 (S:=But (fun _=>True) (.slice pa names.length ca)) hb ⟨trivial,fun e=>by have:=(hpa b e.symm).2;omega⟩ hnm)
 have HY2:=Qq (fun (w':World) (b:Nat) (hB:Below W1.heap.size W1 w') (hb:w'.heap[b]?=some (Obj.cells #[.int .i64 v.kind,.int .i64 v.n,.string ⟨v.s.toArray⟩,.slice q3 v.names.length l3,.slice q4 v.kids.length l4] 44 (0,0))) (h:wb.heap.size≤b)=>sl_val1 (S:=But (fun b=>(S b∧b<w.heap.size)∨wb.heap.size≤b) (.slice pb vals.length cb)) hb ⟨.inr h,fun e=>by have:=(hpb b e.symm).2;omega⟩ (HVx.out.move (.of_below (HB1.out.thn hB)) (fun c _ hc=>⟨.inl hc,fun e=>by have h1:=(hpb c e.symm).1;have h2:=hc.2;omega⟩)))
 have hSv:∀ b,(fun b=>(S b∧b<w.heap.size)∨wb.heap.size≤b) b→some b≠(Value.slice pa names.length ca).ownBlock:=fun b hb e=>by
  have h1:=hpa b e.symm
  rcases hb with h | h
  ·have h2:=h.2;omega
  omega
 have HSv:=Qq hSv
 have hty:(44:TypeId)≠9:=by decide
 have hty2:(9:TypeId)≠44:=by decide
 have hn1:names.length+[nm].length=names.length+1:=rfl
 have hn2:vals.length+[v].length=vals.length+1:=rfl
 have HN1:=Qq hn1;have HN2:=Qq hn2;have HT1:=Qq hty;have HT2:=Qq hty2;have HLen:=Qq hlen
 have hl1:names.length+1≤1000000:=by omega
 have hl2:vals.length+1≤1000000:=by omega
 have HL1:=Qq hl1;have HL2:=Qq hl2
 have HEv:=Qq (fun (W:World) (nv' vv':Value) (hM1:Mk Qp 9 (fun _=>True) W1 W nv' (names.length+1) (names++[nm])) (hM2:Mk Ql 44 (fun b=>(S b∧b<w.heap.size)∨wb.heap.size≤b) W1 W vv' (vals.length+1) (vals++[v]))=>HE.out (fun c=>(S c∧c<w.heap.size)∨W1.heap.size≤c) [.int .i64 ek,.string es1,.int .i64 en,.string es2,.slice ep1 en1 ec1,.slice ep2 en2 ec2,.slice ep3 en3 ec3,.int .i64 ea,.int .i64 ez] nv' vv' (names++[nm]) (vals++[v]) W (HX.out.move (.of_below (HB1.out.thn hM1.below)) (fun _ _ h=>.inl h)) (by
   obtain ⟨css,h1,h2,h3⟩:=hM1
   exact (Ki (S':=fun b=>W1.heap.size≤b) h1 (fun _ _ _=>rfl)).sl (by rw [h2];exact hl1) (fun b hb=>.inr hb) (fun b _ hb=>.inr hb)) (by
   obtain ⟨css,h1,h2,h3⟩:=hM2
   exact h1.sl (by rw [h2];exact hl2) (fun b hb=>.inr hb) (fun b _ hb=>by
    rcases hb with h | h
    ·exact .inl h
    exact .inr (by omega))) (by rw [List.length_append,List.length_append];simp;omega) (by rw [List.length_append];simp;omega) (by
   intro u hu
   rcases List.mem_append.1 hu with h | h
   ·exact HB.out u h
   simp only [List.mem_cons,List.not_mem_nil,or_false] at h
   subst h;exact HBv.out))
 clear hEb hVb hpa hpb hSv hty hty2 hn1 hn2 hl1 hl2 HP e0 e1 e2 e3 e4 e5 e6 e7 e8 v0 v1 v2 v3 v4
 have HSg:=Qq (fun (w':World) (h:Below W1.heap.size W1 w')=>by
  have hE7:=kB h HE1.out
  have hV7:=kB h HV1.out
  exact (show ?Lq1 w' from ⟨Qk _ _ 0 _ _ _ hE7,Qk _ _ 1 _ _ _ hE7,Qk _ _ 2 _ _ _ hE7,Qk _ _ 3 _ _ _ hE7,Qk _ _ 4 _ _ _ hE7,Qk _ _ 5 _ _ _ hE7,Qk _ _ 6 _ _ _ hE7,Qk _ _ 7 _ _ _ hE7,Qk _ _ 8 _ _ _ hE7,Qk _ _ 0 _ _ _ hV7,Qk _ _ 1 _ _ _ hV7,Qk _ _ 2 _ _ _ hV7,Qk _ _ 3 _ _ _ hV7,Qk _ _ 4 _ _ _ hV7⟩))
 go_region_held3 ?Lq1 (first | with_reducible exact HS0.out | with_reducible exact hS2 | with_reducible exact HSe.out _ | with_reducible exact HSe2.out _ _ | with_reducible exact HAl.out _ _ hS2 | with_reducible exact HP'.out _ _ _ _ _ _ hS2)
  (first
   | (refine Ya (r:=Qp) (by decide) Xd (by rfl) (.tmp 21) (.tmp 23) 30 (by rfl) 9 i9 (.string ⟨#[]⟩) 16 underlying30 HS.out HS2.out HS3.out HS4.out rfl (by omega) (fun _=>True) W1 (wb.alloc (.cells #[.string ⟨nm.toArray⟩] 9)).drew (.slice pa names.length ca) names.length names (by rfl) (HMn.out.grow (Qn wb (.cells #[.string ⟨nm.toArray⟩] 9)).drew) (.slice (some ⟨wb.heap.size,0,none⟩) 1 1) [nm] (by rfl) (HY1.out _ _ (Qw wb _) (by omega)) (names.length+1) HN1.out HL1.out ?_;intro p5 c5 w5 hM5 hL5;have hS2:=HSf.out w5 (((Qn wb (.cells #[.string ⟨nm.toArray⟩] 9)).mono (by omega)).drew.trans hL5.below);have hMv5:=Ov (HMv.out.grow (Qn wb (.cells #[.string ⟨nm.toArray⟩] 9)).drew) (HMn.out.grow (Qn wb (.cells #[.string ⟨nm.toArray⟩] 9)).drew) HT1.out hL5 HSv.out;have HMv5:=Qq hMv5;have HM5:=Qq hM5;have HL5:=Qq hL5;have hz5:wb.heap.size≤w5.heap.size:=Qc ((Qn wb (.cells #[.string ⟨nm.toArray⟩] 9)).size) hL5.size;clear hM5 hL5 hMv5)
   | (refine Ya (r:=Qp) (by decide) Xd (by rfl) (.tmp 21) (.tmp 23) 30 (by rfl) 9 i9 (.string ⟨#[]⟩) 16 underlying30 HS.out HS2.out HS3.out HS4.out rfl (by omega) (fun _=>True) W1 ((wb.alloc (.cells #[.string ⟨nm.toArray⟩] 9)).alloc (.cells #[.int .i64 v.kind,.int .i64 v.n,.string ⟨v.s.toArray⟩,.slice q3 v.names.length l3,.slice q4 v.kids.length l4] 44)).drew (.slice pa names.length ca) names.length names (by rfl) (HMn.out.grow (Zv wb (.cells #[.string ⟨nm.toArray⟩] 9) (.cells #[.int .i64 v.kind,.int .i64 v.n,.string ⟨v.s.toArray⟩,.slice q3 v.names.length l3,.slice q4 v.kids.length l4] 44)).drew) (.slice (some ⟨wb.heap.size,0,none⟩) 1 1) [nm] (by rfl) (HY1.out _ _ (Q5 wb _ _) (by omega)) (names.length+1) HN1.out HL1.out ?_;intro p5 c5 w5 hM5 hL5;have hS2:=HSf.out w5 (((Zv wb (.cells #[.string ⟨nm.toArray⟩] 9) (.cells #[.int .i64 v.kind,.int .i64 v.n,.string ⟨v.s.toArray⟩,.slice q3 v.names.length l3,.slice q4 v.kids.length l4] 44)).mono (by omega)).drew.trans hL5.below);have hMv5:=Ov (HMv.out.grow (Zv wb (.cells #[.string ⟨nm.toArray⟩] 9) (.cells #[.int .i64 v.kind,.int .i64 v.n,.string ⟨v.s.toArray⟩,.slice q3 v.names.length l3,.slice q4 v.kids.length l4] 44)).drew) (HMn.out.grow (Zv wb (.cells #[.string ⟨nm.toArray⟩] 9) (.cells #[.int .i64 v.kind,.int .i64 v.n,.string ⟨v.s.toArray⟩,.slice q3 v.names.length l3,.slice q4 v.kids.length l4] 44)).drew) HT1.out hL5 HSv.out;have HR9:=Qq ((hL5.other (wb.heap.size+1) (by simp;try omega) (fun e=>by have:=(HPa.out _ e.symm).2;omega)).trans (Q6 wb _ _));have HMv5:=Qq hMv5;have HM5:=Qq hM5;have HL5:=Qq hL5;have hz5:wb.heap.size≤w5.heap.size:=Qc ((Zv wb (.cells #[.string ⟨nm.toArray⟩] 9) (.cells #[.int .i64 v.kind,.int .i64 v.n,.string ⟨v.s.toArray⟩,.slice q3 v.names.length l3,.slice q4 v.kids.length l4] 44)).size) hL5.size;clear hM5 hL5 hMv5)
   | (refine Ya (r:=Qp) (by decide) Xd (by rfl) (.tmp 21) (.tmp 23) 30 (by rfl) 9 i9 (.string ⟨#[]⟩) 16 underlying30 HS.out HS2.out HS3.out HS4.out rfl (by omega) (fun _=>True) W1 ((wb.alloc (.cells #[.int .i64 v.kind,.int .i64 v.n,.string ⟨v.s.toArray⟩,.slice q3 v.names.length l3,.slice q4 v.kids.length l4] 44)).alloc (.cells #[.string ⟨nm.toArray⟩] 9)).drew (.slice pa names.length ca) names.length names (by rfl) (HMn.out.grow (Zv wb (.cells #[.int .i64 v.kind,.int .i64 v.n,.string ⟨v.s.toArray⟩,.slice q3 v.names.length l3,.slice q4 v.kids.length l4] 44) (.cells #[.string ⟨nm.toArray⟩] 9)).drew) (.slice (some ⟨wb.heap.size+1,0,none⟩) 1 1) [nm] (by rfl) (HY1.out _ _ (Q6 wb _ _) (by omega)) (names.length+1) HN1.out HL1.out ?_;intro p5 c5 w5 hM5 hL5;have hS2:=HSf.out w5 (((Zv wb (.cells #[.int .i64 v.kind,.int .i64 v.n,.string ⟨v.s.toArray⟩,.slice q3 v.names.length l3,.slice q4 v.kids.length l4] 44) (.cells #[.string ⟨nm.toArray⟩] 9)).mono (by omega)).drew.trans hL5.below);have hMv5:=Ov (HMv.out.grow (Zv wb (.cells #[.int .i64 v.kind,.int .i64 v.n,.string ⟨v.s.toArray⟩,.slice q3 v.names.length l3,.slice q4 v.kids.length l4] 44) (.cells #[.string ⟨nm.toArray⟩] 9)).drew) (HMn.out.grow (Zv wb (.cells #[.int .i64 v.kind,.int .i64 v.n,.string ⟨v.s.toArray⟩,.slice q3 v.names.length l3,.slice q4 v.kids.length l4] 44) (.cells #[.string ⟨nm.toArray⟩] 9)).drew) HT1.out hL5 HSv.out;have HR9:=Qq ((hL5.other (wb.heap.size) (by simp;try omega) (fun e=>by have:=(HPa.out _ e.symm).2;omega)).trans (Q5 wb _ _));have HMv5:=Qq hMv5;have HM5:=Qq hM5;have HL5:=Qq hL5;have hz5:wb.heap.size≤w5.heap.size:=Qc ((Zv wb (.cells #[.int .i64 v.kind,.int .i64 v.n,.string ⟨v.s.toArray⟩,.slice q3 v.names.length l3,.slice q4 v.kids.length l4] 44) (.cells #[.string ⟨nm.toArray⟩] 9)).size) hL5.size;clear hM5 hL5 hMv5)
   | (refine Ya (r:=Ql) (by decide) Zu (by rfl) (.tmp 25) (.tmp 27) 40 (by rfl) 44 i0 (.agg zV) 80 underlying40 HJ.out HJ2.out HJ3.out HJ4.out rfl (by omega) (fun b=>(S b∧b<w.heap.size)∨wb.heap.size≤b) W1 (w5.alloc (.cells #[.int .i64 v.kind,.int .i64 v.n,.string ⟨v.s.toArray⟩,.slice q3 v.names.length l3,.slice q4 v.kids.length l4] 44)) (.slice pb vals.length cb) vals.length vals (by rfl) (HMv5.out.grow (Qn w5 (.cells #[.int .i64 v.kind,.int .i64 v.n,.string ⟨v.s.toArray⟩,.slice q3 v.names.length l3,.slice q4 v.kids.length l4] 44))) (.slice (some ⟨w5.heap.size,0,none⟩) 1 1) [v] (by rfl) (HY2.out _ _ (HM5.out.grow (Qn w5 (.cells #[.int .i64 v.kind,.int .i64 v.n,.string ⟨v.s.toArray⟩,.slice q3 v.names.length l3,.slice q4 v.kids.length l4] 44))).below (Qw _ _) (hz5)) (vals.length+1) HN2.out HL2.out ?_;intro p6 c6 w6 hM6 hL6;have hMn6:=Of (HM5.out.grow (Qn w5 (.cells #[.int .i64 v.kind,.int .i64 v.n,.string ⟨v.s.toArray⟩,.slice q3 v.names.length l3,.slice q4 v.kids.length l4] 44))) (HMv5.out.grow (Qn w5 (.cells #[.int .i64 v.kind,.int .i64 v.n,.string ⟨v.s.toArray⟩,.slice q3 v.names.length l3,.slice q4 v.kids.length l4] 44))) HT2.out hL6;have hS2:=HSg.out w6 hM6.below;have HM6:=Qq hM6;have HMn6:=Qq hMn6;clear hM6 hL6 hMn6)
   | (refine Ya (r:=Ql) (by decide) Zu (by rfl) (.tmp 25) (.tmp 27) 40 (by rfl) 44 i0 (.agg zV) 80 underlying40 HJ.out HJ2.out HJ3.out HJ4.out rfl (by omega) (fun b=>(S b∧b<w.heap.size)∨wb.heap.size≤b) W1 w5 (.slice pb vals.length cb) vals.length vals (by rfl) (HMv5.out) (.slice (some ⟨wb.heap.size+1,0,none⟩) 1 1) [v] (by rfl) (HY2.out _ _ (HM5.out).below (HR9.out) (by omega)) (vals.length+1) HN2.out HL2.out ?_;intro p6 c6 w6 hM6 hL6;have hMn6:=Of (HM5.out) (HMv5.out) HT2.out hL6;have hS2:=HSg.out w6 hM6.below;have HM6:=Qq hM6;have HMn6:=Qq hMn6;clear hM6 hL6 hMn6)
   | (refine Ya (r:=Ql) (by decide) Zu (by rfl) (.tmp 25) (.tmp 27) 40 (by rfl) 44 i0 (.agg zV) 80 underlying40 HJ.out HJ2.out HJ3.out HJ4.out rfl (by omega) (fun b=>(S b∧b<w.heap.size)∨wb.heap.size≤b) W1 w5 (.slice pb vals.length cb) vals.length vals (by rfl) (HMv5.out) (.slice (some ⟨wb.heap.size,0,none⟩) 1 1) [v] (by rfl) (HY2.out _ _ (HM5.out).below (HR9.out) (Q9 _)) (vals.length+1) HN2.out HL2.out ?_;intro p6 c6 w6 hM6 hL6;have hMn6:=Of (HM5.out) (HMv5.out) HT2.out hL6;have hS2:=HSg.out w6 hM6.below;have HM6:=Qq hM6;have HMn6:=Qq hMn6;clear hM6 hL6 hMn6)
   | (go_at_call 140;refine (HEv.out _ _ _ HMn6.out HM6.out).mono ?_;rintro e w7 ⟨k7,n7,s7,q37,m37,l37,q47,m47,l47,b7,rfl,hv7,hb7⟩;have hb17:Below W1.heap.size W1 w7:=HM6.out.below.trans (hb7.mono HM6.out.below.size);have hS2:=HSg.out w7 hb17;have hs67:W1.heap.size≤w6.heap.size:=HM6.out.below.size;have hZ7:=kB hb17 HZ1.out;have f0:=fA 0 hZ7;have y0:=Qk _ _ 0 _ _ _ hZ7;have f1:=fA 1 hZ7;have y1:=Qk _ _ 1 _ _ _ hZ7;have f2:=fA 2 hZ7;have y2:=Qk _ _ 2 _ _ _ hZ7;have f3:=fA 3 hZ7;have y3:=Qk _ _ 3 _ _ _ hZ7;have f4:=fA 4 hZ7;have y4:=Qk _ _ 4 _ _ _ hZ7;simp only [List.getElem?_toArray,List.getElem?_cons_zero,List.getElem?_cons_succ] at y0 y1 y2 y3 y4;have HZ7:=Qq hZ7;have HV7:=Qq hv7;have HB7:=Qq hb17;have hS26:=Qq hs67;clear hv7 hb7 hb17 hZ7 hs67))
 all_goals
  go_wp2_with fail
  show bodyPost _ _ _ _ _ (Zz w7 (w.heap.size+1+1) (.int .i64 k7) (.int .i64 n7) (.string s7) (.slice q37 m37 l37) (.slice q47 m47 l47))
  refine Q7 (v:=.tuple #[.agg #[.int .i64 k7,.int .i64 n7,.string s7,.slice q37 m37 l37,.slice q47 m47 l47],.bool b7]) (by simp [results,results179,go_sem,Qm HZ7.out]) rfl (J4 (by omega) (HB1.out.thn HB7.out) (fun hb=>by
   obtain ⟨u,h1,h2⟩:=HV7.out hb
   refine ⟨u,h1.move (.refl _ _) (fun c _ hc=>?_),h2⟩
   have hz:=HZS.out
   rcases hc with (hc | hc) | hc
   ·exact .inl hc
   ·exact .inr (by omega)
   exact .inr (by have:=hS26.out;have h':w6.heap.size≤c:=hc;omega)))
theorem Qh.head {S:Nat→Prop} {w:World} {k n:Int} {s:ByteArray} {p3:Option Addr} {n3 k3:Nat} {p4:Option Addr} {n4 k4:Nat} {v:Val} (h:Qh S w [.int .i64 k,.int .i64 n,.string s,.slice p3 n3 k3,.slice p4 n4 k4] v):v.kind=k∧v.n=n∧v.kids.length=n4:=by
 obtain ⟨a,b,c,d,e,_⟩:=Qh.cells h
 simp only [vcs,List.cons.injEq,Value.int.injEq,Value.slice.injEq,true_and,and_true] at e
 obtain ⟨h1,h2,_,_,h5⟩:=e
 exact ⟨h1.symm,h2.symm,h5.2.1.symm⟩
theorem Pp (nm:Bs) (n:Int) (s:Bs) (names binds:List Bs) (kids:List Ex) (a z:Int) (d:Nat) (ih:∀ x ∈ kids,Yc d x) (h2:kids.length=2):∀ (S:Nat→Prop) (ce:List Value) (nv vv:Value) (ns:List Bs) (vs:List Val) (w:World),Z6 S w ce (.mk 11 nm n s names binds kids a z)→Sl Qp S w nv ns→Sl Ql S w vv vs→ns.length≤vs.length→vs.length+(d+1)≤1000→(∀ v ∈ vs,Z2 v) →
  Calls prog 140 #[.agg ce.toArray,nv,vv] w (Yi S w):=by
 intro S ce nv vv ns vs w hx0 hn0 hv0 hlen hd hb
 have hx:Z6 (fun b=>S b∧b<w.heap.size) w ce (.mk 11 nm n s names binds kids a z):=hx0.move (.refl _ _) (fun b hb h=>⟨h,hb⟩)
 have hn:=hn0.up
 have hv:=hv0.up
 obtain ⟨np,nc,rfl,_⟩:=hn.len
 obtain ⟨vp,vc,rfl,hvl⟩:=hv.len
 have HXX:=Qq hx
 obtain ⟨nv',bv,kv,rfl,hnm,hsx,hns,hbi,hk⟩:=Zf.1 hx
 obtain ⟨p1,c1,rfl,_⟩:=hns.len
 obtain ⟨p2,c2,rfl,_⟩:=hbi.len
 obtain ⟨p3,c3,rfl,hkl⟩:=hk.len
 have HN:=Qq hn;have HV:=Qq hv;have HBo:=Qq hb;have HNs:=Qq hns;have HBi:=Qq hbi;have HK:=Qq hk;have HI:=Qq ih;have HLen:=Qq hlen
 clear hx0 hn0 hv0 hx hn hv hns hbi hk hb ih hlen
 unfold sv at *
 rw [h2] at HK ⊢
 obtain ⟨x0,hx0⟩:∃ x,kids[0]?=some x:=⟨_,Qx (by omega)⟩
 obtain ⟨kb0,ko0,ek0,es0,en0,et0,e10,f10,g10,e20,f20,g20,e30,f30,g30,ea0,ez0,hp30,hkb0,hvx0,d00,d10,d20,d30,d40,d50,d60,d70,d80⟩:=HK.out.ex hx0
 subst hp30
 simp only [Nat.zero_mul,Nat.add_zero] at d00 d10 d20 d30 d40 d50 d60 d70 d80
 have HE0:=Qq (fun W (hW:Below w.heap.size w W)=>HI.out x0 (Qy hx0) (fun b=>S b∧b<w.heap.size) _ _ _ ns vs W (hvx0.move (.of_below hW) (fun _ _ h=>h)) (HN.out.below hW) (HV.out.below hW) HLen.out (by omega) HBo.out)
 have HXx0:=Qq hvx0;have HM0:=Qq (Qy hx0)
 have DD0:=Qq (Qe hkb0 (Qe d00 (Qe d10 (Qe d20 (Qe d30 (Qe d40 (Qe d50 (Qe d60 (Qe d70 d80)))))))))
 clear hvx0 hx0 hkb0 d00 d10 d20 d30 d40 d50 d60 d70 d80
 obtain ⟨x1,hx1⟩:∃ x,kids[1]?=some x:=⟨_,Qx (by omega)⟩
 obtain ⟨kb1,ko1,ek1,es1,en1,et1,e11,f11,g11,e21,f21,g21,e31,f31,g31,ea1,ez1,hp31,hkb1,hvx1,d01,d11,d21,d31,d41,d51,d61,d71,d81⟩:=HK.out.ex hx1
 simp only [Option.some.injEq,Addr.mk.injEq,and_true] at hp31
 obtain ⟨rfl,rfl⟩:=hp31
 simp only [Nat.one_mul] at d01 d11 d21 d31 d41 d51 d61 d71 d81
 have HE1:=Qq (fun W (hW:Below w.heap.size w W)=>HI.out x1 (Qy hx1) (fun b=>S b∧b<w.heap.size) _ _ _ ns vs W (hvx1.move (.of_below hW) (fun _ _ h=>h)) (HN.out.below hW) (HV.out.below hW) HLen.out (by omega) HBo.out)
 have HXx1:=Qq hvx1;have HM1:=Qq (Qy hx1)
 have DD1:=Qq (Qe hkb1 (Qe d01 (Qe d11 (Qe d21 (Qe d31 (Qe d41 (Qe d51 (Qe d61 (Qe d71 d81)))))))))
 clear hvx1 hx1 hkb1 d01 d11 d21 d31 d41 d51 d61 d71 d81
 go_enter func140,ntmps140
 go_upto_region 16 with fail
 generalize hW1:(w.alloc _).alloc _=W1
 have hb1:=eqB hW1 (Zv _ _ _)
 have hX1:=eqH (b:=w.heap.size) hW1 (Q5 _ _ _)
 have hZ1:=eqH (b:=w.heap.size+1) hW1 (Q6 _ _ _)
 have HB1:=Qq hb1;have HX1:=Qq hX1;have HZ1:=Qq hZ1
 have hlt:=Qf hZ1
 clear hW1 hb1 hX1 hZ1
 have hXW1:=((Qq (Qz W1.heap.size W1)).out.block _ (Qf HX1.out)).trans HX1.out
 have c6:=rA6 hXW1
 clear hXW1
 obtain ⟨qb,q0,q1,q2,q3,q4,q5,q6,q7,q8⟩:=DD0.out
 have d00:=kD HB1.out qb q0;have d10:=kD HB1.out qb q1;have d20:=kD HB1.out qb q2;have d30:=kD HB1.out qb q3;have d40:=kD HB1.out qb q4;have d50:=kD HB1.out qb q5;have d60:=kD HB1.out qb q6;have d70:=kD HB1.out qb q7;have d80:=kD HB1.out qb q8
 clear qb q0 q1 q2 q3 q4 q5 q6 q7 q8
 go_upto_region 17 with (go_at_call 140;refine (HE0.out _ HB1.out).mono ?_;rintro e w5 ⟨k5,n5,s5,q35,m35,l35,q45,m45,l45,b5,rfl,hv5,hb5⟩;have HV5:=Qq hv5;have HB5:=Qq hb5;clear hv5 hb5)
 generalize hW6:w5.alloc _=W6
 have hb6:=eqB hW6 (Qn _ _)
 have hV6:=eqH (b:=w5.heap.size) hW6 (Qw _ _)
 have HB6:=Qq (HB5.out.thn hb6);have HVB6:=Qq hV6;have HVX6:=Qq hb6
 clear hW6 hb6 hV6
 have hlt6:w.heap.size+1<W6.heap.size:=by have:=HB6.out.size;omega
 cases b5 with
 | false=>
  obtain ⟨v0,v1,v2,v3,v4⟩:=row5 HVB6.out
  have hZW6:=kE HB6.out hlt HZ1.out
  obtain ⟨y0,y1,y2,y3,y4⟩:=row5 hZW6
  obtain ⟨f0,f1,f2,f3,f4⟩:=frz5 hZW6
  have HZW6:=Qq hZW6
  clear hZW6
  go_wp2_with fail
  show bodyPost _ _ _ _ _ (Zz W6 (w.heap.size+1) (.int .i64 k5) (.int .i64 n5) (.string s5) (.slice q35 m35 l35) (.slice q45 m45 l45))
  refine Q7 (v:=.tuple #[.agg #[.int .i64 k5,.int .i64 n5,.string s5,.slice q35 m35 l35,.slice q45 m45 l45],.bool false]) (by simp [results,results140,go_sem,Qm HZW6.out]) rfl (Yf (by omega) (HB1.out.thn HB6.out))
 | true=>
  obtain ⟨v,hvx,hvb⟩:=HV5.out rfl
  have hE:=Qq (fun W (hW:Below W6.heap.size W6 W)=>Gs d x1 (HI.out x1 HM1.out) (fun c=>(S c∧c<w.heap.size)∨W1.heap.size≤c) _ _ _ ns vs nm v [.int .i64 k5,.int .i64 n5,.string s5,.slice q35 m35 l35,.slice q45 m45 l45] W (HXx1.out.move (.of_below (HB1.out.thn (HB6.out.thn hW))) (fun _ _ h=>.inl h)) ((HN.out.below (HB1.out.thn (HB6.out.thn hW))).mono (fun _ _ h=>.inl h)) ((HV.out.below (HB1.out.thn (HB6.out.thn hW))).mono (fun _ _ h=>.inl h)) HLen.out (by omega) HBo.out hnm (hvx.move (.of_below (HVX6.out.thn hW)) (fun _ _ h=>h)) hvb)
  unfold sv at hE
  clear hvx hvb
  go_upto_region 19 with fail
  have hXW6:=kB HB6.out HX1.out
  have c1:=rA1 hXW6;have c6:=rA6 hXW6
  clear hXW6
  obtain ⟨v0,v1,v2,v3,v4⟩:=row5 HVB6.out
  obtain ⟨qb,q0,q1,q2,q3,q4,q5,q6,q7,q8⟩:=DD1.out
  have d01:=kD (HB1.out.thn HB6.out) qb q0;have d11:=kD (HB1.out.thn HB6.out) qb q1;have d21:=kD (HB1.out.thn HB6.out) qb q2;have d31:=kD (HB1.out.thn HB6.out) qb q3;have d41:=kD (HB1.out.thn HB6.out) qb q4;have d51:=kD (HB1.out.thn HB6.out) qb q5;have d61:=kD (HB1.out.thn HB6.out) qb q6;have d71:=kD (HB1.out.thn HB6.out) qb q7;have d81:=kD (HB1.out.thn HB6.out) qb q8
  clear qb q0 q1 q2 q3 q4 q5 q6 q7 q8
  have hkz:kb0≠w.heap.size+1:=by have:=DD1.out.1;omega
  have h5z:w5.heap.size≠w.heap.size+1:=by have:=HB5.out.size;omega
  refine let_mvar% ?Lq1:=fun w':World=>w'.cell? ⟨w.heap.size,1,none⟩=some (.string ⟨nm.toArray⟩)∧w'.cell? ⟨w.heap.size,6,none⟩=some (.slice (some ⟨kb0,ko0,none⟩) 2 c3)∧w'.cell? ⟨kb0,ko0+9,none⟩=some (.int .i64 ek1)∧w'.cell? ⟨kb0,ko0+9+1,none⟩=some (.string es1)∧w'.cell? ⟨kb0,ko0+9+2,none⟩=some (.int .i64 en1)∧w'.cell? ⟨kb0,ko0+9+3,none⟩=some (.string et1)∧w'.cell? ⟨kb0,ko0+9+4,none⟩=some (.slice e11 f11 g11)∧w'.cell? ⟨kb0,ko0+9+5,none⟩=some (.slice e21 f21 g21)∧w'.cell? ⟨kb0,ko0+9+6,none⟩=some (.slice e31 f31 g31)∧w'.cell? ⟨kb0,ko0+9+7,none⟩=some (.int .i64 ea1)∧w'.cell? ⟨kb0,ko0+9+8,none⟩=some (.int .i64 ez1)∧w'.cell? ⟨w5.heap.size,0,none⟩=some (.int .i64 k5)∧w'.cell? ⟨w5.heap.size,1,none⟩=some (.int .i64 n5)∧w'.cell? ⟨w5.heap.size,2,none⟩=some (.string s5)∧w'.cell? ⟨w5.heap.size,3,none⟩=some (.slice q35 m35 l35)∧w'.cell? ⟨w5.heap.size,4,none⟩=some (.slice q45 m45 l45);?_
  have HSq:=Qq (fun (w':World) (h:Below W6.heap.size W6 w')=>(show ?Lq1 w' from ⟨kC h c1,kC h c6,kC h d01,kC h d11,kC h d21,kC h d31,kC h d41,kC h d51,kC h d61,kC h d71,kC h d81,kC h v0,kC h v1,kC h v2,kC h v3,kC h v4⟩))
  have HP:∀ w' x0 x1 x2 x3 x4,?Lq1 w'→?Lq1 (Zz w' (w.heap.size+1) x0 x1 x2 x3 x4):=fun w' x0 x1 x2 x3 x4 h=>⟨Qr (by omega) h.1,Qr (by omega) h.2.1,Qr hkz h.2.2.1,Qr hkz h.2.2.2.1,Qr hkz h.2.2.2.2.1,Qr hkz h.2.2.2.2.2.1,Qr hkz h.2.2.2.2.2.2.1,Qr hkz h.2.2.2.2.2.2.2.1,Qr hkz h.2.2.2.2.2.2.2.2.1,Qr hkz h.2.2.2.2.2.2.2.2.2.1,Qr hkz h.2.2.2.2.2.2.2.2.2.2.1,Qr h5z h.2.2.2.2.2.2.2.2.2.2.2.1,Qr h5z h.2.2.2.2.2.2.2.2.2.2.2.2.1,Qr h5z h.2.2.2.2.2.2.2.2.2.2.2.2.2.1,Qr h5z h.2.2.2.2.2.2.2.2.2.2.2.2.2.2.1,Qr h5z h.2.2.2.2.2.2.2.2.2.2.2.2.2.2.2⟩
  unfold Zz at HP
  have HS0:=Qq (HSq.out W6.drew (Qz _ _).drew);have HP':=Qq HP
  clear HP hkz h5z c1 c6 d01 d11 d21 d31 d41 d51 d61 d71 d81 v0 v1 v2 v3 v4
  go_region_held3 ?Lq1 (first | with_reducible exact HS0.out | with_reducible exact hS2 | with_reducible exact HP'.out _ _ _ _ _ _ hS2)
   (first
    | (go_at_call 179;refine (hE.out _ (Qz _ _).drew).mono ?_;rintro e w7 ⟨k7,n7,s7,q37,m37,l37,q47,m47,l47,b7,rfl,hv7,hb7⟩;have hb7':=(Qz _ W6).drew.thn hb7;have hS2:=HSq.out w7 hb7';have hb17:=HB6.out.thn hb7';have hZ7:=kE (hb17) hlt HZ1.out;have f0:=fA 0 hZ7;have y0:=Qk _ _ 0 _ _ _ hZ7;have f1:=fA 1 hZ7;have y1:=Qk _ _ 1 _ _ _ hZ7;have f2:=fA 2 hZ7;have y2:=Qk _ _ 2 _ _ _ hZ7;have f3:=fA 3 hZ7;have y3:=Qk _ _ 3 _ _ _ hZ7;have f4:=fA 4 hZ7;have y4:=Qk _ _ 4 _ _ _ hZ7;simp only [List.getElem?_toArray,List.getElem?_cons_zero,List.getElem?_cons_succ] at y0 y1 y2 y3 y4;have HZ7:=Qq hZ7;clear hZ7;have HV7:=Qq hv7;have HB7:=Qq hb17;clear hv7 hb7 hb17 hb7'))
  all_goals
   go_wp2_with fail
   show bodyPost _ _ _ _ _ (Zz w7 (w.heap.size+1) (.int .i64 k7) (.int .i64 n7) (.string s7) (.slice q37 m37 l37) (.slice q47 m47 l47))
   refine Q7 (v:=.tuple #[.agg #[.int .i64 k7,.int .i64 n7,.string s7,.slice q37 m37 l37,.slice q47 m47 l47],.bool b7]) (by simp [results,results140,go_sem,Qm HZ7.out]) rfl (Vh HB1.out (by omega) hlt (fun hb=>by
     obtain ⟨v,h1,h2⟩:=HV7.out hb
     refine ⟨v,h1.move (.refl _ _) (fun c _ hc=>?_),h2⟩
     rcases hc with hc | hc
     ·exact hc
     exact .inr (by have:=HB6.out.size;have h':W6.heap.size≤c:=hc;omega)) HB7.out)
theorem reval_if (nm:Bs) (n:Int) (s:Bs) (names binds:List Bs) (kids:List Ex) (a z:Int) (d:Nat) (ih:∀ x ∈ kids,Yc d x) (h2:kids.length=3):∀ (S:Nat→Prop) (ce:List Value) (nv vv:Value) (ns:List Bs) (vs:List Val) (w:World),Z6 S w ce (.mk 12 nm n s names binds kids a z)→Sl Qp S w nv ns→Sl Ql S w vv vs→ns.length≤vs.length→vs.length+(d+1)≤1000→(∀ v ∈ vs,Z2 v) →
  Calls prog 140 #[.agg ce.toArray,nv,vv] w (Yi S w):=by
 intro S ce nv vv ns vs w hx0 hn0 hv0 hlen hd hb
 have hx:Z6 (fun b=>S b∧b<w.heap.size) w ce (.mk 12 nm n s names binds kids a z):=hx0.move (.refl _ _) (fun b hb h=>⟨h,hb⟩)
 have hn:=hn0.up
 have hv:=hv0.up
 obtain ⟨np,nc,rfl,_⟩:=hn.len
 obtain ⟨vp,vc,rfl,hvl⟩:=hv.len
 have HXX:=Qq hx
 obtain ⟨nv',bv,kv,rfl,hnm,hsx,hns,hbi,hk⟩:=Zf.1 hx
 obtain ⟨p1,c1,rfl,_⟩:=hns.len
 obtain ⟨p2,c2,rfl,_⟩:=hbi.len
 obtain ⟨p3,c3,rfl,hkl⟩:=hk.len
 have HN:=Qq hn;have HV:=Qq hv;have HBo:=Qq hb;have HNs:=Qq hns;have HBi:=Qq hbi;have HK:=Qq hk;have HI:=Qq ih;have HLen:=Qq hlen
 clear hx0 hn0 hv0 hx hn hv hns hbi hk hb ih hlen
 unfold sv at *
 rw [h2] at HK ⊢
 obtain ⟨x0,hx0⟩:∃ x,kids[0]?=some x:=⟨_,Qx (by omega)⟩
 obtain ⟨kb0,ko0,ek0,es0,en0,et0,e10,f10,g10,e20,f20,g20,e30,f30,g30,ea0,ez0,hp30,hkb0,hvx0,d00,d10,d20,d30,d40,d50,d60,d70,d80⟩:=HK.out.ex hx0
 subst hp30
 simp only [Nat.zero_mul,Nat.add_zero] at d00 d10 d20 d30 d40 d50 d60 d70 d80
 have HE0:=Qq (fun W (hW:Below w.heap.size w W)=>HI.out x0 (Qy hx0) (fun b=>S b∧b<w.heap.size) _ _ _ ns vs W (hvx0.move (.of_below hW) (fun _ _ h=>h)) (HN.out.below hW) (HV.out.below hW) HLen.out (by omega) HBo.out)
 have HXx0:=Qq hvx0;have HM0:=Qq (Qy hx0)
 have DD0:=Qq (Qe hkb0 (Qe d00 (Qe d10 (Qe d20 (Qe d30 (Qe d40 (Qe d50 (Qe d60 (Qe d70 d80)))))))))
 clear hvx0 hx0 hkb0 d00 d10 d20 d30 d40 d50 d60 d70 d80
 obtain ⟨x1,hx1⟩:∃ x,kids[1]?=some x:=⟨_,Qx (by omega)⟩
 obtain ⟨kb1,ko1,ek1,es1,en1,et1,e11,f11,g11,e21,f21,g21,e31,f31,g31,ea1,ez1,hp31,hkb1,hvx1,d01,d11,d21,d31,d41,d51,d61,d71,d81⟩:=HK.out.ex hx1
 simp only [Option.some.injEq,Addr.mk.injEq,and_true] at hp31
 obtain ⟨rfl,rfl⟩:=hp31
 simp only [Nat.one_mul] at d01 d11 d21 d31 d41 d51 d61 d71 d81
 have HE1:=Qq (fun W (hW:Below w.heap.size w W)=>HI.out x1 (Qy hx1) (fun b=>S b∧b<w.heap.size) _ _ _ ns vs W (hvx1.move (.of_below hW) (fun _ _ h=>h)) (HN.out.below hW) (HV.out.below hW) HLen.out (by omega) HBo.out)
 have HXx1:=Qq hvx1;have HM1:=Qq (Qy hx1)
 have DD1:=Qq (Qe hkb1 (Qe d01 (Qe d11 (Qe d21 (Qe d31 (Qe d41 (Qe d51 (Qe d61 (Qe d71 d81)))))))))
 clear hvx1 hx1 hkb1 d01 d11 d21 d31 d41 d51 d61 d71 d81
 obtain ⟨x2,hx2⟩:∃ x,kids[2]?=some x:=⟨_,Qx (by omega)⟩
 obtain ⟨kb2,ko2,ek2,es2,en2,et2,e12,f12,g12,e22,f22,g22,e32,f32,g32,ea2,ez2,hp32,hkb2,hvx2,d02,d12,d22,d32,d42,d52,d62,d72,d82⟩:=HK.out.ex hx2
 simp only [Option.some.injEq,Addr.mk.injEq,and_true] at hp32
 obtain ⟨rfl,rfl⟩:=hp32
 simp only [Nat.reduceMul] at d02 d12 d22 d32 d42 d52 d62 d72 d82
 have HE2:=Qq (fun W (hW:Below w.heap.size w W)=>HI.out x2 (Qy hx2) (fun b=>S b∧b<w.heap.size) _ _ _ ns vs W (hvx2.move (.of_below hW) (fun _ _ h=>h)) (HN.out.below hW) (HV.out.below hW) HLen.out (by omega) HBo.out)
 have HXx2:=Qq hvx2;have HM2:=Qq (Qy hx2)
 have DD2:=Qq (Qe hkb2 (Qe d02 (Qe d12 (Qe d22 (Qe d32 (Qe d42 (Qe d52 (Qe d62 (Qe d72 d82)))))))))
 clear hvx2 hx2 hkb2 d02 d12 d22 d32 d42 d52 d62 d72 d82
 go_enter func140,ntmps140
 go_upto_region 21 with fail
 generalize hW1:(w.alloc _).alloc _=W1
 have hb1:=eqB hW1 (Zv _ _ _)
 have hX1:=eqH (b:=w.heap.size) hW1 (Q5 _ _ _)
 have hZ1:=eqH (b:=w.heap.size+1) hW1 (Q6 _ _ _)
 have HB1:=Qq hb1;have HX1:=Qq hX1;have HZ1:=Qq hZ1
 have hlt:=Qf hZ1
 clear hW1 hb1 hX1 hZ1
 have hXW1:=((Qq (Qz W1.heap.size W1)).out.block _ (Qf HX1.out)).trans HX1.out
 have c6:=rA6 hXW1
 clear hXW1
 obtain ⟨qb,q0,q1,q2,q3,q4,q5,q6,q7,q8⟩:=DD0.out
 have d00:=kD HB1.out qb q0;have d10:=kD HB1.out qb q1;have d20:=kD HB1.out qb q2;have d30:=kD HB1.out qb q3;have d40:=kD HB1.out qb q4;have d50:=kD HB1.out qb q5;have d60:=kD HB1.out qb q6;have d70:=kD HB1.out qb q7;have d80:=kD HB1.out qb q8
 clear qb q0 q1 q2 q3 q4 q5 q6 q7 q8
 go_upto_region 22 with (go_at_call 140;refine (HE0.out _ HB1.out).mono ?_;rintro e w5 ⟨k5,n5,s5,q35,m35,l35,q45,m45,l45,b5,rfl,hv5,hb5⟩;have HV5:=Qq hv5;have HB5:=Qq hb5;clear hv5 hb5)
 generalize hW6:w5.alloc _=W6
 have hb6:=eqB hW6 (Qn _ _)
 have hV6:=eqH (b:=w5.heap.size) hW6 (Qw _ _)
 have HB6:=Qq (HB5.out.thn hb6);have HVB6:=Qq hV6;have HVX6:=Qq hb6
 clear hW6 hb6 hV6
 have hlt6:w.heap.size+1<W6.heap.size:=by have:=HB6.out.size;omega
 clear c6 d00 d10 d20 d30 d40 d50 d60 d70 d80
 obtain ⟨v0,v1,v2,v3,v4⟩:=row5 HVB6.out
 have hsp:b5=false∨(b5=true∧(k5 != 2)=true)∨(b5=true∧k5=2):=by
  cases b5 with
  | false=>exact .inl rfl
  | true=>
   by_cases h:k5=2
   ·exact .inr (.inr ⟨rfl,h⟩)
   exact .inr (.inl ⟨rfl,by simpa using h⟩)
 rcases hsp with rfl | ⟨rfl,hq⟩ | ⟨rfl,rfl⟩
 ·clear v0 v1 v2 v3 v4
  obtain ⟨v0,v1,v2,v3,v4⟩:=row5 HVB6.out
  have hZW6:=kE HB6.out hlt HZ1.out
  obtain ⟨y0,y1,y2,y3,y4⟩:=row5 hZW6
  obtain ⟨f0,f1,f2,f3,f4⟩:=frz5 hZW6
  have HZW6:=Qq hZW6
  clear hZW6
  go_wp2_with fail
  show bodyPost _ _ _ _ _ (Zz W6 (w.heap.size+1) (.int .i64 k5) (.int .i64 n5) (.string s5) (.slice q35 m35 l35) (.slice q45 m45 l45))
  refine Q7 (v:=.tuple #[.agg #[.int .i64 k5,.int .i64 n5,.string s5,.slice q35 m35 l35,.slice q45 m45 l45],.bool false]) (by simp [results,results140,go_sem,Qm HZW6.out]) rfl (Yf (by omega) (HB1.out.thn HB6.out))
 ·skip
  have hZW6:=kE HB6.out hlt HZ1.out
  obtain ⟨y0,y1,y2,y3,y4⟩:=row5 hZW6
  obtain ⟨f0,f1,f2,f3,f4⟩:=frz5 hZW6
  have HZW6:=Qq hZW6
  clear hZW6
  go_wp2_with fail
  show bodyPost _ _ _ _ _ (Zz W6 (w.heap.size+1) (.int .i64 k5) (.int .i64 n5) (.string s5) (.slice q35 m35 l35) (.slice q45 m45 l45))
  refine Q7 (v:=.tuple #[.agg #[.int .i64 k5,.int .i64 n5,.string s5,.slice q35 m35 l35,.slice q45 m45 l45],.bool false]) (by simp [results,results140,go_sem,Qm HZW6.out]) rfl (Yf (by omega) (HB1.out.thn HB6.out))
 obtain ⟨v,hvx,hvb⟩:=HV5.out rfl
 have hn5:n5=0∨n5=1:=by
  obtain ⟨h1,h2,_⟩:=hvx.head
  rw [← h2];exact hvb.bool h1
 clear hvx hvb
 have hq:((2:Int) != 2)=false:=rfl
 rcases hn5 with rfl | rfl
 focus
  have hXW6:=kB HB6.out HX1.out
  have c6:=rA6 hXW6
  clear hXW6
  obtain ⟨qb,q0,q1,q2,q3,q4,q5,q6,q7,q8⟩:=DD2.out
  have d02:=kD (HB1.out.thn HB6.out) qb q0;have d12:=kD (HB1.out.thn HB6.out) qb q1;have d22:=kD (HB1.out.thn HB6.out) qb q2;have d32:=kD (HB1.out.thn HB6.out) qb q3;have d42:=kD (HB1.out.thn HB6.out) qb q4;have d52:=kD (HB1.out.thn HB6.out) qb q5;have d62:=kD (HB1.out.thn HB6.out) qb q6;have d72:=kD (HB1.out.thn HB6.out) qb q7;have d82:=kD (HB1.out.thn HB6.out) qb q8
  clear qb q0 q1 q2 q3 q4 q5 q6 q7 q8
  go_wp2_with (go_at_call 140;refine (HE2.out _ (HB1.out.thn HB6.out)).mono ?_;rintro e w7 ⟨k7,n7,s7,q37,m37,l37,q47,m47,l47,b7,rfl,hv7,hb7⟩;have hZ7:=kE (HB6.out.thn hb7) hlt HZ1.out;have f0:=fA 0 hZ7;have y0:=Qk _ _ 0 _ _ _ hZ7;have f1:=fA 1 hZ7;have y1:=Qk _ _ 1 _ _ _ hZ7;have f2:=fA 2 hZ7;have y2:=Qk _ _ 2 _ _ _ hZ7;have f3:=fA 3 hZ7;have y3:=Qk _ _ 3 _ _ _ hZ7;have f4:=fA 4 hZ7;have y4:=Qk _ _ 4 _ _ _ hZ7;simp only [List.getElem?_toArray,List.getElem?_cons_zero,List.getElem?_cons_succ] at y0 y1 y2 y3 y4;have HZ7:=Qq hZ7;clear hZ7;have HV7:=Qq hv7;have HB7:=Qq hb7;clear hv7 hb7)
  show bodyPost _ _ _ _ _ (Zz w7 (w.heap.size+1) (.int .i64 k7) (.int .i64 n7) (.string s7) (.slice q37 m37 l37) (.slice q47 m47 l47))
  refine Q7 (v:=.tuple #[.agg #[.int .i64 k7,.int .i64 n7,.string s7,.slice q37 m37 l37,.slice q47 m47 l47],.bool b7]) (by simp [results,results140,go_sem,Qm HZ7.out]) rfl (Vh (HB1.out.thn HB6.out) (by omega) hlt6 HV7.out HB7.out)
 focus
  have hXW6:=kB HB6.out HX1.out
  have c6:=rA6 hXW6
  clear hXW6
  obtain ⟨qb,q0,q1,q2,q3,q4,q5,q6,q7,q8⟩:=DD1.out
  have d01:=kD (HB1.out.thn HB6.out) qb q0;have d11:=kD (HB1.out.thn HB6.out) qb q1;have d21:=kD (HB1.out.thn HB6.out) qb q2;have d31:=kD (HB1.out.thn HB6.out) qb q3;have d41:=kD (HB1.out.thn HB6.out) qb q4;have d51:=kD (HB1.out.thn HB6.out) qb q5;have d61:=kD (HB1.out.thn HB6.out) qb q6;have d71:=kD (HB1.out.thn HB6.out) qb q7;have d81:=kD (HB1.out.thn HB6.out) qb q8
  clear qb q0 q1 q2 q3 q4 q5 q6 q7 q8
  go_wp2_with (go_at_call 140;refine (HE1.out _ (HB1.out.thn HB6.out)).mono ?_;rintro e w7 ⟨k7,n7,s7,q37,m37,l37,q47,m47,l47,b7,rfl,hv7,hb7⟩;have hZ7:=kE (HB6.out.thn hb7) hlt HZ1.out;have f0:=fA 0 hZ7;have y0:=Qk _ _ 0 _ _ _ hZ7;have f1:=fA 1 hZ7;have y1:=Qk _ _ 1 _ _ _ hZ7;have f2:=fA 2 hZ7;have y2:=Qk _ _ 2 _ _ _ hZ7;have f3:=fA 3 hZ7;have y3:=Qk _ _ 3 _ _ _ hZ7;have f4:=fA 4 hZ7;have y4:=Qk _ _ 4 _ _ _ hZ7;simp only [List.getElem?_toArray,List.getElem?_cons_zero,List.getElem?_cons_succ] at y0 y1 y2 y3 y4;have HZ7:=Qq hZ7;clear hZ7;have HV7:=Qq hv7;have HB7:=Qq hb7;clear hv7 hb7)
  show bodyPost _ _ _ _ _ (Zz w7 (w.heap.size+1) (.int .i64 k7) (.int .i64 n7) (.string s7) (.slice q37 m37 l37) (.slice q47 m47 l47))
  refine Q7 (v:=.tuple #[.agg #[.int .i64 k7,.int .i64 n7,.string s7,.slice q37 m37 l37,.slice q47 m47 l47],.bool b7]) (by simp [results,results140,go_sem,Qm HZ7.out]) rfl (Vh (HB1.out.thn HB6.out) (by omega) hlt6 HV7.out HB7.out)
end Go.Proofs.YtppbaladeefnkaaGreatDoor
