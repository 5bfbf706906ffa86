import Derived.Test.YtppbaladeefnkaaGreatDoorV18
import Derived.Test.YtppbaladeefnkaaGreatDoorV25
import Derived.Test.YtppbaladeefnkaaGreatDoorV17
set_option maxRecDepth 100000
set_option maxHeartbeats 400000000
namespace Go.Proofs.YtppbaladeefnkaaGreatDoor
open Go.RowKit Go.Shelf Go.Lib Tryz
def Ja (us:List Sm) (v:Val) (t:Ty) (b:Bool):Prop:=∀ (S S' S'':Nat→Prop) (cv ct:List Value) (uv:Value) (w:World),Sl Ke S'' w uv us→Qh S w cv v→Y7 S' w ct t →
 Calls prog 137 #[uv,.agg cv.toArray,.agg ct.toArray] w fun e w'=>e=.returned (.bool b)∧Gr w w'
theorem Gr.dr {a b:World} (h:Gr a b):Gr a b.drew:=h.thn ⟨1,#[],by rw [Sort.grow_empty];rfl⟩
theorem rhasLeaf (us:List Sm) (v:Val) (k:Int) (hk:k=0∨k=1∨k=2) (s:Bs) (n:Int) (names:List Bs) (kids:List Ty):Ja us v (.mk k s n names kids) (v.kind==k):=by
 intro S S' S'' cv ct uv w hu hv ht
 obtain ⟨up,uc,rfl,_⟩:=hu.len
 obtain ⟨p3,k3,p4,k4,hcv,_⟩:=Qh.cells hv
 simp only [vcs] at hcv
 subst hcv
 obtain ⟨q3,l3,q4,l4,rfl,_⟩:=ht.cells'
 clear hv ht hu
 rcases hk with rfl | rfl | rfl
 all_goals
  go_enter func137,ntmps137
  go_upto_region 5 with fail
  go_region_with fail
  all_goals
   go_wp2_with fail
   go_ret
   exact ⟨rfl,by first | exact (X6 _ _ _).dr | exact ((X6 _ _ _).alloc _).dr | exact (X6 _ _ _).dr.alloc _ | exact (X6 _ _ _).alloc _⟩
theorem rhasGood (us:List Sm) (v:Val) (t:Ty) (b:Bool) (hg:Zr v) (h:Ja us v t b) (S S' S'':Nat→Prop) (cv ct:List Value) (uv:Value) (w:World) (hu:Sl Ke S'' w uv us) (hv:Qh S w cv v) (ht:Y7 S' w ct t):
  Calls prog 110 #[uv,.agg cv.toArray,.agg ct.toArray] w fun e w'=>e=.returned (.bool b)∧Below w.heap.size w w':=by
 obtain ⟨up,uc,rfl,_⟩:=hu.len
 have HV:=Qq (fun W (hb:Below w.heap.size w W)=>N0 v hg S cv W (hv.move (.of_below hb) (fun _ _ h=>h)))
 have HH:=Qq (fun W (hb:Below w.heap.size w W)=>h S S' S'' cv ct _ W (hu.below hb) (hv.move (.of_below hb) (fun _ _ h=>h)) (ht.move (.of_below hb) (fun _ _ h=>h)))
 obtain ⟨p3,k3,p4,k4,hcv,_⟩:=Qh.cells hv
 simp only [vcs] at hcv
 subst hcv
 obtain ⟨y1,y2,y3,y4,y5,y6,y7,y8,y9,rfl⟩:=ht.cells
 clear hu hv ht h hg
 go_enter func110,ntmps110
 go_wp2_with fail
 refine (HV.out _ (Zv _ _ _)).mono ?_
 rintro e w1 ⟨rfl,hw⟩
 have hG0:=(hw.block w.heap.size (by simp;omega)).trans (Q5 w _ _)
 have hG1:=(hw.block (w.heap.size+1) (by simp)).trans (Q6 w _ _)
 have c0:=rA0 hG0;have c1:=rA1 hG0;have c2:=rA2 hG0;have c3:=rA3 hG0;have c4:=rA4 hG0;have d0:=rA0 hG1;have d1:=rA1 hG1;have d2:=rA2 hG1;have d3:=rA3 hG1;have d4:=rA4 hG1
 have HW:=Qq ((Zv w _ _).thn hw)
 clear hw hG0 hG1
 go_wp2_with (go_at_call 137;refine (HH.out _ HW.out).mono ?_;rintro e w' ⟨rfl,hw⟩)
 go_ret
 exact ⟨rfl,HW.out.thn hw.bl⟩
theorem Sl.ty {S:Nat→Prop} {w:World} {p:Option Addr} {n cap:Nat} {xs:List Ty} (h:Sl Uq S w (.slice p n cap) xs) {i:Nat} {x:Ty} (hx:xs[i]?=some x):
  ∃ b off tk ts tn t3 n3 l3 t4 n4 l4,p=some ⟨b,off,none⟩∧b<w.heap.size∧Y7 S w [.int .i64 tk,.string ts,.int .i64 tn,.slice t3 n3 l3,.slice t4 n4 l4] x∧w.cell? ⟨b,off+i*5,none⟩=some (.int .i64 tk)∧w.cell? ⟨b,off+i*5+1,none⟩=some (.string ts)∧w.cell? ⟨b,off+i*5+2,none⟩=some (.int .i64 tn)∧w.cell? ⟨b,off+i*5+3,none⟩=some (.slice t3 n3 l3)∧w.cell? ⟨b,off+i*5+4,none⟩=some (.slice t4 n4 l4):=by
 obtain ⟨q,cap',e,hl,hh⟩:=h
 have hne:xs≠[]:=by intro h0;subst h0;simp at hx
 obtain ⟨b,off,hq,hS,hb,hc⟩:=hh hne
 obtain ⟨cs,hcs,hr⟩:=hc i x hx
 have hr':Y7 S w cs x:=hr
 obtain ⟨tk,ts,tn,t3,n3,l3,t4,n4,l4,rfl⟩:=hr'.cells
 cases e
 exact ⟨b,off,tk,ts,tn,t3,n3,l3,t4,n4,l4,hq,hb,hr',hcs 0 _ rfl,hcs 1 _ rfl,hcs 2 _ rfl,hcs 3 _ rfl,hcs 4 _ rfl⟩
theorem Rz {A B:Type} {p:A→B→Bool} {a:List A} {b:List B} {k:Nat} {x:A} {y:B} (hx:a[k]?=some x) (hy:b[k]?=some y):eqL p (a.drop k) (b.drop k)=(p x y&&eqL p (a.drop (k+1)) (b.drop (k+1))):=by
 obtain ⟨h1,e1⟩:=Qj hx
 obtain ⟨h2,e2⟩:=Qj hy
 rw [List.drop_eq_getElem_cons h1,List.drop_eq_getElem_cons h2,e1,e2];rfl
theorem rhasRec (us:List Sm) (v:Val) (s:Bs) (names:List Bs) (kids:List Ty) (p:Val→Ty→Bool) (hkl:kids.length=names.length) (hvl:v.kind=4→v.kids.length=v.names.length) (hp:∀ x ∈ v.kids,∀ y ∈ kids,Ja us x y (p x y)):Ja us v (.mk 5 s 0 names kids) ((v.kind==4)&&decide (v.names=names)&&eqL p v.kids kids):=by
 intro S S' S'' cv ct uv w hu hv ht
 obtain ⟨up,uc,rfl,_⟩:=hu.len
 obtain ⟨p3,k3,p4,k4,hcv,hvn,hvk,_⟩:=Qh.cells hv
 simp only [vcs] at hcv
 subst hcv
 obtain ⟨q3,l3,q4,l4,rfl,htn,htk⟩:=ht.cells'
 have mixed:prog.follows .mixedOrders=true:=by kernel_rfl
 by_cases h4:v.kind=4
 ·have HST:=Qq (fun W (hb:Below w.heap.size w W)=>Ox S S' _ _ v.names names W (hvn.below hb) (htn.below hb))
  have hq:(v.kind==4)=true:=by rw [h4];rfl
  rw [hq,Bool.true_and]
  have hl2:=hvl h4
  rw [h4]
  obtain ⟨m,hm⟩:=eX (v.kids.length)
  have hdec:decide (v.names=names)=true→kids.length=m:=fun h=>by have:=of_decide_eq_true h;rw [hkl,← this];omega
  obtain ⟨bn,hbn⟩:=eX (decide (v.names=names))
  rw [hbn] at HST hdec ⊢
  obtain ⟨r,hr⟩:=eX (eqL p v.kids kids)
  rw [hr]
  have HR:=Qq hr;have HVK:=Qq hvk;have HTK:=Qq htk;have HU:=Qq hu;have HP:=Qq hp;have HM:=Qq hm
  obtain ⟨_,_,_,hml⟩:=hvk.len
  rw [hm] at hml
  obtain ⟨km,hkm⟩:=eX (kids.length)
  have hkm2:names.length=km:=by omega
  rw [hm] at HVK ⊢;rw [hkm] at HTK hdec;simp only [hkm2] at HST;rw [hkm,hkm2]
  have hqm:((km:Int) != (km:Int))=false:=by simp
  have HKM:=Qq hkm;have HD:=Qq hdec
  clear hu hv ht hvn hvk htn htk hp hq hl2 hr hvl hdec hbn hm hkl hkm hkm2
  go_enter func137,ntmps137
  go_wp2_with fail
  refine (HST.out _ (X6 _ _ _).bl).mono ?_
  rintro e w1 ⟨rfl,hg1⟩
  have hG0:=(hg1.bl.block w.heap.size (by simp;omega)).trans (Q5 w _ _)
  have hG1:=(hg1.bl.block (w.heap.size+1) (by simp)).trans (Q6 w _ _)
  have hgw:Gr w w1:=(X6 _ _ _).thn hg1
  have HG:=Qq hgw
  have hb0:=Qf hG0;have hb1:=Qf hG1
  have c4:=rA4 hG0;have d4:=rA4 hG1
  clear hg1 hG0 hG1 hgw
  cases bn with
  | false=>
   go_wp2_with fail
   go_ret
   exact ⟨rfl,HG.out⟩
  | true=>
   obtain rfl:km=m:=HD.out rfl
   have HC4:=Qq c4;have HD4:=Qq d4
   go_wp2_with fail
   clear c4 d4 hqm
   go_loopw [8] (fun i wr=>∃ k:Nat,k≤km∧i=.int .i64 k∧Aside (eqL p (v.kids.drop k) (kids.drop k)=r)∧Aside (Gr w1 wr)) (fun i _=>km - (intOf i).toNat)
   case atStart=>exact ⟨0,Q8 _,rfl,HR.out,Gr.refl _⟩
   obtain ⟨k,hk,rfl,hc,hBl⟩:=hrel
   have HBl:=Qq (show Gr w1 wr from hBl);have HC:=Qq (show eqL p (v.kids.drop k) (kids.drop k)=r from hc)
   have hb0':w.heap.size<wr.heap.size:=by have:=HBl.out.bl.size;omega
   have hb1':w.heap.size+1<wr.heap.size:=by have:=HBl.out.bl.size;omega
   have c4:=(HBl.out.bl.cell (p:=⟨w.heap.size,4,none⟩) hb0).trans HC4.out
   have d4:=(HBl.out.bl.cell (p:=⟨w.heap.size+1,4,none⟩) hb1).trans HD4.out
   clear hBl hc
   by_cases hlt:k<km
   ·obtain ⟨x,hx⟩:∃ x,v.kids[k]?=some x:=⟨_,Qx (by rw [HM.out];exact hlt)⟩
    obtain ⟨y,hy⟩:∃ y,kids[k]?=some y:=⟨_,Qx (by rw [HKM.out];exact hlt)⟩
    have hwr:Below w.heap.size w wr:=(HG.out.thn HBl.out).bl
    obtain ⟨ga,oa,x3,m3,x4,m4,rfl,hga,hva,a0,a1,a2,a3,a4⟩:=(HVK.out.below hwr).val hx
    obtain ⟨gb,ob,tk,ts,tn,t3,n3,l3',t4,n4,l4',rfl,hgb,hvb,e0,e1,e2,e3,e4⟩:=(HTK.out.below hwr).ty hy
    have HX:=Qq (HP.out x (Qy hx) y (Qy hy))
    have hc2:=HC.out
    rw [Rz hx hy] at hc2
    have hu':=HU.out.below hwr
    have HVa:=Qq hva;have HVb:=Qq hvb;have HUu:=Qq hu'
    generalize p x y=c at HX hc2
    have hi1:(0:Int)≤(k:Int):=by omega
    have hi2:(k:Int)<km:=by omega
    have hcg:∀ n os,Calls prog 137 #[.slice up us.length uc,.agg (vcs x x3 m3 x4 m4).toArray,.agg #[.int .i64 tk,.string ts,.int .i64 tn,.slice t3 n3 l3',.slice t4 n4 l4']] (Sort.grow (wr.drewN n) os) fun e w'=>e=.returned (.bool c)∧Gr (Sort.grow (wr.drewN n) os) w':=fun n os=>HX.out _ _ _ _ _ _ _ (HUu.out.below (Z7 _ _ _).bl) (HVa.out.move (.of_below (Z7 _ _ _).bl) (fun _ _ h=>h)) (HVb.out.move (.of_below (Z7 _ _ _).bl) (fun _ _ h=>h))
    unfold vcs at hcg
    have A0:=Qs hga a0;have A1:=Qs hga a1;have A2:=Qs hga a2;have A3:=Qs hga a3;have A4:=Qs hga a4
    have E0:=Qs hgb e0;have E1:=Qs hgb e1;have E2:=Qs hgb e2;have E3:=Qs hgb e3;have E4:=Qs hgb e4
    have C4:=Qs hb0' c4;have D4:=Qs hb1' d4
    clear a0 a1 a2 a3 a4 e0 e1 e2 e3 e4 hva hvb hx hy hu' hwr
    cases c with
    | true=>
     have HC2:=Qq (show eqL p (v.kids.drop (k+1)) (kids.drop (k+1))=r from by rw [Bool.true_and] at hc2;exact hc2)
     clear hc2
     go_wp2_with fail
     go_quiet_grown (first | (go_at_call 137;refine Calls.grown_of (hcg _ _)))
     go_wp2_with fail
     go_roundw
     case rel=>exact ⟨k+1,by omega,by go_num,HC2.out,HBl.out.thn (Z7 _ _ _)⟩
     case measure=>simp [intOf];omega
    | false=>
     obtain rfl:false=r:=hc2
     go_wp2_with fail
     go_quiet_grown (first | (go_at_call 137;refine Calls.grown_of (hcg _ _)))
     go_wp2_with fail
     go_ret
     exact ⟨rfl,(HG.out.thn HBl.out).thn (Z7 _ _ _)⟩
   obtain rfl:k=km:=by omega
   have hrt:r=true:=by
    rw [← HC.out,List.drop_of_length_le (by rw [HM.out];exact Q9 _),List.drop_of_length_le (by rw [HKM.out];exact Q9 _)];rfl
   subst hrt
   go_wp2_with fail
   go_ret
   exact ⟨rfl,HG.out.thn HBl.out⟩
 have hq:(v.kind==4)=false:=by simpa using h4
 have hq2:(v.kind != 4)=true:=by simpa using h4
 rw [hq]
 clear hu hv ht hvn hvk htn htk hp
 go_enter func137,ntmps137
 go_wp2_with fail
 go_ret
 exact ⟨rfl,X6 _ _ _⟩
theorem Rg {l:List Tbl} {x:Bs} {k:Nat} {t:Tbl} (ht:l[k]?=some t) (he:t.name=x) (hne:∀ (j:Nat) (y:Tbl),j<k→l[j]?=some y→decide (y.name=x)=false):Z5 l x=some t:=by
 obtain ⟨hk,rfl⟩:=Qj ht
 unfold Z5
 rw [List.find?_eq_some_iff_getElem]
 exact ⟨by simpa using he,k,hk,rfl,fun j hj=>by simpa using hne j _ hj (Qx (by omega))⟩
theorem Nh {l:List Tbl} {x:Bs} (hne:∀ (j:Nat) (y:Tbl),l[j]?=some y→decide (y.name=x)=false):Z5 l x=none:=by
 unfold Z5
 rw [List.find?_eq_none]
 intro y hy
 obtain ⟨j,hj⟩:=List.getElem?_of_mem hy
 simpa using hne j y hj
def TabIs (S:Nat→Prop) (w:World) (o:Option Tbl) (e:Ending) (w':World):Prop:=∃ cs',e=.returned (.tuple #[.agg cs'.toArray,.bool o.isSome])∧Qt.R S w' cs' (o.getD Tbl.zero)∧Below w.heap.size w w'
theorem Bx (S:Nat→Prop) (s:Sc) (cs:List Value) (x0:Bs) (w:World) (hs:Yn S w cs s):
  Calls prog 9 #[.agg cs.toArray,sv x0] w (TabIs S w (Z5 s.tables x0)):=by
 obtain ⟨uv,tv,rfl,hu,ht0⟩:=hs
 have ht:=ht0.up
 obtain ⟨up,uc,rfl,_⟩:=hu.len
 obtain ⟨tp,tc,rfl,hl0⟩:=ht.len
 have HT:=Qq ht
 clear hu ht ht0
 obtain ⟨n,hn⟩:=eX (s.tables.length)
 rw [hn] at HT hl0 ⊢
 have HN:=Qq hn
 clear hn
 obtain ⟨r,hr⟩:=eX (Z5 s.tables x0)
 rw [hr]
 have HR:=Qq hr
 clear hr
 unfold sv
 go_enter func9,ntmps9
 go_wp2_with fail
 generalize hW1:(w.alloc _).alloc _=W1
 have hb1:=eqB hW1 (Zv _ _ _)
 have hX1:=eqH (b:=w.heap.size) hW1 (Q5 _ _ _)
 have hR1:=eqH (b:=w.heap.size+1) hW1 (Q6 _ _ _)
 have HB1:=Qq hb1;have HR1:=Qq hR1
 obtain ⟨c0,c1⟩:=row2 hX1
 obtain ⟨r0,r1,r2,r3,r4,r5,r6,r7,r8,r9,r10,r11,r12⟩:=row13 hR1
 obtain ⟨f0,f1,f2,f3,f4,f5,f6,f7,f8,f9,f10,f11,f12⟩:=frz13 hR1
 clear hW1 hb1 hX1 hR1
 go_loop [6] (fun i=>∃ k:Nat,k≤n∧i=.int .i64 k∧Aside (∀ (j:Nat) (y:Tbl),j<k→s.tables[j]?=some y→decide (y.name=x0)=false)) (fun i=>n - (intOf i).toNat)
 case atStart=>exact ⟨0,Q8 _,rfl,fun j _ hj=>absurd hj (Nat.not_lt_zero _)⟩
 obtain ⟨k,hk,rfl,A⟩:=hrel
 by_cases hlt:k<n
 ·have hi1:(0:Int)≤(k:Int):=by omega
  have hi2:(k:Int)<(n:Int):=by omega
  obtain ⟨y,hy⟩:∃ y,s.tables[k]?=some y:=⟨_,Qx (by rw [HN.out];exact hlt)⟩
  obtain ⟨b,off,ct,rfl,hbl,hSb,_,hR,hc⟩:=(HT.out.below HB1.out).elem hy
  have hRr:=hR
  obtain ⟨cp9,cc9,kp9,kc9,rp9,rc9,k9,s19,n9,s29,p19,n19,c19,p29,n29,c29,p39,n39,c39,a9,z9,hcs,_⟩:=Zk hR
  simp only [tcs] at hcs
  subst hcs
  have d0:=hc 0 _ rfl
  have d1:=hc 1 _ rfl
  have d2:=hc 2 _ rfl
  have d3:=hc 3 _ rfl
  have d4:=hc 4 _ rfl
  have d5:=hc 5 _ rfl
  have d6:=hc 6 _ rfl
  have d7:=hc 7 _ rfl
  have d8:=hc 8 _ rfl
  have d9:=hc 9 _ rfl
  have d10:=hc 10 _ rfl
  have d11:=hc 11 _ rfl
  have d12:=hc 12 _ rfl
  simp only [show Qt.k=13 from rfl,Nat.add_zero] at d0 d1 d2 d3 d4 d5 d6 d7 d8 d9 d10 d11 d12
  have HRr:=Qq hRr;have HY:=Qq hy
  clear hR hRr hc hy
  by_cases he:y.name=x0
  ·have hq:(y.name==x0)=true:=by rw [he];simp
   have hr0:r=some y:=by rw [← HR.out];exact Rg HY.out he A.out
   subst hr0
   clear he A
   go_wp2_with fail
   obtain ⟨W,hW⟩:=eX (Xa W1 (w.heap.size+1) (.string ⟨y.name.toArray⟩) (.slice cp9 y.columns.length cc9) (.slice kp9 y.key.length kc9) (.slice rp9 y.refs.length rc9) (.int .i64 k9) (.string s19) (.int .i64 n9) (.string s29) (.slice p19 n19 c19) (.slice p29 n29 c29) (.slice p39 n39 c39) (.int .i64 a9) (.int .i64 z9))
   have q:∀ j,W.cell? ⟨w.heap.size+1,j,none⟩=#[.string ⟨y.name.toArray⟩,.slice cp9 y.columns.length cc9,.slice kp9 y.key.length kc9,.slice rp9 y.refs.length rc9,.int .i64 k9,.string s19,.int .i64 n9,.string s29,.slice p19 n19 c19,.slice p29 n29 c29,.slice p39 n39 c39,.int .i64 a9,.int .i64 z9][j]?:=fun j=>by rw [← hW];exact Vw HR1.out j
   have hoth:∀ b,b≠w.heap.size+1→W.heap[b]?=W1.heap[b]?:=fun b hb=>by rw [← hW];exact Vf hb
   have hbel:Below w.heap.size w W:=by rw [← hW];exact Yd HB1.out (by omega)
   show bodyPost _ _ _ _ _ (Xa W1 (w.heap.size+1) (.string ⟨y.name.toArray⟩) (.slice cp9 y.columns.length cc9) (.slice kp9 y.key.length kc9) (.slice rp9 y.refs.length rc9) (.int .i64 k9) (.string s19) (.int .i64 n9) (.string s29) (.slice p19 n19 c19) (.slice p29 n29 c29) (.slice p39 n39 c39) (.int .i64 a9) (.int .i64 z9))
   rw [hW]
   have HBel:=Qq hbel;have HOth:=Qq hoth
   have q0:=q 0;have q1:=q 1;have q2:=q 2;have q3:=q 3;have q4:=q 4;have q5:=q 5;have q6:=q 6;have q7:=q 7;have q8:=q 8;have q9:=q 9;have q10:=q 10;have q11:=q 11;have q12:=q 12
   simp only [List.getElem?_toArray,List.getElem?_cons_zero,List.getElem?_cons_succ] at q0 q1 q2 q3 q4 q5 q6 q7 q8 q9 q10 q11 q12
   clear hW hbel hoth q
   refine Q7 (v:=.tuple #[.agg #[.string ⟨y.name.toArray⟩,.slice cp9 y.columns.length cc9,.slice kp9 y.key.length kc9,.slice rp9 y.refs.length rc9,.int .i64 k9,.string s19,.int .i64 n9,.string s29,.slice p19 n19 c19,.slice p29 n29 c29,.slice p39 n39 c39,.int .i64 a9,.int .i64 z9],.bool true]) (by simp [results,results9,go_sem,q0,q1,q2,q3,q4,q5,q6,q7,q8,q9,q10,q11,q12]) rfl ⟨[.string ⟨y.name.toArray⟩,.slice cp9 y.columns.length cc9,.slice kp9 y.key.length kc9,.slice rp9 y.refs.length rc9,.int .i64 k9,.string s19,.int .i64 n9,.string s29,.slice p19 n19 c19,.slice p29 n29 c29,.slice p39 n39 c39,.int .i64 a9,.int .i64 z9],rfl,Qt.mono (Qt.frame HRr.out (fun b hb _=>HOth.out b (by have:=hb.2;omega))) (fun b _ h=>h.1),HBel.out⟩
  have hq:(y.name==x0)=false:=by rw [← Bool.not_eq_true,beq_iff_eq];exact he
  have HE:=Qq he
  clear he
  go_wp2_with fail
  go_round
  case measure=>simp [intOf];omega
  case rel=>
   refine ⟨k+1,by omega,by go_num,(show Aside _ from fun j z hj hz=>?_)⟩
   by_cases e:j=k
   ·subst e
    have:=HY.out
    rw [this] at hz
    cases hz
    simpa using HE.out
   exact A.out j z (by omega) hz
 have hltz:¬ (k:Int)<(n:Int):=by omega
 have:k=n:=by omega
 subst this
 have hr0:r=none:=by rw [← HR.out];exact Nh (fun j y hy=>A.out j y (by have:=(Qj hy).1;have:=HN.out;omega) hy)
 subst hr0
 clear A
 go_wp2_with fail
 obtain ⟨W,hW⟩:=eX (Xa W1 (w.heap.size+1) (.string ⟨#[]⟩) (.slice none 0 0) (.slice none 0 0) (.slice none 0 0) (.int .i64 0) (.string ⟨#[]⟩) (.int .i64 0) (.string ⟨#[]⟩) (.slice none 0 0) (.slice none 0 0) (.slice none 0 0) (.int .i64 0) (.int .i64 0))
 have q:∀ j,W.cell? ⟨w.heap.size+1,j,none⟩=zT[j]?:=fun j=>by rw [← hW];exact Vw HR1.out j
 have hoth:∀ b,b≠w.heap.size+1→W.heap[b]?=W1.heap[b]?:=fun b hb=>by rw [← hW];exact Vf hb
 have hbel:Below w.heap.size w W:=by rw [← hW];exact Yd HB1.out (by omega)
 show bodyPost _ _ _ _ _ (Xa W1 (w.heap.size+1) (.string ⟨#[]⟩) (.slice none 0 0) (.slice none 0 0) (.slice none 0 0) (.int .i64 0) (.string ⟨#[]⟩) (.int .i64 0) (.string ⟨#[]⟩) (.slice none 0 0) (.slice none 0 0) (.slice none 0 0) (.int .i64 0) (.int .i64 0))
 rw [hW]
 have HBel:=Qq hbel;have HOth:=Qq hoth
 have q0:=q 0;have q1:=q 1;have q2:=q 2;have q3:=q 3;have q4:=q 4;have q5:=q 5;have q6:=q 6;have q7:=q 7;have q8:=q 8;have q9:=q 9;have q10:=q 10;have q11:=q 11;have q12:=q 12
 simp only [List.getElem?_toArray,List.getElem?_cons_zero,List.getElem?_cons_succ] at q0 q1 q2 q3 q4 q5 q6 q7 q8 q9 q10 q11 q12
 clear hW hbel hoth q
 refine Q7 (v:=.tuple #[.agg zT,.bool false]) (by simp [results,results9,go_sem,q0,q1,q2,q3,q4,q5,q6,q7,q8,q9,q10,q11,q12]) rfl ⟨[.string ⟨#[]⟩,.slice none 0 0,.slice none 0 0,.slice none 0 0,.int .i64 0,.string ⟨#[]⟩,.int .i64 0,.string ⟨#[]⟩,.slice none 0 0,.slice none 0 0,.slice none 0 0,.int .i64 0,.int .i64 0],rfl,K8 _ _,HBel.out⟩
def RKeyIs (S:Nat→Prop) (w:World) (l:List Val) (e:Ending) (w':World):Prop:=∃ p cap,e=.returned (.slice p l.length cap)∧Sl Ql (fun b=>S b∨w.heap.size≤b) w' (.slice p l.length cap) l∧Below w.heap.size w w'
def GotMid (S:Nat→Prop) (w:World) (u:Val) (b:Bool) (t7 t8:Value) (wx:World):Prop:=
 ∃ G q3 m3 q4 m4,t7=.pointer (some ⟨G,0,none⟩)∧t8=.bool b∧wx.heap[G]?=some (.cells #[.int .i64 u.kind,.int .i64 u.n,.string ⟨u.s.toArray⟩,.slice q3 u.names.length m3,.slice q4 u.kids.length m4] 44 (0,0))∧Qh S wx (vcs u q3 m3 q4 m4) u∧Below w.heap.size w wx∧w.heap.size≤G
theorem Kg (S S0:Nat→Prop) (t:Tbl) (row:Val) (ct cr:List Value) (w:World) (ht:Qt.R S w ct t) (hr0:Qh S0 w cr row) (hkl:t.key.length≤1000):
  Calls prog 12 #[.agg ct.toArray,.agg cr.toArray] w (RKeyIs S0 w ((keyOf t.key row).getD [])):=by
 have hr:Qh (fun b=>S0 b∧b<w.heap.size) w cr row:=hr0.move (.refl _ _) (fun b hb h=>⟨h,hb⟩)
 clear hr0
 have HG:=Qq (fun x W (hb:Below w.heap.size w W)=>Fo _ row cr x W (hr.move (.of_below hb) (fun _ _ h=>h)))
 obtain ⟨cp0,cc0,kp0,kc0,rp0,rc0,k0,s10,n0,s20,p10,n10,c10,p20,n20,c20,p30,n30,c30,a0,z0,rfl,_,_,hkey,_,_⟩:=Zk ht
 obtain ⟨r3,l3,r4,l4,hcr,_⟩:=Qh.cells hr
 simp only [vcs] at hcr
 subst hcr
 unfold tcs
 have HK:=Qq hkey
 obtain ⟨i0,j1,j2,j3,j4⟩:=Za (P:=prog) (t:=44) (z:=.agg zV) (n:=5) (b:=80) (by kernel_rfl)
 have HJ:=Qq j1;have HJ2:=Qq j2;have HJ3:=Qq j3;have HJ4:=Qq j4
 clear j1 j2 j3 j4
 clear ht hr hkey
 obtain ⟨n,hn⟩:=eX (t.key.length)
 rw [hn] at HK hkl ⊢
 have HN:=Qq hn
 clear hn
 obtain ⟨r,hr⟩:=eX (keyOf t.key row)
 rw [hr]
 have HR:=Qq hr
 clear hr
 unfold sv at HG
 go_enter func12,ntmps12
 go_wp2_with fail
 generalize hW1:(w.alloc _).alloc _=W1
 have hb1:=eqB hW1 (Zv _ _ _)
 have hX1:W1.heap[w.heap.size]?=some (.cells #[.string ⟨t.name.toArray⟩,.slice cp0 t.columns.length cc0,.slice kp0 t.key.length kc0,.slice rp0 t.refs.length rc0,.int .i64 k0,.string s10,.int .i64 n0,.string s20,.slice p10 n10 c10,.slice p20 n20 c20,.slice p30 n30 c30,.int .i64 a0,.int .i64 z0] 37 (0,0)):=by rw [← hW1,HN.out];exact Q5 _ _ _
 have hY1:=eqH (b:=w.heap.size+1) hW1 (Q6 _ _ _)
 have HB1:=Qq hb1;have HX1:=Qq hX1;have HY1:=Qq hY1
 clear hW1 hb1 hX1 hY1
 go_loopw [5,6,7,8] (fun o i _ _ wr=>∃ (k:Nat) (l:List Val) (p:Option Addr) (cap:Nat),k≤n∧i=.int .i64 k∧o=.slice p k cap∧l.length=k∧Aside (keyOf (t.key.take k) row=some l)∧Below (w.heap.size+2) W1 wr ∧
  (∃ css,Own Ql 44 (fun b=>(S0 b∧b<w.heap.size)∨w.heap.size+2≤b) (w.heap.size+2) wr (.slice p k cap) l css)) (fun _ i _ _ _=>n - (intOf i).toNat)
 case atStart=>exact ⟨0,[],none,0,Q8 _,rfl,rfl,rfl,rfl,Qz _ _,[],Own.nil _ _ _ _ _⟩
 obtain ⟨k,l,p,cap,hkn,rfl,rfl,hll,hE,hBr,css,hO⟩:=hrel
 have hsz:=Qf HY1.out
 have hXr:=kE hBr (by omega) HX1.out
 have hYr:=kE hBr (by omega) HY1.out
 have c2:=Qk _ _ 2 _ _ _ hXr;have y0:=rA0 hYr;have y1:=rA1 hYr;have y2:=rA2 hYr;have y3:=rA3 hYr;have y4:=rA4 hYr
 simp only [List.getElem?_toArray,List.getElem?_cons_zero,List.getElem?_cons_succ,HN.out] at c2
 have hbw:Below w.heap.size w wr:=HB1.out.trans (hBr.mono (by omega))
 have hsr:=hBr.size
 have HBr:=Qq hBr;have HBw:=Qq hbw;have HO:=Qq hO;have HE:=Qq hE.out;have HLL:=Qq hll
 clear hXr hYr hBr hbw hO hE hll
 by_cases hlt:k<n
 ·have hi1:(0:Int)≤(k:Int):=by omega
  have hi2:(k:Int)<(n:Int):=by omega
  have hka:k<t.key.length:=by rw [HN.out];exact hlt
  obtain ⟨x,hx⟩:∃ x,t.key[k]?=some x:=⟨_,Qx hka⟩
  have htk:t.key.take (k+1)=t.key.take k++[x]:=by rw [List.take_succ_eq_append_getElem hka];rw [Qx hka] at hx;cases hx;rfl
  obtain ⟨kb,koff,hkp,hkc,-⟩:=(HK.out.below HBw.out).str hx
  subst hkp
  have hkbl:=Qv _ _ hkc
  have HX:=Qq hx;have HTK:=Qq htk
  clear hx htk hka
  obtain ⟨kc,hkcd⟩:=eX (kc0)
  rw [hkcd] at c2
  clear hkcd
  go_upto_region 5 with fail
  obtain ⟨u,hu⟩:=eX ((Y1 row x).getD Val.zero)
  obtain ⟨b,hb⟩:=eX ((Y1 row x).isSome)
  have HU:=Qq hu;have HBb:=Qq hb
  refine let_mvar% ?Lq1:=fun w':World=>w'.cell? ⟨w.heap.size,2,none⟩=some (.slice (some ⟨kb,koff,none⟩) n kc)∧w'.cell? ⟨w.heap.size+1,0,none⟩=some (.int .i64 row.kind)∧w'.cell? ⟨w.heap.size+1,1,none⟩=some (.int .i64 row.n)∧w'.cell? ⟨w.heap.size+1,2,none⟩=some (.string ⟨row.s.toArray⟩)∧w'.cell? ⟨w.heap.size+1,3,none⟩=some (.slice r3 row.names.length l3)∧w'.cell? ⟨w.heap.size+1,4,none⟩=some (.slice r4 row.kids.length l4)∧w'.cell? ⟨kb,koff+k,none⟩=some (.string ⟨x.toArray⟩)∧Below wr.heap.size wr w';?_
  have HS:∀ w',Below wr.heap.size wr w'→?Lq1 w':=by
   intro w' h
   have hh:∀ {b j:Nat} {u:Value},b<wr.heap.size→wr.cell? ⟨b,j,none⟩=some u→w'.cell? ⟨b,j,none⟩=some u:=fun hlt hc=>kD h hlt hc
   exact ⟨hh (by omega) c2,hh (by omega) y0,hh (by omega) y1,hh (by omega) y2,hh (by omega) y3,hh (by omega) y4,hh hkbl hkc,h⟩
  have HSB:∀ w',?Lq1 w'→Below wr.heap.size wr w':=fun w' h=>h.2.2.2.2.2.2.2
  have HA:∀ w' o,?Lq1 w'→?Lq1 (w'.alloc o):=fun w' o h=>HS _ ((HSB w' h).alloc (HSB w' h).size o)
  have HP:∀ w' a b c d e,?Lq1 w'→?Lq1 (Zz w' wr.heap.size a b c d e):=fun w' a b c d e h=>HS _ (Qo (HSB w' h) (Q9 _))
  unfold Zz at HP
  have HC:=Qq (fun W' (h':?Lq1 W')=>(HG.out x W' (HBw.out.thn (HSB _ h'))).mono (R':=fun e w2=>∃ q3 m3 q4 m4,e=.returned (.tuple #[.agg #[.int .i64 u.kind,.int .i64 u.n,.string ⟨u.s.toArray⟩,.slice q3 u.names.length m3,.slice q4 u.kids.length m4],.bool b])∧Qh (fun b=>S0 b∧b<w.heap.size) w2 (vcs u q3 m3 q4 m4) u∧Below W'.heap.size W' w2∧?Lq1 w2) (by
   rintro e w2 ⟨cs',rfl,h3,h4⟩
   rw [HU.out] at h3
   rw [HBb.out]
   obtain ⟨q3,m3,q4,m4,hcs,_⟩:=Qh.cells h3
   subst hcs
   exact ⟨q3,m3,q4,m4,rfl,h3,h4,HS _ ((HSB _ h').thn h4)⟩))
  have HS0:=Qq (HS wr.drew (Qz _ _).drew);have HSr:=Qq (HS wr (Qz _ _));have HD':=Qq (fun w' (h:?Lq1 w')=>HS w'.drew (HSB w' h).drew);have HSB':=Qq HSB;have HA':=Qq HA;have HP':=Qq HP
  clear HS HSB HA HP c2 y0 y1 y2 y3 y4 hkc hu hb
  go_cut [7,8] from 9 to 31 (fun t7 t8 wx=>GotMid (fun b=>S0 b∧b<w.heap.size) wr u b t7 t8 wx)
  case first=>
   go_region_held3 ?Lq1 (first | with_reducible exact HS0.out | with_reducible exact hS2 | with_reducible exact HD'.out _ (HA'.out _ _ HSr.out) | with_reducible exact HA'.out _ _ hS2 | with_reducible exact HP'.out _ _ _ _ _ _ hS2)
    (first
     | (go_at_call 38;refine (HC.out _ (by assumption)).mono ?_;rintro e w2 ⟨q3,m3,q4,m4,rfl,hv2,hb2,hS2⟩;(try (have r2:w2.heap[wr.heap.size]?=some (.cells zV 44 (0,0)):=(hb2.block wr.heap.size (by simp)).trans (Qw wr _);have g0:=fA 0 r2;have y0:=Qk _ _ 0 _ _ _ r2;have g1:=fA 1 r2;have y1:=Qk _ _ 1 _ _ _ r2;have g2:=fA 2 r2;have y2:=Qk _ _ 2 _ _ _ r2;have g3:=fA 3 r2;have y3:=Qk _ _ 3 _ _ _ r2;have g4:=fA 4 r2;have y4:=Qk _ _ 4 _ _ _ r2;simp only [List.getElem?_toArray,List.getElem?_cons_zero,List.getElem?_cons_succ] at y0 y1 y2 y3 y4;have HR2:=Qq r2;clear r2));have HV2:=Qq hv2;have HB2:=Qq hb2;clear hv2 hb2))
   all_goals
    go_wp2_with fail
    go_meet
    first
     | (have h9:=HR2.out;clear h9;exact ⟨wr.heap.size,q3,m3,q4,m4,rfl,rfl,Yr HR2.out,Qh.move HV2.out (fun b hb _=>Qu (by have:=hb.2;omega)) (fun _ _ h=>h),Qo (HSB'.out _ hS2) (Q9 _),Q9 _⟩)
     | exact ⟨w2.heap.size,q3,m3,q4,m4,rfl,rfl,Qw _ _,Qh.move HV2.out (.of_below (Qn _ _)) (fun _ _ h=>h),(HSB'.out _ hS2).thn (Qn _ _),(HSB'.out _ hS2).size⟩
  obtain ⟨G,q3,m3,q4,m4,rfl,rfl,hG,hvu,hbc,hGl⟩:=hcut
  have HGc:=Qq hG;have HVu:=Qq hvu;have HBc:=Qq hbc
  have hGs:=Qf hG
  clear HC HS0 HSr HD' HSB' HA' HP'
  obtain ⟨g0,g1,g2,g3,g4⟩:=row5 hG
  clear hG hvu hbc
  cases b with
  | false=>
   have hn0:Y1 row x=none:=by have:=HBb.out;cases hq:Y1 row x with
    | none=>rfl
    | some _=>rw [hq] at this;cases this
   have hr0:r=none:=by rw [← HR.out];exact Bk (Qy HX.out) hn0
   subst hr0
   clear hn0
   go_wp2_with fail
   go_ret
   exact ⟨none,0,rfl,Sl.nil _ _ _,HBw.out.thn HBc.out⟩
  | true=>
   have hgu:Y1 row x=some u:=by
    have h1:=HBb.out;have h2:=HU.out
    cases hq:Y1 row x with
    | none=>rw [hq] at h1;cases h1
    | some v=>rw [hq] at h2;rw [← h2];rfl
   have HGu:=Qq hgu
   clear hgu
   have hO5:=HO.out.below HBc.out
   have hV5:Ql.R (But (fun b=>(S0 b∧b<w.heap.size)∨w.heap.size+2≤b) (.slice p k cap)) wc [.int .i64 u.kind,.int .i64 u.n,.string ⟨u.s.toArray⟩,.slice q3 u.names.length m3,.slice q4 u.kids.length m4] u:=Qh.move HVu.out (.refl _ _) (fun b _ hb=>⟨.inl hb,fun e=>by
    have:=(HO.out.row.lt b e.symm).1
    have:=hb.2
    omega⟩)
   have HO5:=Qq hO5;have HV5:=Qq hV5
   have hszc:=HBc.out.size
   clear hO5 hV5
   go_wp2_with (at_builtin;refine Zm (r:=Ql) (by decide) rfl (.tmp 28) (.tmp 30) _ rfl 44 i0 (.agg zV) 80 underlying40 HJ.out HJ2.out HJ3.out HJ4.out rfl (by omega) (fun b=>(S0 b∧b<w.heap.size)∨w.heap.size+2≤b) (w.heap.size+2) wc (.slice p k cap) l css [.int .i64 u.kind,.int .i64 u.n,.string ⟨u.s.toArray⟩,.slice q3 u.names.length m3,.slice q4 u.kids.length m4] u rfl HO5.out rfl HV5.out (by simp [Value.oneCell']) k HLL.out (by omega) (by omega) ?_;intro p7 cap7 css7 w7 hO7 hL7;have HO7:=Qq hO7;have HL7:=Qq hL7;clear hO7 hL7)
   go_roundw
   case measure=>simp [intOf];omega
   case rel=>
    refine ⟨k+1,l++[u],p7,cap7,by omega,by go_num,rfl,by have:=HLL.out;simp [this],(show Aside _ from ?_),(HBr.out.trans (HBc.out.mono (by omega))).trans HL7.out.below,css7,HO7.out⟩
    have:keyOf (t.key.take (k+1)) row=some (l++[u]):=by rw [HTK.out,Gx,HE.out,HGu.out]
    exact this
 have hkn':k=n:=by omega
 subst hkn'
 have hr1:r=some l:=by
  rw [← HR.out,← HE.out,List.take_of_length_le (by rw [HN.out];exact Q9 _)]
 have HR1:=Qq hr1
 clear hr1
 go_wp2_with fail
 go_ret
 unfold RKeyIs
 rw [HR1.out,Option.getD_some,HLL.out]
 exact ⟨p,cap,rfl,HO.out.sl (by have:=HLL.out;omega) (fun b hb=>.inr (by omega)) (fun b _ hb=>by
  rcases hb with h | h
  ·exact .inl h.1
  exact .inr (by omega)),HBw.out⟩
theorem Cs.take {T:Type} {r:Rd T} {S:Nat→Prop} {w:World} {css:List (List Value)} {xs:List T} (h:Cs r S w css xs) (i:Nat):Cs r S w (css.take i) (xs.take i):=by
 refine ⟨by rw [List.length_take,List.length_take,h.len],fun j c x hc hx=>?_⟩
 rw [List.getElem?_take] at hc hx
 by_cases hj:j<i
 ·rw [if_pos hj] at hc hx;exact h.R j c x hc hx
 rw [if_neg hj] at hc;cases hc
theorem Cs.drop {T:Type} {r:Rd T} {S:Nat→Prop} {w:World} {css:List (List Value)} {xs:List T} (h:Cs r S w css xs) (i:Nat):Cs r S w (css.drop i) (xs.drop i):=by
 refine ⟨by rw [List.length_drop,List.length_drop,h.len],fun j c x hc hx=>?_⟩
 rw [List.getElem?_drop] at hc hx
 exact h.R _ c x hc hx
def put9 (W:World) (R:Nat) (a0 a1 a2 a3 a4 a5 a6 a7 a8:Value):World:=(((((((((W.setCell ⟨R,0,none⟩ a0).setCell ⟨R,1,none⟩ a1).setCell ⟨R,2,none⟩ a2).setCell ⟨R,3,none⟩ a3).setCell ⟨R,4,none⟩ a4).setCell ⟨R,5,none⟩ a5).setCell ⟨R,6,none⟩ a6).setCell ⟨R,7,none⟩ a7).setCell ⟨R,8,none⟩ a8)
theorem Rn {W:World} {R:Nat} {a0 a1 a2 a3 a4 a5 a6 a7 a8 x0 x1 x2 x3 x4 x5 x6 x7 x8:Value} {t:TypeId} (h:W.heap[R]?=some (.cells #[x0,x1,x2,x3,x4,x5,x6,x7,x8] t (0,0))):(put9 W R a0 a1 a2 a3 a4 a5 a6 a7 a8).heap[R]?=some (.cells #[a0,a1,a2,a3,a4,a5,a6,a7,a8] t (0,0)):=by
 have hq9:=heap_setCell_same _ _ 0 _ _ a0 h;have hq9:=heap_setCell_same _ _ 1 _ _ a1 hq9;have hq9:=heap_setCell_same _ _ 2 _ _ a2 hq9;have hq9:=heap_setCell_same _ _ 3 _ _ a3 hq9;have hq9:=heap_setCell_same _ _ 4 _ _ a4 hq9;have hq9:=heap_setCell_same _ _ 5 _ _ a5 hq9;have hq9:=heap_setCell_same _ _ 6 _ _ a6 hq9;have hq9:=heap_setCell_same _ _ 7 _ _ a7 hq9;have hq9:=heap_setCell_same _ _ 8 _ _ a8 hq9
 simpa [put9] using hq9
theorem Fr {W:World} {R k:Nat} {a0 a1 a2 a3 a4 a5 a6 a7 a8:Value} (h:k≠R):(put9 W R a0 a1 a2 a3 a4 a5 a6 a7 a8).heap[k]?=W.heap[k]?:=by
 unfold put9
 repeat rw [Qg h]
theorem Nb {B R:Nat} {w W:World} {a0 a1 a2 a3 a4 a5 a6 a7 a8:Value} (h:Below B w W) (hR:B≤R):Below B w (put9 W R a0 a1 a2 a3 a4 a5 a6 a7 a8):=
 ((((((((h.setCell (p:=⟨R,0,none⟩) hR _).setCell (p:=⟨R,1,none⟩) hR _).setCell (p:=⟨R,2,none⟩) hR _).setCell (p:=⟨R,3,none⟩) hR _).setCell (p:=⟨R,4,none⟩) hR _).setCell (p:=⟨R,5,none⟩) hR _).setCell (p:=⟨R,6,none⟩) hR _).setCell (p:=⟨R,7,none⟩) hR _).setCell (p:=⟨R,8,none⟩) hR _
theorem Y4 {W:World} {R:Nat} {a0 a1 a2 a3 a4 a5 a6 a7 a8 x0 x1 x2 x3 x4 x5 x6 x7 x8:Value} {t:TypeId} (h:W.heap[R]?=some (.cells #[x0,x1,x2,x3,x4,x5,x6,x7,x8] t (0,0))) (j:Nat):(put9 W R a0 a1 a2 a3 a4 a5 a6 a7 a8).cell? ⟨R,j,none⟩=#[a0,a1,a2,a3,a4,a5,a6,a7,a8][j]?:=
 Qk _ _ _ _ _ _ (Rn h)
def ExIs (S:Nat→Prop) (w:World) (x:Ex) (e:Ending) (w':World):Prop:=∃ ek es en et e1 f1 g1 e2 f2 g2 e3 f3 g3 ea ez,e=.returned (.agg #[.int .i64 ek,.string es,.int .i64 en,.string et,.slice e1 f1 g1,.slice e2 f2 g2,.slice e3 f3 g3,.int .i64 ea,.int .i64 ez])∧Z6 (fun b=>S b∨w.heap.size≤b) w' [.int .i64 ek,.string es,.int .i64 en,.string et,.slice e1 f1 g1,.slice e2 f2 g2,.slice e3 f3 g3,.int .i64 ea,.int .i64 ez] x∧Below w.heap.size w w'
theorem rop_any (S:Nat→Prop) (o:Bs) (a b:Ex) (ca cb:List Value) (w:World) (ho:o.length≤1000000) (ha0:Z6 S w ca a) (hb0:Z6 S w cb b):
  Calls prog 70 #[sv o,.agg ca.toArray,.agg cb.toArray] w (ExIs S w (Gen.op o [a,b])):=by
 have ha:Z6 (fun c=>S c∧c<w.heap.size) w ca a:=ha0.move (.refl _ _) (fun b hb h=>⟨h,hb⟩)
 have hb:Z6 (fun c=>S c∧c<w.heap.size) w cb b:=hb0.move (.refl _ _) (fun b hb h=>⟨h,hb⟩)
 obtain ⟨ek1,es1,en1,et1,e11,f11,g11,e21,f21,g21,e31,f31,g31,ea1,ez1,hca⟩:=Z6.cells ha
 obtain ⟨ek2,es2,en2,et2,e12,f12,g12,e22,f22,g22,e32,f32,g32,ea2,ez2,hcb⟩:=Z6.cells hb
 subst hca;subst hcb
 have HA:=Qq ha;have HB:=Qq hb
 clear ha hb ha0 hb0
 unfold sv
 go_enter func70,ntmps70
 go_wp2_with fail
 generalize hW1:(((w.alloc _).alloc _).alloc _).alloc _=W1
 have hb1:=eqB hW1 (Zq (Zq (Zq (Qn w _) _) _) _)
 have hZ1:=eqH (b:=w.heap.size+1+1) hW1 (Qi (Z8 (by simp) _) _)
 have hK1:=eqH (b:=w.heap.size+1+1+1) hW1 (Z8 (by simp) _)
 clear hW1
 refine Q7 (v:=.agg #[.int .i64 14,.string ⟨o.toArray⟩,.int .i64 0,.string ⟨#[]⟩,.slice none 0 0,.slice none 0 0,.slice (some ⟨w.heap.size+1+1+1,0,none⟩) 2 2,.int .i64 0,.int .i64 0]) (by simp [results,results70,go_sem,Qk _ _ _ _ _ _ hZ1]) rfl ⟨_,_,_,_,_,_,_,_,_,_,_,_,_,_,_,rfl,?_,hb1⟩
 refine Yk ho (s:=[]) (by simp) (Sl.nil _ _ _) (Sl.nil _ _ _) ?_
 exact Z4 hK1 (.inr (by omega)) ((Cs.one (r:=Ys) ((HA.out.move (.of_below hb1) (fun _ _ h=>h)).move (.refl _ _) (fun b _ h=>.inl h.1))).app (Cs.one (r:=Ys) ((HB.out.move (.of_below hb1) (fun _ _ h=>h)).move (.refl _ _) (fun b _ h=>.inl h.1)))) rfl rfl (by simp)
structure M8 (t:Tbl) (rows:List Val) (p2 p5:Val→Bool) (K:Val→List Int):Prop where
 srt:Srt J8 t.columns
 few:t.columns.length≤19
 some:t.columns≠[]
 typed:∀ x ∈ rows,Zr x∧Dz x (Ee t) (p2 x)
 keys:Hg t rows K
 many:rows.length≤100000
 key:t.key.length≤1000
 simple:Ux t.check=true
 check:∀ x ∈ rows,EvV t.check (Gu x) (J9 (p5 x))∧x.names.length≤x.kids.length
def cfOf (s:Sc) (l:List Rel) (p2 p5:Nat→Val→Bool) (K:Nat→Val→List Int) (c i:Nat):Ft:=
 let rows:=(l.getD i ⟨[],[]⟩).rows
 match c with
 | 0=>Mj rows
 | 1=>Xs 9 (p2 i) rows
 | 2=>U7 rows (ust rows.length (rows.map fun r=>kb (K i r)) rows.length)
 | 3=>Yt s l rows (s.tables.getD i Tbl.zero).refs
 | _=>Xs 13 (p5 i) rows
theorem conOk_of (w:World) (S0 S1:Nat→Prop) (s:Sc) (cs:List Value) (lv:Value) (l:List Rel) (p2 p5:Nat→Val→Bool) (K:Nat→Val→List Int) (hs:Yn S0 w cs s) (hl:Sl Z0 S1 w lv l) (hkw:Xe w)
  (hkey:∀ t ∈ s.tables,t.key.length≤1000) (hok:∀ (i:Nat) (t:Tbl) (r:Rel),s.tables[i]?=some t→l[i]?=some r→M8 t r.rows (p2 i) (p5 i) (K i)):ConOk w s cs lv l (cfOf s l p2 p5 K):=by
 intro c hc i t r ht hr B C W ct rv hb hB hC hct hrv
 have ho:=hok i t r ht hr
 have h1:(l.getD i ⟨[],[]⟩).rows=r.rows:=by rw [List.getD_eq_getElem?_getD,hr];rfl
 have h2:s.tables.getD i Tbl.zero=t:=by rw [List.getD_eq_getElem?_getD,ht];rfl
 have hsW:=hs.below hb
 obtain ⟨uv,tv,rfl,hu,hts⟩:=hs
 have hB0:W.cell? ⟨B,0,none⟩=some uv:=by rw [Qk _ _ _ _ _ _ hB];rfl
 have hB1:W.cell? ⟨B,1,none⟩=some tv:=by rw [Qk _ _ _ _ _ _ hB];rfl
 match c,hc with
 | 0,_=>
  show Calls _ _ #[.agg ct.toArray,rv] W (Ka _ W (Mj (l.getD i ⟨[],[]⟩).rows))
  rw [h1]
  exact con1_any _ _ _ t ct rv r.rows W hct hrv
 | 1,_=>
  show Calls _ _ #[.agg ct.toArray,rv,.pointer (some ⟨B,0,none⟩)] W (Ka _ W (Xs 9 (p2 i) (l.getD i ⟨[],[]⟩).rows))
  rw [h1]
  obtain ⟨ps,cps,rfl,_⟩:=hu.len
  exact con2_any B _ _ ps _ cps t ct rv r.rows (p2 i) W hB0 hct hrv ho.srt ho.few ho.some ho.typed (hkw.below hb)
 | 2,_=>
  show Calls _ _ #[.agg ct.toArray,rv] W (Ka _ W (U7 (l.getD i ⟨[],[]⟩).rows (ust (l.getD i ⟨[],[]⟩).rows.length ((l.getD i ⟨[],[]⟩).rows.map fun r=>kb (K i r)) (l.getD i ⟨[],[]⟩).rows.length)))
  rw [h1]
  exact con3_any _ _ t ct rv r.rows (K i) W hct hrv ho.keys ho.many ho.key
 | 3,_=>
  show Calls _ _ #[.agg ct.toArray,rv,.pointer (some ⟨B,0,none⟩),.pointer (some ⟨C,0,none⟩)] W (Ka _ W (Yt s l (l.getD i ⟨[],[]⟩).rows (s.tables.getD i Tbl.zero).refs))
  rw [h1,h2]
  exact con4_any B C S0 S1 _ _ s uv tv lv l t ct rv r.rows W hB0 hB1 hC hsW (hl.below hb) hct hrv hkey
 | 4,_=>
  show Calls _ _ #[.agg ct.toArray,rv] W (Ka _ W (Xs 13 (p5 i) (l.getD i ⟨[],[]⟩).rows))
  rw [h1]
  exact con5_any _ _ t ct rv r.rows (p5 i) W hct hrv ho.simple ho.check
theorem checkOk (S0 S1:Nat→Prop) (s:Sc) (cs:List Value) (lv:Value) (l:List Rel) (p2 p5:Nat→Val→Bool) (K:Nat→Val→List Int) (w:World) (hs:Yn S0 w cs s) (hl:Sl Z0 S1 w lv l) (hkw:Xe w)
  (hkey:∀ t ∈ s.tables,t.key.length≤1000) (hok:∀ (i:Nat) (t:Tbl) (r:Rel),s.tables[i]?=some t→l[i]?=some r→M8 t r.rows (p2 i) (p5 i) (K i)):
  Calls prog 51 #[.agg cs.toArray,lv] w (Pf w s l (cfOf s l p2 p5 K)):=
 S6 S0 S1 s cs lv l w hs hl _ (conOk_of w S0 S1 s cs lv l p2 p5 K hs hl hkw hkey hok)
theorem Un {code:Int} {p:Val→Bool} {rows:List Val} (h:∀ x ∈ rows,p x=true):Xs code p rows=Ft.zero:=by
 unfold Xs
 rw [List.findIdx?_eq_none_iff.2 (fun x hx=>by simp [h x hx])]
theorem Eb {rows:List Val} (h:rows.length≤256):Mj rows=Ft.zero:=by unfold Mj;rw [if_neg (by omega)]
theorem Mc (n:Nat) (ks:List Bs) (hd:∀ (i j:Nat) (a b:Bs),i<j→ks[i]?=some a→ks[j]?=some b→a≠b):∀ i,i≤ks.length→ust n ks i=(n,0)
 | 0,_=>rfl
 | i+1,hi=>by
  show Ui (ks.take i) (ust n ks i) (ks.getD i [])=(n,0)
  rw [Mc n ks hd i (by omega)]
  unfold Ui
  have hk:ks[i]?=some ks[i]:=Qx (by omega)
  have:Y3 (ks.take i) (ks.getD i [])=none:=by
   unfold Y3
   rw [List.findIdx?_eq_none_iff]
   intro x hx
   obtain ⟨j,hj⟩:=List.getElem?_of_mem hx
   have hjl:=(Qj hj).1
   rw [List.length_take] at hjl
   rw [List.getElem?_take_of_lt (by omega)] at hj
   have:=hd j i x ks[i] (by omega) hj hk
   rw [List.getD_eq_getElem?_getD,hk]
   simpa using this
  rw [this]
theorem Ew {rows:List Val} {ks:List Bs} (hl:ks.length=rows.length) (hd:∀ (i j:Nat) (a b:Bs),i<j→ks[i]?=some a→ks[j]?=some b→a≠b):U7 rows (ust rows.length ks rows.length)=Ft.zero:=by
 rw [Mc _ _ hd _ (by omega)]
 unfold U7
 rw [if_pos rfl]
end Go.Proofs.YtppbaladeefnkaaGreatDoor
