import Derived.Test.YtppbaladeefnkaaGreatDoorV08
set_option maxRecDepth 100000
set_option maxHeartbeats 400000000
namespace Go.Proofs.YtppbaladeefnkaaGreatDoor
open Go.RowKit Go.Shelf Go.Lib Tryz
def TableIs (w:World) (o:Option Tbl) (e:Ending) (w':World):Prop:=∃ cs',e=.returned (.tuple #[.agg cs'.toArray,.bool o.isSome])∧Qt.R (fun _=>True) w' cs' (o.getD Tbl.zero)∧Below w.heap.size w w'
structure TMid (w:World) (X:Nat) (x:Tbl) (cp:Option Addr) (cc:Nat) (kp:Option Addr) (kc:Nat) (rp:Option Addr) (rc:Nat) (k9:Int) (s19:ByteArray) (n9:Int) (s29:ByteArray) (p19:Option Addr) (n19 c19:Nat) (p29:Option Addr) (n29 c29:Nat) (p39:Option Addr) (n39 c39:Nat) (a9 z9:Int) (wx:World):Prop where
 below:Below w.heap.size w wx
 box:wx.heap[X]?=some (.cells #[.string ⟨x.name.toArray⟩,.slice cp x.columns.length cc,.slice kp x.key.length kc,.slice rp x.refs.length rc,.int .i64 k9,.string s19,.int .i64 n9,.string s29,.slice p19 n19 c19,.slice p29 n29 c29,.slice p39 n39 c39,.int .i64 a9,.int .i64 z9] 37 (0,0))
 res:wx.heap[w.heap.size+1]?=some (.cells zT 37 (0,0))
 cols:Sl Y0 (fun b=>b≠w.heap.size+1) wx (.slice cp x.columns.length cc) x.columns
 key:Sl Qp (fun b=>b≠w.heap.size+1) wx (.slice kp x.key.length kc) x.key
 refs:Sl Jb (fun b=>b≠w.heap.size+1) wx (.slice rp x.refs.length rc) x.refs
theorem clS {T:Type} {r:Rd T} {E:TypeId} {N B X:Nat} {w:World} {v:Value} {xs:List T} {css:List (List Value)} (h:Own r E (fun b=>b<N) B w v xs css) (hl:xs.length≤1000000) (hX:X<B):Sl r (fun b=>b<N∨X<b) w v xs:=
 h.sl hl (fun b hb=>.inr (by omega)) (fun b _ hb=>.inl hb)
theorem tmid_of {w wC:World} {X:Nat} {x:Tbl} {cp:Option Addr} {cc:Nat} {kp:Option Addr} {kc:Nat} {rp:Option Addr} {rc:Nat} {k9:Int} {s19:ByteArray} {n9:Int} {s29:ByteArray} {p19:Option Addr} {n19 c19:Nat} {p29:Option Addr} {n29 c29:Nat} {p39:Option Addr} {n39 c39:Nat} {a9 z9:Int} {y1 y2 y3:Value}
  (hlt:w.heap.size+1<X) (hb:Below w.heap.size w wC)
  (hX:wC.heap[X]?=some (.cells #[.string ⟨x.name.toArray⟩,y1,y2,y3,.int .i64 k9,.string s19,.int .i64 n9,.string s29,.slice p19 n19 c19,.slice p29 n29 c29,.slice p39 n39 c39,.int .i64 a9,.int .i64 z9] 37 (0,0)))
  (hR:wC.heap[w.heap.size+1]?=some (.cells zT 37 (0,0)))
  (h1:Sl Y0 (fun b=>b<w.heap.size∨X<b) wC (.slice cp x.columns.length cc) x.columns)
  (h2:Sl Qp (fun b=>b<w.heap.size∨X<b) wC (.slice kp x.key.length kc) x.key)
  (h3:Sl Jb (fun b=>b<w.heap.size∨X<b) wC (.slice rp x.refs.length rc) x.refs):
  TMid w X x cp cc kp kc rp rc k9 s19 n9 s29 p19 n19 c19 p29 n29 c29 p39 n39 c39 a9 z9 (((wC.setCell ⟨X,1,none⟩ (.slice cp x.columns.length cc)).setCell ⟨X,2,none⟩ (.slice kp x.key.length kc)).setCell ⟨X,3,none⟩ (.slice rp x.refs.length rc)):=by
 have e1:(wC.setCell ⟨X,1,none⟩ (.slice cp x.columns.length cc)).heap[X]?=some (.cells #[.string ⟨x.name.toArray⟩,.slice cp x.columns.length cc,y2,y3,.int .i64 k9,.string s19,.int .i64 n9,.string s29,.slice p19 n19 c19,.slice p29 n29 c29,.slice p39 n39 c39,.int .i64 a9,.int .i64 z9] 37 (0,0)):=by rw [heap_setCell_same _ _ _ _ _ _ hX];rfl
 have e2:((wC.setCell ⟨X,1,none⟩ (.slice cp x.columns.length cc)).setCell ⟨X,2,none⟩ (.slice kp x.key.length kc)).heap[X]?=some (.cells #[.string ⟨x.name.toArray⟩,.slice cp x.columns.length cc,.slice kp x.key.length kc,y3,.int .i64 k9,.string s19,.int .i64 n9,.string s29,.slice p19 n19 c19,.slice p29 n29 c29,.slice p39 n39 c39,.int .i64 a9,.int .i64 z9] 37 (0,0)):=by rw [heap_setCell_same _ _ _ _ _ _ e1];rfl
 have oth:∀ b,b≠X→(((wC.setCell ⟨X,1,none⟩ (.slice cp x.columns.length cc)).setCell ⟨X,2,none⟩ (.slice kp x.key.length kc)).setCell ⟨X,3,none⟩ (.slice rp x.refs.length rc)).heap[b]?=wC.heap[b]?:=fun b hb=>by rw [Qg hb,Qg hb,Qg hb]
 have fr:∀ {T:Type} {r:Rd T} {v:Value} {xs:List T},Sl r (fun b=>b<w.heap.size∨X<b) wC v xs→Sl r (fun b=>b≠w.heap.size+1) (((wC.setCell ⟨X,1,none⟩ (.slice cp x.columns.length cc)).setCell ⟨X,2,none⟩ (.slice kp x.key.length kc)).setCell ⟨X,3,none⟩ (.slice rp x.refs.length rc)) v xs:=by
  intro T r v xs h
  exact (h.frame (fun b hb _=>oth b (by omega))).mono (fun b _ hb=>by omega)
 exact ⟨((hb.setCell (by show w.heap.size≤X;omega) _).setCell (by show w.heap.size≤X;omega) _).setCell (by show w.heap.size≤X;omega) _,by rw [heap_setCell_same _ _ _ _ _ _ e2];rfl,by rw [oth _ (by omega)];exact hR,fr h1,fr h2,fr h3⟩
theorem S8 (S:Nat→Prop) (s:Sc) (cs:List Value) (x0:Bs) (w:World) (hs:Yn S w cs s):
  Calls prog 40 #[.agg cs.toArray,sv x0] w (TableIs w (Z5 s.tables x0)):=by
 obtain ⟨uv,tv,rfl,hu,ht0⟩:=hs
 have ht:Sl Qt (fun b=>b<w.heap.size) w tv s.tables:=ht0.mono (fun b hb _=>hb)
 obtain ⟨up,uc,rfl,_⟩:=hu.len
 obtain ⟨tp,tcap,rfl,_⟩:=ht.len
 have HN:=Qq (fun W (hb:Below w.heap.size w W)=>Ra _ s.tables _ x0 W (ht.below hb))
 clear hu ht ht0
 cases hr:Z5 s.tables x0 with
 | none=>
  rw [hr] at HN
  clear hr
  unfold sv at HN ⊢
  go_enter func40,ntmps40
  go_wp2_with fail
  refine (HN.out _ (Zv _ _ _)).mono ?_
  rintro e w1 ⟨cs',rfl,hv1,hb1⟩
  obtain ⟨cp9,cc9,kp9,kc9,rp9,rc9,k9,s19,n9,s29,p19,n19,c19,p29,n29,c29,p39,n39,c39,a9,z9,hcs,_⟩:=Zk hv1
  simp only [tcs] at hcs
  subst hcs
  have hR1:=(hb1.block (w.heap.size+1) (by simp)).trans (Q6 w _ _)
  have HB1:=Qq ((Zv w _ _).thn hb1);have HR1:=Qq hR1
  have hlt:=Qf hR1
  clear hv1 hb1 hR1
  go_upto_region 3 with fail
  generalize hW5:w1.alloc _=w5
  have hb5:=eqB hW5 (Qn _ _)
  have hR5:=kE hb5 hlt HR1.out
  have fz:=fun j=>frozen_of_row _ _ j _ _ hR5
  have rr:=fun j=>Qk _ _ j _ _ _ hR5
  have f0:=fz 0;have f1:=fz 1;have f2:=fz 2;have f3:=fz 3;have f4:=fz 4;have f5:=fz 5;have f6:=fz 6;have f7:=fz 7;have f8:=fz 8;have f9:=fz 9;have f10:=fz 10;have f11:=fz 11;have f12:=fz 12
  have r0:=rr 0;have r1:=rr 1;have r2:=rr 2;have r3:=rr 3;have r4:=rr 4;have r5:=rr 5;have r6:=rr 6;have r7:=rr 7;have r8:=rr 8;have r9:=rr 9;have r10:=rr 10;have r11:=rr 11;have r12:=rr 12
  simp only [List.getElem?_toArray,List.getElem?_cons_zero,List.getElem?_cons_succ] at r0 r1 r2 r3 r4 r5 r6 r7 r8 r9 r10 r11 r12
  have HB5:=Qq (HB1.out.thn hb5);have HR5:=Qq hR5
  clear fz rr hR5 hb5 hW5
  go_wp2_with fail
  obtain ⟨W,hW⟩:=eX (Xa w5 (w.heap.size+1) (.string ⟨#[]⟩) (.slice none 0 0) (.slice none 0 0) (.slice none 0 0) (.int .i64 0) (.string ⟨#[]⟩) (.int .i64 0) (.string ⟨#[]⟩) (.slice none 0 0) (.slice none 0 0) (.slice none 0 0) (.int .i64 0) (.int .i64 0))
  have q:∀ j,W.cell? ⟨w.heap.size+1,j,none⟩=zT[j]?:=fun j=>by rw [← hW];exact Vw HR5.out j
  have hbel:Below w.heap.size w W:=by rw [← hW];exact Yd HB5.out (by omega)
  show bodyPost _ _ _ _ _ (Xa w5 (w.heap.size+1) (.string ⟨#[]⟩) (.slice none 0 0) (.slice none 0 0) (.slice none 0 0) (.int .i64 0) (.string ⟨#[]⟩) (.int .i64 0) (.string ⟨#[]⟩) (.slice none 0 0) (.slice none 0 0) (.slice none 0 0) (.int .i64 0) (.int .i64 0))
  rw [hW]
  have HBel:=Qq hbel
  have q0:=q 0;have q1:=q 1;have q2:=q 2;have q3:=q 3;have q4:=q 4;have q5:=q 5;have q6:=q 6;have q7:=q 7;have q8:=q 8;have q9:=q 9;have q10:=q 10;have q11:=q 11;have q12:=q 12
  simp only [List.getElem?_toArray,List.getElem?_cons_zero,List.getElem?_cons_succ] at q0 q1 q2 q3 q4 q5 q6 q7 q8 q9 q10 q11 q12
  clear hW hbel q r0 r1 r2 r3 r4 r5 r6 r7 r8 r9 r10 r11 r12 f0 f1 f2 f3 f4 f5 f6 f7 f8 f9 f10 f11 f12
  refine Q7 (v:=.tuple #[.agg zT,.bool false]) (by simp [results,results40,go_sem,q0,q1,q2,q3,q4,q5,q6,q7,q8,q9,q10,q11,q12]) rfl ⟨[.string ⟨#[]⟩,.slice none 0 0,.slice none 0 0,.slice none 0 0,.int .i64 0,.string ⟨#[]⟩,.int .i64 0,.string ⟨#[]⟩,.slice none 0 0,.slice none 0 0,.slice none 0 0,.int .i64 0,.int .i64 0],rfl,K8 _ _,HBel.out⟩
 | some x=>
  rw [hr] at HN
  clear hr
  unfold sv at HN ⊢
  go_enter func40,ntmps40
  go_wp2_with fail
  refine (HN.out _ (Zv _ _ _)).mono ?_
  rintro e w1 ⟨cs',rfl,hv1,hb1⟩
  rw [Option.getD_some] at hv1
  have hv2:Qt.R (fun b=>b<w.heap.size) w1 cs' x:=Qt.mono hv1 (fun b _ h=>h.1)
  obtain ⟨cp9,cc9,kp9,kc9,rp9,rc9,k9,s19,n9,s29,p19,n19,c19,p29,n29,c29,p39,n39,c39,a9,z9,hcs,hnl,hcol,hkey,href,hex⟩:=Zk hv2
  simp only [tcs] at hcs
  subst hcs
  have hR1:=(hb1.block (w.heap.size+1) (by simp)).trans (Q6 w _ _)
  have HB1:=Qq ((Zv w _ _).thn hb1);have HR1:=Qq hR1
  have hlt:=Qf hR1
  have HCol:=Qq hcol;have HKey:=Qq hkey;have HRef:=Qq href;have HEx:=Qq hex
  clear hv1 hv2 hb1 hR1 hcol hkey href hex
  go_upto_region 4 with fail
  generalize hW5:w1.alloc (.cells #[.string ⟨x.name.toArray⟩,.slice cp9 x.columns.length cc9,.slice kp9 x.key.length kc9,.slice rp9 x.refs.length rc9,.int .i64 k9,.string s19,.int .i64 n9,.string s29,.slice p19 n19 c19,.slice p29 n29 c29,.slice p39 n39 c39,.int .i64 a9,.int .i64 z9] 37)=w5
  have hb5:=eqB hW5 (Qn _ _)
  have hX5:=eqH (b:=w1.heap.size) hW5 (Qw _ _)
  have hR5:=kE hb5 hlt HR1.out
  have HB5:=Qq hb5;have HX5:=Qq hX5;have HR5:=Qq hR5
  obtain ⟨X,hX⟩:=eX (w1.heap.size)
  have hX5':=hX5
  rw [hX] at hX5' hlt ⊢
  have HXe:=Qq hX;have HX5':=Qq hX5'
  have hX5s:=Qf hX5'
  have v1:=Qk _ _ 1 _ _ _ hX5';have v2:=Qk _ _ 2 _ _ _ hX5';have v3:=Qk _ _ 3 _ _ _ hX5';have vf1:=fA 1 hX5';have vf2:=fA 2 hX5';have vf3:=fA 3 hX5';simp only [List.getElem?_toArray,List.getElem?_cons_zero,List.getElem?_cons_succ] at v1 v2 v3
  clear hb5 hX5 hX5' hR5 hW5 hX
  go_cut [30] (fun _ wx=>∃ cp cc kp kc rp rc,TMid w X x cp cc kp kc rp rc k9 s19 n9 s29 p19 n19 c19 p29 n29 c29 p39 n39 c39 a9 z9 wx)
  case first=>
   go_region_with (first
    | (go_at_call 78;refine (L5 _ _ x.columns _ (HCol.out.below HB5.out.drew)).mono ?_;rintro e wA ⟨cp,cc,ccs,rfl,hoA,hbA⟩;have hXA:=(hbA.block X hX5s).trans HX5'.out;have a1:=Qk _ _ 1 _ _ _ hXA;have a2:=Qk _ _ 2 _ _ _ hXA;have a3:=Qk _ _ 3 _ _ _ hXA;have af1:=fA 1 hXA;have af2:=fA 2 hXA;have af3:=fA 3 hXA;simp only [List.getElem?_toArray,List.getElem?_cons_zero,List.getElem?_cons_succ] at a1 a2 a3;have HXA:=Qq hXA;have HbA:=Qq hbA;have HoA:=Qq hoA;clear hXA hbA hoA)
    | (go_at_call 79;refine (Mz _ _ x.key _ (HKey.out.below (HB5.out.drew.thn HbA.out))).mono ?_;rintro e wB ⟨kp,kc,kcs,rfl,hoB,hbB⟩;have hXB:=(hbB.block X (Qf HXA.out)).trans HXA.out;have b1:=Qk _ _ 1 _ _ _ hXB;have b2:=Qk _ _ 2 _ _ _ hXB;have b3:=Qk _ _ 3 _ _ _ hXB;have bf1:=fA 1 hXB;have bf2:=fA 2 hXB;have bf3:=fA 3 hXB;simp only [List.getElem?_toArray,List.getElem?_cons_zero,List.getElem?_cons_succ] at b1 b2 b3;have HXB:=Qq hXB;have HbB:=Qq hbB;have HoB:=Qq hoB;clear hXB hbB hoB)
    | (go_at_call 80;refine (cloneRef _ _ x.refs _ (HRef.out.below ((HB5.out.drew.thn HbA.out).thn HbB.out))).mono ?_;rintro e wC ⟨rp,rc,rcs,rfl,hoC,hbC⟩;have hXC:=(hbC.block X (Qf HXB.out)).trans HXB.out;have c1:=Qk _ _ 1 _ _ _ hXC;have c2:=Qk _ _ 2 _ _ _ hXC;have c3:=Qk _ _ 3 _ _ _ hXC;have cf1:=fA 1 hXC;have cf2:=fA 2 hXC;have cf3:=fA 3 hXC;simp only [List.getElem?_toArray,List.getElem?_cons_zero,List.getElem?_cons_succ] at c1 c2 c3;have HXC:=Qq hXC;have HbC:=Qq hbC;have HoC:=Qq hoC;clear hXC hbC hoC))
   all_goals
    go_wp2_with fail
    go_meet
    exact ⟨_,_,_,_,_,_,tmid_of (y1:=.slice cp9 x.columns.length cc9) (y2:=.slice kp9 x.key.length kc9) (y3:=.slice rp9 x.refs.length rc9) hlt (HB1.out.thn (HB5.out.drew.thn (HbA.out.thn (HbB.out.thn HbC.out)))) HXC.out
     (HbC.out.block _ (by have:=Qf HXB.out;omega) |>.trans (HbB.out.block _ (by have:=Qf HXA.out;omega) |>.trans (HbA.out.block _ (by have:=hX5s;show _<w5.heap.size;omega) |>.trans HR5.out)))
     (((clS HoA.out (by have:=HCol.out.len;obtain ⟨_,_,_,h⟩:=this;exact h) (by show X<w5.heap.size;exact hX5s)).below HbB.out).below HbC.out) ((clS HoB.out (by have:=HKey.out.len;obtain ⟨_,_,_,h⟩:=this;exact h) (Qf HXA.out)).below HbC.out) (clS HoC.out (by have:=HRef.out.len;obtain ⟨_,_,_,h⟩:=this;exact h) (Qf HXB.out))⟩
  obtain ⟨cp,cc,kp,kc,rp,rc,hT⟩:=hcut
  have HT:=Qq hT
  clear hT
  have fz:=fun j=>frozen_of_row _ _ j _ _ HT.out.res
  have rr:=fun j=>Qk _ _ j _ _ _ HT.out.res
  have xx:=fun j=>Qk _ _ j _ _ _ HT.out.box
  have f0:=fz 0;have f1:=fz 1;have f2:=fz 2;have f3:=fz 3;have f4:=fz 4;have f5:=fz 5;have f6:=fz 6;have f7:=fz 7;have f8:=fz 8;have f9:=fz 9;have f10:=fz 10;have f11:=fz 11;have f12:=fz 12
  have r0:=rr 0;have r1:=rr 1;have r2:=rr 2;have r3:=rr 3;have r4:=rr 4;have r5:=rr 5;have r6:=rr 6;have r7:=rr 7;have r8:=rr 8;have r9:=rr 9;have r10:=rr 10;have r11:=rr 11;have r12:=rr 12
  have x0':=xx 0;have x1:=xx 1;have x2:=xx 2;have x3:=xx 3;have x4:=xx 4;have x5:=xx 5;have x6:=xx 6;have x7:=xx 7;have x8:=xx 8;have x9:=xx 9;have x10:=xx 10;have x11:=xx 11;have x12:=xx 12
  simp only [List.getElem?_toArray,List.getElem?_cons_zero,List.getElem?_cons_succ] at r0 r1 r2 r3 r4 r5 r6 r7 r8 r9 r10 r11 r12 x0' x1 x2 x3 x4 x5 x6 x7 x8 x9 x10 x11 x12
  clear fz rr xx v1 v2 v3 vf1 vf2 vf3
  go_wp2_with fail
  obtain ⟨W,hW⟩:=eX (Xa wc (w.heap.size+1) (.string ⟨x.name.toArray⟩) (.slice cp x.columns.length cc) (.slice kp x.key.length kc) (.slice rp x.refs.length rc) (.int .i64 k9) (.string s19) (.int .i64 n9) (.string s29) (.slice p19 n19 c19) (.slice p29 n29 c29) (.slice p39 n39 c39) (.int .i64 a9) (.int .i64 z9))
  have q:∀ j,W.cell? ⟨w.heap.size+1,j,none⟩=#[.string ⟨x.name.toArray⟩,.slice cp x.columns.length cc,.slice kp x.key.length kc,.slice rp x.refs.length rc,.int .i64 k9,.string s19,.int .i64 n9,.string s29,.slice p19 n19 c19,.slice p29 n29 c29,.slice p39 n39 c39,.int .i64 a9,.int .i64 z9][j]?:=fun j=>by rw [← hW];exact Vw HT.out.res j
  have hoth:∀ b,b≠w.heap.size+1→W.heap[b]?=wc.heap[b]?:=fun b hb=>by rw [← hW];exact Vf hb
  have hbel:Below w.heap.size w W:=by rw [← hW];exact Yd HT.out.below (by omega)
  show bodyPost _ _ _ _ _ (Xa wc (w.heap.size+1) (.string ⟨x.name.toArray⟩) (.slice cp x.columns.length cc) (.slice kp x.key.length kc) (.slice rp x.refs.length rc) (.int .i64 k9) (.string s19) (.int .i64 n9) (.string s29) (.slice p19 n19 c19) (.slice p29 n29 c29) (.slice p39 n39 c39) (.int .i64 a9) (.int .i64 z9))
  rw [hW]
  have HBel:=Qq hbel;have HOth:=Qq hoth
  have q0:=q 0;have q1:=q 1;have q2:=q 2;have q3:=q 3;have q4:=q 4;have q5:=q 5;have q6:=q 6;have q7:=q 7;have q8:=q 8;have q9:=q 9;have q10:=q 10;have q11:=q 11;have q12:=q 12
  simp only [List.getElem?_toArray,List.getElem?_cons_zero,List.getElem?_cons_succ] at q0 q1 q2 q3 q4 q5 q6 q7 q8 q9 q10 q11 q12
  clear hW hbel hoth q r0 r1 r2 r3 r4 r5 r6 r7 r8 r9 r10 r11 r12 f0 f1 f2 f3 f4 f5 f6 f7 f8 f9 f10 f11 f12
  have A:∀ {T:Type} {r:Rd T} {v:Value} {xs:List T},Sl r (fun b=>b≠w.heap.size+1) wc v xs→Sl r (fun _=>True) W v xs:=fun h=>(h.frame (fun b hb _=>HOth.out b hb)).mono (fun _ _ _=>trivial)
  refine Q7 (v:=.tuple #[.agg #[.string ⟨x.name.toArray⟩,.slice cp x.columns.length cc,.slice kp x.key.length kc,.slice rp x.refs.length rc,.int .i64 k9,.string s19,.int .i64 n9,.string s29,.slice p19 n19 c19,.slice p29 n29 c29,.slice p39 n39 c39,.int .i64 a9,.int .i64 z9],.bool true]) (by simp [results,results40,go_sem,q0,q1,q2,q3,q4,q5,q6,q7,q8,q9,q10,q11,q12]) rfl ⟨[.string ⟨x.name.toArray⟩,.slice cp x.columns.length cc,.slice kp x.key.length kc,.slice rp x.refs.length rc,.int .i64 k9,.string s19,.int .i64 n9,.string s29,.slice p19 n19 c19,.slice p29 n29 c29,.slice p39 n39 c39,.int .i64 a9,.int .i64 z9],rfl,?_,HBel.out⟩
  refine ⟨_,_,_,_,rfl,hnl,A HT.out.cols,A HT.out.key,A HT.out.refs,?_⟩
  exact Z6.move HEx.out (fun b hb _=>(HBel.out.block b hb).trans (HB1.out.block b hb).symm) (fun _ _ _=>trivial)
end Go.Proofs.YtppbaladeefnkaaGreatDoor
