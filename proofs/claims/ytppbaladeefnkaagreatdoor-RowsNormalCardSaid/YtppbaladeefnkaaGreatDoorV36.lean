import Derived.Test.YtppbaladeefnkaaGreatDoorV33
import Derived.Test.YtppbaladeefnkaaGreatDoorV34
set_option maxRecDepth 100000
set_option maxHeartbeats 400000000
namespace Go.Proofs.YtppbaladeefnkaaGreatDoor
open Go.RowKit Go.Shelf Go.Lib Tryz
def De (us:List Sm):Prop:=∀ u ∈ us,∀ c ∈ u.ctors,Ji c.arg
structure L6 (t:Tbl):Prop where
 key:t.key.length≤1000
 cols:t.columns.length≤1000
 types:∀ c ∈ t.columns,Ji c.type∨c.type.kind=3
 check:Yc 8 t.check
structure Xu (v:Val):Prop where
 good:Zr v
 few:v.kids.length≤900
theorem Zr.lens {v:Val} (h:Zr v):v.names.length≤v.kids.length∧(v.kind=4→v.kids.length=v.names.length):=by
 cases h with
 | int n=>exact ⟨Q9 _,fun h=>by cases h⟩
 | text s=>exact ⟨Q9 _,fun h=>by cases h⟩
 | bool n _=>exact ⟨Q9 _,fun h=>by cases h⟩
 | make s kids _ _ _=>exact ⟨Q8 _,fun h=>by cases h⟩
 | record names kids hl _ _ _=>exact ⟨Nat.le_of_eq hl,fun _=>hl.symm⟩
 | list kids _=>exact ⟨Q8 _,fun h=>by cases h⟩
def hasP (us:List Sm) (v:Val) (t:Ty):Bool:=if t.kind=3 then sumB us v t.name else v.kind==t.kind
theorem rhasP (us:List Sm) (hu:De us) (v:Val) (t:Ty) (h:Ji t∨t.kind=3):Ja us v t (hasP us v t):=by
 unfold hasP
 split
 ·rename_i h3
  obtain ⟨k,s,n,names,kids⟩:=t
  cases (show k=3 from h3)
  exact rhasSum us v s n names kids hu
 rename_i h3
 exact Eh us v t (h.resolve_right h3)
theorem rhasRow (us:List Sm) (hu:De us) (t:Tbl) (hT:L6 t) (v:Val) (hv:Xu v):∃ b,Ja us v (H6 t) b:=by
 obtain ⟨h1,h2,h3⟩:=Ge _ t.columns rfl
 exact ⟨_,rhasRec us v [] _ _ (hasP us) (by rw [h1,h2]) hv.good.lens.2 (fun x _ y hy=>by
  obtain ⟨c,hc,rfl⟩:=h3 y hy
  exact rhasP us hu x c.type (hT.types c hc))⟩
def Hp (w:World) (e:Ending) (w':World):Prop:=(∃ (c:Int) (x1 x2 x3 x4 x5 x6 x7 x8 x9 x10 x11:Value),e=.returned (.agg #[.int .i64 c,x1,x2,x3,x4,x5,x6,x7,x8,x9,x10,x11]))∧Below w.heap.size w w'
theorem Mg (X:World) (p:Addr):X.drew.cell? p=X.cell? p:=rfl
theorem Zj {W:World} {R b j:Nat} {x0 x1 x2 x3 x4 x5 x6 x7 x8 x9 x10 x11 u:Value} (h:b≠R) (hc:W.cell? ⟨b,j,none⟩=some u):(Zh W R x0 x1 x2 x3 x4 x5 x6 x7 x8 x9 x10 x11).drew.cell? ⟨b,j,none⟩=some u:=(Mg _ _).trans ((World.cell?_of_block (Yz h)).trans hc)
def Dk:Prop:=∀ (S0 S1:Nat→Prop) (s:Sc) (cs:List Value) (lv:Value) (l:List Rel) (w:World),Yn S0 w cs s→Sl Z0 S1 w lv l→l.length=s.tables.length→De s.sums→(∀ t ∈ s.tables,L6 t)→(∀ r ∈ l,∀ v ∈ r.rows,Xu v) →
  Calls prog 66 #[.agg cs.toArray,lv] w (Hp w)
theorem Si (S:Nat→Prop) (v:Value) (l:List Int) (w:World) (hs:Y6 S w v l) (hi:V9 l) (hk:Zp l 0 13=6):
  Calls prog 35 #[v,.int .i64 0] w (Vi w (Gen.check 6)):=by
 have HP:=Qq (fun W (hb:Below w.heap.size w W)=>Zt S v l 0 13 W (hs.below hb) hi (by omega) (by omega))
 rw [hk] at HP
 obtain ⟨p,cap,rfl,_⟩:=hs.len
 clear hs hi hk
 go_enter func35,ntmps35
 go_upto_region 8 with fail
 generalize hW8:(((((((w.alloc _).alloc _).alloc _).alloc _).alloc _).alloc _).alloc _).alloc _=W8
 have hb8:=eqB hW8 (Zq (Zq (Zq (Zq (Zq (Zq (Zq (Qn w _) _) _) _) _) _) _) _)
 have hz8:W8.heap.size=w.heap.size+8:=by rw [← hW8];simp
 have r8:=eqH (b:=w.heap.size) hW8 (Qi (Qi (Qi (Qi (Qi (Qi (Qi (Z8 rfl _) _) _) _) _) _) _) _)
 have hS2:=(((Yj.row (show W8.heap[w.heap.size+1+1+1+1+1]?=some (.cells #[.int .i64 3,.string ⟨#[101]⟩,.int .i64 0,.string ⟨#[]⟩,.slice none 0 0,.slice none 0 0,.slice none 0 0,.int .i64 0,.int .i64 0] 35 (0,0)) from by rw [← hW8];exact Qi (Qi (Z8 (by simp) _) _) _)).app (Yj.row (show W8.heap[w.heap.size+1+1+1+1+1+1+1]?=some (.cells #[.int .i64 2,.string ⟨#[]⟩,.int .i64 1,.string ⟨#[]⟩,.slice none 0 0,.slice none 0 0,.slice none 0 0,.int .i64 0,.int .i64 0] 35 (0,0)) from by rw [← hW8];exact Z8 (by simp) _))).app (Yj.row (show W8.heap[w.heap.size+1+1]?=some (.cells #[.int .i64 3,.string ⟨#[98]⟩,.int .i64 0,.string ⟨#[]⟩,.slice none 0 0,.slice none 0 0,.slice none 0 0,.int .i64 0,.int .i64 0] 35 (0,0)) from by rw [← hW8];exact Qi (Qi (Qi (Qi (Qi (Z8 (by simp) _) _) _) _) _) _)))
 have hG:=(Vz (Vz (Y2 (show w.heap.size<w.heap.size+1+1+1+1+1 by omega) (.int .i64 3) (.string ⟨#[101]⟩) (.int .i64 0) (.string ⟨#[]⟩) (.slice none 0 0) (.slice none 0 0) (.slice none 0 0) (.int .i64 0) (.int .i64 0)) (Y2 (show w.heap.size<w.heap.size+1+1+1+1+1+1+1 by omega) (.int .i64 2) (.string ⟨#[]⟩) (.int .i64 1) (.string ⟨#[]⟩) (.slice none 0 0) (.slice none 0 0) (.slice none 0 0) (.int .i64 0) (.int .i64 0))) (Y2 (show w.heap.size<w.heap.size+1+1 by omega) (.int .i64 3) (.string ⟨#[98]⟩) (.int .i64 0) (.string ⟨#[]⟩) (.slice none 0 0) (.slice none 0 0) (.slice none 0 0) (.int .i64 0) (.int .i64 0)))
 have HB8:=Qq hb8;have HR:=Qq r8
 clear hW8 hb8 r8 hz8
 go_upto_region 20 with (go_at_call 26;refine (HP.out _ HB8.out).mono ?_;rintro e w' ⟨rfl,rfl⟩)
 refine let_mvar% ?Lq1:=fun w':World=>w'.cell? ⟨w.heap.size+1+1+1+1+1,0,none⟩=some (.int .i64 3)∧w'.cell? ⟨w.heap.size+1+1+1+1+1,1,none⟩=some (.string ⟨#[101]⟩)∧w'.cell? ⟨w.heap.size+1+1+1+1+1,2,none⟩=some (.int .i64 0)∧w'.cell? ⟨w.heap.size+1+1+1+1+1,3,none⟩=some (.string ⟨#[]⟩)∧w'.cell? ⟨w.heap.size+1+1+1+1+1,4,none⟩=some (.slice none 0 0)∧w'.cell? ⟨w.heap.size+1+1+1+1+1,5,none⟩=some (.slice none 0 0)∧w'.cell? ⟨w.heap.size+1+1+1+1+1,6,none⟩=some (.slice none 0 0)∧w'.cell? ⟨w.heap.size+1+1+1+1+1,7,none⟩=some (.int .i64 0)∧w'.cell? ⟨w.heap.size+1+1+1+1+1,8,none⟩=some (.int .i64 0)∧w'.cell? ⟨w.heap.size+1+1+1+1+1+1+1,0,none⟩=some (.int .i64 2)∧w'.cell? ⟨w.heap.size+1+1+1+1+1+1+1,1,none⟩=some (.string ⟨#[]⟩)∧w'.cell? ⟨w.heap.size+1+1+1+1+1+1+1,2,none⟩=some (.int .i64 1)∧w'.cell? ⟨w.heap.size+1+1+1+1+1+1+1,3,none⟩=some (.string ⟨#[]⟩)∧w'.cell? ⟨w.heap.size+1+1+1+1+1+1+1,4,none⟩=some (.slice none 0 0)∧w'.cell? ⟨w.heap.size+1+1+1+1+1+1+1,5,none⟩=some (.slice none 0 0)∧w'.cell? ⟨w.heap.size+1+1+1+1+1+1+1,6,none⟩=some (.slice none 0 0)∧w'.cell? ⟨w.heap.size+1+1+1+1+1+1+1,7,none⟩=some (.int .i64 0)∧w'.cell? ⟨w.heap.size+1+1+1+1+1+1+1,8,none⟩=some (.int .i64 0)∧w'.cell? ⟨w.heap.size+1+1,0,none⟩=some (.int .i64 3)∧w'.cell? ⟨w.heap.size+1+1,1,none⟩=some (.string ⟨#[98]⟩)∧w'.cell? ⟨w.heap.size+1+1,2,none⟩=some (.int .i64 0)∧w'.cell? ⟨w.heap.size+1+1,3,none⟩=some (.string ⟨#[]⟩)∧w'.cell? ⟨w.heap.size+1+1,4,none⟩=some (.slice none 0 0)∧w'.cell? ⟨w.heap.size+1+1,5,none⟩=some (.slice none 0 0)∧w'.cell? ⟨w.heap.size+1+1,6,none⟩=some (.slice none 0 0)∧w'.cell? ⟨w.heap.size+1+1,7,none⟩=some (.int .i64 0)∧w'.cell? ⟨w.heap.size+1+1,8,none⟩=some (.int .i64 0);?_
 have HS:=Qq (fun w' (h:Yj (Vu (w.heap.size+1+1+1+1+1) (.int .i64 3) (.string ⟨#[101]⟩) (.int .i64 0) (.string ⟨#[]⟩) (.slice none 0 0) (.slice none 0 0) (.slice none 0 0) (.int .i64 0) (.int .i64 0)++Vu (w.heap.size+1+1+1+1+1+1+1) (.int .i64 2) (.string ⟨#[]⟩) (.int .i64 1) (.string ⟨#[]⟩) (.slice none 0 0) (.slice none 0 0) (.slice none 0 0) (.int .i64 0) (.int .i64 0)++Vu (w.heap.size+1+1) (.int .i64 3) (.string ⟨#[98]⟩) (.int .i64 0) (.string ⟨#[]⟩) (.slice none 0 0) (.slice none 0 0) (.slice none 0 0) (.int .i64 0) (.int .i64 0)) w')=>(show ?Lq1 w' from Yj.spread h))
 have HG:=Qq hG
 have HPt:=Qq (fun w' z0 z1 z2 z3 z4 z5 z6 z7 z8 (h:Yj _ w')=>HS.out _ (h.put9 HG.out z0 z1 z2 z3 z4 z5 z6 z7 z8))
 unfold put9 at HPt
 have HBc:=HB8
 clear hG
 have hTok1:=Qq True.intro;have hTokN:=Qq True.intro;have hTokB:=Qq True.intro;have hTokK:=Qq True.intro;have hTokL:=Qq True.intro
 go_region_held3 ?Lq1 (first | with_reducible exact HS.out _ hS2 | with_reducible exact HS.out _ hS2.drew | with_reducible exact HS.out _ (hS2.alloc _) | with_reducible exact HS.out _ (hS2.alloc _).drew | with_reducible exact HS.out _ ((hS2.alloc _).alloc _) | with_reducible exact HS.out _ ((hS2.alloc _).alloc _).drew | with_reducible exact HS.out _ (((hS2.alloc _).alloc _).alloc _) | with_reducible exact HPt.out _ _ _ _ _ _ _ _ _ _ hS2)
  (first
   | (have hn:=HX1.out;clear hn;(repeat (first
      | (have hk:=hTokN.out;clear hTokN hk;generalize hWN:World.alloc _ (Obj.cells #[.string ⟨#[82,101,100]⟩,.string ⟨#[68,97,114,107]⟩] 9 _)=WN;have hbN:=Xw hWN;have hkN:=Uw hWN;have hlN:=Je hWN HR.out;have hS3:=hS2.later hbN;clear hS2;have hS2:=hS3;clear hS3;have HR0:=Qq (Zi hbN HR.out);clear HR;have HR:=HR0;clear HR0;have HC0:=Qq (HBc.out.thn hbN);clear HBc;have HBc:=HC0;clear HC0;(try (have h0:=Qq (Zi hbN HKB.out);clear HKB;have HKB:=h0;clear h0));(try (have h0:=Qq (Zi hbN HKK.out);clear HKK;have HKK:=h0;clear h0));(try (have h0:=Qq (HX1.out.move (.of_below hbN) (fun _ _ h=>h));clear HX1;have HX1:=h0;clear h0));have HKN:=Qq hkN;have HLN:=Qq hlN;have HZN:=Qq (Dv hWN);clear hWN hbN hkN hlN)
      | (have hk:=hTokB.out;clear hTokB hk;generalize hWB:World.alloc _ (Obj.cells #[.string ⟨#[]⟩,.string ⟨#[110]⟩] 9 _)=WB;have hbB:=Xw hWB;have hkB:=Uw hWB;have hlB:=Je hWB HR.out;have hS3:=hS2.later hbB;clear hS2;have hS2:=hS3;clear hS3;have HR0:=Qq (Zi hbB HR.out);clear HR;have HR:=HR0;clear HR0;have HC0:=Qq (HBc.out.thn hbB);clear HBc;have HBc:=HC0;clear HC0;(try (have h0:=Qq (Zi hbB HKN.out);clear HKN;have HKN:=h0;clear h0));(try (have h0:=Qq (Zi hbB HKK.out);clear HKK;have HKK:=h0;clear h0));(try (have h0:=Qq (HX1.out.move (.of_below hbB) (fun _ _ h=>h));clear HX1;have HX1:=h0;clear h0));have HKB:=Qq hkB;have HLB:=Qq hlB;have HZB:=Qq (Dv hWB);clear hWB hbB hkB hlB)
      | (have hn:=HX1.out;clear hn;have hk:=hTokK.out;clear hTokK hk;generalize hWK:World.alloc _ (Obj.cells #[.int .i64 3,.string ⟨#[101]⟩,.int .i64 0,.string ⟨#[]⟩,.slice none 0 0,.slice none 0 0,.slice none 0 0,.int .i64 0,.int .i64 0,.int .i64 2,.string ⟨#[]⟩,.int .i64 1,.string ⟨#[]⟩,.slice none 0 0,.slice none 0 0,.slice none 0 0,.int .i64 0,.int .i64 0,.int .i64 ek1,.string es1,.int .i64 en1,.string et1,.slice e11 f11 g11,.slice e21 f21 g21,.slice e31 f31 g31,.int .i64 ea1,.int .i64 ez1] 35 _)=WK;have hbK:=Xw hWK;have hkK:=Uw hWK;have hlK:=Je hWK HR.out;have hS3:=hS2.later hbK;clear hS2;have hS2:=hS3;clear hS3;have HR0:=Qq (Zi hbK HR.out);clear HR;have HR:=HR0;clear HR0;have HC0:=Qq (HBc.out.thn hbK);clear HBc;have HBc:=HC0;clear HC0;(try (have h0:=Qq (Zi hbK HKN.out);clear HKN;have HKN:=h0;clear h0));(try (have h0:=Qq (Zi hbK HKB.out);clear HKB;have HKB:=h0;clear h0));(try (have h0:=Qq (HX1.out.move (.of_below hbK) (fun _ _ h=>h));clear HX1;have HX1:=h0;clear h0));have HKK:=Qq hkK;have HLK:=Qq hlK;have HZK:=Qq (Dv hWK);clear hWK hbK hkK hlK)
      | fail));have hn:=HKN.out;clear hn;have hn:=HKB.out;clear hn;have hn:=HKK.out;clear hn;have hk:=hTokL.out;clear hTokL hk;obtain ⟨⟨f0,f1,f2,f3,f4,f5,f6,f7,f8⟩,y0,y1,y2,y3,y4,y5,y6,y7,y8⟩:=Rc HR.out;go_simp)
   | (have hk:=hTok1.out;go_at_call 70;(repeat (first
      | (have hk:=hTokN.out;clear hTokN hk;generalize hWN:World.alloc _ (Obj.cells #[.string ⟨#[82,101,100]⟩,.string ⟨#[68,97,114,107]⟩] 9 _)=WN;have hbN:=Xw hWN;have hkN:=Uw hWN;have hlN:=Je hWN HR.out;have hS3:=hS2.later hbN;clear hS2;have hS2:=hS3;clear hS3;have HR0:=Qq (Zi hbN HR.out);clear HR;have HR:=HR0;clear HR0;have HC0:=Qq (HBc.out.thn hbN);clear HBc;have HBc:=HC0;clear HC0;(try (have h0:=Qq (Zi hbN HKB.out);clear HKB;have HKB:=h0;clear h0));(try (have h0:=Qq (Zi hbN HKK.out);clear HKK;have HKK:=h0;clear h0));(try (have h0:=Qq (HX1.out.move (.of_below hbN) (fun _ _ h=>h));clear HX1;have HX1:=h0;clear h0));have HKN:=Qq hkN;have HLN:=Qq hlN;have HZN:=Qq (Dv hWN);clear hWN hbN hkN hlN)
      | (have hk:=hTokB.out;clear hTokB hk;generalize hWB:World.alloc _ (Obj.cells #[.string ⟨#[]⟩,.string ⟨#[110]⟩] 9 _)=WB;have hbB:=Xw hWB;have hkB:=Uw hWB;have hlB:=Je hWB HR.out;have hS3:=hS2.later hbB;clear hS2;have hS2:=hS3;clear hS3;have HR0:=Qq (Zi hbB HR.out);clear HR;have HR:=HR0;clear HR0;have HC0:=Qq (HBc.out.thn hbB);clear HBc;have HBc:=HC0;clear HC0;(try (have h0:=Qq (Zi hbB HKN.out);clear HKN;have HKN:=h0;clear h0));(try (have h0:=Qq (Zi hbB HKK.out);clear HKK;have HKK:=h0;clear h0));(try (have h0:=Qq (HX1.out.move (.of_below hbB) (fun _ _ h=>h));clear HX1;have HX1:=h0;clear h0));have HKB:=Qq hkB;have HLB:=Qq hlB;have HZB:=Qq (Dv hWB);clear hWB hbB hkB hlB)
      | fail));refine (Xx w.heap.size [60] _ _ _ _ _ (by simp) (by exact (Zx 3 [110] 0 [] (by simp) (by simp))) (by exact (Zx 3 [98] 0 [] (by simp) (by simp))) (by exact Qf HR.out)).mono ?_;rintro e W1 ⟨ek1,es1,en1,et1,e11,f11,g11,e21,f21,g21,e31,f31,g31,ea1,ez1,rfl,hx1,hb1⟩;clear hTok1 hk;(try (have hb0:=X8 hb1;clear hb1;have hb1:=hb0;clear hb0));have hS3:=hS2.later hb1;clear hS2;have hS2:=hS3;clear hS3;have HR0:=Qq (Zi hb1 HR.out);clear HR;have HR:=HR0;clear HR0;have HC0:=Qq (HBc.out.thn hb1);clear HBc;have HBc:=HC0;clear HC0;(try (have h0:=Qq (Zi hb1 HKN.out);clear HKN;have HKN:=h0;clear h0));(try (have h0:=Qq (Zi hb1 HKB.out);clear HKB;have HKB:=h0;clear h0));(try (have h0:=Qq (Zi hb1 HKK.out);clear HKK;have HKK:=h0;clear h0));have HX1:=Qq hx1;clear hx1 hb1)
   | fail)
 all_goals
  go_wp2_with fail
  show bodyPost _ _ _ _ _ (put9 _ w.heap.size (.int .i64 13) (.string ⟨#[]⟩) (.int .i64 0) (.string ⟨#[]⟩) (.slice (some ⟨_,0,none⟩) 2 2) (.slice (some ⟨_,0,none⟩) 2 2) (.slice (some ⟨_,0,none⟩) 3 3) (.int .i64 0) (.int .i64 0))
  exact Q7 (v:=.agg #[.int .i64 13,.string ⟨#[]⟩,.int .i64 0,.string ⟨#[]⟩,.slice (some ⟨_,0,none⟩) 2 2,.slice (some ⟨_,0,none⟩) 2 2,.slice (some ⟨_,0,none⟩) 3 3,.int .i64 0,.int .i64 0]) (by simp [results,results35,go_sem,Y4 HR.out]) rfl (Vy (Yk (nm:=[]) (s:=[]) (by simp) (by simp) (Z4 (xs:=[[82,101,100],[68,97,114,107]]) (Mu HKN.out (by have h1:=HZN.out;have h2:=HZB.out;have h3:=HZK.out;omega)) (by have h0:=HLN.out;have h1:=HZN.out;have h2:=HZB.out;have h3:=HZK.out;show w.heap.size<_;omega) (Gk _ _ [82,101,100] [68,97,114,107] (by simp) (by simp)) rfl rfl (by simp)) (Z4 (xs:=[[],[110]]) (Mu HKB.out (by have h1:=HZN.out;have h2:=HZB.out;have h3:=HZK.out;omega)) (by have h0:=HLB.out;have h1:=HZN.out;have h2:=HZB.out;have h3:=HZK.out;show w.heap.size<_;omega) (Gk _ _ [] [110] (by simp) (by simp)) rfl rfl (by simp)) (Z4 (xs:=[Gen.e,Gen.yes,Gen.op [60] [Gen.var [110],Gen.b]]) (Mu HKK.out (by have h1:=HZN.out;have h2:=HZB.out;have h3:=HZK.out;omega)) (by have h0:=HLK.out;have h1:=HZN.out;have h2:=HZB.out;have h3:=HZK.out;show w.heap.size<_;omega) (((Cs.one (r:=Ys) (Zx 3 [101] 0 [] (by simp) (by simp))).app (Cs.one (r:=Ys) (Zx 2 [] 1 [] (by simp) (by simp)))).app (Cs.one (r:=Ys) HX1.out)) rfl rfl (by simp))) HBc.out rfl)
end Go.Proofs.YtppbaladeefnkaaGreatDoor
