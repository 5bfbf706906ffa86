import Derived.Test.YtdpibdpbgokmoaaGreatDoorC13
set_option maxRecDepth 100000
set_option maxHeartbeats 400000000
namespace Go.Proofs.YtdpibdpbgokmoaaGreatDoor
open Go.RowKit Go.Shelf Go.Lib Tryz
theorem kid_any (E V k:Nat) (S0 S':Nat→Prop) (kp:Option Addr) (kc:Nat) (kids:List Ex) (e:Ex) (p:Value) (env:List (Bs × Val)) (v:Val) (w:World) (h6:w.cell? ⟨E,6,none⟩=some (.slice kp kids.length kc)) (hk:Sl Xp S' w (.slice kp kids.length kc) kids) (hV:w.cell? ⟨V,0,none⟩=some p)
  (he0:Xv S0 w p env) (hx:kids[k]?=some e) (hev:EvV e env v):Calls prog 132 #[k,Qqc E,Qqc V] w (G6 S0 w v):=by
 have he:Xv (fun b=>S0 b∧b<w) w p env:=he0.move (.refl _ _) (fun b hb h=>⟨h,hb⟩)
 obtain ⟨q,rfl⟩:=he.ptr
 obtain ⟨N,A,cs,bS,D,_,_,hr,G⟩:=hk.elem hx
 subst bS
 have aH:=Qq (fun W (hb:Below w w W)=>hev (fun b=>S0 b∧b<w) S' cs (.pointer q) W (Xp.frame hr (.of_below hb)) (he.move (.of_below hb) Qzx))
 obtain ⟨ek,bP,en,bQ,bM,bJ,bG,bN,bK,bH,bO,bL,bI,ea,ez,aB⟩:=Yv.cells (show Yv S' w cs e from hr)
 subst aB
 have aL:=Qv _ _ h6
 have aN:=Qv _ _ hV
 have bZ:k<kids.length:=(Qj hx).1
 have bX:(0:Int)≤(k:Int):=Qqj
 have bY:(k:Int)<(kids.length:Int):=Qqj
 have d0:=G 0 _ rfl
 have d1:=G 1 _ rfl
 have d2:=G 2 _ rfl
 have d3:=G 3 _ rfl
 have d4:=G 4 _ rfl
 have d5:=G 5 _ rfl
 have d6:=G 6 _ rfl
 have d7:=G 7 _ rfl
 have d8:=G 8 _ rfl
 simp only [show Xp.k=9 from rfl,Nat.add_zero] at d0 d1 d2 d3 d4 d5 d6 d7 d8
 obtain ⟨w1,aA⟩:=eX (w.alloc (.cells zV 36))
 have aO:=eqB aA (Zg _ _)
 have bV:w1=w.heap.size+1:=by rw [← aA];simp
 have aM:=eqH (b:=w.heap.size) aA (Qw _ _)
 refine let_mvar% ?Lq1:=fun w':World=>Qqa w' E 6 (Qqb N A kids.length kc)∧Qqa w' N (A+k*9) ek∧Qqa w' N (A+k*9+1) (.string bP)∧Qqa w' N (A+k*9+2) en∧Qqa w' N (A+k*9+3) (.string bQ)∧Qqa w' N (A+k*9+4) (.slice bM bJ bG)∧Qqa w' N (A+k*9+5) (.slice bN bK bH)∧Qqa w' N (A+k*9+6) (.slice bO bL bI)∧Qqa w' N (A+k*9+7) ea∧Qqa w' N (A+k*9+8) ez∧Qqa w' V 0 (.pointer q)∧(∃ U y1 y2 y3 Y,w'.heap[w.heap.size]?=some (.cells #[U,y1,y2,y3,Y] 36 (0,0)))∧Below w w w';?_
 have HS:∀ w',Below w w w'→(∃ U y1 y2 y3 Y,w'.heap[w.heap.size]?=some (.cells #[U,y1,y2,y3,Y] 36 (0,0)))→?Lq1 w':=by
  intro w' h hy
  have M:∀ {b j:Nat} {u:Value},b<w→w.cell? ⟨b,j,none⟩=some u→w'.cell? ⟨b,j,none⟩=some u:=fun bT G=>kD h bT G
  exact ⟨M aL h6,M D d0,M D d1,M D d2,M D d3,M D d4,M D d5,M D d6,M D d7,M D d8,M aN hV,hy,h⟩
 have I:∀ w',?Lq1 w'→Below w w w':=fun w' h=>h.2.2.2.2.2.2.2.2.2.2.2.2
 have O:∀ w',?Lq1 w'→(∃ U y1 y2 y3 Y,w'.heap[w.heap.size]?=some (.cells #[U,y1,y2,y3,Y] 36 (0,0))):=fun w' h=>h.2.2.2.2.2.2.2.2.2.2.2.1
 have aJ:∀ w' T,?Lq1 w'→Below w' w' T→?Lq1 T:=fun w' T h h2=>HS T ((I w' h).thn h2) (by
  obtain ⟨U,y1,y2,y3,Y,hy⟩:=O w' h
  exact ⟨U,y1,y2,y3,Y,kB h2 hy⟩)
 have Z:∀ w' a b c d e,?Lq1 w'→?Lq1 (Zl w' w a b c d e):=fun w' a b c d e h=>HS _ (Zc (I w' h) (Q9 _)) (by
  obtain ⟨U,y1,y2,y3,Y,hy⟩:=O w' h
  exact ⟨a,b,c,d,e,Yd hy⟩)
 unfold Zl at Z
 have HC:=Qq (fun W' (h':?Lq1 W')=>(aH.out W' (I _ h')).mono (R':=fun e w2=>∃ q3 l3 q4 l4,e=.returned (.agg (Qqg v q3 l3 q4 l4))∧Z9 (fun b=>S0 b∧b<w) w2 (vcs v q3 l3 q4 l4) v∧?Lq1 w2) (by
  rintro e w2 ⟨bW,rfl,h3,h4⟩
  obtain ⟨q3,l3,q4,l4,aB,_⟩:=Z9.cells h3
  subst aB
  exact ⟨q3,l3,q4,l4,rfl,h3,aJ _ _ h' h4⟩))
 obtain ⟨aU,aG,aK,aI⟩:=Qqp (HS w1.drew aO.drew ⟨_,_,_,_,_,aM⟩) I O Z
 clear HS I aJ O Z aH G h6 hk hV he he0 hx hev hr aO d0 d1 d2 d3 d4 d5 d6 d7 d8 aL aN aM bV
 go_enter func132,ntmps132
 go_upto_region 1 with fail
 go_region_held3 ?Lq1 (first | with_reducible exact aU.out | with_reducible exact J | with_reducible exact aI.out _ _ _ _ _ _ J)
  (first
   | (go_at_call 91;refine (HC.out _ Qqw).mono ?_;rintro e w2 ⟨q3,l3,q4,l4,rfl,aP,J⟩;obtain ⟨g0,g1,g2,g3,g4,r2⟩:=aK.out _ J;obtain ⟨f0,f1,f2,f3,f4⟩:=frz5 r2;obtain ⟨U,y1,y2,y3,Y⟩:=row5 r2;have aV:=Qq r2;clear r2))
 have aT:=Qq (aG.out _ J);have aW:=Qq aP
 clear aP J
 go_wp2_with fail
 show bodyPost _ _ _ _ _ (Qqm w2 w v q3 l3 q4 l4)
 refine Q7 (v:=.agg (Qqg v q3 l3 q4 l4)) (by simp [results,results132,go_sem,Zd aV.out]) rfl ⟨_,rfl,?_,Zc aT.out (Q9 _)⟩
 exact Z9.move aW.out (fun b hb _=>Zf (by have:=hb.2;omega)) (fun _ _ h=>h.1)
theorem less_any (g:Nat) (lb:Array Value) (eg:∀ args w,(callFunc g args).run prog w=.ok (.enter g args) w) (S0:Nat→Prop) (u v:Val) (w:World) (hS0:∀ b,S0 b→b<w.heap.size)
  (h0:∀ W,Below w w W→Calls prog g (#[.int .i64 0]++lb) W (G6 S0 W u)) (h1:∀ W,Below w w W→Calls prog g (#[.int .i64 1]++lb) W (G6 S0 W v)):
  Calls prog 140 #[.string ⟨#[60]⟩,.func (.func g) #[] lb,.int .i64 2] w (G6 S0 w (Xr (decide (Yz u v<0)))):=by
 obtain ⟨H0,H1,HM,aO⟩:=Qqp h0 h1 X8 hS0
 have J:=Qq (fun cu cv W (hu:Z9 S0 W cu u) (hv:Z9 S0 W cv v)=>Ga S0 u v cu cv W hu hv)
 have M:=Qq (Uv (decide (Yz u v<0)) S0)
 obtain ⟨r,U⟩:=eX (Xr (decide (Yz u v<0)))
 rw [U] at M ⊢
 clear h0 h1 U hS0
 generalize Yz u v=c at J M
 go_enter func140,ntmps140
 go_wp2_with (go_at_call 134;refine (HM.out _).mono ?_;rintro e w' ⟨rfl,rfl⟩)
 refine (H0.out _ (Zg _ _)).mono ?_
 rintro e w1 ⟨cu,rfl,hu,N⟩
 obtain ⟨a3,m3,a4,m4,A,_⟩:=Z9.cells hu
 simp only [vcs] at A
 subst A
 obtain ⟨aB,aA,HU⟩:=Qqo ((N.block w Qqk).trans (Qw w _)) ((Zg w _).thn N) hu
 clear hu N
 go_wp2_with fail
 refine (H1.out _ aA.out).mono ?_
 rintro e w2 ⟨cv,rfl,hv,I⟩
 obtain ⟨b3,n3,b4,n4,A,_⟩:=Z9.cells hv
 simp only [vcs] at A
 subst A
 have aC:=Qq ((I.block w (Z8 aB.out)).trans aB.out);have aI:=Qq (aA.out.thn I)
 have aP:=Qq (Z9.move HU.out (.of_below I) Qzx);have aQ:=Qq hv
 clear hv I
 go_upto_region 10 with fail
 generalize G:(w2.alloc _).alloc _=w4
 have D:=eqB G (Zt _ _ _)
 have Y:=eqH (b:=w2.heap.size) G (Q5 _ _ _)
 have Z:=eqH (b:=w2.heap.size+1) G (Q6 _ _ _)
 have aD:=Qq ((D.block w (Z8 aC.out)).trans aC.out);have aJ:=Qq (aI.out.thn D)
 have aM:=Qq (fun W (hb:Below w4 w4 W)=>J.out _ _ W (Z9.move (Z9.move aP.out (.of_below D) Qzx) (.of_below hb) Qzx) (Z9.move (Z9.move aQ.out (.of_below D) Qzx) (.of_below hb) Qzx))
 have x0:=rA0 Y;have y0:=rA0 Z;have x1:=rA1 Y;have y1:=rA1 Z;have x2:=rA2 Y;have y2:=rA2 Z;have x3:=rA3 Y;have y3:=rA3 Z;have x4:=rA4 Y;have y4:=rA4 Z
 clear D Y Z G
 go_wp2_with fail
 refine (aM.out _ (Qz _ _)).mono ?_
 rintro e w5 ⟨rfl,aF⟩
 have O:=aF.bl
 have aE:=Qq ((O.block w (Z8 aD.out)).trans aD.out);have aK:=Qq (aJ.out.thn O)
 clear O aF
 go_wp2_with (go_at_call 135;refine (M.out _).mono ?_;rintro e w6 ⟨cr,rfl,V,T⟩;obtain ⟨q3,l3,q4,l4,A,_⟩:=Z9.cells V;simp only [vcs] at A;subst A;have aL:=Qq T;have aR:=Qq V;have U:=(T.block w (Z8 aE.out)).trans aE.out;have aN:=Qq U;obtain ⟨f0,f1,f2,f3,f4⟩:=frz5 U;obtain ⟨r0,r1,r2,r3,r4⟩:=row5 U;clear V T U)
 show bodyPost _ _ _ _ _ (Qqm w6 w r q3 l3 q4 l4)
 refine Q7 (v:=.agg (Qqg r q3 l3 q4 l4)) (by simp [results,results140,go_sem,Zd aN.out]) rfl ⟨_,rfl,?_,Zc (aK.out.thn aL.out) (Q9 _)⟩
 exact Z9.move aR.out (fun b hb _=>Zf (by have:=aO.out b hb;omega)) Qzx
theorem ev_less (n:Int) (s:Bs) (names binds:List Bs) (x y:Ex) (a z:Int) (env:List (Bs × Val)) (u v:Val) (hx:EvV x env u) (hy:EvV y env v):EvV (.mk 14 [60] n s names binds [x,y] a z) env (Xr (decide (Yz u v<0))):=by
 intro V S' cs p w U T
 have he:Xv (fun b=>V b∧b<w) w p env:=T.move (.refl _ _) (fun b hb h=>⟨h,hb⟩)
 obtain ⟨nv,bv,kv,rfl,_,_,hn,hb,hk⟩:=Yx.1 U
 obtain ⟨np,nc,rfl,_⟩:=hn.len
 obtain ⟨bp,bc,rfl,_⟩:=hb.len
 obtain ⟨kp,kc,rfl,_⟩:=hk.len
 obtain ⟨q,rfl⟩:=he.ptr
 obtain ⟨HE,HK,HX,HY⟩:=Qqp he hk hx hy
 clear U he T hn hb hk hx hy
 unfold sv
 obtain ⟨r,hr⟩:=eX (Xr (decide (Yz u v<0)))
 rw [hr]
 have I:=Qq hr
 clear hr
 rw [show [x,y].length=2 from rfl]
 show Calls prog 91 #[.agg #[.int .i64 14,.string ⟨#[60]⟩,n,s,.slice np names.length nc,.slice bp binds.length bc,.slice kp 2 kc,a,z],.pointer q] w (G6 V w r)
 go_enter func91,ntmps91
 go_upto_region 3 with fail
 generalize D:((w.alloc _).alloc _).alloc _=Z
 have G:=eqB D (Xm _ _ _ _)
 have N:=eqH (b:=w.heap.size) D (Zp _ _ _ _)
 have h1:=eqH (b:=w.heap.size+1) D (Zo _ _ _ _)
 have h2:=eqH (b:=w.heap.size+1+1) D (Zi _ _ _ _)
 have aH:w.heap.size+1+1<Z.heap.size:=Z8 h2
 have A:=Qq (fun (k:Nat) e t (hke:[x,y][k]?=some e) (hev:EvV e env t) W (hbw:Below Z Z W)=>kid_any w (w+1) k (fun b=>V b∧b<w) S' kp kc [x,y] e (.pointer q) env t W
  ((Qk _ _ 6 _ _ _ (kB hbw N)).trans rfl) ((HK.out.below G).below hbw) ((Qk _ _ 0 _ _ _ (kB hbw h1)).trans rfl) ((HE.out.move (.of_below G) Qzx).move (.of_below hbw) Qzx) hke hev)
 have HL:=Qq (less_any 132 #[Qqc w,Qqc (w+1)] (enters_of func132 Qqy rfl) (fun b=>V b∧b<w) u v Z (fun b hb=>by have:=hb.2;omega)
  (A.out 0 x u rfl HX.out) (A.out 1 y v rfl HY.out))
 rw [I.out] at HL
 have c0:=rA0 N;have c1:=rA1 N;have c6:=rA6 N
 have H2:=Qq h2;have aA:=Qq G
 clear N h1 h2 G D HE HK HX HY A I
 go_wp2_with fail
 refine HL.out.mono ?_
 rintro e w4 ⟨cr,rfl,M,J⟩
 obtain ⟨q3,l3,q4,l4,O,_⟩:=Z9.cells M
 simp only [vcs] at O
 subst O
 have Y:=kB J H2.out
 obtain ⟨aB,aC,HR⟩:=Qqo (aA.out.thn J) M Y
 have fz:=fun j=>Qn _ _ j _ _ Y
 obtain ⟨f0,f1,f2,f3,f4⟩:=Qzj fz
 have rr:=fun j=>Qk _ _ j _ _ _ Y
 obtain ⟨r0,r1,r2,r3,r4⟩:=Qzj rr
 simp only [Qf,Qg,Qh] at r0 r1 r2 r3 r4
 clear fz rr M J Y
 go_wp2_with fail
 show bodyPost _ _ _ _ _ (Qqm w4 (w+1+1) r q3 l3 q4 l4)
 refine Q7 (v:=.agg (Qqg r q3 l3 q4 l4)) (by simp [results,results91,go_sem,Zd HR.out]) rfl ⟨_,rfl,?_,Zc aB.out Qqj⟩
 exact Z9.move aC.out (fun b hb _=>Zf (by have:=hb.2;omega)) (fun _ _ h=>h.1)
theorem Ls (p:Addr) (w:World):
  CallsD prog 89 #[.pointer (some p)] .returning w fun e u' w'=>e=.returned (.tuple #[])∧u'=.returning∧w'=w:=by
 refine callsD_of_wpS func89 rfl fun c₀ cs hu=>?_
 apply wpS_seq
 apply wpS_region
 simp [wpOpsS,go_sem,recoverD,hu,ntmps89,Exit.thenS]
 rw [show (#[Value.pointer (some p)]++(Array.replicate 9 undef).setIfInBounds 3 Value.nilIface)=#[.pointer (some p),undef,undef,undef,.nilIface,undef,undef,undef,undef,undef] from rfl]
 refine wpS_of_wp ?_
 go_wp2_with fail
 cases c₀
 simp_all [bodyPostS,results,results89]
def Fz (v:Val):List (Bs × Val):=(v.names.zip v.kids).reverse
theorem Fp (l:List Bs) (m:List Val):l.zip (m.take l.length)=l.zip m:=by
 induction l generalizing m with
 | nil=>rfl
 | cons a l ih=>cases m with
  | nil=>rfl
  | cons b m=>simp [ih]
theorem Oj (l:List Bs) (m:List Val) (k:Nat) (x:Bs) (u:Val) (hx:l[k]?=some x) (hu:m[k]?=some u):((l.take (k+1)).zip (m.take (k+1))).reverse=(x,u)::((l.take k).zip (m.take k)).reverse:=by
 rw [List.take_add_one,List.take_add_one,hx,hu]
 have h1:k<l.length:=(Qj hx).1
 have h2:k<m.length:=(Qj hu).1
 rw [List.zip_append (by rw [Qm,Qm];omega)]
 simp
theorem sat_ok (S0 S1:Nat→Prop) (t:Tbl) (v:Val) (ct cr:List Value) (b:Bool) (w:World) (ht0:Zn.R S0 w ct t) (hr0:Z9 S1 w cr v) (hsi:Vx t.check=true) (hev:EvV t.check (Fz v) (Xr b)) (hln:v.names.length≤v.kids.length):
  Calls prog 37 #[ct,cr] w fun e w'=>e=.returned (.bool b)∧Below w w w':=by
 have bM:∀ (fn:Fn) (first cap:Array Value) (w:World),(Instr.makeFunc fn first cap).run prog w=.ok (.func fn first cap) w:=fun _ _ _ _=>rfl
 have ht:Zn.R (fun b=>b<w) w ct t:=Zn.mono ht0 (fun b hb _=>hb)
 have hr:Z9 (fun b=>b<w) w cr v:=hr0.move (.refl _ _) (fun b hb _=>hb)
 obtain ⟨bG,bF,bQ,bP,bY,bX,k9,bZ,n9,cA,bU,bR,bC,bV,bS,bD,bW,bT,bE,a9,z9,D,_,_,_,_,T⟩:=Yj ht
 simp only [tcs] at D
 subst D
 obtain ⟨p3,k3,p4,k4,D,U,aC,_⟩:=Z9.cells hr
 simp only [vcs] at D
 subst D
 have aB:=Qq (fun W (hb:Below w w W)=>hsi ▸ Ng t.check _ _ W (Yv.move T (.of_below hb) Qzx))
 have Z:=Qq (fun p W (hb:Below w w W) (he:Xv (fun _=>True) W p (Fz v))=>hev (fun _=>True) _ _ p W (Yv.move T (.of_below hb) Qzx) he)
 have aA:=Qq U;have aR:=Qq aC
 obtain ⟨n,hn⟩:=eX (v.names.length)
 have bO:n≤1000000:=by rw [← hn];obtain ⟨_,_,_,h⟩:=U.len;exact h
 rw [hn] at aA hln ⊢
 have HN:=Qq hn;have aS:=Qq hln
 clear ht ht0 hr hr0 T U aC hsi hev hn hln
 go_enter_defers func37,ntmps37
 go_wp2_with fail
 refine (aB.out _ (Xm _ _ _ _)).mono ?_
 rintro e w1 ⟨rfl,I⟩
 have h0:=(I.block w (by simp;omega)).trans (Zp w _ _ _)
 have h1:=(I.block (w+1) Qqk).trans (Zo w _ _ _)
 have h2:=(I.block (w+1+1) Qqk).trans (Zi w _ _ _)
 have aN:=Qq ((Xm w _ _ _).thn I)
 obtain ⟨H0,H1,H2⟩:=Qqo h0 h1 h2
 have x3:=rA3 h1;have x4:=rA4 h1
 clear I h0 h1 h2 aB
 go_wp2_with fail
 go_loopw [5,16] (fun p i wr=>∃ k:Nat,k≤n∧i=.int .i64 k∧Xv (fun _=>True) wr p ((v.names.take k).zip (v.kids.take k)).reverse∧Below w1 w1 wr) (fun _ i _=>n - (intOf i).toNat)
 case atStart=>exact ⟨0,Q8 _,rfl,by simp only [List.take_zero,List.zip_nil_left,List.reverse_nil];exact .nil,Qz _ _⟩
 obtain ⟨k,bL,rfl,hE,G⟩:=hrel
 have Y:=Qq G
 have J:=Qq (aN.out.thn G)
 have A:=Qq (kB G H0.out)
 have aK:=Qq (kB G H2.out)
 have y4:=rA4 ((kB G H1.out))
 obtain ⟨q,rfl⟩:=hE.ptr
 have HE:=Qq hE
 clear G hE
 by_cases hlt:k<n
 ·have bH:(0:Int)≤(k:Int):=Qqj
  have bI:(k:Int)<(n:Int):=Qqj
  have aE:k<v.kids.length:=Qqq aS.out
  have bJ:(k:Int)<(v.kids.length:Int):=Qqj
  obtain ⟨x,hx⟩:∃ x,v.names[k]?=some x:=⟨_,Qx (by rw [HN.out];exact hlt)⟩
  obtain ⟨u,hu⟩:∃ u,v.kids[k]?=some u:=⟨_,Qx aE⟩
  obtain ⟨nb,bB,rfl,bN,aG⟩:=(aA.out.below J.out).str hx
  obtain ⟨kb,bA,q3,l3,q4,l4,rfl,bK,aF,d0,d1,d2,d3,d4⟩:=(aR.out.below J.out).val hu
  have HZ:=Qq (Oj v.names v.kids k x u hx hu)
  have aV:=Qq aG;have aU:=Qq aF
  clear hx hu aF aG aE
  go_wp2_with fail
  go_roundw
  case measure=>simp [intOf];omega
  case rel=>
   refine ⟨k+1,Qqj,by go_num,?_,Y.out.alloc (Qqq Y.out.size) _⟩
   rw [HZ.out]
   exact .cons _ q x u q3 l3 q4 l4 _ trivial (Qw _ _) aV.out (Z9.move aU.out (.of_below (Zg _ _)) (fun _ _ _=>trivial)) (HE.out.move (.of_below (Zg _ _)) Qzx)
 have aD:k=n:=Qqj
 have hd:decide ((k:Int)<(n:Int))=false:=by simpa using hlt
 have hz:((v.names.take k).zip (v.kids.take k)).reverse=Fz v:=by
  unfold Fz
  rw [aD,← HN.out,List.take_length,Fp]
 rw [hz] at HE
 have aQ:=Qq (Z.out (.pointer q) wr J.out HE.out)
 have z4:=rA4 A.out;have z5:=rA5 A.out;have z6:=rA6 A.out;have z7:=rA7 A.out;have z8:=rA8 A.out;have cF:=rA9 A.out;have cC:=rA10 A.out;have cD:=rA11 A.out;have cE:=rA12 A.out
 clear hz aD HE Z
 go_wp2_with fail
 refine aQ.out.mono ?_
 rintro e w5 ⟨aW,rfl,V,N⟩
 have aT:=Qq (truth_ok b _ aW w5 V)
 obtain ⟨q3,l3,q4,l4,D,_⟩:=Z9.cells V
 simp only [vcs] at D
 subst D
 have aL:=Qq (kB N aK.out)
 have aO:=Qq (J.out.thn N)
 clear V N
 go_wp2_with fail
 refine aT.out.mono ?_
 rintro e w6 ⟨rfl,O⟩
 have M:=kB O aL.out
 have aP:=Qq (aO.out.thn O)
 have f0:=fA 0 M;have r0:=rA0 M
 have aM:=Qq M
 clear O M
 go_wp2_with fail
 refine leaves_cons (f:=89) (args:=#[.pointer (some ⟨w+1+1,0,none⟩)]) Qqk (by simp [go_sem]) ?_
 refine (Ls ⟨w+1+1,0,none⟩ _).mono ?_
 rintro e u' cB ⟨rfl,rfl,rfl⟩
 have hc:(w6.setCell ⟨w+1+1,0,none⟩ (.bool b)).cell? ⟨w+1+1,0,none⟩=some (.bool b):=by
  rw [Qk _ _ 0 _ _ _ (Qi _ _ _ _ _ _ aM.out)]
  rfl
 have hb:Below w w (w6.setCell ⟨w+1+1,0,none⟩ (.bool b)):=aP.out.setCell (by show w≤w.heap.size+1+1;omega) _
 refine ⟨.bool b,by simp [results,results37,go_sem,hc],rfl,hb⟩
def S7:List Bs:=[[116,121,112,101],[116,97,98,108,101],[107,101,121],[114,101,102],[116,111],[99,104,101,99,107],[102,117,110],[112,114,111,99],[108,101,116],[105,110],[105,102],[116,104,101,110],[101,108,115,101],[109,97,116,99,104],[105,110,115,101,114,116],[100,101,108,101,116,101],[97,115],[119,104,101,114,101],[117,112,100,97,116,101],[115,101,116],[119,105,116,104],[97,110,100],[111,114],[110,111,116],[116,114,117,101],[102,97,108,115,101]]
theorem kwsR_eq (l:Bs):S7.contains l=Bo l:=by
 unfold Bo
 rw [Bool.eq_iff_iff,List.contains_iff_mem,List.contains_iff_mem]
 have h1:∀ x ∈ S7,x ∈ kws:=Qqx
 have h2:∀ x ∈ kws,x ∈ S7:=Qqx
 exact ⟨h1 l,h2 l⟩
theorem Me (w:World):Calls prog 214 #[] w fun e w'=>e=.returned (.slice (some ⟨w,0,none⟩) 26 26)∧w'=w.alloc (.cells (svs S7).toArray 9):=by
 go_enter func214,ntmps214
 go_wp2
 go_ret
 exact ⟨rfl,rfl⟩
theorem svs_get (ls:List Bs) (i:Nat) (h:i<ls.length):(svs ls)[i]?=some (.string ⟨(ls.getD i []).toArray⟩):=by
 simp only [svs,List.getElem?_map,Qx h,Option.map_some,Qs,Option.getD_some]
 rfl
theorem R7 (ls:List Bs) (b c:Nat) (s:ByteArray) (w:World) (hl:ls.length≤1000000) (hr:w.rangeAt b 0 (svs ls)):
  Calls prog 213 #[Qqb b 0 ls.length c,.string s] w fun e w'=>e=.returned (.bool (ls.contains (bl s)))∧w=w':=by
 have HR:=Qq hr;clear hr
 obtain ⟨n,U⟩:=eX (ls.length)
 rw [U] at hl ⊢
 have M:=Qq U;clear U
 obtain ⟨R,N⟩:=eX (ls.contains (bl s))
 rw [N]
 have G:=Qq N;clear N
 go_enter func213,ntmps213
 go_wp2
 go_loop [5] (fun i=>∃ k:Nat,k≤n∧(∀ j,j<k→ls[j]?≠some (bl s))∧i=.int .i64 k) (fun i=>n - (intOf i).toNat)
 case atStart=>exact ⟨0,Q8 _,fun j O=>Qqj,rfl⟩
 obtain ⟨k,hk,I,rfl⟩:=hrel
 have D:=Qq I;clear I
 by_cases hlt:k<n
 ·obtain ⟨x,V⟩:∃ x:ByteArray,(⟨(ls.getD k []).toArray⟩:ByteArray)=x:=⟨_,rfl⟩
  have hc:w.cell? ⟨b,k,none⟩=some (.string x):=by
   have:=HR.out k _ (svs_get ls k (by rw [M.out];exact hlt))
   rw [Nat.zero_add,V] at this;exact this
  have hg:ls[k]?=some (bl x):=by
   have T:k<ls.length:=by rw [M.out];exact hlt
   rw [← V,Be,Qs,Qx T];rfl
  have HG:=Qq hg;clear hg V
  by_cases he:bl x=bl s
  ·have hb:(x.toList==s.toList)=true:=by rw [Lib.toList_data,Lib.toList_data];simpa using he
   have J:=Qq he;clear he
   go_wp2
   go_ret
   have e:R=true:=by
    rw [← G.out,← J.out];exact List.contains_iff_mem.2 (Qy HG.out)
   exact ⟨by rw [e];rfl,rfl⟩
  have hb:(x.toList==s.toList)=false:=by rw [Lib.toList_data,Lib.toList_data];simpa using he
  have J:=Qq he;clear he
  go_wp2
  go_round
  case rel=>
   refine ⟨k+1,Qqj,fun j O A=>?_,by go_num⟩
   by_cases hjk:j=k
   ·subst hjk;rw [HG.out] at A;exact J.out (Qb A)
   exact D.out j Qqj A
  case measure=>simp [intOf];omega
 go_wp2
 go_ret
 have e:R=false:=by
  rw [← G.out,← Qt]
  intro hc
  obtain ⟨j,O,e⟩:=List.getElem_of_mem (List.contains_iff_mem.1 hc)
  exact D.out j (Qqq M.out) (by rw [Qx O,e])
 exact ⟨by rw [e];rfl,rfl⟩
theorem O0 (s:ByteArray) (w:World):Calls prog 198 #[.string s] w fun e w'=>e=.returned (.bool (Bo (bl s)))∧Below w w w':=by
 have hk:=kwsR_eq (bl s)
 have h2:∀ w:World,Calls prog 213 #[Qqb w 0 26 26,.string s] (w.alloc (.cells (svs S7).toArray 9)) fun e w'=>e=.returned (.bool (Bo (bl s)))∧(w.alloc (.cells (svs S7).toArray 9))=w':=by
  intro w
  rw [← hk]
  exact R7 S7 w 26 s _ Qqx (fun j v hv=>by
   rw [Qk _ w (0+j) _ _ _ (Qw w _)]
   simpa using hv)
 have HK:=Qq h2;clear h2 hk
 go_enter func198,ntmps198
 go_wp2_with (first | (go_at_call 214;refine (Me _).mono ?_;rintro e w' ⟨rfl,rfl⟩) | (go_at_call 213;refine (HK.out _).mono ?_;rintro e w' ⟨rfl,rfl⟩))
 go_ret
 exact ⟨rfl,(Qz _ _).alloc (Q9 _) _⟩
def Ud (c:UInt8):Nat:=if Ot c then 0 else if F5 c then 1 else if Hs c then 2 else if Ml c then 3 else if c==95 then 4 else 5
def clsI (n:Int):Int:=if n=9∨n=10∨n=13∨n=32 then 0 else if 97≤n∧n≤122 then 1 else if 65≤n∧n≤90 then 2 else if 48≤n∧n≤57 then 3 else if n=95 then 4 else 5
theorem clsI_eq (c:UInt8):((Ud c:Nat):Int)=clsI c.toNat:=by
 have A:=Mq c 95
 rw [show ((95:UInt8).toNat:Int)=95 from rfl] at A
 unfold Ud clsI
 rw [Gz,Gb,Eo,O2,A]
 simp only [Bool.or_eq_true,beq_iff_eq,Bool.and_eq_true,decide_eq_true_eq]
 (repeat' split) <;> omega
theorem Cd (c:UInt8) (w:World):Calls prog 197 #[.int .u8 c.toNat] w fun e w'=>e=.returned (.int .i64 (Ud c))∧w=w':=by
 rw [clsI_eq]
 obtain ⟨n,hn⟩:∃ n:Int,(c.toNat:Int)=n:=⟨_,rfl⟩
 rw [hn]
 clear hn
 go_enter func197,ntmps197
 go_wp2
 all_goals (go_ret;refine ⟨Ki ?_,rfl⟩;unfold clsI)
 all_goals (try simp only [beq_iff_eq,beq_eq_false_iff_ne,ne_eq] at *)
 all_goals ((repeat' split) <;> omega)
theorem Md (P:UInt8→Bool) (h:(List.range 256).all (fun n=>P (UInt8.ofNat n))=true) (c:UInt8):P c=true:=by
 have:=List.all_eq_true.1 h c.toNat (by simpa using c.toNat_lt)
 simpa using this
theorem cls_wo (c:UInt8):Fy c=decide (Ud c=1∨Ud c=3∨Ud c=4):=by
 have:=Md (fun c=>Fy c==decide (Ud c=1∨Ud c=3∨Ud c=4)) (by decide +kernel) c
 simpa using this
theorem cls_na (c:UInt8):Br c=decide (1≤Ud c∧Ud c≤3):=by
 have:=Md (fun c=>Br c==decide (1≤Ud c∧Ud c≤3)) (by decide +kernel) c
 simpa using this
theorem cls_lo (c:UInt8):F5 c=decide (Ud c=1):=by
 have:=Md (fun c=>F5 c==decide (Ud c=1)) (by decide +kernel) c
 simpa using this
theorem cls_up (c:UInt8):Hs c=decide (Ud c=2):=by
 have:=Md (fun c=>Hs c==decide (Ud c=2)) (by decide +kernel) c
 simpa using this
theorem Kc (c:UInt8) (v:Nat) (h:Ud c=v) (w:World):Calls prog 197 #[.int .u8 c.toNat] w fun e w'=>e=.returned (.int .i64 v)∧w=w':=by
 rw [← h];exact Cd c w
theorem Sn (s:ByteArray) (a:Nat) (w:World) (hs:s.size≤16) (ha:a<s.size) (hcl:Ud (s[a]'ha)=1) (hall:∀ (k:Nat) (h:k<s.size),Ud (s[k]'h)=1∨Ud (s[k]'h)=3∨Ud (s[k]'h)=4) (hkw:Bo (bl (s.extract a s.size))=false):
  Calls prog 186 #[.string s,a] w fun e w'=>e=.returned (.tuple #[.int .i64 2,s.size])∧Below w w w':=by
 have I:=Qq hcl;clear hcl
 have G:=Qq hall;clear hall
 have D:=fun W=>O0 (s.extract a s.size) W
 rw [hkw] at D
 have J:=Qq D
 clear D hkw
 go_enter func186,ntmps186
 go_wp2_with (go_at_call 197;refine (Kc _ 1 I.out _).mono ?_;rintro e w' ⟨rfl,rfl⟩)
 go_loop [7] (fun i=>∃ k:Nat,a+1≤k∧k≤s.size∧i=.int .i64 k) (fun i=>s.size - (intOf i).toNat)
 case atStart=>exact ⟨a+1,Q9 _,ha,by go_num⟩
 obtain ⟨k,O,T,rfl⟩:=hrel
 by_cases hlt:k<s.size
 ·obtain ⟨v,N⟩:=eX (Ud (s[k]'hlt))
  have A:=G.out k hlt
  rw [N] at A
  have M:=Qq N;clear N
  rcases A with A | A | A
  ·have q0:((v:Int)==1)=true:=by simpa using (by omega:(v:Int)=1)
   clear A
   go_wp2_with (go_at_call 197;refine (Kc _ v M.out _).mono ?_;rintro e w' ⟨rfl,rfl⟩)
   go_round
   case rel=>exact ⟨k+1,Qqj,Qqj,by go_num⟩
   case measure=>simp [intOf];omega
  ·have q0:((v:Int)==1)=false:=by simpa using (by omega:¬ (v:Int)=1)
   have q1:((v:Int)==3)=true:=by simpa using (by omega:(v:Int)=3)
   clear A
   go_wp2_with (go_at_call 197;refine (Kc _ v M.out _).mono ?_;rintro e w' ⟨rfl,rfl⟩)
   go_round
   case rel=>exact ⟨k+1,Qqj,Qqj,by go_num⟩
   case measure=>simp [intOf];omega
  have q0:((v:Int)==1)=false:=by simpa using (by omega:¬ (v:Int)=1)
  have q1:((v:Int)==3)=false:=by simpa using (by omega:¬ (v:Int)=3)
  have q2:((v:Int)==4)=true:=by simpa using (by omega:(v:Int)=4)
  clear A
  go_wp2_with (go_at_call 197;refine (Kc _ v M.out _).mono ?_;rintro e w' ⟨rfl,rfl⟩)
  go_round
  case rel=>exact ⟨k+1,Qqj,Qqj,by go_num⟩
  case measure=>simp [intOf];omega
 obtain rfl:k=s.size:=Qqj
 go_wp2_with (go_at_call 198;refine (J.out _).mono ?_;rintro e w' ⟨rfl,hw⟩)
 go_ret2
 exact ⟨rfl,hw⟩
theorem A7 (s:ByteArray) (a:Nat) (w:World) (hs:s.size≤16) (ha:a<s.size) (hcl:Ud (s[a]'ha)=2) (hall:∀ (k:Nat) (h:k<s.size),1≤Ud (s[k]'h)∧Ud (s[k]'h)≤3):
  Calls prog 186 #[.string s,a] w fun e w'=>e=.returned (.tuple #[.int .i64 3,s.size])∧Below w w w':=by
 have D:=Qq hcl;clear hcl
 have A:=Qq hall;clear hall
 go_enter func186,ntmps186
 go_wp2_with (go_at_call 197;refine (Kc _ 2 D.out _).mono ?_;rintro e w' ⟨rfl,rfl⟩)
 go_loop [7] (fun i=>∃ k:Nat,a+1≤k∧k≤s.size∧i=.int .i64 k) (fun i=>s.size - (intOf i).toNat)
 case atStart=>exact ⟨a+1,Q9 _,ha,by go_num⟩
 obtain ⟨k,I,J,rfl⟩:=hrel
 by_cases hlt:k<s.size
 ·obtain ⟨v,G⟩:=eX (Ud (s[k]'hlt))
  have hc:=A.out k hlt
  rw [G] at hc
  have HV:=Qq G;clear G
  have q0:decide ((1:Int)≤(v:Int))=true:=by simp;omega
  have q1:decide ((v:Int)≤3)=true:=by simp;omega
  clear hc
  go_wp2_with (go_at_call 197;refine (Kc _ v HV.out _).mono ?_;rintro e w' ⟨rfl,rfl⟩)
  go_round
  case rel=>exact ⟨k+1,Qqj,Qqj,by go_num⟩
  case measure=>simp [intOf];omega
 obtain rfl:k=s.size:=Qqj
 go_wp2_with fail
 go_ret2
 exact ⟨rfl,Qz _ _⟩
def Hh (s:ByteArray) (K:Int):Prop:=∀ W,Calls prog 186 #[.string s,Qqd] W fun e w'=>e=.returned (.tuple #[K,s.size])∧Below W W w'
theorem C2 (x:Bs) (h:Va x):Hh ⟨x.toArray⟩ 2:=by
 intro W
 have A:=V0 x
 have I:0<(⟨x.toArray⟩:ByteArray).size:=by rw [A];exact h.pos
 have ha:∀ (k:Nat) (D:k<(⟨x.toArray⟩:ByteArray).size),Fy ((⟨x.toArray⟩:ByteArray)[k]'D)=true:=fun k D=>
  N5 (p:=Fy) (l:=x) (by rw [h.all,← A];exact D) (Ge x k D)
 have G:F5 ((⟨x.toArray⟩:ByteArray)[0]'I)=true:=h.head _ (Ge x 0 I)
 have:=Sn ⟨x.toArray⟩ 0 W (by rw [A];exact h.len) I (by rw [cls_lo] at G;simpa using G) (fun k D=>by have:=ha k D;rw [cls_wo] at this;simpa using this) (by rw [A,Bl,Be];exact h.kw)
 exact this
theorem rtok_cap (x:Bs) (h:B0 x):Hh ⟨x.toArray⟩ 3:=by
 intro W
 have A:=V0 x
 have I:0<(⟨x.toArray⟩:ByteArray).size:=by rw [A];exact h.pos
 have ha:∀ (k:Nat) (D:k<(⟨x.toArray⟩:ByteArray).size),Br ((⟨x.toArray⟩:ByteArray)[k]'D)=true:=fun k D=>
  N5 (p:=Br) (l:=x) (by rw [h.all,← A];exact D) (Ge x k D)
 have G:Hs ((⟨x.toArray⟩:ByteArray)[0]'I)=true:=h.head _ (Ge x 0 I)
 have:=A7 ⟨x.toArray⟩ 0 W (by rw [A];exact h.len) I (by rw [cls_up] at G;simpa using G) (fun k D=>by have:=ha k D;rw [cls_na] at this;simpa using this)
 exact this
theorem rnext_at (s:ByteArray) (K:Int) (hp:0<s.size) (h:Hh s K) (W:World):
  Calls prog 174 #[.string s,Qqd] W fun e w'=>e=.returned (.tuple #[K,s.size])∧Below W W w':=by
 have HG:=Qq h
 clear h
 have h1:(0:Int)<(s.size:Int):=Qqj
 go_enter func174,ntmps174
 go_wp2_with (go_at_call 186;refine (HG.out _).mono ?_;rintro e w' ⟨rfl,hw⟩)
 go_ret2
 exact ⟨rfl,hw⟩
theorem Wg (w:World) (xs:List Value) (t:TypeId):∀ j u,xs[j]?=some u→(w.alloc (.cells xs.toArray t)).cell? ((⟨w,0,none⟩:Addr).add j)=some u:=by
 intro j u h
 rw [show (⟨w,0,none⟩:Addr).add j=⟨w,j,none⟩ by unfold Addr.add;split <;> simp_all]
 rw [Qk _ w j _ _ _ (Qw w _)]
 simpa using h
theorem L3 {w w':World} {B:Nat} {e:TypeId} {sz n:Nat} {v:Value} {xs:List Value} (h:w.ownsRow B e sz v n xs) (hb:Below w w w'):w'.ownsRow B e sz v n xs:=Kf h hb
theorem Ra (s:ByteArray) (K:Int) (hp:0<s.size) (hl:s.size≤16) (h:Hh s K) (w:World):
  Calls prog 152 #[.string s] w fun e w'=>∃ g cap,e=.returned (.slice (some ⟨g,0,none⟩) 1 cap)∧Qqa w' g 0 K∧Below w w w':=by
 have HN:=Qq (fun W=>rnext_at s K hp h W)
 clear h
 obtain ⟨i0,hi,O,T,U⟩:=Y9 (P:=prog) (t:=136) (z:=.agg #[Qqd,Qqe,Qqd]) (n:=3) (b:=32) Qqy
 obtain ⟨H1,H2,H3,H4⟩:=Qqp hi O T U
 clear hi O T U
 go_enter func152,ntmps152
 go_wp2_with fail
 go_loopw [3,4,5,6] (fun o x _ _ wr=>∃ (a n:Nat) (pre:List Value),a≤s.size∧Aside ((a=0∧n=0∧pre=[])∨(a=s.size∧n=1∧pre=[.int .i64 K,.string s,.int .i64 0]))∧x=.int .i64 a∧wr.ownsRow w 136 3 o n pre∧Below w w wr) (fun _ x _ _ _=>s.size - (intOf x).toNat)
 case atStart=>exact ⟨0,0,[],Qqj,.inl ⟨rfl,rfl,rfl⟩,rfl,World.ownsRow_nil _ _ _ _,Qz _ _⟩
 obtain ⟨a,n,pre,ha,V,rfl,G,hB⟩:=hrel
 have Y:=Qq hB;have HO:=Qq G
 clear hB G
 by_cases hlt:a<s.size
 ·have Z:a=0∧n=0∧pre=[]:=by
   rcases V.out with h | h
   ·exact h
   exact absurd h.1 Qqj
  obtain ⟨rfl,rfl,rfl⟩:=Z
  clear V
  have h1:(0:Int)<(s.size:Int):=Qqj
  go_wp2_with fail
  refine (HN.out _).mono ?_
  rintro e w2 ⟨rfl,hw⟩
  have A:=L3 HO.out hw
  have N:=Y.out.trans (hw.mono Y.out.size)
  have D:=Qq N;have M:=Qq A
  clear hw A N
  go_wp2_with (at_builtin;refine wpList_append_own _ rfl _ _ 171 rfl w 136 i0 (.agg #[Qqd,Qqe,Qqd]) 3 32 underlying171 H1.out H2.out H3.out H4.out rfl Qqx _ _ _ rfl (M.out.alloc _) ⟨w2,0,none⟩ 1 1 [K,.string s,Qqd] rfl rfl (Wg _ _ _) (by simp [Value.oneCell']) (by unfold maxLen;omega) Qqj (by have:=D.out.size;simp;omega) ?_;intro v' w1 J I _)
  refine ⟨⟨s.size,1,[K,.string s,Qqd],Q9 _,.inr ⟨rfl,rfl,rfl⟩,rfl,by simpa using J,?_⟩,by simp [intOf];omega⟩
  exact (D.out.alloc D.out.size _).grown I (by have:=D.out.size;simp;omega) (fun j e=>(M.out.lt j e).1)
 have aA:n=1∧pre=[.int .i64 K,.string s,.int .i64 0]:=by
  rcases V.out with h | h
  ·exact absurd h.1 Qqj
  exact h.2
 obtain ⟨rfl,rfl⟩:=aA
 clear V
 go_wp2_with fail
 go_ret
 rcases HO.out.2 with ⟨_,hn⟩ | ⟨g,cap,aC,rfl,_,hg,_,_,_,ht⟩
 ·cases hn
 exact ⟨g,cap,rfl,E7 hg ht rfl,Y.out⟩
theorem Oq (s:ByteArray) (K at':Int) (hK:K=2∨K=3) (hp:0<s.size) (hl:s.size≤16) (h:Hh s K) (w:World):
  Calls prog 107 #[.agg #[K,.string s,at']] w fun e w'=>e=.returned (.bool true)∧Below w w w':=by
 have HS:=Qq (fun W=>Ra s K hp hl h W)
 clear h
 go_enter func107,ntmps107
 go_wp2_with fail
 have J:Below w w (w.alloc (.cells #[K,.string s,at'] 136)):=(Qz _ _).alloc (Q9 _) _
 have M:(w.alloc (.cells #[K,.string s,at'] 136)).cell? ⟨w,0,none⟩=some (.int .i64 K):=by rw [Qk _ w 0 _ _ _ (Qw w _)];rfl
 have c1:(w.alloc (.cells #[K,.string s,at'] 136)).cell? ⟨w,1,none⟩=some (.string s):=by rw [Qk _ w 1 _ _ _ (Qw w _)];rfl
 have D:=Qq J;clear J
 generalize hG:w.heap.size=G at M c1 ⊢
 generalize w.alloc (.cells #[K,.string s,at'] 136)=W1 at *
 refine (HS.out _).mono ?_
 rintro e w2 ⟨g,cap,rfl,e0,A⟩
 have d0:=kD A (Qv W1 _ M) M
 have d1:=kD A (Qv W1 _ c1) c1
 have I:=Qq (D.out.trans (A.mono D.out.size))
 clear A M c1 hG
 rcases hK with rfl | rfl
 all_goals
  go_wp2_with fail
  go_quiet (fail)
  go_wp2_with fail
  go_ret
  refine ⟨?_,I.out.trans ((Yq _ _).mono I.out.size)⟩
  show Ending.returned (.bool (decide ((s.size:Int)≤16)))=_
  rw [decide_eq_true Qqj]
theorem Ha (x:Bs) (h:Va x) (w:World):Calls prog 107 #[.agg #[.int .i64 2,sv x,Qqd]] w fun e w'=>e=.returned (.bool true)∧Below w w w':=
 Oq ⟨x.toArray⟩ 2 0 (.inl rfl) (by rw [V0];exact h.pos) (by rw [V0];exact h.len) (C2 x h) w
theorem Cn (x:Bs) (h:B0 x) (w:World):Calls prog 107 #[.agg #[.int .i64 3,sv x,Qqd]] w fun e w'=>e=.returned (.bool true)∧Below w w w':=
 Oq ⟨x.toArray⟩ 3 0 (.inr rfl) (by rw [V0];exact h.pos) (by rw [V0];exact h.len) (rtok_cap x h) w
def ifR (r0 r1 r2:Option Val):Option Val:=match r0 with
 | some v=>if v.kind=2 then (if (v.n==1)=true then r1 else r2) else none
 | none=>none
theorem ev_if (nm:Bs) (n:Int) (s:Bs) (names binds:List Bs) (x y t:Ex) (a z:Int) (env:List (Bs × Val)) (r0 r1 r2:Option Val) (hx:EvO x env r0) (hy:EvO y env r1) (ht:EvO t env r2):EvO (.mk 12 nm n s names binds [x,y,t] a z) env (ifR r0 r1 r2):=by
 obtain ⟨R,I⟩:=eX (ifR r0 r1 r2)
 rw [I]
 intro S0 S' cs p w bL aY aX aW
 have bG:=Qq aY
 clear aY
 have he:Xv (fun b=>S0 b∧b<w) w p env:=aW.move (.refl _ _) (fun b hb h=>⟨h,hb⟩)
 obtain ⟨nv,bv,kv,rfl,bR,bS,hn,hb,hk⟩:=Yx.1 aX
 obtain ⟨np,nc,rfl,_⟩:=hn.len
 obtain ⟨bp,bc,rfl,_⟩:=hb.len
 obtain ⟨kp,kc,rfl,bN⟩:=hk.len
 obtain ⟨q,rfl⟩:=he.ptr
 obtain ⟨HE,HK,bH,bE⟩:=Qqp he hk hn hb
 obtain ⟨kl,Y⟩:=eX ([x,y,t].length)
 rw [Y] at HK bN
 have aQ:=Qq Y
 clear aX he aW hn hb hk
 unfold sv
 rw [Y]
 clear Y
 go_enter func91,ntmps91
 go_upto_region 3 with fail
 generalize aB:((w.alloc _).alloc _).alloc _=U
 have Z:=eqB aB (Xm _ _ _ _)
 have h0:=eqH (b:=w.heap.size) aB (Zp _ _ _ _)
 have h1:=eqH (b:=w.heap.size+1) aB (Zo _ _ _ _)
 have h2:=eqH (b:=w.heap.size+1+1) aB (Zi _ _ _ _)
 have bT:w.heap.size+1+1<U.heap.size:=Z8 h2
 have c0:=rA0 h0;have c1:=rA1 h0;have c2:=rA2 h0;have c3:=rA3 h0;have c4:=rA4 h0;have c5:=rA5 h0;have c6:=rA6 h0
 obtain ⟨H0,H1,H2,aE⟩:=Qqp h0 h1 h2 Z
 have V:=Qq (fun (k:Nat) e9 r9 (hke:[x,y,t][k]?=some e9) (hev:EvO e9 env r9) W (hbw:Below U U W) (x9:Nat) (hxl:w≤x9) (hxW:x9<W)=>Kl w (w+1) k (fun b=>S0 b∧b≠w+1+1∧b≠x9) S' kp kc [x,y,t] e9 (.pointer q) env r9 W
  (by rw [aQ.out];exact (Qk _ _ 6 _ _ _ (kB hbw h0)).trans rfl) (by rw [aQ.out];exact (HK.out.below Z).below hbw) ((Qk _ _ 0 _ _ _ (kB hbw h1)).trans rfl) (fun b hb=>⟨bL b (Qqz Z.size hbw.size),by have:=hbw.size;omega,Qqj⟩) (bG.out.below (Z.thn hbw)) ((HE.out.move (.of_below Z) Qzx).move (.of_below hbw) (fun b _ h=>⟨h.1,by have:=h.2;omega,by have:=h.2;omega⟩)) hke hev)
 have M:Hid (∀ W,Below U U W→Calls prog 132 #[Qqd,Qqc w,Qqc (w+1)] W (Xy (fun b=>S0 b∧b≠w+1+1∧b≠w+1+1) W r0)):=Qq (fun W hW=>V.out 0 x r0 rfl hx W hW (w+1+1) Qqj (Qqq hW.size))
 have aO:Hid (∀ W,Below U U W→Calls prog 132 #[.int .i64 1,Qqc w,Qqc (w+1)] W (Xy (fun b=>S0 b∧b≠w+1+1∧b≠w+1+1) W r1)):=Qq (fun W hW=>V.out 1 y r1 rfl hy W hW (w+1+1) Qqj (Qqq hW.size))
 have aP:Hid (∀ W,Below U U W→Calls prog 132 #[.int .i64 2,Qqc w,Qqc (w+1)] W (Xy (fun b=>S0 b∧b≠w+1+1∧b≠w+1+1) W r2)):=Qq (fun W hW=>V.out 2 t r2 rfl ht W hW (w+1+1) Qqj (Qqq hW.size))
 clear h0 h1 h2 Z aB HE HK V hx hy ht c1 c2 c3 c4 c5 c6 bH bE
 cases r0 with
 | none=>
  obtain rfl:none=R:=I
  go_wp2_with (go_at_call 132;refine (M.out _ (Qz _ _)).mono ?_;rintro e w4 ⟨rfl,hb⟩)
  exact ⟨rfl,rfl,aE.out.thn hb⟩
 | some u=>
  by_cases hk:u.kind=2
  ·have HT:=Qq (fun cu W (T:Z9 (fun b=>S0 b∧b≠w+1+1∧b≠w+1+1) W cu u)=>Uf _ u cu W T hk)
   obtain ⟨b,aL⟩:=eX ((u.n==1))
   have J:ifR (some u) r1 r2=if b=true then r1 else r2:=by unfold ifR;dsimp only;rw [if_pos hk,aL]
   rw [J] at I
   simp only [aL] at HT
   clear J hk aL
   cases b
   ·obtain rfl:r2=R:=I
    go_wp2_with (first
     | (go_at_call 90;refine (HT.out _ _ HU.out).mono ?_;rintro e w5 ⟨rfl,hb⟩;have D:=Qq (G.out.thn hb);clear hb)
     | (go_at_call 132;refine (M.out _ (Qz _ _)).mono ?_;rintro e w4 ⟨cu,rfl,T,hb⟩;obtain ⟨a3,aT,a4,aU,A,_⟩:=Z9.cells T;simp only [vcs] at A;subst A;have HU:=Qq T;have G:=Qq ((Qz U U).thn hb);clear T hb;clear M))
    have aJ:=Qq (kB D.out H2.out)
    have aA:=Qq (aE.out.thn D.out)
    cases r2 with
    | none=>
     refine (aP.out _ D.out).mono ?_
     rintro e w8 ⟨rfl,aM⟩
     exact ⟨rfl,rfl,aA.out.thn aM⟩
    | some r=>
     refine (aP.out _ D.out).mono ?_
     rintro e w4 ⟨cr,rfl,O,N⟩
     obtain ⟨q3,l3,q4,l4,A,_⟩:=Z9.cells O
     simp only [vcs] at A
     subst A
     have I:=kB N aJ.out
     have aH:=Qq (aA.out.thn N)
     have aI:=Qq O
     have HR:=Qq I
     have fz:=fun j=>Qn _ _ j _ _ I
     obtain ⟨f0,f1,f2,f3,f4⟩:=Qzj fz
     have rr:=fun j=>Qk _ _ j _ _ _ I
     obtain ⟨r0,r1,r2,r3,r4⟩:=Qzj rr
     simp only [Qf,Qg,Qh] at r0 r1 r2 r3 r4
     clear fz rr O N I
     go_wp2_with fail
     show bodyPost _ _ _ _ _ (Qqm w4 (w+1+1) r q3 l3 q4 l4)
     refine Q7 (v:=.agg (Qqg r q3 l3 q4 l4)) (by simp [results,results91,go_sem,Zd HR.out]) rfl ⟨_,rfl,?_,Zc aH.out Qqj⟩
     exact Z9.move aI.out (fun b hb _=>Zf (by have:=hb.2.1;omega)) (fun _ _ h=>h.1)
   obtain rfl:r1=R:=I
   go_wp2_with (first
    | (go_at_call 90;refine (HT.out _ _ HU.out).mono ?_;rintro e w5 ⟨rfl,hb⟩;have D:=Qq (G.out.thn hb);clear hb)
    | (go_at_call 132;refine (M.out _ (Qz _ _)).mono ?_;rintro e w4 ⟨cu,rfl,T,hb⟩;obtain ⟨a3,aT,a4,aU,A,_⟩:=Z9.cells T;simp only [vcs] at A;subst A;have HU:=Qq T;have G:=Qq ((Qz U U).thn hb);clear T hb;clear M))
   have aJ:=Qq (kB D.out H2.out)
   have aA:=Qq (aE.out.thn D.out)
   cases r1 with
   | none=>
    refine (aO.out _ D.out).mono ?_
    rintro e w8 ⟨rfl,aM⟩
    exact ⟨rfl,rfl,aA.out.thn aM⟩
   | some r=>
    refine (aO.out _ D.out).mono ?_
    rintro e w4 ⟨cr,rfl,O,N⟩
    obtain ⟨q3,l3,q4,l4,A,_⟩:=Z9.cells O
    simp only [vcs] at A
    subst A
    have I:=kB N aJ.out
    have aH:=Qq (aA.out.thn N)
    have aI:=Qq O
    have HR:=Qq I
    have fz:=fun j=>Qn _ _ j _ _ I
    obtain ⟨f0,f1,f2,f3,f4⟩:=Qzj fz
    have rr:=fun j=>Qk _ _ j _ _ _ I
    obtain ⟨r0,r1,r2,r3,r4⟩:=Qzj rr
    simp only [Qf,Qg,Qh] at r0 r1 r2 r3 r4
    clear fz rr O N I
    go_wp2_with fail
    show bodyPost _ _ _ _ _ (Qqm w4 (w+1+1) r q3 l3 q4 l4)
    refine Q7 (v:=.agg (Qqg r q3 l3 q4 l4)) (by simp [results,results91,go_sem,Zd HR.out]) rfl ⟨_,rfl,?_,Zc aH.out Qqj⟩
    exact Z9.move aI.out (fun b hb _=>Zf (by have:=hb.2.1;omega)) (fun _ _ h=>h.1)
  have HT:=Qq (fun cu W (T:Z9 (fun b=>S0 b∧b≠w+1+1∧b≠w+1+1) W cu u)=>O1 _ u cu W T hk)
  have J:ifR (some u) r1 r2=none:=by unfold ifR;dsimp only;rw [if_neg hk]
  rw [J] at I
  obtain rfl:none=R:=I
  clear J hk
  go_wp2_with (first
   | (go_at_call 90;refine (HT.out _ _ HU.out).mono ?_;rintro e w5 ⟨rfl,hb⟩)
   | (go_at_call 132;refine (M.out _ (Qz _ _)).mono ?_;rintro e w4 ⟨cu,rfl,T,hb⟩;obtain ⟨a3,aT,a4,aU,A,_⟩:=Z9.cells T;simp only [vcs] at A;subst A;have HU:=Qq T;have G:=Qq ((Qz U U).thn hb);clear T hb;clear M))
  exact ⟨rfl,rfl,aE.out.thn (G.out.thn hb)⟩
end Go.Proofs.YtdpibdpbgokmoaaGreatDoor
