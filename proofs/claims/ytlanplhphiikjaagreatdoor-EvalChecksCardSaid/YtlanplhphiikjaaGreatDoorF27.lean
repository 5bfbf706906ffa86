import Derived.Test.YtlanplhphiikjaaGreatDoorF17
import Derived.Test.YtlanplhphiikjaaGreatDoorF26
set_option maxRecDepth 100000
set_option maxHeartbeats 400000000
namespace Go.Proofs.YtlanplhphiikjaaGreatDoor
open Go.RowKit Go.Shelf Go.Lib Tryz
theorem less_any (g:Nat) (lb:Array Value) (eg:∀ args w,(callFunc g args).run prog w=.ok (.enter g args) w) (S0:Nat->Prop) (u v:Val) (w:World) (hS0:∀ b,S0 b->b<w.heap.size)
  (h0:∀ W,Below w w W->Calls prog g (#[.int .i64 0]++lb) W (J5 S0 W u)) (h1:∀ W,Below w w W->Calls prog g (#[.int .i64 1]++lb) W (J5 S0 W v)):
  Calls prog 196 #[.string ⟨#[60]⟩,.func (.func g) #[] lb,.int .i64 2] w (J5 S0 w (Yb (decide (Zt u v<0)))):=by
 obtain ⟨H0,H1,HM,aO⟩:=Py h0 h1 Mm hS0
 have L:=Qq (fun cu cv W (hu:Z5 S0 W cu u) (hv:Z5 S0 W cv v)=>Jm S0 u v cu cv W hu hv)
 have M:=Qq (Ks (decide (Zt u v<0)) S0)
 obtain ⟨r,U⟩:=eX (Yb (decide (Zt u v<0)))
 rw [U] at M |-
 clear h0 h1 U hS0
 generalize Zt u v=c at L M
 go_enter func196,ntmps196
 go_wp2_with (go_at_call 191;refine (HM.out _).mono ?_;rintro e w' ⟨rfl,rfl⟩)
 refine (H0.out _ (Zb _ _)).mono ?_
 rintro e w1 ⟨cu,rfl,hu,N⟩
 obtain ⟨a3,m3,a4,m4,D,_⟩:=Z5.cells hu
 simp only [vcs] at D
 subst D
 obtain ⟨aB,aA,HU⟩:=Px ((N.block w Od).trans (Qw w _)) ((Zb w _).thn N) hu
 clear hu N
 go_wp2_with fail
 refine (H1.out _ aA.out).mono ?_
 rintro e w2 ⟨cv,rfl,hv,J⟩
 obtain ⟨b3,n3,b4,n4,D,_⟩:=Z5.cells hv
 simp only [vcs] at D
 subst D
 have aC:=Qq ((J.block w (Z3 aB.out)).trans aB.out);have aI:=Qq (aA.out.thn J)
 have aP:=Qq (Z5.move HU.out (.of_below J) P8);have aQ:=Qq hv
 clear hv J
 go_upto_region 10 with fail
 generalize I:(w2.alloc _).alloc _=w4
 have G:=eqB I (Zl _ _ _)
 have Y:=eqH (b:=w2.heap.size) I (Q0 _ _ _)
 have Z:=eqH (b:=w2.heap.size+1) I (Q1 _ _ _)
 have aD:=Qq ((G.block w (Z3 aC.out)).trans aC.out);have aJ:=Qq (aI.out.thn G)
 have aM:=Qq (fun W (hb:Below w4 w4 W)=>L.out _ _ W (Z5.move (Z5.move aP.out (.of_below G) P8) (.of_below hb) P8) (Z5.move (Z5.move aQ.out (.of_below G) P8) (.of_below hb) P8))
 have x0:=rA0 Y;have y0:=rA0 Z;have x1:=rA1 Y;have y1:=rA1 Z;have x2:=rA2 Y;have y2:=rA2 Z;have x3:=rA3 Y;have y3:=rA3 Z;have x4:=rA4 Y;have y4:=rA4 Z
 clear G Y Z I
 go_wp2_with fail
 refine (aM.out _ (Qz _ _)).mono ?_
 rintro e w5 ⟨rfl,aF⟩
 have O:=aF.bl
 have aE:=Qq ((O.block w (Z3 aD.out)).trans aD.out);have aK:=Qq (aJ.out.thn O)
 clear O aF
 go_wp2_with (go_at_call 192;refine (M.out _).mono ?_;rintro e w6 ⟨cr,rfl,V,T⟩;obtain ⟨q3,l3,q4,l4,D,_⟩:=Z5.cells V;simp only [vcs] at D;subst D;have aL:=Qq T;have aR:=Qq V;have U:=(T.block w (Z3 aE.out)).trans aE.out;have aN:=Qq U;obtain ⟨f0,f1,f2,f3,f4⟩:=frz5 U;obtain ⟨r0,r1,r2,r3,r4⟩:=row5 U;clear V T U)
 show bodyPost _ _ _ _ _ (Pk w6 w r q3 l3 q4 l4)
 refine Q2 (v:=.agg (Ou r q3 l3 q4 l4)) (by simp [results,results196,go_sem,Z8 aN.out]) rfl ⟨_,rfl,?_,Z7 (aK.out.thn aL.out) (Q4 _)⟩
 exact Z5.move aR.out (fun b hb _=>Za (by have:=aO.out b hb;omega)) P8
def con1 (rows:List Val):Ft:=if 256<rows.length then ⟨4,[],Val.zero,Val.zero⟩ else Ft.zero
theorem con1_any (S0 S1 S:Nat->Prop) (t:Tbl) (ct:List Value) (rv:Value) (rows:List Val) (w:World) (ht:Zg.R S0 w ct t) (hr:Sl Zc S1 w rv rows):
  Calls prog 59 #[ct,rv] w (Gq S w (con1 rows)):=by
 obtain ⟨O,N,V,U,aF,aE,k9,aG,n9,aH,aB,Y,J,aC,Z,L,aD,aA,M,a9,z9,G,_⟩:=Zr ht
 simp only [tcs] at G
 subst G
 obtain ⟨rp,rc,rfl,hl⟩:=hr.len
 unfold con1
 clear ht hr
 by_cases h:256<rows.length
 ·rw [if_pos h]
  have hi:(256:Int)<(rows.length:Int):=Oa
  clear h
  go_enter func59,ntmps59
  go_wp2_with fail
  generalize D:(w.alloc _).alloc _=W
  have hb:=eqB D (Zl _ _ _)
  have I:=eqH (b:=w.heap.size+1) D (Q1 _ _ _)
  refine Q2 (v:=.agg #[.int .i64 4,Oo,On,On,Oo,Ot,Ot,On,On,Oo,Ot,Ot]) (by simp [results,results59,go_sem,Qk _ _ _ _ _ _ I]) rfl ⟨_,rfl,?_,hb⟩
  exact ⟨_,_,rfl,Od,Yk _ _,Yk _ _⟩
 rw [if_neg h]
 have hi:¬ (256:Int)<(rows.length:Int):=Oa
 have T:decide ((256:Int)<(rows.length:Int))=false:=decide_eq_false hi
 clear h
 go_enter func59,ntmps59
 go_wp2_with fail
 generalize D:(w.alloc _).alloc _=W
 have hb:=eqB D (Zl _ _ _)
 have I:=eqH (b:=w.heap.size+1) D (Q1 _ _ _)
 refine Q2 (v:=.agg zF) (by simp [results,results59,go_sem,Qk _ _ _ _ _ _ I]) rfl ⟨[On,Oo,On,On,Oo,Ot,Ot,On,On,Oo,Ot,Ot],rfl,?_,hb⟩
 exact U1 _ _
def ExprIs (l:Nat) (r:Except Int (Val × Nat)) (w:World) (e:Ending) (w':World):Prop:=∃ cs,e=.returned (.tuple #[.agg cs.toArray,(Dv l r),(Kc r)])/\Z5 (fun b=>w<=b) w' cs (Uo r)/\Below w w w'
theorem Nn:∀ args w,(callFunc 105 args).run prog w=.ok (.enter 105 args) w:=enters_of func105 Og rfl
theorem Jz (S0 S1:Nat->Prop) (ms:ByteArray) (ev:Value) (cs:List Value) (e:Ex) (env:List (Bs × Val)) (l:Nat) (r:Except Int (Val × Nat)) (w:World) (hl:l<=1048576) (hx0:Yj S0 w cs e) (he0:Sl Zs S1 w ev env) (hev:No ev e env l r):
  Calls prog 54 #[Ot,Ot,.string ms,ev,cs,(l:Int)] w (ExprIs l r w):=by
 have bR:∀ (fn:Fn) (first cap:Array Value) (w:World),(Instr.makeFunc fn first cap).run prog w=.ok (.func fn first cap) w:=fun _ _ _ _=>rfl
 have hx:Yj (fun b=>b<w) w cs e:=hx0.move (.refl _ _) (fun b hb _=>hb)
 have he:Sl Zs (fun b=>b<w) w ev env:=he0.mono (fun b hb _=>hb)
 have HX:=Qq hx;have HE:=Qq he
 obtain ⟨li,bB⟩:∃ li:Int,(l:Int)=li:=⟨_,rfl⟩
 have HS:=Qq (M5 l hl)
 obtain ⟨ek,aY,en,aZ,aV,aS,aP,aW,aT,aQ,aX,aU,aR,ea,ez,rfl⟩:=Yj.cells hx
 obtain ⟨p,cap,rfl,_⟩:=he.len
 rw [bB] at HS |-
 clear hx he hx0 he0
 go_enter func54,ntmps54
 go_upto_region 1 with fail
 generalize G:(((w.alloc _).alloc _).alloc _).alloc _=w4
 have aD:Below w w w4:=by rw [<- G];exact abal (Yr w _ _ _) _
 have h0:w4.heap[w.heap.size]?=some (.cells #[.string ms] 9 (0,0)):=by rw [<- G];exact M8 (Ze _ _ _ _) _
 have h1:w4.heap[w.heap.size+1]?=some (.cells #[.slice p env.length cap] 112 (0,0)):=by rw [<- G];exact M8 (Zf _ _ _ _) _
 have h2:w4.heap[w.heap.size+1+1]?=some (.cells (Pq ek aY en aZ aV aS aP aW aT aQ aX aU aR ea ez) 59 (0,0)):=by rw [<- G];exact M8 (Z9 _ _ _ _) _
 have O:w4.heap[w.heap.size+1+1+1]?=some (.cells zV 48 (0,0)):=by rw [<- G];exact anew Od _
 obtain ⟨aI,H0,H1,H2,H3⟩:=Pw aD h0 h1 h2 O
 have bJ:=Z3 O
 clear aD h0 h1 h2 O G
 go_upto_region 2 with (go_at_call 103;refine (HS.out _).mono ?_;rintro e5 w5 ⟨g,m,rfl,aC,bN,bQ,aE⟩;have U:=Qq aC;have L:=Qq aE;clear aC aE)
 generalize V:World.alloc w5 _=w6
 have I:=eqB V (Zb _ _)
 have M:=eqH (b:=w5.heap.size) V (Qw _ _)
 have hk:∀ {b:Nat} {o:Obj},w4.heap[b]?=some o->w6.heap[b]?=some o:=fun h=>kE I (Q5 (Z3 h) L.out.size) (kB L.out h)
 have bP:=U.out.lt
 have bS:=L.out.size
 have D:Below w w w6:=aI.out.thn (L.out.thn I)
 have J:=Qq (erun_any 105 #[Om w5,Om w,Om (w+1),Om (w+1+1)] Nn g m l r w6 (U.out.below I)
  (fun W hb=>edo_any _ _ g m w5 w.heap.size (w+1) (w.heap.size+1+1) ms _ _ e env l r W (kB hb M) (kB hb (hk H0.out)) (kB hb (hk H1.out)) (kB hb (hk H2.out)) (HX.out.move (.of_below (D.thn hb)) P8) (HE.out.below (D.thn hb)) (fun b h=>Oa) (fun b h=>Oa) ((U.out.below I).below hb) hev))
 obtain ⟨T,aJ,bL⟩:=Px (hk H3.out) D M
 have a0:=rA0 M
 obtain ⟨ru,Z⟩:=eX (Dv l r)
 obtain ⟨re,Y⟩:=eX (Kc r)
 have bT:=I.size
 unfold Mn at J
 rw [Z,Y] at J
 have HU:=Qq Z;have aL:=Qq Y
 have bO:w.heap.size+1+1+1<g:=Oa
 clear hk I M V D Z Y
 go_wp2_with fail
 refine J.out.mono ?_
 rintro e7 w7 ⟨bM,rfl,N,aA⟩
 obtain ⟨v,hv⟩:=eX (Uo r)
 rw [hv] at N
 have aO:=Qq hv
 obtain ⟨q3,l3,q4,l4,aF,_⟩:=Z5.cells N
 simp only [vcs] at aF
 subst aF
 have O:=(aA.keep _ (Z3 T.out) (by show w+1+1+1≠g;omega)).trans T.out
 obtain ⟨aK,aN,aM⟩:=Px O N aA
 obtain ⟨r0,r1,r2,r3,r4⟩:=row5 O
 obtain ⟨f0,f1,f2,f3,f4⟩:=frz5 O
 have bK:=Z3 T.out
 clear O N aA hv
 go_wp2_with fail
 show bodyPost _ _ _ _ _ (Pk w7 (w+1+1+1) v q3 l3 q4 l4)
 refine Q2 (v:=.tuple #[.agg (Ou v q3 l3 q4 l4),ru,re]) (by simp [results,results54,go_sem,Z8 aK.out]) rfl ⟨Ou v q3 l3 q4 l4,by rw [HU.out,aL.out],?_,Z7 (aJ.out.trans (aM.out.below.mono Oa)) Oa⟩
 rw [aO.out]
 exact aN.out.move (fun b hb _=>Za (by have:=hb.2;omega)) (fun b _ h=>by have:=h.2;omega)
def Xw (g:Nat) (w:World) (l:Nat) (c:Int):Prop:=
 w.heap[g]?=some (.cells #[Ot,Ot,(l:Int),On,c] 166 (0,0))/\l<=1048576
theorem Xw.lt {g:Nat} {w:World} {l:Nat} {c:Int} (h:Xw g w l c):g<w.heap.size:=Z3 h.1
theorem Xw.below {g:Nat} {w w':World} {l:Nat} {c:Int} (h:Xw g w l c) (hb:Below w w w'):Xw g w' l c:=⟨(hb.block g h.lt).trans h.1,h.2⟩
abbrev Pn:Value:=.agg zV
def Ed (S:Nat->Prop) (g:Nat) (w:World):Except Int (Val × Nat)->Ending->World->Prop
 | .ok (v,l)=>fun e w'=>∃ cs,e=.returned (.agg cs.toArray)/\Z5 (fun b=>b≠g/\(S b\/w.heap.size<=b)) w' cs v/\Xw g w' l 0/\Z6 (fun b=>b=g) g w w'
 | .error c=>fun e w'=>e=.returned (.agg zV)/\(∃ k,Xw g w' k c)/\c≠0/\Z6 (fun b=>b=g) g w w'
theorem Jl {S S':Nat->Prop} {g R l:Nat} {w wc w1:World} {v:Val} {p3 p4:Option Addr} {k3 k4:Nat} (hR:w<=R) (hRc:R<wc) (hwc:Z6 (fun b=>b=g) g w wc) (hS:∀ b,S' b->S b/\b<w.heap.size)
  (hv:Z5 (fun b=>b≠g/\(S' b\/wc.heap.size<=b)) w1 (vcs v p3 k3 p4 k4) v) (hM:Xw g w1 l 0) (hs:Z6 (fun b=>b=g) g wc w1) (hg:g<w):
  Z5 (fun b=>b≠g/\(S b\/w.heap.size<=b)) (Pk w1 R v p3 k3 p4 k4) (vcs v p3 k3 p4 k4) v /\
   Xw g (Pk w1 R v p3 k3 p4 k4) l 0 /\
   Z6 (fun b=>b=g) g w (Pk w1 R v p3 k3 p4 k4):=by
 have D:=hwc.size
 refine ⟨hv.move (fun b hb _=>Za ?_) (fun b _ h=>⟨h.1,?_⟩),⟨(Za Oa).trans hM.1,hM.2⟩,?_⟩
 ·rintro rfl
  rcases hb.2 with h | h
  ·have:=(hS _ h).2;omega
  omega
 ·rcases h.2 with h | h
  ·exact .inl (hS _ h).1
  exact .inr Oa
 have h1:Z6 (fun b=>b=g) g w w1:=hwc.trans hs
 refine ⟨Z7 h1.below Oa,fun b hb hn=>(Za Oa).trans (h1.keep b hb hn)⟩
theorem Kx {g R k:Nat} {c:Int} {w w1:World} {a0 a1 a2 a3 a4:Value} (hR:w<=R) (hM:Xw g w1 k c) (h1:Z6 (fun b=>b=g) g w w1) (hg:g<w):
  Xw g (Zn w1 R a0 a1 a2 a3 a4) k c/\Z6 (fun b=>b=g) g w (Zn w1 R a0 a1 a2 a3 a4):=
 ⟨⟨(Za Oa).trans hM.1,hM.2⟩,Z7 h1.below Oa,fun b hb hn=>(Za Oa).trans (h1.keep b hb hn)⟩
theorem Lp (g l:Nat) (c:Int) (w:World) (hc:c≠0) (h:Xw g w l 0):
  Calls prog 220 #[Om g,c] w (Ed (fun _=>False) g w (.error c)):=by
 obtain ⟨G,h2⟩:=h
 have J:=Z3 G
 have D:=kE (Zb w (.cells zV 48)) J G
 have c4:=Qk _ _ 4 _ _ _ D;have f4:=fA 4 D
 simp only [Qa,Qb,Qc] at c4
 have H1:=Qq G;have HC:=Qq hc
 have L:w.heap.size≠g:=Oa
 clear G D hc
 go_enter func220,ntmps220
 go_wp2_with fail
 generalize I:World.alloc _ _=W
 have hG:W.heap[g]?=some (.cells #[Ot,Ot,(l:Int),On,c] 166 (0,0)):=by rw [<- I];exact M8 (Qd _ _ 4 _ _ _ H1.out) _
 have hR:W.heap[w.heap.size]?=some (.cells zV 48 (0,0)):=by rw [<- I];exact anew (by simp [World.setCell]) _
 have hs:Z6 (fun b=>b=g) g w W:=by
  have h:=(Z6.refl (fun b=>b=g) g w).set g 4 (.int .i64 c) (.inl rfl) (Q4 _)
  rw [<- I]
  exact h.trans (Z6.of_below (Zb _ _) (Ob h.size))
 exact Q2 (v:=Pn) (by simp [results,results220,go_sem,Qk _ _ _ _ _ _ hR]) rfl ⟨rfl,⟨l,hG,h2⟩,HC.out,hs⟩
theorem K9 (g l:Nat) (w:World) (h:Xw g w l 0):Calls prog 166 #[Om g,.bool true] w fun e w'=>e=.returned (.bool true)/\w=w':=by
 have c4:=rA4 h.1
 clear h
 go_enter func166,ntmps166
 go_wp2_with fail
 go_ret
 exact ⟨rfl,rfl⟩
theorem G8 (g l:Nat) (w:World) (h:Xw g w (l+1) 0):Calls prog 163 #[Om g] w fun e w'=>e=.returned (.bool true)/\Xw g w' l 0/\Z6 (fun b=>b=g) g w w':=by
 obtain ⟨G,h2⟩:=h
 have c2:=Qk _ _ 2 _ _ _ G;have c4:=Qk _ _ 4 _ _ _ G;have f2:=fA 2 G
 simp only [Qa,Qb,Qc] at c2 c4
 obtain ⟨n,D⟩:∃ n:Int,((l+1:Nat):Int)=n:=⟨_,rfl⟩
 have hl:(l:Int)=n - 1:=Oa
 have hp:0<n:=Oa
 have hq:n<=1048576:=Oa
 have hd:decide (n<=0)=false:=by simpa using hp
 obtain ⟨H1,HL,I⟩:=Px G hl D
 rw [D] at c2
 clear G hl D
 go_enter func163,ntmps163
 go_wp2_with fail
 go_ret
 refine ⟨rfl,⟨?_,Oa⟩,(Z6.refl _ _ _).set g 2 _ (.inl rfl) (Q4 _)⟩
 rw [Qd _ _ _ _ _ _ H1.out,HL.out]
 rfl
theorem Vo (b:Bool) (S:Nat->Prop) (w:World):Calls prog 50 #[.bool b] w (J5 S w (Yb b)):=by
 cases b
 ·go_enter func50,ntmps50
  go_wp2_with fail
  generalize D:w.alloc _=W
  have hb:=eqB D (Zb _ _)
  have G:=eqH (b:=w.heap.size) D (Qw _ _)
  refine Q2 (v:=.agg #[.int .i64 2,On,Oo,Ot,Ot]) (by simp [results,results50,go_sem,Qk _ _ _ _ _ _ G]) rfl ⟨_,rfl,Xn _ _ false,hb⟩
 go_enter func50,ntmps50
 go_wp2_with fail
 generalize D:w.alloc _=W
 have hb:=eqB D (Zb _ _)
 have G:=eqH (b:=w.heap.size) D (Qw _ _)
 refine Q2 (v:=.agg #[.int .i64 2,.int .i64 1,Oo,Ot,Ot]) (by simp [results,results50,go_sem,Qk _ _ _ _ _ _ G]) rfl ⟨_,rfl,Xn _ _ true,hb⟩
theorem Ga (n:Int) (S:Nat->Prop) (w:World):Calls prog 51 #[n] w (J5 S w (Yx n)):=by
 go_enter func51,ntmps51
 go_wp2_with fail
 generalize hW:w.alloc _=W
 have hb:=eqB hW (Zb _ _)
 have hR:=eqH (b:=w.heap.size) hW (Qw _ _)
 exact Q2 (v:=.agg #[On,n,Oo,Ot,Ot]) (by simp [results,results51,go_sem,Qk _ _ _ _ _ _ hR]) rfl ⟨_,rfl,Zu (s:=[]) Od (Sl.nil _ _ _) (Sl.nil _ _ _),hb⟩
theorem L9 (nm:ByteArray) (w:World):Calls prog 270 #[Ot,.string nm] w fun e w'=>e=.returned (.bool false)/\w=w':=by
 go_enter func270,ntmps270
 go_wp2_with fail
 go_loop [5] (fun i=>i=.int .i64 0) (fun _=>0)
 case atStart=>rfl
 obtain rfl:=hrel
 go_wp2_with fail
 go_ret
 exact ⟨rfl,rfl⟩
theorem Hr (S S':Nat->Prop) (u v:Val) (cu cv:List Value) (w:World) (hu:Z5 S w cu u) (hv:Z5 S' w cv v):
  Calls prog 228 #[.string ⟨#[60]⟩,cu,cv] w fun e w'=>∃ cs,e=.returned (.tuple #[.agg cs.toArray,.bool true])/\Z5 (fun _=>False) w' cs (Yb (decide (Zt u v<0)))/\Below w w w':=by
 have HC:=Qq (fun W (hb:Below w w W)=>Fb _ _ u v cu cv W (hu.move (.of_below hb) P8) (hv.move (.of_below hb) P8))
 obtain ⟨c,hc⟩:=eX (Zt u v)
 obtain ⟨r,hr⟩:=eX (Yb (decide (c<0)))
 have HT:=Qq (Vo (decide (c<0)) (fun _=>False))
 rw [hc] at HC |-
 rw [hr] at HT |-
 obtain ⟨a3,m3,a4,m4,D,_⟩:=Z5.cells hu
 simp only [vcs] at D
 subst D
 obtain ⟨b3,n3,b4,n4,D,_⟩:=Z5.cells hv
 simp only [vcs] at D
 subst D
 clear hu hv hc hr
 go_enter func228,ntmps228
 go_upto_region 1 with fail
 generalize G:((w.alloc _).alloc _).alloc _=w3
 have O:=eqB G (Yr _ _ _ _)
 have h0:=eqH (b:=w.heap.size) G (Ze _ _ _ _)
 have h1:=eqH (b:=w.heap.size+1) G (Zf _ _ _ _)
 have h2:=eqH (b:=w.heap.size+1+1) G (Z9 _ _ _ _)
 have HB:=Qq O;have H2:=Qq h2
 obtain ⟨x0,x1,x2,x3,x4⟩:=row5 h0
 obtain ⟨y0,y1,y2,y3,y4⟩:=row5 h1
 clear O h0 h1 h2 G
 go_upto_region 2 with (go_at_call 74;refine (HC.out _ HB.out).mono ?_;rintro e w4 ⟨rfl,T⟩;have N:=Qq T.bl;clear T)
 have M:=Qq (HB.out.thn N.out)
 have V:=Qq (kB N.out H2.out)
 clear x0 x1 x2 x3 x4 y0 y1 y2 y3 y4
 go_wp2_with (go_at_call 50;refine (HT.out _).mono ?_;rintro e w5 ⟨aA,rfl,L,J⟩;obtain ⟨q3,l3,q4,l4,D,_⟩:=Z5.cells L;simp only [vcs] at D;subst D;have I:=kB J V.out;obtain ⟨Y,Z,U⟩:=Px I L J;obtain ⟨f0,f1,f2,f3,f4⟩:=frz5 I;obtain ⟨r0,r1,r2,r3,r4⟩:=row5 I;clear I L J)
 show bodyPost _ _ _ _ _ (Pk w5 (w+1+1) r q3 l3 q4 l4)
 exact Q2 (v:=.tuple #[.agg (Ou r q3 l3 q4 l4),.bool true]) (by simp [results,results228,go_sem,Z8 Y.out]) rfl ⟨_,rfl,Z.out.move (fun b hb _=>hb.elim) P8,Z7 (M.out.thn U.out) Oa⟩
theorem O0 (S0:Nat->Prop) (g:Nat) (ev:Value) (nm:Bs) (env:List (Bs × Val)) (l:Nat) (w:World) (he0:Sl Zs S0 w ev env) (hS0:∀ b,S0 b->b≠g) (hM:Xw g w l 0):
  Calls prog 229 #[Om g,ev,nm] w (Ed S0 g w (Kq nm env l)):=by
 have he:=he0.up
 have HD:=Qq (L9 ⟨nm.toArray⟩)
 have HF:=Qq (fun W (hb:Below w w W)=>Lp g l 9 W Oa (hM.below hb))
 obtain ⟨p,cap,rfl,hl⟩:=he.len
 have aI:=hM.lt
 obtain ⟨o,ho⟩:=eX (Xq nm env.reverse)
 unfold Kq
 rw [ho]
 obtain ⟨HE,HM,HO,HS⟩:=Py he hM ho hS0
 obtain ⟨n,hn⟩:=eX (env.length)
 rw [hn] at HE hl |-
 have N:=Qq hn
 clear he he0 hM ho hS0 hn
 go_enter func229,ntmps229
 go_upto_region 1 with fail
 generalize I:w.alloc _=w2
 have G:=eqB I (Zb _ _)
 have h1:=eqH (b:=w.heap.size) I (Qw _ _)
 obtain ⟨M,HB,aC,aD⟩:=Py h1 G (HE.out.below G) (HM.out.below G)
 clear h1 G I HE
 go_wp2_with fail
 go_loop [7] (fun i=>∃ k:Nat,k<=n/\i=.int .i64 ((k:Int) - 1)/\Aside (Xq nm (env.take k).reverse=o)) (fun i=>(intOf i+1).toNat)
 case atStart=>exact ⟨n,Q4 _,by go_num,by rw [show env.take n=env from by rw [<- N.out];exact List.take_length];exact HO.out⟩
 obtain ⟨k,hk,rfl,A⟩:=hrel
 cases k with
 | zero=>
  have J:o=none:=by rw [<- A.out];rfl
  subst J
  have c0:=rA0 aD.out.1
  rw [show (((0:Nat):Int) - 1)=-1 from rfl]
  go_wp2_with (first | (go_at_call 270;refine (HD.out _).mono ?_;rintro e w' ⟨rfl,rfl⟩) | (go_at_call 220;refine (HF.out _ HB.out).mono ?_;rintro e w3 ⟨rfl,⟨kf,T⟩,aQ,L⟩;have aE:=Qq T;have aG:=Qq L;have D:=(L.keep _ (Z3 M.out) (by show w≠g;omega)).trans M.out;have aF:=Qq D;obtain ⟨f0,f1,f2,f3,f4⟩:=frz5 D;obtain ⟨r0,r1,r2,r3,r4⟩:=row5 D;clear D T L))
  show bodyPost _ _ _ _ _ (Zn w3 w On On Oo Ot Ot)
  obtain ⟨hm,hs⟩:=Kx (R:=w.heap.size) (a0:=.int .i64 0) (a1:=.int .i64 0) (a2:=.string ⟨#[]⟩) (a3:=.slice none 0 0) (a4:=.slice none 0 0) (Q4 _) aE.out ((Z6.of_below HB.out Oa).trans aG.out) aI
  exact Q2 (v:=Pn) (by simp [results,results229,go_sem,Z8 aF.out]) rfl ⟨rfl,⟨kf,hm⟩,Oa,hs⟩
 | succ j=>
  rw [show (((j+1:Nat):Int) - 1)=(j:Int) from by omega]
  have aR:(0:Int)<=(j:Int):=Oa
  have aS:(j:Int)<(n:Int):=Oa
  obtain ⟨x,Y⟩:∃ x,env[j]?=some x:=⟨_,Qx (by rw [N.out];omega)⟩
  obtain ⟨b,aT,p3,k3,p4,k4,rfl,hb,hv,x0,x1,x2,x3,x4,x5⟩:=aC.out.bnd Y
  have V:Xq nm (x::(env.take j).reverse)=o:=by
   have:=A.out
   rw [List.take_add_one,Y,List.reverse_append] at this
   exact this
  have HV:=Qq hv
  by_cases hxn:x.1=nm
  ·have J:o=some x.2:=by
    have h:(if x.1=nm then some x.2 else Xq nm (env.take j).reverse)=o:=V
    rw [if_pos hxn] at h;exact h.symm
   subst J
   have hq:(x.1==nm)=true:=by simpa using hxn
   have fz:=fun j=>Qg _ _ j _ _ M.out
   obtain ⟨f0,f1,f2,f3,f4⟩:=P3 fz
   have rr:=fun j=>Qk _ _ j _ _ _ M.out
   obtain ⟨r0,r1,r2,r3,r4⟩:=P3 rr
   simp only [Qa,Qb,Qc] at r0 r1 r2 r3 r4
   clear V Y hv hxn fz rr
   go_wp2_with fail
   show bodyPost _ _ _ _ _ (Zn w2 w (.int .i64 x.2.kind) (.int .i64 x.2.n) (.string ⟨x.2.s.toArray⟩) (.slice p3 x.2.names.length k3) (.slice p4 x.2.kids.length k4))
   have U:Below w w (Zn w2 w (.int .i64 x.2.kind) (.int .i64 x.2.n) (.string ⟨x.2.s.toArray⟩) (.slice p3 x.2.names.length k3) (.slice p4 x.2.kids.length k4)):=Z7 HB.out (Q4 _)
   refine Q2 (v:=.agg #[.int .i64 x.2.kind,.int .i64 x.2.n,.string ⟨x.2.s.toArray⟩,.slice p3 x.2.names.length k3,.slice p4 x.2.kids.length k4]) (by simp [results,results229,go_sem,Z8 M.out]) rfl ⟨_,rfl,?_,HM.out.below U,Z6.of_below U Oa⟩
   exact Z5.move HV.out (fun b hb _=>Za (by have:=hb.2;omega)) (fun b _ h=>⟨HS.out b h.1,.inl h.1⟩)
  have O:Xq nm (env.take j).reverse=o:=by
   have h:(if x.1=nm then some x.2 else Xq nm (env.take j).reverse)=o:=V
   rw [if_neg hxn] at h;exact h
  have hq:(x.1==nm)=false:=by simpa using hxn
  have Z:=Qq O
  clear V O Y hv hxn
  go_wp2_with fail
  go_round
  case measure=>simp [intOf]
  case rel=>exact ⟨j,Oa,rfl,Z.out⟩
def Ma (e:Ex) (env:List (Bs × Val)) (l:Nat) (r:Except Int (Val × Nat)):Prop:=∀ (S0 S1:Nat->Prop) (g:Nat) (ms:ByteArray) (ev:Value) (cs:List Value) (w:World),Yj S0 w cs e->Sl Zs S1 w ev env->(∀ b,S0 b->b≠g)->(∀ b,S1 b->b≠g)->Xw g w l 0 ->
 Calls prog 171 #[Om g,.string ms,ev,cs] w (Ed S1 g w r)
def ROpO (e:Ex) (env:List (Bs × Val)) (l:Nat) (r:Except Int (Val × Nat)):Prop:=∀ (S0 S1:Nat->Prop) (g:Nat) (ms:ByteArray) (ev:Value) (cs:List Value) (w:World),Yj S0 w cs e->Sl Zs S1 w ev env->(∀ b,S0 b->b≠g)->(∀ b,S1 b->b≠g)->Xw g w l 0 ->
 Calls prog 170 #[Om g,.string ms,ev,cs] w (Ed S1 g w r)
def Un (e:Ex) (env:List (Bs × Val)) (l:Nat) (r:Except Int (Val × Nat)):Prop:=∀ (S0 S1:Nat->Prop) (g:Nat) (ms:ByteArray) (ev:Value) (cs:List Value) (w:World),Yj S0 w cs e->Sl Zs S1 w ev env->(∀ b,S0 b->b≠g)->(∀ b,S1 b->b≠g)->Xw g w l 0 ->
 Calls prog 109 #[Om g,.string ms,ev,cs] w (Ed S1 g w r)
theorem revNew {S:Nat->Prop} {g l:Nat} {w W:World} {v:Val} {cs:List Value} (hb:Below w w W) (hM:Xw g w l 0) (hv:Z5 (fun _=>False) W cs v):
  Z5 (fun b=>b≠g/\(S b\/w<=b)) W cs v/\Xw g W l 0/\Z6 (fun b=>b=g) g w W:=
 ⟨hv.move (.refl _ _) (fun _ _ h=>h.elim),hM.below hb,Z6.of_below hb (Nat.le_of_lt hM.lt)⟩
theorem rsim_int (nm:Bs) (n:Int) (s:Bs) (names binds:List Bs) (kids:List Ex) (a z:Int) (env:List (Bs × Val)) (l:Nat):Ma (.mk 0 nm n s names binds kids a z) env l (.ok (Yx n,l)):=by
 have HI:=Qq (Ga n (fun _=>False))
 obtain ⟨v,hv⟩:=eX (Yx n)
 rw [hv] at HI |-
 clear hv
 intro S0 S1 g ms ev cs w hx he aA aB hM
 obtain ⟨nv,bv,kv,rfl,_,_,T,M,O⟩:=Yz.1 hx
 obtain ⟨np,nc,rfl,_⟩:=T.len
 obtain ⟨bp,bc,rfl,_⟩:=M.len
 obtain ⟨kp,kc,rfl,_⟩:=O.len
 obtain ⟨p,cap,rfl,hl⟩:=he.len
 have HM:=Qq hM
 clear hx he aA aB hM T M O
 unfold sv
 go_enter func171,ntmps171
 go_upto_region 1 with fail
 generalize D:(w.alloc _).alloc _=w2
 have L:=eqB D (Zl _ _ _)
 have U:=eqH (b:=w.heap.size) D (Q0 _ _ _)
 have G:=eqH (b:=w.heap.size+1) D (Q1 _ _ _)
 have c0:=rA0 U;have c1:=rA1 U;have c2:=rA2 U
 have H2:=Qq G;have HB:=Qq L
 clear U G L D
 go_wp2_with (go_at_call 51;refine (HI.out _).mono ?_;rintro e w4 ⟨aC,rfl,J,I⟩;obtain ⟨q3,l3,q4,l4,N,_⟩:=Z5.cells J;simp only [vcs] at N;subst N;have G:=kB I H2.out;obtain ⟨V,Y,Z⟩:=Px G (HB.out.thn I) J;clear I J;obtain ⟨r0,r1,r2,r3,r4⟩:=row5 G;obtain ⟨f0,f1,f2,f3,f4⟩:=frz5 G;clear G)
 show bodyPost _ _ _ _ _ (Pk w4 (w+1) v q3 l3 q4 l4)
 refine Q2 (v:=.agg (Ou v q3 l3 q4 l4)) (by simp [results,results171,go_sem,Z8 V.out]) rfl ⟨_,rfl,revNew (Z7 Y.out Oa) HM.out ?_⟩
 exact Z.out.move (fun b hb _=>hb.elim) P8
theorem rsim_yes (nm s:Bs) (names binds:List Bs) (kids:List Ex) (a z:Int) (env:List (Bs × Val)) (l:Nat):Ma (.mk 2 nm 1 s names binds kids a z) env l (.ok (Yb true,l)):=by
 have HT:=Qq (Vo true (fun _=>False))
 obtain ⟨n,hn⟩:∃ n:Int,n=1:=⟨_,rfl⟩
 obtain ⟨v,hv⟩:=eX (Yb true)
 rw [hv] at HT |-
 rw [<- hn]
 clear hv
 intro S0 S1 g ms ev cs w hx he aB aC hM
 obtain ⟨nv,bv,kv,rfl,_,_,T,M,O⟩:=Yz.1 hx
 obtain ⟨np,nc,rfl,_⟩:=T.len
 obtain ⟨bp,bc,rfl,_⟩:=M.len
 obtain ⟨kp,kc,rfl,_⟩:=O.len
 obtain ⟨p,cap,rfl,hl⟩:=he.len
 have HM:=Qq hM
 have HN:=Qq (fun W (hb:Below w w W)=>K9 g l W (hM.below hb))
 subst hn
 clear hx he aB aC hM T M O
 unfold sv
 go_enter func171,ntmps171
 go_upto_region 1 with fail
 generalize D:(w.alloc _).alloc _=w2
 have L:=eqB D (Zl _ _ _)
 have U:=eqH (b:=w.heap.size) D (Q0 _ _ _)
 have G:=eqH (b:=w.heap.size+1) D (Q1 _ _ _)
 have c0:=rA0 U;have c1:=rA1 U;have c2:=rA2 U
 have H2:=Qq G;have HB:=Qq L
 clear U G L D
 go_wp2_with (first | (go_at_call 166;refine (HN.out _ HB.out).mono ?_;rintro e w' ⟨rfl,rfl⟩) | (go_at_call 50;refine (HT.out _).mono ?_;rintro e w4 ⟨aD,rfl,J,I⟩;obtain ⟨q3,l3,q4,l4,N,_⟩:=Z5.cells J;simp only [vcs] at N;subst N;have G:=kB I H2.out;obtain ⟨V,Y,Z⟩:=Px G (HB.out.thn I) J;clear I J;obtain ⟨r0,r1,r2,r3,r4⟩:=row5 G;obtain ⟨f0,f1,f2,f3,f4⟩:=frz5 G;clear G))
 show bodyPost _ _ _ _ _ (Pk w4 (w+1) v q3 l3 q4 l4)
 refine Q2 (v:=.agg (Ou v q3 l3 q4 l4)) (by simp [results,results171,go_sem,Z8 V.out]) rfl ⟨_,rfl,revNew (Z7 Y.out Oa) HM.out ?_⟩
 exact Z.out.move (fun b hb _=>hb.elim) P8
theorem rsim_var (nm:Bs) (n:Int) (s:Bs) (names binds:List Bs) (kids:List Ex) (a z:Int) (env:List (Bs × Val)) (l:Nat):Ma (.mk 3 nm n s names binds kids a z) env l (Kq nm env l):=by
 intro S0 S1 g ms ev cs w hx he aI V hM
 obtain ⟨nv,bv,kv,rfl,_,_,aD,Y,aC⟩:=Yz.1 hx
 obtain ⟨np,nc,rfl,_⟩:=aD.len
 obtain ⟨bp,bc,rfl,_⟩:=Y.len
 obtain ⟨kp,kc,rfl,_⟩:=aC.len
 obtain ⟨p,cap,rfl,hl⟩:=he.len
 have aA:=he.up
 have HV:=Qq (fun W (hb:Below w w W)=>O0 _ g _ nm env l W (aA.below hb) (fun b h=>V b h.1) (hM.below hb))
 have aB:=hM.lt
 obtain ⟨r,hr⟩:=eX (Kq nm env l)
 rw [hr] at HV |-
 clear hx he aA aI V hM aD Y aC hr
 unfold sv
 go_enter func171,ntmps171
 go_upto_region 1 with fail
 generalize L:(w.alloc _).alloc _=w2
 have T:=eqB L (Zl _ _ _)
 have h1:=eqH (b:=w.heap.size) L (Q0 _ _ _)
 have G:=eqH (b:=w.heap.size+1) L (Q1 _ _ _)
 have c0:=rA0 h1;have c1:=rA1 h1;have c2:=rA2 h1
 have H2:=Qq G;have HB:=Qq T
 have I:=Z3 G
 have HW:=Qq (Z6.of_below (B:=g) T Oa:Z6 (fun b=>b=g) g w w2)
 clear h1 G T L
 cases r with
 | error c=>
  go_wp2_with fail
  refine (HV.out _ HB.out).mono ?_
  rintro e w5 ⟨rfl,⟨kf,J⟩,aJ,D⟩
  have G:=(D.keep _ I (by show w+1≠g;omega)).trans H2.out
  obtain ⟨N,M,O⟩:=Px G J D
  obtain ⟨r0,r1,r2,r3,r4⟩:=row5 G
  obtain ⟨f0,f1,f2,f3,f4⟩:=frz5 G
  clear J D G
  go_wp2_with fail
  show bodyPost _ _ _ _ _ (Zn w5 (w+1) On On Oo Ot Ot)
  obtain ⟨hm,hs⟩:=Kx (R:=w.heap.size+1) (a0:=.int .i64 0) (a1:=.int .i64 0) (a2:=.string ⟨#[]⟩) (a3:=.slice none 0 0) (a4:=.slice none 0 0) Oa M.out (HW.out.trans O.out) aB
  exact Q2 (v:=Pn) (by simp [results,results171,go_sem,Z8 N.out]) rfl ⟨rfl,⟨kf,hm⟩,aJ,hs⟩
 | ok o=>
  obtain ⟨v,k⟩:=o
  go_wp2_with fail
  refine (HV.out _ HB.out).mono ?_
  rintro e w5 ⟨aM,rfl,U,J,D⟩
  obtain ⟨q3,l3,q4,l4,Z,_⟩:=Z5.cells U
  simp only [vcs] at Z
  subst Z
  have G:=(D.keep _ I (by show w+1≠g;omega)).trans H2.out
  obtain ⟨N,aG,M,O⟩:=Py G U J D
  obtain ⟨r0,r1,r2,r3,r4⟩:=row5 G
  obtain ⟨f0,f1,f2,f3,f4⟩:=frz5 G
  clear U J D G
  go_wp2_with fail
  show bodyPost _ _ _ _ _ (Pk w5 (w+1) v q3 l3 q4 l4)
  exact Q2 (v:=.agg (Ou v q3 l3 q4 l4)) (by simp [results,results171,go_sem,Z8 N.out]) rfl ⟨_,rfl,Jl Oa I HW.out (fun b h=>h) aG.out M.out O.out aB⟩
theorem Fi (k:Int) (nm:Bs) (n:Int) (s:Bs) (names binds:List Bs) (kids:List Ex) (a z:Int) (env:List (Bs × Val)) (l:Nat) (r:Except Int (Val × Nat)) (h4:k≠4) (h7:k≠7) (h10:k≠10) (h11:k≠11) (h12:k≠12) (h13:k≠13) (h14:k≠14) (hs:Ma (.mk k nm n s names binds kids a z) env l r):Un (.mk k nm n s names binds kids a z) env (l+1) r:=by
 have q4:(k==4)=false:=by simpa using h4
 have q7:(k==7)=false:=by simpa using h7
 have aY:(k==10)=false:=by simpa using h10
 have aZ:(k==11)=false:=by simpa using h11
 have bA:(k==12)=false:=by simpa using h12
 have bB:(k==13)=false:=by simpa using h13
 have bC:(k==14)=false:=by simpa using h14
 clear h4 h7 h10 h11 h12 h13 h14
 intro S0 S1 g ms ev cs w aN aH Y Z hM
 have hx:Yj (fun b=>S0 b/\b<w) w cs _:=aN.move (.refl _ _) (fun b hb h=>⟨h,hb⟩)
 have he:=aH.up
 have aO:=Qq (fun W (hb:Below w w W)=>G8 g l W (hM.below hb))
 have V:=Qq (fun W (hb:Z6 (fun b=>b=g) g w W) (hm:Xw g W l 0)=>hs _ _ g ms _ _ W (hx.move (hb.agree (fun b h=>Y b h.1)) P8) (he.frame (hb.agree (fun b h=>Z b h.1))) (fun b h=>Y b h.1) (fun b h=>Z b h.1) hm)
 have aI:=hM.lt
 obtain ⟨nv,bv,kv,rfl,_,_,aL,aF,aJ⟩:=Yz.1 hx
 obtain ⟨np,nc,rfl,_⟩:=aL.len
 obtain ⟨bp,bc,rfl,_⟩:=aF.len
 obtain ⟨kp,kc,rfl,_⟩:=aJ.len
 obtain ⟨p,cap,rfl,hl⟩:=he.len
 clear hx he aN aH Y Z hM aL aF aJ hs
 unfold sv at V |-
 go_enter func109,ntmps109
 go_upto_region 1 with fail
 generalize M:(w.alloc _).alloc _=w2
 have aE:=eqB M (Zl _ _ _)
 have h1:=eqH (b:=w.heap.size) M (Q0 _ _ _)
 have D:=eqH (b:=w.heap.size+1) M (Q1 _ _ _)
 obtain ⟨H1,H2,HB⟩:=Px h1 D aE
 clear h1 D aE M
 go_upto_region 4 with (go_at_call 163;refine (aO.out _ HB.out).mono ?_;rintro e w4 ⟨rfl,aK,aM⟩;have aB:=Qq aK;have T:=Qq aM;clear aK aM)
 have h1:=(T.out.keep _ (Z3 H1.out) (by show w≠g;omega)).trans H1.out
 have D:=(T.out.keep _ (Z3 H2.out) (by show w+1≠g;omega)).trans H2.out
 obtain ⟨c0,c1,c2,c3,c4,c5,c6,c7,c8⟩:=row9 h1
 have aC:=Qq D;have L:=Qq ((Z6.of_below HB.out Oa).trans T.out:Z6 (fun b=>b=g) g w w4)
 have I:=Z3 D
 clear h1 D
 cases r with
 | error c=>
  go_wp2_with fail
  refine (V.out _ L.out aB.out).mono ?_
  rintro e w5 ⟨rfl,⟨kf,J⟩,aR,G⟩
  have D:=(G.keep _ I (by show w+1≠g;omega)).trans aC.out
  obtain ⟨O,N,U⟩:=Px D J G
  obtain ⟨r0,r1,r2,r3,r4⟩:=row5 D
  obtain ⟨f0,f1,f2,f3,f4⟩:=frz5 D
  clear J G D
  go_wp2_with fail
  show bodyPost _ _ _ _ _ (Zn w5 (w+1) On On Oo Ot Ot)
  obtain ⟨hm,hs⟩:=Kx (R:=w.heap.size+1) (a0:=.int .i64 0) (a1:=.int .i64 0) (a2:=.string ⟨#[]⟩) (a3:=.slice none 0 0) (a4:=.slice none 0 0) Oa N.out (L.out.trans U.out) aI
  exact Q2 (v:=Pn) (by simp [results,results109,go_sem,Z8 O.out]) rfl ⟨rfl,⟨kf,hm⟩,aR,hs⟩
 | ok o=>
  obtain ⟨v,k⟩:=o
  go_wp2_with fail
  refine (V.out _ L.out aB.out).mono ?_
  rintro e w5 ⟨aX,rfl,aA,J,G⟩
  obtain ⟨q3,l3,q4,l4,aG,_⟩:=Z5.cells aA
  simp only [vcs] at aG
  subst aG
  have D:=(G.keep _ I (by show w+1≠g;omega)).trans aC.out
  obtain ⟨O,aP,N,U⟩:=Py D aA J G
  obtain ⟨r0,r1,r2,r3,r4⟩:=row5 D
  obtain ⟨f0,f1,f2,f3,f4⟩:=frz5 D
  clear aA J G D
  go_wp2_with fail
  show bodyPost _ _ _ _ _ (Pk w5 (w+1) v q3 l3 q4 l4)
  exact Q2 (v:=.agg (Ou v q3 l3 q4 l4)) (by simp [results,results109,go_sem,Z8 O.out]) rfl ⟨_,rfl,Jl Oa I L.out (fun b h=>h) aP.out N.out U.out aI⟩
theorem Ml (nm:Bs) (n:Int) (s:Bs) (names binds:List Bs) (kids:List Ex) (a z:Int) (env:List (Bs × Val)) (l:Nat) (r:Except Int (Val × Nat)) (hs:ROpO (.mk 14 nm n s names binds kids a z) env l r):Un (.mk 14 nm n s names binds kids a z) env (l+1) r:=by
 intro S0 S1 g ms ev cs w aN aH Y Z hM
 have hx:Yj (fun b=>S0 b/\b<w) w cs _:=aN.move (.refl _ _) (fun b hb h=>⟨h,hb⟩)
 have he:=aH.up
 have aO:=Qq (fun W (hb:Below w w W)=>G8 g l W (hM.below hb))
 have V:=Qq (fun W (hb:Z6 (fun b=>b=g) g w W) (hm:Xw g W l 0)=>hs _ _ g ms _ _ W (hx.move (hb.agree (fun b h=>Y b h.1)) P8) (he.frame (hb.agree (fun b h=>Z b h.1))) (fun b h=>Y b h.1) (fun b h=>Z b h.1) hm)
 have aI:=hM.lt
 obtain ⟨nv,bv,kv,rfl,_,_,aL,aF,aJ⟩:=Yz.1 hx
 obtain ⟨np,nc,rfl,_⟩:=aL.len
 obtain ⟨bp,bc,rfl,_⟩:=aF.len
 obtain ⟨kp,kc,rfl,_⟩:=aJ.len
 obtain ⟨p,cap,rfl,hl⟩:=he.len
 clear hx he aN aH Y Z hM aL aF aJ hs
 unfold sv at V |-
 go_enter func109,ntmps109
 go_upto_region 1 with fail
 generalize M:(w.alloc _).alloc _=w2
 have aE:=eqB M (Zl _ _ _)
 have h1:=eqH (b:=w.heap.size) M (Q0 _ _ _)
 have D:=eqH (b:=w.heap.size+1) M (Q1 _ _ _)
 obtain ⟨H1,H2,HB⟩:=Px h1 D aE
 clear h1 D aE M
 go_upto_region 4 with (go_at_call 163;refine (aO.out _ HB.out).mono ?_;rintro e w4 ⟨rfl,aK,aM⟩;have aB:=Qq aK;have T:=Qq aM;clear aK aM)
 have h1:=(T.out.keep _ (Z3 H1.out) (by show w≠g;omega)).trans H1.out
 have D:=(T.out.keep _ (Z3 H2.out) (by show w+1≠g;omega)).trans H2.out
 obtain ⟨c0,c1,c2,c3,c4,c5,c6,c7,c8⟩:=row9 h1
 have aC:=Qq D;have L:=Qq ((Z6.of_below HB.out Oa).trans T.out:Z6 (fun b=>b=g) g w w4)
 have I:=Z3 D
 clear h1 D
 cases r with
 | error c=>
  go_wp2_with fail
  refine (V.out _ L.out aB.out).mono ?_
  rintro e w5 ⟨rfl,⟨kf,J⟩,aR,G⟩
  have D:=(G.keep _ I (by show w+1≠g;omega)).trans aC.out
  obtain ⟨O,N,U⟩:=Px D J G
  obtain ⟨r0,r1,r2,r3,r4⟩:=row5 D
  obtain ⟨f0,f1,f2,f3,f4⟩:=frz5 D
  clear J G D
  go_wp2_with fail
  show bodyPost _ _ _ _ _ (Zn w5 (w+1) On On Oo Ot Ot)
  obtain ⟨hm,hs⟩:=Kx (R:=w.heap.size+1) (a0:=.int .i64 0) (a1:=.int .i64 0) (a2:=.string ⟨#[]⟩) (a3:=.slice none 0 0) (a4:=.slice none 0 0) Oa N.out (L.out.trans U.out) aI
  exact Q2 (v:=Pn) (by simp [results,results109,go_sem,Z8 O.out]) rfl ⟨rfl,⟨kf,hm⟩,aR,hs⟩
 | ok o=>
  obtain ⟨v,k⟩:=o
  go_wp2_with fail
  refine (V.out _ L.out aB.out).mono ?_
  rintro e w5 ⟨aW,rfl,aA,J,G⟩
  obtain ⟨q3,l3,q4,l4,aG,_⟩:=Z5.cells aA
  simp only [vcs] at aG
  subst aG
  have D:=(G.keep _ I (by show w+1≠g;omega)).trans aC.out
  obtain ⟨O,aP,N,U⟩:=Py D aA J G
  obtain ⟨r0,r1,r2,r3,r4⟩:=row5 D
  obtain ⟨f0,f1,f2,f3,f4⟩:=frz5 D
  clear aA J G D
  go_wp2_with fail
  show bodyPost _ _ _ _ _ (Pk w5 (w+1) v q3 l3 q4 l4)
  exact Q2 (v:=.agg (Ou v q3 l3 q4 l4)) (by simp [results,results109,go_sem,Z8 O.out]) rfl ⟨_,rfl,Jl Oa I L.out (fun b h=>h) aP.out N.out U.out aI⟩
section
variable {d:Nat} {nm s:Bs} {n a z:Int} {names binds:List Bs} {kids:List Ex} {x0 x1 x2:Ex} {ns:List Bs} {vs:List Val}
end
theorem EvIs.sub {S:Nat->Prop} {w W1:World} {r:Option Val} {e:Ending} {w2:World} (h:EvIs (fun c=>S c/\c<w) W1 r e w2):∃ (k n:Int) (s:ByteArray) (p3:Option Addr) (n3 k3:Nat) (p4:Option Addr) (n4 k4:Nat) (b:Bool),
  e=.returned (.tuple #[.agg #[k,n,.string s,.slice p3 n3 k3,.slice p4 n4 k4],.bool b])/\EvS (fun c=>(S c/\c<w)\/W1<=c) w2 [k,n,.string s,.slice p3 n3 k3,.slice p4 n4 k4] r b/\Below W1 W1 w2:=h
end Go.Proofs.YtlanplhphiikjaaGreatDoor
