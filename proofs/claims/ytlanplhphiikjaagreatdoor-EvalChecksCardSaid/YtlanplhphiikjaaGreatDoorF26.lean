import Derived.Test.YtlanplhphiikjaaGreatDoorF25
set_option maxRecDepth 100000
set_option maxHeartbeats 400000000
namespace Go.Proofs.YtlanplhphiikjaaGreatDoor
open Go.RowKit Go.Shelf Go.Lib Tryz
def F9:List Val->Bool
 | a::b::l=>decide (Zt a b<0)&&F9 (b::l)
 | _=>true
theorem De:∀ (l:List Val),F9 l=true↔∀ (j:Nat) (x y:Val),l[j]?=some x->l[j+1]?=some y->Zt x y<0
 | []=>by simp [F9]
 | [a]=>by simp [F9]
 | a::b::l=>by
  rw [F9,Bool.and_eq_true,decide_eq_true_eq,De (b::l)]
  constructor
  ·rintro ⟨h1,h2⟩ j x y hx hy
   cases j with
   | zero=>simp at hx hy;subst hx;subst hy;exact h1
   | succ j=>exact h2 j x y (by simpa using hx) (by simpa using hy)
  intro h
  exact ⟨h 0 a b rfl rfl,fun j x y hx hy=>h (j+1) x y (by simpa using hx) (by simpa using hy)⟩
theorem incV_not {l:List Val} {j:Nat} {x y:Val} (hx:l[j]?=some x) (hy:l[j+1]?=some y) (h:¬ Zt x y<0):F9 l=false:=by
 rw [<- Qn,De]
 exact fun g=>h (g j x y hx hy)
theorem O6 (S0 S1:Nat->Prop) (t:Tbl) (ct:List Value) (r:Rel) (cr:List Value) (w:World) (ht:Zg.R S0 w ct t) (hr:Yd.R S1 w cr r):
  Calls prog 112 #[ct,cr] w fun e w'=>e=.returned (.bool (F9 r.rows&&decide (t.name=r.table)))/\Below w w w':=by
 obtain ⟨bF,bE,bR,bQ,bZ,bY,k9,cA,n9,cB,bV,bS,bB,bW,bT,bC,bX,bU,bD,a9,z9,aH,_⟩:=Zr ht
 simp only [tcs] at aH
 subst aH
 obtain ⟨rv,rfl,_,N⟩:=hr
 have U:Sl Zc (fun b=>b<w) w rv r.rows:=N.mono (fun b hb _=>hb)
 obtain ⟨rp,rc,rfl,hl⟩:=U.len
 have hC:∀ (W:World) (x y:Val) (cx cy:List Value),Below w w W->Z5 (fun b=>b<w) W cx x->Z5 (fun b=>b<w) W cy y->∀ n os,Calls prog 99 #[cx,cy] (Sort.grow (W.drewN n) os) fun e w'=>e=.returned (.int .i64 (Zt x y))/\∃ q os',w'=Sort.grow ((Sort.grow (W.drewN n) os).drewN q) os':=
  fun W x y cx cy _ Y T n os=>Jm _ x y cx cy _ (Y.move (.of_below (Uj W n os).bl) P8) (T.move (.of_below (Uj W n os).bl) P8)
 have HC:=Qq hC;have HV:=Qq U
 clear ht N hC U
 obtain ⟨n,hn⟩:=eX (r.rows.length)
 rw [hn] at HV hl |-
 have HN:=Qq hn
 clear hn
 obtain ⟨tb,V⟩:=eX (decide (t.name=r.table))
 rw [V]
 have O:(t.name==r.table)=tb:=by rw [<- V];by_cases h:t.name=r.table <;> simp [h]
 have aS:=Qq O
 clear V O
 obtain ⟨res,D⟩:=eX (F9 r.rows)
 rw [D]
 have HR:=Qq D
 clear D
 unfold sv
 have mixed:(prog).follows .mixedOrders=true:=Og
 go_enter func112,ntmps112
 go_wp2_with fail
 generalize J:(w.alloc _).alloc _=W1
 have aF:=eqB J (Zl _ _ _)
 have aC:=eqH (b:=w.heap.size) J (Q0 _ _ _)
 have aE:=eqH (b:=w.heap.size+1) J (Q1 _ _ _)
 obtain ⟨Z,aR,aB⟩:=Px aF aC aE
 clear J aF aC aE
 go_loopw [5,9] (fun _ i wr=>∃ k:Nat,k<=n/\i=.int .i64 k/\Gr W1 wr/\Aside (∀ (j:Nat) (x y:Val),j+1<k->r.rows[j]?=some x->r.rows[j+1]?=some y->Zt x y<0)) (fun _ i _=>n - (intOf i).toNat)
 case atStart=>exact ⟨0,Q3 _,rfl,Gr.refl _,fun j x y hj=>absurd hj (Z1 _)⟩
 obtain ⟨k,bP,rfl,hG,hI⟩:=hrel
 have aZ:=Z3 aB.out
 have L:=kE hG.bl aZ aB.out
 have aU:=Z3 L
 have aD:=kB hG.bl aR.out
 have x0:=rA0 L;have x1:=rA1 L;have t0:=rA0 aD
 have HG:=Qq hG;have HI:=Qq hI.out
 have I:=Qq (Z.out.trans (hG.bl.mono Z.out.size))
 clear hG hI L aD
 by_cases hlt:k<n
 ·have aV:(0:Int)<=(k:Int):=Oa
  have aW:(k:Int)<(n:Int):=Oa
  by_cases hk0:k=0
  ·have hd:decide ((k:Int) > 0)=false:=by simp;omega
   have bG:decide ((0:Int)<(k:Int))=false:=by simp;omega
   have bH:decide (0<k)=false:=by simp;omega
   have aP:=Qq hk0
   clear hk0
   go_wp2_with fail
   go_quiet (fail)
   go_wp2_with fail
   go_roundw
   case measure=>simp [intOf];omega
   case rel=>exact ⟨k+1,Oa,by go_num,HG.out.thn ⟨_,#[],by rw [Sort.grow_empty]⟩,(show Aside _ from fun j x y hj=>absurd hj (Ob aP.out))⟩
  obtain ⟨j,rfl⟩:∃ j,k=j+1:=⟨k - 1,Oa⟩
  clear hk0
  obtain ⟨x,Y⟩:∃ x,r.rows[j]?=some x:=⟨_,Qx (by rw [HN.out];omega)⟩
  obtain ⟨y,T⟩:∃ y,r.rows[j+1]?=some y:=⟨_,Qx (by rw [HN.out];omega)⟩
  obtain ⟨xb,aL,p3,k3,p4,k4,rfl,G,aJ,d0,d1,d2,d3,d4⟩:=(HV.out.below I.out).val Y
  obtain ⟨yb,aM,q3,l3,q4,l4,he,bA,aK,e0,e1,e2,e3,e4⟩:=(HV.out.below I.out).val T
  obtain ⟨rfl,rfl,-⟩:xb=yb/\aL=aM/\True:=by simpa using he
  have M:=HC.out wr x y _ _ I.out aJ aK
  have D0:=Xa G d0;have D1:=Xa G d1;have D2:=Xa G d2;have D3:=Xa G d3;have D4:=Xa G d4
  have E0:=Xa G e0;have E1:=Xa G e1;have E2:=Xa G e2;have E3:=Xa G e3;have E4:=Xa G e4
  have X1:=Xa aU x1
  have bI:IntKind.i64.wrap (j:Int)=(j:Int):=by rw [IntKind.wrap_i64];omega
  have bJ:(j:Int)<(n:Int):=Oa
  have bK:(0:Int)<(j:Int)+1:=Oa
  have bL:(0:Int)<=(j:Int)+1:=Oa
  have bM:(j:Int)+1<(n:Int):=Oa
  have bN:(0:Int)<=(j:Int):=Oa
  have bO:((j:Int)+1).toNat=j+1:=Oa
  have HX:=Qq Y;have HY:=Qq T
  unfold vcs at M
  generalize aG:Zt x y=c at M
  have aA:=Qq aG
  clear Y T he aJ aK bA d0 d1 d2 d3 d4 e0 e1 e2 e3 e4 aG aV aW
  by_cases hneg:c<0
  ·have hq:decide (0<=c)=false:=by simpa using hneg
   go_wp2_with fail
   go_quiet_grown (first | (go_at_call 99;refine Calls.grown_of (M _ _)))
   go_wp2_with fail
   go_roundw
   case measure=>simp [intOf];omega
   case rel=>
    refine ⟨j+1+1,Oa,by go_num,HG.out.thn (Uj _ _ _),(show Aside _ from fun i u v hi hu hv=>?_)⟩
    by_cases e:i=j
    ·subst e
     have h1:=HX.out;have h2:=HY.out
     rw [hu] at h1;rw [hv] at h2
     cases h1;cases h2
     rw [aA.out];exact hneg
    exact HI.out i u v Oa hu hv
  have hq:decide (0<=c)=true:=by simp;omega
  have D:res=false:=by rw [<- HR.out];exact incV_not HX.out HY.out (by rw [aA.out];exact hneg)
  subst D
  go_wp2_with fail
  go_quiet_grown (first | (go_at_call 99;refine Calls.grown_of (M _ _)))
  go_wp2_with fail
  go_ret
  exact ⟨Od,I.out.thn (Uj _ _ _).bl⟩
 have aI:k=n:=Oa
 subst aI
 have D:res=true:=by
  rw [<- HR.out,De]
  exact fun j x y Y T=>HI.out j x y (by have:=(Qj T).1;have:=HN.out;omega) Y T
 subst D
 go_wp2_with fail
 go_ret
 refine ⟨?_,I.out⟩
 rw [Bool.true_and,<- aS.out]
 rfl
def Kr (s:Sc) (l:List Rel):Bool:=eqL (fun (t:Tbl) (r:Rel)=>F9 r.rows&&decide (t.name=r.table)) s.tables l
theorem Mv (S0 S1:Nat->Prop) (s:Sc) (cs:List Value) (lv:Value) (l:List Rel) (w:World) (hs:Ug S0 w cs s) (hl:Sl Yd S1 w lv l):
  Calls prog 58 #[cs,lv] w fun e w'=>e=.returned (.bool (Kr s l))/\Below w w w':=by
 obtain ⟨uv,tv,rfl,hu,D⟩:=hs
 have HE:=Qq (fun W (hb:Below w w W)=>Ow 112 #[] (enters_of func112 Og rfl) (fun _=>True) tv lv s.tables l W ((D.mono (fun _ _ _=>trivial)).below hb) ((hl.mono (fun _ _ _=>trivial)).below hb) (fun t r=>F9 r.rows&&decide (t.name=r.table))
  (fun W' x y cx cy _ _ _ hx hy=>O6 _ _ x cx y cy W' hx hy))
 obtain ⟨up,uc,rfl,_⟩:=hu.len
 obtain ⟨tp,tc,rfl,_⟩:=D.len
 obtain ⟨lp,lc,rfl,_⟩:=hl.len
 unfold Kr
 generalize eqL _ s.tables l=r at HE |-
 clear hu D hl
 go_enter func58,ntmps58
 go_wp2_with (go_at_call 111;refine (HE.out _ (Zb _ _)).mono ?_;rintro e w' ⟨rfl,hw⟩)
 go_ret
 exact ⟨rfl,(Zb _ _).thn hw⟩
def Uo:Except Int (Val × Nat)->Val
 | .ok (v,_)=>v
 | .error _=>Val.zero
def Dv (l:Nat):Except Int (Val × Nat)->Int
 | .ok (_,k)=>(l:Int) - k
 | .error _=>0
def Kc:Except Int (Val × Nat)->Int
 | .ok _=>0
 | .error c=>c
def Mn (l:Nat) (r:Except Int (Val × Nat)) (g:Nat) (w:World) (e:Ending) (w':World):Prop:=∃ cs,e=.returned (.tuple #[.agg cs.toArray,(Dv l r),(Kc r)])/\Z5 (fun b=>b≠g/\w<=b) w' cs (Uo r)/\Z6 (fun b=>b=g) g w w'
theorem erun_any (f:Nat) (lb:Array Value) (ef:∀ args w,(callFunc f args).run prog w=.ok (.enter f args) w) (g m l:Nat) (r:Except Int (Val × Nat)) (w:World) (hM:MAt g m w l) (hf:∀ W,Below w w W->Calls prog f lb W (Fz (fun _=>False) g m W r)):
  Calls prog 104 #[Om g,.func (.func f) #[] lb] w (Mn l r g w):=by
 have cB:∀ (fn:Fn) (first cap:Array Value) (w:World),(Instr.makeFunc fn first cap).run prog w=.ok (.func fn first cap) w:=fun _ _ _ _=>rfl
 have HF:=Qq hf;have HM:=Qq hM
 have cA:=hM.lt
 clear hf hM
 go_enter_defers func104,ntmps104
 go_upto_region 1 with fail
 generalize M:((w.alloc _).alloc _).alloc _=w3
 have aG:=eqB M (Yr _ _ _ _)
 have O:=eqH (b:=w.heap.size) M (Ze _ _ _ _)
 have D:=eqH (b:=w.heap.size+1) M (Zf _ _ _ _)
 have G:=eqH (b:=w.heap.size+1+1) M (Z9 _ _ _ _)
 have aP:=HM.out.below aG
 have m3:=rA3 aP.1
 obtain ⟨HB,H0,H1,H2⟩:=Py aG O D G
 have aA:=Z3 O;have aB:=Z3 D;have aC:=Z3 G
 clear aG O D G aP M
 cases r with
 | error c=>
  go_wp2_with fail
  refine (HF.out _ HB.out).mono ?_
  rintro e Z ⟨rfl,hs⟩
  have O:=(hs.keep _ aA (by show w≠g;omega)).trans H0.out
  have D:=(hs.keep _ aB (by show w+1≠g;omega)).trans H1.out
  have G:=(hs.keep _ aC (by show w+1+1≠g;omega)).trans H2.out
  have L:Z6 (fun b=>b=g) g w Z:=(Z6.of_below HB.out Oa).trans hs
  dsimp only
  refine leaves_cons (f:=151) (args:=#[.pointer (some ⟨w,0,none⟩),.pointer (some ⟨w+1,0,none⟩),.pointer (some ⟨w+1+1,0,none⟩)]) Od (by simp [go_sem]) ?_
  refine (Hy c w (w+1) (w.heap.size+1+1) Oa Oa _ _ _ _ _ _ _ [] Z O D G).mono ?_
  rintro e u' w5 ⟨rfl,rfl,hC⟩
  have c0:=fun j=>Qk _ _ j _ _ _ hC.val;have c1:=Qk _ _ 0 _ _ _ hC.used;have c2:=Qk _ _ 0 _ _ _ hC.err
  have hr:Mn l (.error c) g w (.returned (.tuple #[.agg zV,On,c])) w5:=by
   refine ⟨[On,On,Oo,Ot,Ot],rfl,Zu (s:=[]) Od (Sl.nil _ _ _) (Sl.nil _ _ _),⟨L.below.trans (hC.below.mono Oa),fun b hb hn=>(hC.below.block b hb).trans (L.keep b hb hn)⟩⟩
  simp at c1 c2
  simp [Leaves,settle,results,results104,go_sem,c0,c1,c2,hr]
 | ok o=>
  obtain ⟨v,k⟩:=o
  go_wp2_with fail
  refine (HF.out _ HB.out).mono ?_
  rintro e Z ⟨bZ,rfl,aJ,aX,N⟩
  obtain ⟨V,T,Y,U,aW,_⟩:=Z5.cells aJ
  simp only [vcs] at aW
  subst aW
  have O:=(N.keep _ aA (by show w≠g;omega)).trans H0.out
  have D:=(N.keep _ aB (by show w+1≠g;omega)).trans H1.out
  have G:=(N.keep _ aC (by show w+1+1≠g;omega)).trans H2.out
  obtain ⟨aN,bK,bL,bN,aM,bM⟩:=P0 O D G aJ aX N
  obtain ⟨r0,r1,r2,r3,r4⟩:=row5 O
  obtain ⟨f0,f1,f2,f3,f4⟩:=frz5 O
  clear aJ aX N O D G
  go_upto_region 4 with fail
  obtain ⟨w5,I⟩:=eX (Zn Z w v.kind v.n v.s (.slice V v.names.length T) (.slice Y v.kids.length U))
  have aK:=I
  unfold Zn at aK
  rw [aK]
  clear aK
  have p5:=fun j=>(congrArg (fun W:World=>W.cell? ⟨w,j,none⟩) I).symm.trans (Z8 aN.out (a:=.int .i64 v.kind) (b:=.int .i64 v.n) (c:=.string ⟨v.s.toArray⟩) (d:=.slice V v.names.length T) (e:=.slice Y v.kids.length U) j)
  have hp:=Qd _ _ 4 _ _ (.slice Y v.kids.length U) (Qd _ _ 3 _ _ (.slice V v.names.length T) (Qd _ _ 2 _ _ (.string ⟨v.s.toArray⟩) (Qd _ _ 1 _ _ (.int .i64 v.n) (Qd _ _ 0 _ _ (.int .i64 v.kind) aN.out))))
  have hP:w5.heap[w.heap.size]?=some (.cells (Ou v V T Y U) 48 (0,0)):=by rw [<- I];exact hp
  have ho:∀ b,b≠w.heap.size->w5.heap[b]?=Z.heap[b]?:=fun b hb=>by rw [<- I];exact Za hb
  have D:=(ho (w+1) Oa).trans bK.out
  have G:=(ho (w+1+1) Oa).trans bL.out
  have hg:=(ho g Oa).trans aM.out.1
  have aU:Below w Z w5:=by rw [<- I];exact Z7 (Qz _ _) (Q4 _)
  clear r0 r1 r2 r3 r4 f0 f1 f2 f3 f4 p5 hp I
  obtain ⟨r0,r1,r2,r3,r4⟩:=row5 hP
  obtain ⟨f0,f1,f2,f3,f4⟩:=frz5 hP
  have y0:=rA0 D;have z0:=rA0 G;have x3:=rA3 hg
  have gy:=fA 0 D;have gz:=fA 0 G
  have hk:=aM.out.2.2
  obtain ⟨li,aI⟩:∃ li:Int,(l:Int)=li:=⟨_,rfl⟩
  obtain ⟨ki,aH⟩:∃ ki:Int,(k:Int)=ki:=⟨_,rfl⟩
  have i1:0<=li:=Oa
  have i2:0<=ki:=Oa
  have i3:ki<=1048576:=Oa
  have i4:li<=1048576:=by have:=HM.out.2.2;omega
  rw [aH] at x3
  rw [aI]
  obtain ⟨HP,HY,HZ,HO,bI,HL,HK⟩:=P1 hP D G ho aU aI aH
  have n1:w≠w.heap.size+1:=Oa
  have n2:w≠w.heap.size+1+1:=Oa
  have n3:g≠w.heap.size:=Oa
  have n4:g≠w.heap.size+1:=Oa
  have n5:g≠w.heap.size+1+1:=Oa
  clear hP ho D G hg aU hk aI aH
  go_region
  have hp:=Qd _ _ 4 _ _ (.slice Y v.kids.length U) (Qd _ _ 3 _ _ (.slice V v.names.length T) (Qd _ _ 2 _ _ (.string ⟨v.s.toArray⟩) (Qd _ _ 1 _ _ (.int .i64 v.n) (Qd _ _ 0 _ _ (.int .i64 v.kind) HP.out))))
  have aV:=((((((bI.out.setCell (p:=⟨w,0,none⟩) (Q4 _) (.int .i64 v.kind)).setCell (p:=⟨w,1,none⟩) (Q4 _) (.int .i64 v.n)).setCell (p:=⟨w,2,none⟩) (Q4 _) (.string ⟨v.s.toArray⟩)).setCell (p:=⟨w,3,none⟩) (Q4 _) (.slice V v.names.length T)).setCell (p:=⟨w,4,none⟩) (Q4 _) (.slice Y v.kids.length U)).setCell (p:=⟨w+1,0,none⟩) (by show w<=w.heap.size+1;omega) (.int .i64 (li - ki))).setCell (p:=⟨w+1+1,0,none⟩) (by show w<=w.heap.size+1+1;omega) (.int .i64 0)
  generalize J:World.drew _=w6
  have aR:w6.heap[w.heap.size]?=some (.cells (Ou v V T Y U) 48 (0,0)):=by rw [<- J,heap_drew,Z4 (show w≠w.heap.size+1+1 by omega),Z4 (show w≠w.heap.size+1 by omega)];exact hp
  have aS:w6.heap[w.heap.size+1]?=some (.cells #[.int .i64 (li - ki)] 3 (0,0)):=by rw [<- J,heap_drew,Z4 (show w+1≠w.heap.size+1+1 by omega)];exact Qd _ _ 0 _ _ _ ((Y1 Oa).trans HY.out)
  have aT:w6.heap[w.heap.size+1+1]?=some (.cells #[On] 32 (0,0)):=by rw [<- J,heap_drew];exact Qd _ _ 0 _ _ _ ((Z4 (show w+1+1≠w.heap.size+1 by omega)).trans ((Y1 Oa).trans HZ.out))
  have aQ:∀ b,b≠w.heap.size->b≠w.heap.size+1->b≠w.heap.size+1+1->w6.heap[b]?=Z.heap[b]?:=fun b k1 k2 k3=>by rw [<- J,heap_drew,Z4 k3,Z4 k2];exact (Y1 k1).trans (HO.out b k1)
  have aF:Below w Z w6:=by rw [<- J];exact aV.drew
  clear J aV hp r0 r1 r2 r3 r4 f0 f1 f2 f3 f4 y0 z0 x3 gy gz
  have L:Z6 (fun b=>b=g) g w Z:=(Z6.of_below HB.out Oa).trans bM.out
  have hr:Mn l (.ok (v,k)) g w (.returned (.tuple #[.agg (Ou v V T Y U),.int .i64 (li - ki),On])) w6:=by
   refine ⟨Ou v V T Y U,?_,bN.out.move (fun b hb _=>?_) (fun b _ h=>⟨h.1,?_⟩),⟨L.below.trans (aF.mono Oa),fun b hb hn=>(aF.block b hb).trans (L.keep b hb hn)⟩⟩
   ·show _=Ending.returned (.tuple #[_,.int .i64 ((l:Int) - k),On])
    rw [HL.out,HK.out]
   ·rcases hb.2 with h | h
    ·exact h.elim
    exact aQ b Oa Oa Oa
   rcases h.2 with h | h
   ·exact h.elim
   omega
  have c0:=fun j=>Qk _ _ j _ _ _ aR;have c1:=rA0 aS;have c2:=rA0 aT
  have bJ:=Qq c0;have HR:=Qq hr
  clear aR aS aT aQ aF L c0 hr
  go_wp2_with fail
  refine leaves_cons (f:=151) (args:=#[.pointer (some ⟨w,0,none⟩),.pointer (some ⟨w+1,0,none⟩),.pointer (some ⟨w+1+1,0,none⟩)]) Od (by simp [go_sem]) ?_
  refine (Nd ⟨w,0,none⟩ ⟨w+1,0,none⟩ ⟨w+1+1,0,none⟩ _).mono ?_
  rintro e u' cC ⟨rfl,rfl,rfl⟩
  have bS:=bJ.out
  exact ⟨.tuple #[.agg (Ou v V T Y U),.int .i64 (li - ki),On],by simp [results,results104,go_sem,bS,c1,c2],HR.out⟩
end Go.Proofs.YtlanplhphiikjaaGreatDoor
