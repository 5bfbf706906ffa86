import Derived.Test.YtdpibdpbgokmoaaGreatDoorC20
set_option maxRecDepth 100000
set_option maxHeartbeats 400000000
namespace Go.Proofs.YtdpibdpbgokmoaaGreatDoor
open Go.RowKit Go.Shelf Go.Lib Tryz
def Ek:List Bs:=[[61,61],[33,61],[60],[60,61],[43],[45],[42],[43,43],[97,110,100],[111,114],[110,111,116]]
structure H9 (k:Int) (nm:Bs) (names binds:List Bs) (n:Nat):Prop where
 few:n≤1000
 fewn:names.length≤1000
 words:k=6→(∀ x ∈ names,Va x)∧names.Nodup
 one:k=7→names.length=1∧n=2
 fld:k=8→1≤n
 two:k=11→n=2
 three:k=12→n=3
 mtch:k=13→n=names.length+1∧binds.length=names.length
 op:k=14→nm ∈ Ek∧n=if nm=[110,111,116] then 1 else 2
inductive WfE:Nat→Ex→Prop
 | mk (d:Nat) (k:Int) (nm:Bs) (n:Int) (s:Bs) (names binds:List Bs) (kids:List Ex) (a z:Int) (hn:H9 k nm names binds kids.length) (hk:∀ x ∈ kids,WfE d x):WfE (d+1) (.mk k nm n s names binds kids a z)
theorem Cw (k:Int) (nm:Bs) (hk:k≤5∨k=9):H9 k nm [] [] 0:=⟨Qqj,Qqk,fun h=>Qqj,fun h=>Qqj,fun h=>Qqj,fun h=>Qqj,fun h=>Qqj,fun h=>Qqj,fun h=>Qqj⟩
theorem Gx (d:Nat) (k:Int) (nm:Bs) (n:Int) (s:Bs) (hk:k≤5∨k=9):WfE (d+1) (.mk k nm n s [] [] [] 0 0):=.mk _ _ _ _ _ _ _ _ _ _ (Cw k nm hk) (fun x h=>by simp at h)
theorem wf_2 {d:Nat} {a b:Ex} (ha:WfE d a) (hb:WfE d b):∀ x ∈ [a,b],WfE d x:=by
 intro x hx
 simp only [Z3,Z2,or_false] at hx
 rcases hx with rfl | rfl
 ·exact ha
 exact hb
theorem wf_1 {d:Nat} {a:Ex} (ha:WfE d a):∀ x ∈ [a],WfE d x:=by
 intro x hx
 simp only [Z3,Z2,or_false] at hx
 subst hx;exact ha
theorem wf_3 {d:Nat} {a b c:Ex} (ha:WfE d a) (hb:WfE d b) (hc:WfE d c):∀ x ∈ [a,b,c],WfE d x:=by
 intro x hx
 simp only [Z3,Z2,or_false] at hx
 rcases hx with rfl | rfl | rfl
 ·exact ha
 ·exact hb
 exact hc
theorem Vd {d:Nat} {o:Bs} {a b:Ex} (ho:o ∈ Ek∧o≠[110,111,116]) (ha:WfE d a) (hb:WfE d b):WfE (d+1) (Gen.op o [a,b]):=
 .mk _ _ _ _ _ _ _ _ _ _ ⟨Qqk,Qqk,fun h=>Qqj,fun h=>Qqj,fun h=>Qqj,fun h=>Qqj,fun h=>Qqj,fun h=>Qqj,fun _=>⟨ho.1,by rw [if_neg ho.2];rfl⟩⟩ (wf_2 ha hb)
theorem wf_not {d:Nat} {a:Ex} (ha:WfE d a):WfE (d+1) (Gen.op [110,111,116] [a]):=
 .mk _ _ _ _ _ _ _ _ _ _ ⟨Qqk,Qqk,fun h=>Qqj,fun h=>Qqj,fun h=>Qqj,fun h=>Qqj,fun h=>Qqj,fun h=>Qqj,fun _=>⟨by simp [Ek],Qqk⟩⟩ (wf_1 ha)
theorem Xk (d:Nat) (x:Bs):WfE (d+1) (Gen.var x):=Gx _ _ _ _ _ Qqj
theorem Eu (d:Nat) (n:Int):WfE (d+1) (Gen.int n):=Gx _ _ _ _ _ Qqj
theorem Fs (d:Nat) (n:Int):WfE (d+1) (Gen.bool n):=Gx _ _ _ _ _ Qqj
theorem wf_str (d:Nat) (x:Bs):WfE (d+1) (Gen.str x):=Gx _ _ _ _ _ Qqj
theorem word_x:∀ x ∈ ([[121],[120]]:List Bs),Va x:=by
 intro x hx
 simp only [Z3,Z2,or_false] at hx
 rcases hx with rfl | rfl
 all_goals exact ⟨Qqx,Qqx,Qqx,Qqx,Qqx⟩
theorem wf_rec (d:Nat):WfE (d+2) Gen.rec:=
 .mk _ _ _ _ _ _ _ _ _ _ ⟨Qqk,Qqk,fun _=>⟨word_x,Qqx⟩,fun h=>Qqj,fun h=>Qqj,fun h=>Qqj,fun h=>Qqj,fun h=>Qqj,fun h=>Qqj⟩ (wf_2 (Xk _ _) (Xk _ _))
theorem wf_wth (d:Nat):WfE (d+3) Gen.wth:=
 .mk _ _ _ _ _ _ _ _ _ _ ⟨Qqk,Qqk,fun h=>Qqj,fun _=>⟨rfl,rfl⟩,fun h=>Qqj,fun h=>Qqj,fun h=>Qqj,fun h=>Qqj,fun h=>Qqj⟩ (wf_2 (wf_rec _) (Eu _ _))
theorem wf_fld {d:Nat} (x:Bs) {a:Ex} (ha:WfE d a):WfE (d+1) (.mk 8 x 0 [] [] [] [a] 0 0):=
 .mk _ _ _ _ _ _ _ _ _ _ ⟨Qqk,Qqk,fun h=>Qqj,fun h=>Qqj,fun _=>Qqk,fun h=>Qqj,fun h=>Qqj,fun h=>Qqj,fun h=>Qqj⟩ (wf_1 ha)
theorem Th {d:Nat} {a b:Ex} (ha:WfE d a) (hb:WfE d b):WfE (d+1) (.mk 9 [] 0 [] [] [] [a,b] 0 0):=
 .mk _ _ _ _ _ _ _ _ _ _ ⟨Qqk,Qqk,fun h=>Qqj,fun h=>Qqj,fun h=>Qqj,fun h=>Qqj,fun h=>Qqj,fun h=>Qqj,fun h=>Qqj⟩ (wf_2 ha hb)
theorem wf_check:∀ k:Nat,WfE 8 (Gen.check k)
 | 0=>Fs _ _
 | 1=>Fs _ _
 | 2=>Fs _ _
 | 3=>Vd Qqx (Xk _ _) (Vd Qqx (Xk _ _) (Vd Qqx (Eu _ _) (Eu _ _)))
 | 4=>Vd Qqx (Xk _ _) (Vd Qqx (Xk _ _) (wf_str _ _))
 | 5=>.mk _ _ _ _ _ _ _ _ _ _ ⟨Qqk,Qqk,fun h=>Qqj,fun h=>Qqj,fun h=>Qqj,fun h=>Qqj,fun _=>rfl,fun h=>Qqj,fun h=>Qqj⟩ (wf_3 (Xk _ _) (Vd Qqx (Xk _ _) (Xk _ _)) (Vd Qqx (Xk _ _) (Xk _ _)))
 | 6=>.mk _ _ _ _ _ _ _ _ _ _ ⟨Qqk,Qqk,fun h=>Qqj,fun h=>Qqj,fun h=>Qqj,fun h=>Qqj,fun h=>Qqj,fun _=>⟨rfl,rfl⟩,fun h=>Qqj⟩ (wf_3 (Xk _ _) (Fs _ _) (Vd Qqx (Xk _ _) (Xk _ _)))
 | 7=>Vd Qqx (wf_fld _ (wf_wth _)) (wf_fld _ (wf_rec _))
 | 8=>.mk _ _ _ _ _ _ _ _ _ _ ⟨Qqk,Qqk,fun h=>Qqj,fun h=>Qqj,fun h=>Qqj,fun _=>rfl,fun h=>Qqj,fun h=>Qqj,fun h=>Qqj⟩ (wf_2 (Vd Qqx (Xk _ _) (Xk _ _)) (Vd Qqx (Vd Qqx (Xk _ _) (Eu _ _)) (wf_not (Xk _ _))))
 | 9=>Vd Qqx (Vd Qqx (Xk _ _) (Xk _ _)) (wf_str _ _)
 | 10=>Vd Qqx (Xk _ _) (Vd Qqx (Xk _ _) (Xk _ _))
 | 11=>Vd Qqx (Th (Xk _ _) (Xk _ _)) (Th (Eu _ _) (Xk _ _))
 | (k+12)=>.mk _ _ _ _ _ _ _ _ _ _ ⟨Qqk,Qqk,fun h=>Qqj,fun h=>Qqj,fun h=>Qqj,fun h=>Qqj,fun h=>Qqj,fun h=>Qqj,fun h=>Qqj⟩ (wf_1 (Gx _ _ _ _ _ Qqj))
theorem wf_yes (d:Nat):WfE (d+1) Gen.yes:=Fs _ _
def Pf (o:Bs) (b:Bool):Prop:=(o=[97,110,100]∧b=true)∨(o=[111,114]∧b=false)
theorem op_not (g:Nat) (lb:Array Value) (eg:∀ args w,(callFunc g args).run prog w=.ok (.enter g args) w) (S0:Nat→Prop) (u:Val) (w:World) (hS0:∀ b,S0 b→b≠w.heap.size) (hk:u.kind=2) (h0:∀ W,Below w w W→w<W.heap.size→Calls prog g (#[.int .i64 0]++lb) W (Xy S0 W (some u))):
  Calls prog 140 #[.string ⟨#[110,111,116]⟩,.func (.func g) #[] lb,.int .i64 1] w (Xy S0 w (some (Xr (!(u.n==1))))):=by
 have H0:=Qq h0;have aA:=Qq hS0
 have HT:=Qq (fun cu W (T:Z9 S0 W cu u)=>Uf S0 u cu W T hk)
 have D:=Qq (Uv (!(u.n==1)) S0)
 obtain ⟨r,J⟩:=eX (Xr (!(u.n==1)))
 rw [J] at D ⊢
 obtain ⟨b,hb⟩:=eX ((u.n==1))
 simp only [hb] at HT D
 clear h0 J hS0 hk hb
 go_enter func140,ntmps140
 go_wp2_with fail
 refine (H0.out _ (Zg _ _) Qqk).mono ?_
 rintro e w1 ⟨cu,rfl,T,G⟩
 obtain ⟨a3,aE,a4,aF,A,_⟩:=Z9.cells T
 simp only [vcs] at A
 subst A
 obtain ⟨N,U,HU⟩:=Qqo ((G.block w Qqk).trans (Qw w _)) ((Zg w _).thn G) T
 clear T G
 have aB:=Qq (HT.out _ w1 HU.out)
 go_wp2_with (first
  | (go_at_call 135;refine (D.out _).mono ?_;rintro e w6 ⟨cr,rfl,M,I⟩;obtain ⟨q3,l3,q4,l4,A,_⟩:=Z9.cells M;simp only [vcs] at A;subst A;have Y:=Qq I;have aC:=Qq M;have J:=(I.block w (Z8 O.out)).trans O.out;have Z:=Qq J;have fz:=fun j=>Qn _ _ j _ _ J;obtain ⟨f0,f1,f2,f3,f4⟩:=Qzj fz;have rr:=fun j=>Qk _ _ j _ _ _ J;obtain ⟨r0,r1,r2,r3,r4⟩:=Qzj rr;simp only [Qf,Qg,Qh] at r0 r1 r2 r3 r4;clear fz rr J M I)
  | (go_at_call 90;refine aB.out.mono ?_;rintro e w5 ⟨rfl,hb⟩;have O:=Qq ((hb.block w (Z8 N.out)).trans N.out);have V:=Qq (U.out.thn hb);clear hb))
 show bodyPost _ _ _ _ _ (Qqm w6 w r q3 l3 q4 l4)
 refine Q7 (v:=.agg (Qqg r q3 l3 q4 l4)) (by simp [results,results140,go_sem,Zd Z.out]) rfl ⟨_,rfl,?_,Zc (V.out.thn Y.out) (Q9 _)⟩
 exact Z9.move aC.out (fun b hb _=>Zf (by have:=aA.out b hb;omega)) Qzx
theorem G7 (g:Nat) (lb:Array Value) (eg:∀ args w,(callFunc g args).run prog w=.ok (.enter g args) w) (S0:Nat→Prop) (o:Bs) (b:Bool) (u:Val) (w:World) (ho:Pf o b) (hS0:∀ b,S0 b→b≠w.heap.size) (hk:u.kind=2) (hn:(u.n==1)=!b) (h0:∀ W,Below w w W→w<W.heap.size→Calls prog g (#[.int .i64 0]++lb) W (Xy S0 W (some u))):
  Calls prog 140 #[o,.func (.func g) #[] lb,.int .i64 2] w (Xy S0 w (some (Xr (!b)))):=by
 obtain ⟨H0,HM,aA⟩:=Qqo h0 X8 hS0
 have HT:=Qq (fun cu W (T:Z9 S0 W cu u)=>Uf S0 u cu W T hk)
 rw [hn] at HT
 have M:=Qq (Uv (!b) S0)
 obtain ⟨r,I⟩:=eX (Xr (!b))
 rw [I] at M ⊢
 clear h0 I hS0 hk hn
 rcases ho with ⟨rfl,rfl⟩ | ⟨rfl,rfl⟩
 all_goals
  go_enter func140,ntmps140
  go_wp2_with (go_at_call 134;refine (HM.out _).mono ?_;rintro e w' ⟨rfl,rfl⟩)
  refine (H0.out _ (Zg _ _) Qqk).mono ?_
  rintro e w1 ⟨cu,rfl,T,D⟩
  obtain ⟨a3,aE,a4,aF,A,_⟩:=Z9.cells T
  simp only [vcs] at A
  subst A
  obtain ⟨N,U,HU⟩:=Qqo ((D.block w Qqk).trans (Qw w _)) ((Zg w _).thn D) T
  clear T D
  have aB:=Qq (HT.out _ w1 HU.out)
  go_wp2_with (first
   | (go_at_call 135;refine (M.out _).mono ?_;rintro e w6 ⟨cr,rfl,J,G⟩;obtain ⟨q3,l3,q4,l4,A,_⟩:=Z9.cells J;simp only [vcs] at A;subst A;have Y:=Qq G;have aC:=Qq J;have I:=(G.block w (Z8 O.out)).trans O.out;have Z:=Qq I;have fz:=fun j=>Qn _ _ j _ _ I;obtain ⟨f0,f1,f2,f3,f4⟩:=Qzj fz;have rr:=fun j=>Qk _ _ j _ _ _ I;obtain ⟨r0,r1,r2,r3,r4⟩:=Qzj rr;simp only [Qf,Qg,Qh] at r0 r1 r2 r3 r4;clear fz rr I J G)
   | (go_at_call 90;refine aB.out.mono ?_;rintro e w5 ⟨rfl,hb⟩;have O:=Qq ((hb.block w (Z8 N.out)).trans N.out);have V:=Qq (U.out.thn hb);clear hb))
  show bodyPost _ _ _ _ _ (Qqm w6 w r q3 l3 q4 l4)
  refine Q7 (v:=.agg (Qqg r q3 l3 q4 l4)) (by simp [results,results140,go_sem,Zd Z.out]) rfl ⟨_,rfl,?_,Zc (V.out.thn Y.out) (Q9 _)⟩
  exact Z9.move aC.out (fun b hb _=>Zf (by have:=aA.out b hb;omega)) Qzx
theorem Sd (g:Nat) (lb:Array Value) (eg:∀ args w,(callFunc g args).run prog w=.ok (.enter g args) w) (S0:Nat→Prop) (o:Bs) (b:Bool) (u:Val) (w:World) (ho:Pf o b) (hk:u.kind=2) (hn:(u.n==1)=b) (h0:∀ W,Below w w W→w<W.heap.size→Calls prog g (#[.int .i64 0]++lb) W (Xy S0 W (some u))) (h1:∀ W,Below w w W→w<W.heap.size→Calls prog g (#[.int .i64 1]++lb) W (Xy S0 W none)):
  Calls prog 140 #[o,.func (.func g) #[] lb,.int .i64 2] w (Bd w):=by
 obtain ⟨H0,H1,HM⟩:=Qqo h0 h1 X8
 have HT:=Qq (fun T W (J:Z9 S0 W T u)=>Uf S0 u T W J hk)
 rw [hn] at HT
 clear h0 h1 hk hn
 rcases ho with ⟨rfl,rfl⟩ | ⟨rfl,rfl⟩
 all_goals
  go_enter func140,ntmps140
  go_wp2_with (go_at_call 134;refine (HM.out _).mono ?_;rintro e w' ⟨rfl,rfl⟩)
  refine (H0.out _ (Zg _ _) Qqk).mono ?_
  rintro e w1 ⟨T,rfl,J,A⟩
  obtain ⟨a3,U,a4,V,I,_⟩:=Z9.cells J
  simp only [vcs] at I
  subst I
  obtain ⟨G,M,HU⟩:=Qqo ((A.block w Qqk).trans (Qw w _)) ((Zg w _).thn A) J
  clear J A
  have O:=Qq (HT.out _ w1 HU.out)
  go_wp2_with (go_at_call 90;refine O.out.mono ?_;rintro e w3 ⟨rfl,hb⟩;have D:=Qq (M.out.thn hb);have N:=Qq ((hb.block w (Z8 G.out)).trans G.out);clear hb)
  refine (H1.out _ D.out (Z8 N.out)).mono ?_
  rintro e w4 ⟨rfl,hb⟩
  exact ⟨rfl,rfl,D.out.thn hb⟩
theorem op_log (g:Nat) (lb:Array Value) (eg:∀ args w,(callFunc g args).run prog w=.ok (.enter g args) w) (S0:Nat→Prop) (o:Bs) (b:Bool) (u v:Val) (w:World) (ho:Pf o b) (hS0:∀ b,S0 b→b≠w.heap.size) (hk:u.kind=2) (hn:(u.n==1)=b) (hk2:v.kind=2) (h0:∀ W,Below w w W→w<W.heap.size→Calls prog g (#[.int .i64 0]++lb) W (Xy S0 W (some u))) (h1:∀ W,Below w w W→w<W.heap.size→Calls prog g (#[.int .i64 1]++lb) W (Xy S0 W (some v))):
  Calls prog 140 #[o,.func (.func g) #[] lb,.int .i64 2] w (Xy S0 w (some (Xr (v.n==1)))):=by
 obtain ⟨H0,H1,HM⟩:=Qqo h0 h1 X8
 have HT:=Qq (fun U W (T:Z9 S0 W U u)=>Uf S0 u U W T hk)
 rw [hn] at HT
 have aH:=Qq hS0
 have aB:=Qq (fun U W (T:Z9 S0 W U v)=>Uf S0 v U W T hk2)
 have D:=Qq (Uv (v.n==1) S0)
 obtain ⟨r,N⟩:=eX (Xr (v.n==1))
 rw [N] at D ⊢
 obtain ⟨d,hd⟩:=eX ((v.n==1))
 simp only [hd] at aB D
 clear h0 h1 hk hn hk2 N hd hS0
 rcases ho with ⟨rfl,rfl⟩ | ⟨rfl,rfl⟩
 all_goals
  go_enter func140,ntmps140
  go_wp2_with (go_at_call 134;refine (HM.out _).mono ?_;rintro e w' ⟨rfl,rfl⟩)
  refine (H0.out _ (Zg _ _) Qqk).mono ?_
  rintro e w1 ⟨U,rfl,T,I⟩
  obtain ⟨a3,aM,a4,aN,A,_⟩:=Z9.cells T
  simp only [vcs] at A
  subst A
  obtain ⟨Y,aC,HU⟩:=Qqo ((I.block w Qqk).trans (Qw w _)) ((Zg w _).thn I) T
  clear T I
  have aI:=Qq (HT.out _ w1 HU.out)
  go_wp2_with (go_at_call 90;refine aI.out.mono ?_;rintro e w3 ⟨rfl,hb⟩;have V:=Qq (aC.out.thn hb);have G:=Qq ((hb.block w (Z8 Y.out)).trans Y.out);clear hb)
  refine (H1.out _ V.out (Z8 G.out)).mono ?_
  rintro e w4 ⟨cv,rfl,hv,J⟩
  obtain ⟨b3,aO,b4,aP,A,_⟩:=Z9.cells hv
  simp only [vcs] at A
  subst A
  obtain ⟨aJ,aD,Z⟩:=Qqo (aB.out _ w4 hv) (V.out.thn J) ((J.block w (Z8 G.out)).trans G.out)
  clear hv J
  go_wp2_with (first
   | (go_at_call 135;refine (D.out _).mono ?_;rintro e w6 ⟨cr,rfl,O,M⟩;obtain ⟨q3,l3,q4,l4,A,_⟩:=Z9.cells O;simp only [vcs] at A;subst A;have aF:=Qq M;have aK:=Qq O;have N:=(M.block w (Z8 aA.out)).trans aA.out;have aG:=Qq N;have fz:=fun j=>Qn _ _ j _ _ N;obtain ⟨f0,f1,f2,f3,f4⟩:=Qzj fz;have rr:=fun j=>Qk _ _ j _ _ _ N;obtain ⟨r0,r1,r2,r3,r4⟩:=Qzj rr;simp only [Qf,Qg,Qh] at r0 r1 r2 r3 r4;clear fz rr N O M)
   | (go_at_call 90;refine aJ.out.mono ?_;rintro e w5 ⟨rfl,hb⟩;have aA:=Qq ((hb.block w (Z8 Z.out)).trans Z.out);have aE:=Qq (aD.out.thn hb);clear hb))
  show bodyPost _ _ _ _ _ (Qqm w6 w r q3 l3 q4 l4)
  refine Q7 (v:=.agg (Qqg r q3 l3 q4 l4)) (by simp [results,results140,go_sem,Zd aG.out]) rfl ⟨_,rfl,?_,Zc (aE.out.thn aF.out) (Q9 _)⟩
  exact Z9.move aK.out (fun b hb _=>Zf (by have:=aH.out b hb;omega)) Qzx
end Go.Proofs.YtdpibdpbgokmoaaGreatDoor
