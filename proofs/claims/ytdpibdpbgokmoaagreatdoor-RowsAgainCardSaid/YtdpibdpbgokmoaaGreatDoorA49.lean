import Derived.Test.YtdpibdpbgokmoaaGreatDoorA48
import Derived.Test.YtdpibdpbgokmoaaGreatDoorA40
import Derived.Test.YtdpibdpbgokmoaaGreatDoorA38
set_option maxRecDepth 100000
set_option maxHeartbeats 400000000
namespace Go.Proofs.YtdpibdpbgokmoaaGreatDoor
open Go.RowKit Go.Shelf Go.Lib Tryz
theorem sat_no (S0 S1:Nat->Prop) (t:Tbl) (v:Val) (ct cr:List Value) (w:World) (ht0:Zn.R S0 w ct t) (hr0:Z9 S1 w cr v) (hsi:Vw t.check=false):
  Calls prog 37 #[ct,cr] w λe w'=>e=.returned (.bool false)/\Below w w w':=by
 have ht:Zn.R (λb=>b<w) w ct t:=Zn.mono ht0 (λb hb _=>hb)
 obtain ⟨V,U,Z,Y,aH,aG,k9,aI,n9,aJ,aD,aA,N,aE,aB,O,aF,aC,T,a9,z9,A,_,_,_,_,I⟩:=Yq ht
 simp only [AL] at A
 subst A
 obtain ⟨p3,k3,p4,k4,A,_⟩:=Z9.cells hr0
 simp only [Il] at A
 subst A
 have G:=Qq (λW (hb:Below w w W)=>hsi ▸ Ot t.check _ _ W (Yx.move I (.f hb) Ij))
 clear ht ht0 hr0 I hsi
 go_enter_defers func37,ntmps37
 go_wp2_with fail
 refine (G.o _ (Xt _ _ _ _)).mono ?_
 rintro e w1 ⟨rfl,D⟩
 have J:=(D.block (w+1+1) Ib).trans (Zi w _ _ _)
 have M:=Qq ((Xt w _ _ _).n D)
 have H2:=Qq J
 have f0:=fA 0 J;have r0:=AB J
 clear D J G
 go_wp2_with fail
 have hc:(w1.setCell ⟨w+1+1,0,none⟩ (.bool false)).cell? ⟨w+1+1,0,none⟩=some (.bool false):=by
  rw [Qk _ _ 0 _ _ _ (Qi _ _ _ _ _ _ H2.o)]
  rfl
 have hb:Below w w (w1.setCell ⟨w+1+1,0,none⟩ (.bool false)):=M.o.setCell (p:=⟨w+1+1,0,none⟩) (by show w<=w.heap.size+1+1;omega) _
 simp [bodyPostD,Leaves,results,results37,go_sem,hc,hb]
def nmT:List Bs:=[[97],[98],[99],[100],[101]]
def kdT (A B:Int) (C:Bs) (D:Int) (E:Val):List Val:=[Y5 A,Y5 B,.mk 1 0 C [] [],.mk 2 D [] [] [],E]
def Gj:Option Val->Bool
 | some v=>decide (v.kind=2/\v.n=1)
 | none=>false
section
variable {d:Nat} {A B:Int} {C:Bs} {D:Int} {E:Val} {x y:Ex} {ns:List Bs} {vs:List Val} {u v:Val} {o:Bs}
theorem Uc (b:Bool):Gj (some (V6 b))=b:=by cases b <;> rfl
variable (A B C D E)
theorem rs_3:Y0 8 (Gen.check 3) nmT (kdT A B C D E)=some (V6 (decide (Zu (Y5 A) (Y5 (IntKind.i64.wrap (B+IntKind.i64.wrap (1*1))))<=0))):=rfl
theorem rs_4 (hD:D=0\/D=1):Gj (Y0 8 (Gen.check 4) nmT (kdT A B C D E))=(decide (D=1)||decide (Zu (.mk 1 0 C [] []) (Er [97,98])≠0)):=by
 rcases hD with rfl | rfl
 ·exact Uc _
 rfl
theorem rs_5 (hD:D=0\/D=1):Gj (Y0 8 (Gen.check 5) nmT (kdT A B C D E))=if D=1 then decide (Zu (Y5 A) (Y5 B)<0) else decide (Zu (.mk 1 0 C [] []) (.mk 1 0 C [] [])=0):=by
 rcases hD with rfl | rfl
 ·exact Uc _
 exact Uc _
theorem rs_6r:Y0 8 (Gen.check 6) nmT (kdT A B C D (.mk 3 0 [82,101,100] [] []))=some (V6 true):=rfl
theorem rs_6d (n:Int):Y0 8 (Gen.check 6) nmT (kdT A B C D (.mk 3 0 [68,97,114,107] [] [Y5 n]))=some (V6 (decide (Zu (Y5 n) (Y5 B)<0))):=rfl
theorem rs_7:Y0 8 (Gen.check 7) nmT (kdT A B C D E)=some (V6 (decide (Zu (Y5 1) (Y5 A)<0))):=rfl
theorem rs_8 (hD:D=0\/D=1):Gj (Y0 8 (Gen.check 8) nmT (kdT A B C D E))=(decide (Zu (Y5 (IntKind.i64.wrap (A - B))) (Y5 1)<0)&&decide (D=0)):=by
 have h:∀ b:Bool,(if (V6 b).kind=2 then (if (V6 b).n=0 then some (V6 b) else (some (V6 (decide (D=0)))).bind λv=>if v.kind=2 then some v else none) else none)=some (V6 (b&&decide (D=0))):=by
  intro b;rcases hD with rfl | rfl <;> cases b <;> rfl
 have e:Y0 8 (Gen.check 8) nmT (kdT A B C D E)=(if (V6 (decide (Zu (Y5 (IntKind.i64.wrap (A - B))) (Y5 1)<0))).kind=2 then (if (V6 (decide (Zu (Y5 (IntKind.i64.wrap (A - B))) (Y5 1)<0))).n=0 then some (V6 (decide (Zu (Y5 (IntKind.i64.wrap (A - B))) (Y5 1)<0))) else (some (V6 (decide (D=0)))).bind λv=>if v.kind=2 then some v else none) else none):=rfl
 rw [e,h,Uc]
theorem rs_9:Y0 8 (Gen.check 9) nmT (kdT A B C D E)=if C.length+C.length<=4096 then some (V6 (decide (Zu (Er (C++C)) (Er [])=0))) else none:=by
 have e:Y0 8 (Gen.check 9) nmT (kdT A B C D E)=(if (Val.mk 1 0 C [] []).kind=1/\(Val.mk 1 0 C [] []).kind=1/\C.length+C.length<=4096 then some (Er (C++C)) else none).bind λu=>(some (Er [])).bind λv=>two [61,61] u v:=rfl
 rw [e]
 by_cases h:C.length+C.length<=4096
 ·rw [if_pos ⟨rfl,rfl,h⟩,if_pos h];rfl
 rw [if_neg (λh2=>h h2.2.2),if_neg h];rfl
theorem rs_10 (hD:D=0\/D=1):Gj (Y0 8 (Gen.check 10) nmT (kdT A B C D E))=false:=by
 rcases hD with rfl | rfl <;> rfl
theorem rs_11:Y0 8 (Gen.check 11) nmT (kdT A B C D E)=some (V6 (decide (Zu (.mk 5 0 [] [] [Y5 A,Y5 B]) (.mk 5 0 [] [] [Y5 1,Y5 A])≠0))):=rfl
end
theorem enK:∀ args w,(callFunc 132 args).run prog w=.ok (.enter 132 args) w:=enters_of func132 Ir rfl
section
variable {env:List (Bs × Val)} {x y:Ex} {u v:Val}
theorem Ja {nm:Bs} (h:Ld nm env=some v):EvO (Gen.var nm) env (some v):=(Wi nm 0 [] [] [] [] 0 0 env v h).o
theorem evo_int (n:Int):EvO (Gen.int n) env (some (Y5 n)):=ev_int [] n [] [] [] [] 0 0 env
theorem An (s:Bs) (h:s.length<=4096):EvO (Gen.str s) env (some (.mk 1 0 s [] [])):=ev_text [] 0 s [] [] [] 0 0 env h
theorem evo_bool (n:Int):EvO (Gen.bool n) env (some (Vq (n==1))):=(Cz [] n [] [] [] [] 0 0 env).o
theorem J9 {o:Bs} {f:Int->Bool} (ho:Nk o f) (hx:EvO x env (some u)) (hy:EvO y env (some v)):EvO (Gen.op o [x,y]) env (some (Vq (f (Zu u v)))):=
 Eb o 0 [] [] [] [x,y] 0 0 env _ λlb S0 W hS H=>op_cmp _ lb enK S0 o f u v W hS ho (λA hb D=>H 0 x _ rfl hx A hb D) (λA hb D=>H 1 y _ rfl hy A hb D)
theorem Wd {o:Bs} {f:Int->Int->Int} (ho:IsAr o f) {a b:Int} (hx:EvO x env (some (Y5 a))) (hy:EvO y env (some (Y5 b))):EvO (Gen.op o [x,y]) env (some (Y5 (f a b))):=
 Eb o 0 [] [] [] [x,y] 0 0 env _ λlb S0 W hS H=>op_ar _ lb enK S0 o f (Y5 a) (Y5 b) W hS ho rfl rfl (λA hb D=>H 0 x _ rfl hx A hb D) (λA hb D=>H 1 y _ rfl hy A hb D)
theorem Qzp {o:Bs} {f:Int->Int->Int} (ho:IsAr o f) {a:Int} (hv:v.kind≠0) (hx:EvO x env (some (Y5 a))) (hy:EvO y env (some v)):EvO (Gen.op o [x,y]) env none:=
 Eb o 0 [] [] [] [x,y] 0 0 env none λlb S0 W _ H=>Qqx _ lb enK S0 o f (Y5 a) v W ho rfl hv (λA hb D=>H 0 x _ rfl hx A hb D) (λA hb D=>H 1 y _ rfl hy A hb D)
theorem evo_cat (hu:u.kind=1) (hv:v.kind=1) (hx:EvO x env (some u)) (hy:EvO y env (some v)):EvO (Gen.op [43,43] [x,y]) env (if u.s.length+v.s.length<=4096 then some (.mk 1 0 (u.s++v.s) [] []) else none):=
 Eb [43,43] 0 [] [] [] [x,y] 0 0 env _ λlb S0 W hS H=>op_cat _ lb enK S0 u v W hS hu hv (λA hb D=>H 0 x _ rfl hx A hb D) (λA hb D=>H 1 y _ rfl hy A hb D)
theorem evo_not (hu:u.kind=2) (hx:EvO x env (some u)):EvO (Gen.op [110,111,116] [x]) env (some (Vq (!(u.n==1)))):=
 Eb [110,111,116] 0 [] [] [] [x] 0 0 env _ λlb S0 W hS H=>op_not _ lb enK S0 u W hS hu (λW' hb hl=>H 0 x _ rfl hx W' hb hl)
theorem Cj {o:Bs} {b:Bool} (ho:Pm o b) (hu:u.kind=2) (hv:v.kind=2) (hx:EvO x env (some u)) (hy:EvO y env (some v)):EvO (Gen.op o [x,y]) env (some (Vq (if (u.n==1)=b then v.n==1 else !b))):=
 Eb o 0 [] [] [] [x,y] 0 0 env _ λlb S0 W hS H=>by
  by_cases h:(u.n==1)=b
  ·rw [if_pos h]
   exact op_log _ lb enK S0 o b u v W ho hS hu h hv (λA hb D=>H 0 x _ rfl hx A hb D) (λA hb D=>H 1 y _ rfl hy A hb D)
  rw [if_neg h]
  exact Gs _ lb enK S0 o b u W ho hS hu (by revert h;cases (u.n==1) <;> cases b <;> simp) (λA hb D=>H 0 x _ rfl hx A hb D)
theorem T1 {o:Bs} {b:Bool} (ho:Pm o b) (hu:u.kind=2) (hx:EvO x env (some u)) (hy:EvO y env none):EvO (Gen.op o [x,y]) env (if (u.n==1)=b then none else some (Vq (!b))):=
 Eb o 0 [] [] [] [x,y] 0 0 env _ λlb S0 W hS H=>by
  by_cases h:(u.n==1)=b
  ·rw [if_pos h]
   exact Wb _ lb enK S0 o b u W ho hu h (λA hb D=>H 0 x _ rfl hx A hb D) (λA hb D=>H 1 y _ rfl hy A hb D)
  rw [if_neg h]
  exact Gs _ lb enK S0 o b u W ho hS hu (by revert h;cases (u.n==1) <;> cases b <;> simp) (λA hb D=>H 0 x _ rfl hx A hb D)
end
theorem Bh (b:Bool):(Vq b).kind=2:=by cases b <;> rfl
def rowV (A B:Int) (C:Bs) (D:Int) (E:Val):Val:=Vf [[97],[98],[99],[100],[101]] [Y5 A,Y5 B,.mk 1 0 C [] [],.mk 2 D [] [] [],E]
def hueV (E:Val):Prop:=E=.mk 3 0 [82,101,100] [] []\/∃ n,E=.mk 3 0 [68,97,114,107] [] [Y5 n]
theorem Y7.kind1 {v:Val} (h:Y7 v) (hk:v.kind=1):∃ s,v=.mk 1 0 s [] []:=by
 cases h with
 | int n hb=>cases hk
 | text s=>exact ⟨s,rfl⟩
 | bool n hn=>cases hk
 | make s kids hs hl hk'=>cases hk
 | record names kids hl hn hs hk'=>cases hk
 | list kids hk'=>cases hk
theorem Y7.kind2 {v:Val} (h:Y7 v) (hk:v.kind=2):∃ n,v=.mk 2 n [] [] []/\(n=0\/n=1):=by
 cases h with
 | int n hb=>cases hk
 | text s=>cases hk
 | bool n hn=>exact ⟨n,rfl,hn⟩
 | make s kids hs hl hk'=>cases hk
 | record names kids hl hn hs hk'=>cases hk
 | list kids hk'=>cases hk
theorem Y7.hue {v:Val} (h:Y7 v) (hk:Hv [Gen.hue] v [72,117,101]=true):hueV v:=by
 unfold Hv at hk
 rw [Bool.and_eq_true] at hk
 obtain ⟨G,h4⟩:=hk
 have D:Jh Gen.hue v=true:=h4
 have A:=D
 cases h with
 | int n hb=>cases G
 | text s=>cases G
 | bool n hn=>cases G
 | make s kids hs hl hk'=>
  unfold Jh at D
  by_cases h1:[82,101,100]=s
  ·subst h1
   have I:decide (kids.length=0)=true:=D
   have:kids=[]:=Zy (of_decide_eq_true I)
   subst this
   exact .inl rfl
  by_cases h2:[68,97,114,107]=s
  ·subst h2
   match kids,hk',D with
   | [x],hk',D=>
    have I:(x.kind==0)=true:=D
    obtain ⟨n,rfl,_⟩:=(hk' x Ib).kind0 (by simpa using I)
    exact .inr ⟨n,rfl⟩
   | [],_,D=>cases D
   | _::_::_,_,D=>cases D
  have e:atP (λc:Ct=>decide (c.name=(Val.mk 3 0 s [] kids).s)) Gen.hue.ctors=none:=by
   unfold atP Gen.hue
   simp [List.findIdx?_cons,Val.s,h1,h2]
  have I:Jh Gen.hue (.mk 3 0 s [] kids)=false:=by
   unfold Jh
   rw [e]
  rw [I] at A
  cases A
 | record names kids hl hn hs hk'=>cases G
 | list kids hk'=>cases G
theorem row_t {t:Tbl} (hc:t.columns=[⟨[97],Gen.whole⟩,⟨[98],Gen.whole⟩,⟨[99],Gen.text⟩,⟨[100],Gen.yesno⟩,⟨[101],Gen.hueT⟩]) {v:Val} (hv:Y7 v) (h:Ui [Gen.hue] t v=true):∃ A B C D E,v=rowV A B C D E/\hueV E/\(D=0\/D=1):=by
 unfold Ui BP at h
 rw [hc,Bool.and_eq_true,Bool.and_eq_true] at h
 obtain ⟨⟨h1,h2⟩,h3⟩:=h
 have M:v.names=[[97],[98],[99],[100],[101]]:=Td h2
 have G:=hv.kidG
 obtain ⟨h4,J⟩:=Dg h3
 have I:v.kind=4:=by simpa using h1
 have hz:v.n=0/\v.s=[]:=by
  cases hv with
  | int n hb=>cases I
  | text s=>cases I
  | bool n M=>cases I
  | make s kids hs hl hk'=>cases I
  | record names kids hl M hs hk'=>exact ⟨rfl,rfl⟩
  | list kids hk'=>cases I
 obtain ⟨k,n,s,names,kids⟩:=v
 simp only [Val.kind,Val.n,Val.s,Val.names,Val.kids] at M I hz h4 J G
 obtain ⟨rfl,rfl⟩:=hz
 subst I;subst M
 match kids,h4,J,G with
 | [a,b,c,d,e],_,J,G=>
  have ha:(a.kind==0)=true:=J 0 _ _ rfl rfl
  have hb:(b.kind==0)=true:=J 1 _ _ rfl rfl
  have hc:(c.kind==1)=true:=J 2 _ _ rfl rfl
  have hd:(d.kind==2)=true:=J 3 _ _ rfl rfl
  have he:Hv [Gen.hue] e [72,117,101]=true:=J 4 _ _ rfl rfl
  obtain ⟨A,rfl,_⟩:=(G a Ib).kind0 (by simpa using ha)
  obtain ⟨B,rfl,_⟩:=(G b Ib).kind0 (by simpa using hb)
  obtain ⟨C,rfl⟩:=(G c Ib).kind1 (by simpa using hc)
  obtain ⟨D,rfl,hD⟩:=(G d Ib).kind2 (by simpa using hd)
  exact ⟨A,B,C,D,e,rfl,(G e Ib).hue he,hD⟩
def Oh (A B:Int) (C:Bs) (D:Int) (E:Val):List (Bs × Val):=[([101],E),([100],.mk 2 D [] [] []),([99],.mk 1 0 C [] []),([98],Y5 B),([97],Y5 A)]
theorem Qzo (A B:Int) (C:Bs) (D:Int) (E:Val):Fg (rowV A B C D E)=Oh A B C D E:=rfl
section
variable (A B:Int) (C:Bs) (D:Int) (E:Val)
theorem eva:EvO Gen.a (Oh A B C D E) (some (Y5 A)):=Ja rfl
theorem evb:EvO Gen.b (Oh A B C D E) (some (Y5 B)):=Ja rfl
theorem evc:EvO Gen.c (Oh A B C D E) (some (.mk 1 0 C [] [])):=Ja rfl
theorem evd:EvO Gen.d (Oh A B C D E) (some (.mk 2 D [] [] [])):=Ja rfl
theorem eve:EvO Gen.e (Oh A B C D E) (some E):=Ja rfl
theorem ev1 {env:List (Bs × Val)}:EvO Gen.one env (some (Y5 1)):=evo_int 1
theorem evy {env:List (Bs × Val)}:EvO Gen.yes env (some (Vq true)):=evo_bool 1
theorem Mo {env:List (Bs × Val)} {x y:Ex} {u v:Val} (hne:y≠x) (hx:EvO x env (some u)) (hy:EvO y env (some v)):EvO (.mk 9 [] 0 [] [] [] [x,y] 0 0) env (some (.mk 5 0 [] [] [u,v])):=by
 classical
 have h:=ev_list [] 0 [] [] [] [x,y] 0 0 env (λe=>if e=x then some u else some v) Ib (λe A=>by
  rcases Z3.1 A with rfl | A
  ·simp only [if_true];exact hx
  obtain rfl:=Z5.1 A
  simp only [if_neg hne];exact hy)
 have e:J2 (λe=>if e=x then some u else some v) [x,y]=some [u,v]:=by
  simp [J2,hne]
 rw [e] at h
 exact h
theorem So {env:List (Bs × Val)} {x y:Ex} {o:Bs} (ho:IsBin o) (hx:EvO x env none):EvO (Gen.op o [x,y]) env none:=
 Eb o 0 [] [] [] [x,y] 0 0 env none λlb S0 W _ H=>op_no0 _ lb enK S0 o W ho (λW' hb hl=>H 0 x _ rfl hx W' hb hl)
theorem Az {env:List (Bs × Val)} {u v:Val} (ha:EvO Gen.a env (some u)) (hb:EvO Gen.b env (some v)):EvO Gen.rec env (some (Vf [[120],[121]] [v,u])):=by
 classical
 refine ev_rec [] 0 [] [[121],[120]] [] [Gen.a,Gen.b] 0 0 env (λe=>if e=Gen.a then some u else some v) [u,v] _ (λe A=>?_) ?_ (rec_xy u v)
 ·rcases Z3.1 A with rfl | A
  ·simp only [if_true];exact ha
  obtain rfl:=Z5.1 A
  rw [if_neg (by simp [Gen.a,Gen.b,Gen.var])];exact hb
 have D:¬ Gen.b=Gen.a:=by simp [Gen.a,Gen.b,Gen.var]
 simp [J2,D]
theorem evo_fx {env:List (Bs × Val)} {u v:Val} (ha:EvO Gen.a env (some u)) (hb:EvO Gen.b env (some v)) (h1:EvO Gen.one env (some (Y5 1))):EvO (.mk 8 [120] 0 [] [] [] [Gen.wth] 0 0) env (some (Y5 1)):=
 Ro [120] 0 [] [] [] Gen.wth 0 0 env (Vf [[120],[121]] [Y5 1,u]) (Y5 1)
  (ev_with [] 0 [] [[120]] [] Gen.rec Gen.one 0 0 env (Vf [[120],[121]] [v,u]) (Y5 1) _ [120] rfl (Az ha hb) h1 rfl (λS S1 cv cy w h1 h2=>Qjl S S1 [120] [[121]] v [u] (Y5 1) cv cy w h1 h2)) rfl rfl
theorem evo_fy {env:List (Bs × Val)} {u v:Val} (ha:EvO Gen.a env (some u)) (hb:EvO Gen.b env (some v)):EvO (.mk 8 [121] 0 [] [] [] [Gen.rec] 0 0) env (some u):=
 Ro [121] 0 [] [] [] Gen.rec 0 0 env (Vf [[120],[121]] [v,u]) u (Az ha hb) rfl rfl
theorem isLt:Nk [60] λc=>decide (c<0):=.inr (.inr (.inl ⟨rfl,rfl⟩))
theorem isLe:Nk [60,61] λc=>decide (c<=0):=.inr (.inr (.inr ⟨rfl,rfl⟩))
theorem isEq:Nk [61,61] λc=>c==0:=.inl ⟨rfl,rfl⟩
theorem isNe:Nk [33,61] λc=>c != 0:=.inr (.inl ⟨rfl,rfl⟩)
theorem Bg (b:Bool):Ma (some (Vq b))=b:=by cases b <;> rfl
theorem chk_any (hD:D=0\/D=1) (hE:hueV E) (k:Nat) (hk:Vw (Gen.check k)=true):∃ r,EvO (Gen.check k) (Oh A B C D E) r/\Ma r=Gj (Y0 8 (Gen.check k) nmT (kdT A B C D E)):=by
 match k,hk with
 | 0,_=>exact ⟨_,evy,rfl⟩
 | 1,_=>exact ⟨_,evy,rfl⟩
 | 2,_=>exact ⟨_,evy,rfl⟩
 | 3,_=>
  refine ⟨_,J9 isLe (eva _ _ _ _ _) (Wd (.inl ⟨rfl,rfl⟩) (evb _ _ _ _ _) (Wd (.inr (.inr ⟨rfl,rfl⟩)) ev1 ev1)),?_⟩
  rw [rs_3,Uc]
  exact Bg _
 | 4,_=>
  refine ⟨_,Cj (b:=false) (.inr ⟨rfl,rfl⟩) rfl (Bh _) (evd _ _ _ _ _) (J9 isNe (evc _ _ _ _ _) (An _ Ih)),?_⟩
  rw [rs_4 _ _ _ _ _ hD]
  have h:∀ q:Int,Ma (some (Vq (if ((D==1)=false) then (Vq (q != 0)).n==1 else !false)))=(decide (D=1)||decide (q≠0)):=by
   intro q
   rcases hD with rfl | rfl
   ·by_cases hq:q=0 <;> simp [hq,Ma,Vq,Val.n,Val.kind]
   rfl
  exact h _
 | 5,_=>
  refine ⟨_,ev_if [] 0 [] [] [] _ _ _ 0 0 _ _ _ _ (evd _ _ _ _ _) (J9 isLt (eva _ _ _ _ _) (evb _ _ _ _ _)) (J9 isEq (evc _ _ _ _ _) (evc _ _ _ _ _)),?_⟩
  rw [rs_5 _ _ _ _ _ hD]
  rcases hD with rfl | rfl
  ·exact Bg _
  exact Bg _
 | 6,_=>
  refine ⟨_,ev_match [] 0 [] _ _ [110] _ _ _ 0 0 _ _ _ (λu=>some (Vq (decide (Zu u (Y5 B)<0)))) Ih (eve _ _ _ _ _) evy (λu=>J9 isLt (Ja rfl) (Ja rfl)),?_⟩
  rcases hE with rfl | ⟨n,rfl⟩
  ·rw [rs_6r];rfl
  rw [rs_6d,Uc]
  exact Bg _
 | 7,_=>
  refine ⟨_,J9 isLt (evo_fx (eva _ _ _ _ _) (evb _ _ _ _ _) ev1) (evo_fy (eva _ _ _ _ _) (evb _ _ _ _ _)),?_⟩
  rw [rs_7,Uc]
  exact Bg _
 | 8,_=>
  refine ⟨letR (some (Y5 (IntKind.i64.wrap (A - B)))) (some (Vq (if ((Vq (decide (Zu (Y5 (IntKind.i64.wrap (A - B))) (Y5 1)<0))).n==1)=true then (Vq (!(D==1))).n==1 else !true))),ev_let [97] 0 [] [] [] _ _ 0 0 _ _ _ (Wd (.inr (.inl ⟨rfl,rfl⟩)) (eva _ _ _ _ _) (evb _ _ _ _ _)) (λu hu=>by
   cases hu
   exact Cj (b:=true) (.inl ⟨rfl,rfl⟩) (Bh _) (Bh _) (J9 isLt (Ja rfl) ev1) (evo_not (u:=.mk 2 D [] [] []) rfl (Ja rfl))),?_⟩
  rw [rs_8 _ _ _ _ _ hD]
  have h:∀ q:Bool,Ma (some (Vq (if ((Vq q).n==1)=true then (Vq (!(D==1))).n==1 else !true)))=(q&&decide (D=0)):=by
   intro q
   rcases hD with rfl | rfl <;> cases q <;> rfl
  exact h _
 | 9,_=>
  have h:EvO (Gen.op [43,43] [Gen.c,Gen.c]) (Oh A B C D E) (if C.length+C.length<=4096 then some (.mk 1 0 (C++C) [] []) else none):=evo_cat (env:=Oh A B C D E) (x:=Gen.c) (y:=Gen.c) rfl rfl (evc A B C D E) (evc A B C D E)
  rw [rs_9]
  by_cases hl:C.length+C.length<=4096
  ·rw [if_pos hl] at h |-
   refine ⟨_,J9 isEq h (An _ Ih),?_⟩
   rw [Uc]
   exact Bg _
  rw [if_neg hl] at h |-
  exact ⟨none,So ⟨rfl,rfl,rfl⟩ h,rfl⟩
 | 10,_=>
  refine ⟨_,T1 (b:=true) (.inl ⟨rfl,rfl⟩) rfl (evd _ _ _ _ _) (Qzp (v:=.mk 1 0 C [] []) (.inl ⟨rfl,rfl⟩) (by simp [Val.kind]) (eva _ _ _ _ _) (evc _ _ _ _ _)),?_⟩
  rw [rs_10 _ _ _ _ _ hD]
  rcases hD with rfl | rfl <;> rfl
 | 11,_=>
  refine ⟨_,J9 isNe (Mo (by simp [Gen.a,Gen.b,Gen.var]) (eva _ _ _ _ _) (evb _ _ _ _ _)) (Mo (by simp [Gen.a,Gen.one,Gen.var,Gen.int]) ev1 (eva _ _ _ _ _)),?_⟩
  rw [rs_11,Uc]
  have h:∀ q:Int,Ma (some (Vq (q != 0)))=decide (q≠0):=by
   intro q
   by_cases hq:q=0 <;> simp [hq,Ma,Vq,Val.n,Val.kind]
  exact h _
 | k+12,hk=>exact absurd hk (by simp [Gen.check,Vw])
end
theorem sat_t {t:Tbl} {k:Nat} (hc:t.columns=[⟨[97],Gen.whole⟩,⟨[98],Gen.whole⟩,⟨[99],Gen.text⟩,⟨[100],Gen.yesno⟩,⟨[101],Gen.hueT⟩]) (hk:t.check=Gen.check k) {v:Val} (hv:Y7 v) (h:Ui [Gen.hue] t v=true):Ec t v (Vl 8 t v):=by
 obtain ⟨A,B,C,D,E,rfl,hE,hD⟩:=row_t hc hv h
 have e:Vl 8 t (rowV A B C D E)=(Vw (Gen.check k)&&Gj (Y0 8 (Gen.check k) nmT (kdT A B C D E))):=by
  unfold Vl;rw [hk];rfl
 rw [e]
 cases hs:Vw (Gen.check k) with
 | true=>
  obtain ⟨r,hr,hq⟩:=chk_any A B C D E hD hE k hs
  rw [Bool.true_and,<- hq]
  exact λG I M J w h0 N O=>Aj G I t _ M J r w N O (by rw [hk];exact hs) (by rw [hk,Qzo];exact hr) (by simp [rowV,Vf,Val.names,Val.kids]) h0
 | false=>exact λG I M J w _ N O=>sat_no G I t _ M J w N O (by rw [hk];exact hs)
theorem Ae {t:Tbl} (hk:t.check=Gen.yes) {v:Val} (hv:Y7 v):Ec t v (Vl 8 t v):=by
 have e:Vl 8 t v=Ma (some (Vq true)):=by unfold Vl;rw [hk];rfl
 rw [e]
 exact λS0 S1 ct cr w h0 h1 h2=>Aj S0 S1 t _ ct cr _ w h1 h2 (by rw [hk];rfl) (by rw [hk];exact evy) hv.lens.1 h0
theorem R5 (S:Nat->Prop) (v:Value) (l:List Int) (w:World) (hs:V5 S w v l) (hi:Kz l):
  Calls prog 17 #[v,Ic] w (J7 w (Gen.check (Xk l 0 13).toNat)):=by
 obtain ⟨h1,h2⟩:=L7 l 0 13 Ia
 obtain ⟨z,A⟩:=eX (Xk l 0 13)
 rw [A] at h1 h2
 have h:z=0\/z=1\/z=2\/z=3\/z=4\/z=5\/z=6\/z=7\/z=8\/z=9\/z=10\/z=11\/z=12:=Ia
 rcases h with h | h | h | h | h | h | h | h | h | h | h | h | h
 ·rw [A,h];exact Nt S v l w hs hi (by rw [A,h])
 ·rw [A,h];exact No S v l w hs hi (by rw [A,h])
 ·rw [A,h];exact O4 S v l w hs hi (by rw [A,h])
 ·rw [A,h];exact Qqo S v l w hs hi (by rw [A,h])
 ·rw [A,h];exact Qza S v l w hs hi (by rw [A,h])
 ·rw [A,h];exact Qzn S v l w hs hi (by rw [A,h])
 ·rw [A,h];exact Qjv S v l w hs hi (by rw [A,h])
 ·rw [A,h];exact Qqc S v l w hs hi (by rw [A,h])
 ·rw [A,h];exact Ce S v l w hs hi (by rw [A,h])
 ·rw [A,h];exact C6 S v l w hs hi (by rw [A,h])
 ·rw [A,h];exact St S v l w hs hi (by rw [A,h])
 ·rw [A,h];exact Sg S v l w hs hi (by rw [A,h])
 rw [A,h];exact Sn S v l w hs hi (by rw [A,h])
end Go.Proofs.YtdpibdpbgokmoaaGreatDoor
