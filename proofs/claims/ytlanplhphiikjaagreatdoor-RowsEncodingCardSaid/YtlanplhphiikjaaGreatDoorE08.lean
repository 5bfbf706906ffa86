import Derived.Test.YtlanplhphiikjaaGreatDoorE06
import Derived.Test.YtlanplhphiikjaaGreatDoorE07
set_option maxRecDepth 100000
set_option maxHeartbeats 400000000
namespace Go.Proofs.YtlanplhphiikjaaGreatDoor
open Go.RowKit Go.Shelf Go.Lib Tryz
inductive X6:Val->Prop
 | int (n:Int) (hb:-1000000<=n/\n<=1000000):X6 (.mk 0 n [] [] [])
 | text (s:Bs):X6 (.mk 1 0 s [] [])
 | bool (n:Int) (hn:n=0\/n=1):X6 (.mk 2 n [] [] [])
 | make (s:Bs) (kids:List Val) (hs:Bq s) (hl:kids.length<=1) (hk:∀ k ∈ kids,X6 k):X6 (.mk 3 0 s [] kids)
 | record (names:List Bs) (kids:List Val) (hl:names.length=kids.length) (hn:∀ x ∈ names,V8 x) (hs:∀ (i:Nat) (x y:Bs),names[i]?=some x->names[i+1]?=some y->Yg x y<0) (hk:∀ k ∈ kids,X6 k):X6 (.mk 4 0 [] names kids)
 | list (kids:List Val) (hk:∀ k ∈ kids,X6 k):X6 (.mk 5 0 [] [] kids)
def Pf (v:Val):Prop:=∀ (S:Nat->Prop) (cs:List Value) (w:World),Za S w cs v->Vp w->Calls prog 88 #[cs] w fun e w'=>e=.returned (.bool true)/\Below w w w'
theorem Ad (v:Val) (hv:Pf v) (S:Nat->Prop) (cs:List Value) (w:World) (h:Za S w cs v) (hT:Vp w):
  Calls prog 139 #[cs] w fun e w'=>e=.returned (.bool false)/\Below w w w':=by
 have HV:=Qq (fun W (hb:Below w w W)=>hv S cs W (h.move (.of_below hb) Qyv) (hT.below hb))
 obtain ⟨p3,k3,p4,k4,A,_⟩:=Za.cells h
 simp only [vcs] at A
 subst A
 clear h hv hT
 go_enter func139,ntmps139
 go_wp2_with (go_at_call 88;refine (HV.out _ (Ze _ _)).mono ?_;rintro e w' ⟨rfl,hw⟩)
 go_ret
 exact ⟨rfl,(Ze _ _).thn hw⟩
theorem Jd (kids:List Val) (hk:∀ k ∈ kids,Pf k) (S:Nat->Prop) (v:Value) (w:World) (h:Sl Zc S w v kids) (hT:Vp w):
  Calls prog 94 #[v,.func (.func 139) #[] #[]] w fun e w'=>e=.returned (.bool false)/\Below w w w':=by
 have:=Co Tryz.cfVal Zc isAgg48 sizeOf48 139 #[] (enters_of func139 Qxx rfl) S v kids w (fun _=>false) h
  (fun W x cs hb hx hr=>Ad x (hk x hx) S cs W hr (hT.below hb))
 rwa [show kids.any (fun _=>false)=false by induction kids <;> simp_all] at this
theorem Nq (a b:Bs) (h:Yg a b<0):Op.bytesLess a b=true:=by
 rw [(Vc a b).1];simpa using h
theorem Nc (v:Val) (hv:X6 v):Pf v:=by
 induction hv with
 | int n=>
  intro S cs w h M
  obtain ⟨p3,k3,p4,k4,A,_,D,_⟩:=Za.cells h
  simp only [vcs,Val.kind,Val.n,Val.s,Val.names,Val.kids,List.length_nil] at A
  subst A
  have J:=Qq (fun W (hb:Below w w W)=>Jd [] (fun k D=>by simp at D) S _ W (D.below hb) (M.below hb))
  simp only [Val.kids,List.length_nil] at J
  clear h D M
  go_enter func88,ntmps88
  go_wp2_with (go_at_call 94;refine (J.out _ (Ze _ _)).mono ?_;rintro e w' ⟨rfl,I⟩)
  go_ret
  exact ⟨rfl,(Ze _ _).thn I⟩
 | text s=>
  intro S cs w h M
  obtain ⟨p3,k3,p4,k4,A,_,D,_⟩:=Za.cells h
  simp only [vcs,Val.kind,Val.n,Val.s,Val.names,Val.kids,List.length_nil] at A
  subst A
  have J:=Qq (fun W (hb:Below w w W)=>Jd [] (fun k D=>by simp at D) S _ W (D.below hb) (M.below hb))
  simp only [Val.kids,List.length_nil] at J
  clear h D M
  go_enter func88,ntmps88
  go_wp2_with (go_at_call 94;refine (J.out _ (Ze _ _)).mono ?_;rintro e w' ⟨rfl,I⟩)
  go_ret
  exact ⟨rfl,(Ze _ _).thn I⟩
 | bool n hn=>
  intro S cs w h M
  obtain ⟨p3,k3,p4,k4,A,_,D,_⟩:=Za.cells h
  simp only [vcs,Val.kind,Val.n,Val.s,Val.names,Val.kids,List.length_nil] at A
  subst A
  have J:=Qq (fun W (hb:Below w w W)=>Jd [] (fun k D=>by simp at D) S _ W (D.below hb) (M.below hb))
  simp only [Val.kids,List.length_nil] at J
  clear h D M
  rcases hn with rfl | rfl
  all_goals
   go_enter func88,ntmps88
   go_wp2_with (go_at_call 94;refine (J.out _ (Ze _ _)).mono ?_;rintro e w' ⟨rfl,I⟩)
   go_ret
   exact ⟨rfl,(Ze _ _).thn I⟩
 | make s kids hs hl hkk ih=>
  intro S cs w h M
  obtain ⟨p3,k3,p4,k4,A,_,D,_⟩:=Za.cells h
  simp only [vcs,Val.kind,Val.n,Val.s,Val.names,Val.kids,List.length_nil] at A
  subst A
  have J:=Qq (fun W (hb:Below w w W)=>Jd kids ih S _ W (D.below hb) (M.below hb))
  have HC:=Qq (fun W=>Qka s hs W)
  simp only [Val.kids] at J
  unfold sv at HC
  have bB:decide ((kids.length:Int)<=1)=true:=by simp;omega
  clear h D M ih hkk hs
  go_enter func88,ntmps88
  go_wp2_with fail
  refine (HC.out _).mono ?_
  rintro e w1 ⟨rfl,I⟩
  have c4:=(I.cell (p:=⟨w,4,none⟩) Qxz).trans (Qk _ _ 4 _ _ _ (Qw w _))
  simp only [Qf,Qg,Qh] at c4
  have HW:=Qq ((Ze w _).thn I)
  clear I
  go_wp2_with (go_at_call 94;refine (J.out _ HW.out).mono ?_;rintro e w' ⟨rfl,I⟩)
  go_ret
  exact ⟨rfl,HW.out.thn I⟩
 | list kids hkk ih=>
  intro S cs w h M
  obtain ⟨p3,k3,p4,k4,A,_,D,_⟩:=Za.cells h
  simp only [vcs,Val.kind,Val.n,Val.s,Val.names,Val.kids,List.length_nil] at A
  subst A
  have J:=Qq (fun W (hb:Below w w W)=>Jd kids ih S _ W (D.below hb) (M.below hb))
  simp only [Val.kids] at J
  clear h D M ih hkk
  go_enter func88,ntmps88
  go_wp2_with (go_at_call 94;refine (J.out _ (Ze _ _)).mono ?_;rintro e w' ⟨rfl,I⟩)
  go_ret
  exact ⟨rfl,(Ze _ _).thn I⟩
 | record names kids hl hn hs hkk ih=>
  intro S cs w h M
  obtain ⟨p3,k3,p4,k4,A,T,D,_⟩:=Za.cells h
  simp only [vcs,Val.kind,Val.n,Val.s,Val.names,Val.kids] at A T
  rw [hl] at A T
  subst A
  have J:=Qq (fun W (hb:Below w w W)=>Jd kids ih S _ W (D.below hb) (M.below hb))
  obtain ⟨HN,HW,HS,HL,HT⟩:=Qxp T hn hs hl M
  simp only [Val.kids] at J
  have aV:kids.length<=1000000:=by obtain ⟨_,_,_,h⟩:=T.len;omega
  clear h D M ih hkk hn hs hl T
  generalize kids.length=n at J HN HL aV |-
  go_enter func88,ntmps88
  go_wp2_with fail
  obtain ⟨W1,V⟩:=eX (w.alloc (.cells #[.int .i64 4,Qxc,Qxd,.slice p3 n k3,.slice p4 n k4] 48))
  rw [V]
  have aG:=eqB V (Ze _ _)
  have aF:=eqH (b:=w.heap.size) V (Qw _ _)
  have aL:=Qq aG;have aO:=Qq aF
  clear V aG aF
  go_loopw [3,93] (fun ok i wr=>∃ k:Nat,k<=n/\i=.int .i64 k/\ok=.bool true/\Below W1 W1 wr) (fun _ i _=>n - (intOf i).toNat)
  case atStart=>exact ⟨0,Q8 _,rfl,rfl,Qz _ _⟩
  obtain ⟨k,bA,rfl,rfl,U⟩:=hrel
  have Y:=kB U aO.out
  have aP:=Z8 Y
  have c4:=rA4 Y;have c3:=rA3 Y
  have O:=Qq (aL.out.thn U);have Z:=Qq U
  clear U Y
  by_cases hlt:k<n
  ·have aS:(0:Int)<=(k:Int):=Qvu
   have aT:(k:Int)<(n:Int):=Qvu
   obtain ⟨x,hx⟩:∃ x,names[k]?=some x:=⟨_,Qx (by rw [HL.out];exact hlt)⟩
   obtain ⟨b,off,rfl,hc,-⟩:=(HN.out.below O.out).str hx
   have N:=Qq (Wb x (HW.out x (Qy hx)) wr (HT.out.below O.out))
   unfold sv at N
   cases k with
   | zero=>
    clear hx
    rw [show ((0:Nat):Int)=0 from rfl] at aS aT |-
    rw [Nat.add_zero] at hc
    go_wp2_with (go_at_call 138;refine N.out.mono ?_;rintro e w' ⟨rfl,I⟩;have aA:=Qq I;clear I)
    go_roundw
    case measure=>simp [intOf];omega
    case rel=>exact ⟨1,Qvu,rfl,rfl,Z.out.thn aA.out⟩
   | succ k'=>
    obtain ⟨y,hy⟩:∃ y,names[k']?=some y:=⟨_,Qx (by rw [HL.out];omega)⟩
    obtain ⟨b',aJ,he,aR,-⟩:=(HN.out.below O.out).str hy
    obtain ⟨rfl,rfl,-⟩:b=b'/\off=aJ/\True:=by simpa using he
    have aU:=Nq y x (HS.out k' y x hy hx)
    have aQ:=Qv wr _ hc
    have aX:(0:Int)<=(k':Int):=Qvu
    have aY:(k':Int)<(n:Int):=Qvu
    have aZ:((k':Int)+1==0)=false:=by simp;omega
    clear hx hy he
    go_wp2_with fail
    refine N.out.mono ?_
    rintro e w2 ⟨rfl,I⟩
    have d3:=kD I aP c3
    have dc:=kD I aQ aR
    have aA:=Qq I
    clear I
    go_wp2_with fail
    go_roundw
    case measure=>simp [intOf];omega
    case rel=>exact ⟨k'+1+1,Qvu,by go_num,rfl,Z.out.thn aA.out⟩
  have aH:k=n:=Qvu
  subst aH
  go_wp2_with (go_at_call 94;refine (J.out _ O.out).mono ?_;rintro e w' ⟨rfl,I⟩)
  go_ret
  exact ⟨rfl,O.out.thn I⟩
def eqL {A B:Type} (p:A->B->Bool):List A->List B->Bool
 | [],[]=>true
 | x::s,y::t=>p x y&&eqL p s t
 | _,_=>false
theorem Ut {A B:Type} (p:A->B->Bool):∀ (a:List A) (b:List B),a.length≠b.length->eqL p a b=false
 | [],[],h=>absurd rfl h
 | [],_::_,_=>rfl
 | _::_,[],_=>rfl
 | x::s,y::t,h=>by unfold eqL;rw [Ut p s t (fun e=>h (by simp [e])),Bool.and_false]
theorem Qko {S:Nat->Prop} {w:World} {cs:List Value} {x:Rel} (h:Yx.R S w cs x):∃ p c,cs=[.string ⟨x.table.toArray⟩,.slice p x.rows.length c]:=by
 obtain ⟨v,rfl,_,h2⟩:=h
 obtain ⟨p,c,rfl,_⟩:=h2.len
 exact ⟨p,c,rfl⟩
theorem eqFValTy (g:Nat) (lb:Array Value) (eg:∀ args w,(callFunc g args).run prog w=.ok (.enter g args) w) (S:Nat->Prop) (va vb:Value) (a:List Val) (b:List Ty) (w:World) (ha:Sl Zc S w va a) (hb:Sl Jo S w vb b) (p:Val->Ty->Bool)
  (hp:∀ (W:World) (x:Val) (y:Ty) (cx cy:List Value),Below w w W->x ∈ a->y ∈ b->Zc.R S W cx x->Jo.R S W cy y->Calls prog g (#[.agg cx.toArray,.agg cy.toArray]++lb) W fun e w'=>e=.returned (.bool (p x y))/\Below W W w'):
  Calls prog 176 #[va,vb,.func (.func g) #[] lb] w fun e w'=>e=.returned (.bool (eqL p a b))/\Below w w w':=by
 obtain ⟨pa,ca,rfl,aK⟩:=ha.len
 obtain ⟨pb,cb,rfl,aL⟩:=hb.len
 obtain ⟨HA,HB,HP⟩:=Qxn ha hb hp
 clear ha hb hp
 by_cases hn:a.length=b.length
 ·obtain ⟨n,T⟩:=eX (b.length)
  rw [T] at hn aL HB
  rw [hn] at HA aK
  rw [hn,T]
  obtain ⟨r,hr⟩:=eX (eqL p a b)
  rw [hr]
  obtain ⟨HR,Z,aA⟩:=Qxn hr hn T
  clear hr hn T
  go_enter func176,ntmps176
  go_wp2_with fail
  go_loopw [17] (fun i wr=>∃ k:Nat,k<=n/\i=.int .i64 k/\Aside (eqL p (a.drop k) (b.drop k)=r)/\Below w w wr) (fun i _=>n - (intOf i).toNat)
  case atStart=>exact ⟨0,Q8 _,rfl,HR.out,Qz _ _⟩
  obtain ⟨k,aU,rfl,hE,aB⟩:=hrel
  have D:=Qq aB
  clear aB
  by_cases hlt:k<n
  ·have aS:(0:Int)<=(k:Int):=Qvu
   have aT:(k:Int)<(n:Int):=Qvu
   have N:k<a.length:=by rw [Z.out];exact hlt
   have O:k<b.length:=by rw [aA.out];exact hlt
   obtain ⟨x,hx⟩:∃ x,a[k]?=some x:=⟨_,Qx N⟩
   obtain ⟨y,hy⟩:∃ y,b[k]?=some y:=⟨_,Qx O⟩
   have aD:a.drop k=x::a.drop (k+1):=by rw [Qp N];rw [Qx N] at hx;cases hx;rfl
   have aE:b.drop k=y::b.drop (k+1):=by rw [Qp O];rw [Qx O] at hy;cases hy;rfl
   obtain ⟨ba,oa,cx,rfl,aQ,-,-,V,I⟩:=(HA.out.below D.out).elem hx
   obtain ⟨bb,ob,cy,rfl,aR,-,-,Y,J⟩:=(HB.out.below D.out).elem hy
   have A:=Qq (fun W (h:Below wr wr W)=>HP.out W x y cx cy (D.out.thn h) (Qy hx) (Qy hy) (Zc.frame V (.of_below h)) (Jo.frame Y (.of_below h)))
   obtain ⟨bB,aV,bD,aX,U,_⟩:=Za.cells V;simp only [vcs] at U;subst U
   obtain ⟨ky,sy,ny,bC,aZ,aW,bE,bA,aY,rfl⟩:=Xc.cells Y
   have d0:=I 0 _ rfl;have d1:=I 1 _ rfl;have d2:=I 2 _ rfl;have d3:=I 3 _ rfl;have d4:=I 4 _ rfl
   have e0:=J 0 _ rfl;have e1:=J 1 _ rfl;have e2:=J 2 _ rfl;have e3:=J 3 _ rfl;have e4:=J 4 _ rfl
   simp only [show Zc.k=5 from rfl,Nat.add_zero] at d0 d1 d2 d3 d4
   simp only [show Jo.k=5 from rfl,Nat.add_zero] at e0 e1 e2 e3 e4
   have aC:(p x y&&eqL p (a.drop (k+1)) (b.drop (k+1)))=r:=by have:=hE.out;rw [aD,aE] at this;exact this
   have M:=Qq aC
   clear hE aC aD aE N O hx hy V Y I J
   cases hq:p x y with
   | true=>
    rw [hq] at A M
    go_wp2_with (go_at_fn g;refine (A.out _ (Zu _ _ _)).mono ?_;rintro e w' ⟨rfl,hw⟩;have HW:=Qq (D.out.thn ((Zu wr _ _).thn hw));clear hw)
    go_roundw
    case measure=>simp [intOf];omega
    case rel=>exact ⟨k+1,Qvu,by go_num,(show Aside _ from by have:=M.out;rwa [Bool.true_and] at this),HW.out⟩
   | false=>
    rw [hq] at A M
    have aO:r=false:=by have:=M.out;rw [Bool.false_and] at this;exact this.symm
    subst aO
    go_wp2_with (go_at_fn g;refine (A.out _ (Zu _ _ _)).mono ?_;rintro e w' ⟨rfl,hw⟩;have HW:=Qq (D.out.thn ((Zu wr _ _).thn hw));clear hw)
    go_ret
    exact ⟨rfl,HW.out⟩
  have aP:r=true:=by
   have:=hE.out
   rw [Qu (by rw [Z.out];omega),Qu (by rw [aA.out];omega)] at this
   exact this.symm
  subst aP
  clear hE
  go_wp2_with fail
  go_ret
  exact ⟨rfl,D.out⟩
 rw [Ut p a b hn]
 have hq:((a.length:Int) != (b.length:Int))=true:=by rw [bne_iff_ne];omega
 clear hn
 go_enter func176,ntmps176
 go_wp2_with fail
 go_ret
 exact ⟨rfl,Qz _ _⟩
theorem Qkg (g:Nat) (lb:Array Value) (eg:∀ args w,(callFunc g args).run prog w=.ok (.enter g args) w) (S:Nat->Prop) (va vb:Value) (a:List Val) (b:List Val) (w:World) (ha:Sl Zc S w va a) (hb:Sl Zc S w vb b) (p:Val->Val->Bool)
  (hp:∀ (W:World) (x:Val) (y:Val) (cx cy:List Value),Below w w W->x ∈ a->y ∈ b->Zc.R S W cx x->Zc.R S W cy y->Calls prog g (#[.agg cx.toArray,.agg cy.toArray]++lb) W fun e w'=>e=.returned (.bool (p x y))/\Below W W w'):
  Calls prog 184 #[va,vb,.func (.func g) #[] lb] w fun e w'=>e=.returned (.bool (eqL p a b))/\Below w w w':=by
 obtain ⟨pa,ca,rfl,aL⟩:=ha.len
 obtain ⟨pb,cb,rfl,aM⟩:=hb.len
 obtain ⟨HA,HB,HP⟩:=Qxn ha hb hp
 clear ha hb hp
 by_cases hn:a.length=b.length
 ·obtain ⟨n,T⟩:=eX (b.length)
  rw [T] at hn aM HB
  rw [hn] at HA aL
  rw [hn,T]
  obtain ⟨r,hr⟩:=eX (eqL p a b)
  rw [hr]
  obtain ⟨HR,aA,aB⟩:=Qxn hr hn T
  clear hr hn T
  go_enter func184,ntmps184
  go_wp2_with fail
  go_loopw [17] (fun i wr=>∃ k:Nat,k<=n/\i=.int .i64 k/\Aside (eqL p (a.drop k) (b.drop k)=r)/\Below w w wr) (fun i _=>n - (intOf i).toNat)
  case atStart=>exact ⟨0,Q8 _,rfl,HR.out,Qz _ _⟩
  obtain ⟨k,aV,rfl,hE,aC⟩:=hrel
  have D:=Qq aC
  clear aC
  by_cases hlt:k<n
  ·have aT:(0:Int)<=(k:Int):=Qvu
   have aU:(k:Int)<(n:Int):=Qvu
   have N:k<a.length:=by rw [aA.out];exact hlt
   have O:k<b.length:=by rw [aB.out];exact hlt
   obtain ⟨x,hx⟩:∃ x,a[k]?=some x:=⟨_,Qx N⟩
   obtain ⟨y,hy⟩:∃ y,b[k]?=some y:=⟨_,Qx O⟩
   have aE:a.drop k=x::a.drop (k+1):=by rw [Qp N];rw [Qx N] at hx;cases hx;rfl
   have aF:b.drop k=y::b.drop (k+1):=by rw [Qp O];rw [Qx O] at hy;cases hy;rfl
   obtain ⟨ba,oa,cx,rfl,aR,-,-,Y,I⟩:=(HA.out.below D.out).elem hx
   obtain ⟨bb,ob,cy,rfl,aS,-,-,Z,J⟩:=(HB.out.below D.out).elem hy
   have A:=Qq (fun W (h:Below wr wr W)=>HP.out W x y cx cy (D.out.thn h) (Qy hx) (Qy hy) (Zc.frame Y (.of_below h)) (Zc.frame Z (.of_below h)))
   obtain ⟨bA,aW,bC,aY,U,_⟩:=Za.cells Y;simp only [vcs] at U;subst U
   obtain ⟨bB,aX,bD,aZ,V,_⟩:=Za.cells Z;simp only [vcs] at V;subst V
   have d0:=I 0 _ rfl;have d1:=I 1 _ rfl;have d2:=I 2 _ rfl;have d3:=I 3 _ rfl;have d4:=I 4 _ rfl
   have e0:=J 0 _ rfl;have e1:=J 1 _ rfl;have e2:=J 2 _ rfl;have e3:=J 3 _ rfl;have e4:=J 4 _ rfl
   simp only [show Zc.k=5 from rfl,Nat.add_zero] at d0 d1 d2 d3 d4
   simp only [show Zc.k=5 from rfl,Nat.add_zero] at e0 e1 e2 e3 e4
   have aD:(p x y&&eqL p (a.drop (k+1)) (b.drop (k+1)))=r:=by have:=hE.out;rw [aE,aF] at this;exact this
   have M:=Qq aD
   clear hE aD aE aF N O hx hy Y Z I J
   cases hq:p x y with
   | true=>
    rw [hq] at A M
    go_wp2_with (go_at_fn g;refine (A.out _ (Zu _ _ _)).mono ?_;rintro e w' ⟨rfl,hw⟩;have HW:=Qq (D.out.thn ((Zu wr _ _).thn hw));clear hw)
    go_roundw
    case measure=>simp [intOf];omega
    case rel=>exact ⟨k+1,Qvu,by go_num,(show Aside _ from by have:=M.out;rwa [Bool.true_and] at this),HW.out⟩
   | false=>
    rw [hq] at A M
    have aP:r=false:=by have:=M.out;rw [Bool.false_and] at this;exact this.symm
    subst aP
    go_wp2_with (go_at_fn g;refine (A.out _ (Zu _ _ _)).mono ?_;rintro e w' ⟨rfl,hw⟩;have HW:=Qq (D.out.thn ((Zu wr _ _).thn hw));clear hw)
    go_ret
    exact ⟨rfl,HW.out⟩
  have aQ:r=true:=by
   have:=hE.out
   rw [Qu (by rw [aA.out];omega),Qu (by rw [aB.out];omega)] at this
   exact this.symm
  subst aQ
  clear hE
  go_wp2_with fail
  go_ret
  exact ⟨rfl,D.out⟩
 rw [Ut p a b hn]
 have hq:((a.length:Int) != (b.length:Int))=true:=by rw [bne_iff_ne];omega
 clear hn
 go_enter func184,ntmps184
 go_wp2_with fail
 go_ret
 exact ⟨rfl,Qz _ _⟩
theorem Qqx (g:Nat) (lb:Array Value) (eg:∀ args w,(callFunc g args).run prog w=.ok (.enter g args) w) (S:Nat->Prop) (va vb:Value) (a:List Tbl) (b:List Rel) (w:World) (ha:Sl Zl S w va a) (hb:Sl Yx S w vb b) (p:Tbl->Rel->Bool)
  (hp:∀ (W:World) (x:Tbl) (y:Rel) (cx cy:List Value),Below w w W->x ∈ a->y ∈ b->Zl.R S W cx x->Yx.R S W cy y->Calls prog g (#[.agg cx.toArray,.agg cy.toArray]++lb) W fun e w'=>e=.returned (.bool (p x y))/\Below W W w'):
  Calls prog 111 #[va,vb,.func (.func g) #[] lb] w fun e w'=>e=.returned (.bool (eqL p a b))/\Below w w w':=by
 obtain ⟨pa,ca,rfl,aN⟩:=ha.len
 obtain ⟨pb,cb,rfl,aO⟩:=hb.len
 obtain ⟨HA,HB,HP⟩:=Qxn ha hb hp
 clear ha hb hp
 by_cases hn:a.length=b.length
 ·obtain ⟨n,O⟩:=eX (b.length)
  rw [O] at hn aO HB
  rw [hn] at HA aN
  rw [hn,O]
  obtain ⟨r,hr⟩:=eX (eqL p a b)
  rw [hr]
  obtain ⟨HR,Z,aA⟩:=Qxn hr hn O
  clear hr hn O
  go_enter func111,ntmps111
  go_wp2_with fail
  go_loopw [17] (fun i wr=>∃ k:Nat,k<=n/\i=.int .i64 k/\Aside (eqL p (a.drop k) (b.drop k)=r)/\Below w w wr) (fun i _=>n - (intOf i).toNat)
  case atStart=>exact ⟨0,Q8 _,rfl,HR.out,Qz _ _⟩
  obtain ⟨k,bC,rfl,hE,aB⟩:=hrel
  have I:=Qq aB
  clear aB
  by_cases hlt:k<n
  ·have bA:(0:Int)<=(k:Int):=Qvu
   have bB:(k:Int)<(n:Int):=Qvu
   have M:k<a.length:=by rw [Z.out];exact hlt
   have N:k<b.length:=by rw [aA.out];exact hlt
   obtain ⟨x,hx⟩:∃ x,a[k]?=some x:=⟨_,Qx M⟩
   obtain ⟨y,hy⟩:∃ y,b[k]?=some y:=⟨_,Qx N⟩
   have aD:a.drop k=x::a.drop (k+1):=by rw [Qp M];rw [Qx M] at hx;cases hx;rfl
   have aE:b.drop k=y::b.drop (k+1):=by rw [Qp N];rw [Qx N] at hy;cases hy;rfl
   obtain ⟨ba,oa,cx,rfl,aY,-,-,V,A⟩:=(HA.out.below I.out).elem hx
   obtain ⟨bb,ob,cy,rfl,aZ,-,-,Y,U⟩:=(HB.out.below I.out).elem hy
   have D:=Qq (fun W (h:Below wr wr W)=>HP.out W x y cx cy (I.out.thn h) (Qy hx) (Qy hy) (Zl.frame V (.of_below h)) (Yx.frame Y (.of_below h)))
   obtain ⟨aX,aW,bE,bD,bN,bL,kx,bP,nx,bQ,bI,bF,aT,bJ,bG,aU,bK,bH,aV,ax,zx,T,_⟩:=Yj V;simp only [tcs] at T;subst T
   obtain ⟨bO,bM,rfl⟩:=Qko Y
   have d0:=A 0 _ rfl;have d1:=A 1 _ rfl;have d2:=A 2 _ rfl;have d3:=A 3 _ rfl;have d4:=A 4 _ rfl;have d5:=A 5 _ rfl;have d6:=A 6 _ rfl;have d7:=A 7 _ rfl;have d8:=A 8 _ rfl;have d9:=A 9 _ rfl;have aK:=A 10 _ rfl;have aL:=A 11 _ rfl;have aM:=A 12 _ rfl
   have e0:=U 0 _ rfl;have e1:=U 1 _ rfl
   simp only [show Zl.k=13 from rfl,Nat.add_zero] at d0 d1 d2 d3 d4 d5 d6 d7 d8 d9 aK aL aM
   simp only [show Yx.k=2 from rfl,Nat.add_zero] at e0 e1
   have aC:(p x y&&eqL p (a.drop (k+1)) (b.drop (k+1)))=r:=by have:=hE.out;rw [aD,aE] at this;exact this
   have J:=Qq aC
   clear hE aC aD aE M N hx hy V Y A U
   cases hq:p x y with
   | true=>
    rw [hq] at D J
    go_wp2_with (go_at_fn g;refine (D.out _ (Zu _ _ _)).mono ?_;rintro e w' ⟨rfl,hw⟩;have HW:=Qq (I.out.thn ((Zu wr _ _).thn hw));clear hw)
    go_roundw
    case measure=>simp [intOf];omega
    case rel=>exact ⟨k+1,Qvu,by go_num,(show Aside _ from by have:=J.out;rwa [Bool.true_and] at this),HW.out⟩
   | false=>
    rw [hq] at D J
    have aR:r=false:=by have:=J.out;rw [Bool.false_and] at this;exact this.symm
    subst aR
    go_wp2_with (go_at_fn g;refine (D.out _ (Zu _ _ _)).mono ?_;rintro e w' ⟨rfl,hw⟩;have HW:=Qq (I.out.thn ((Zu wr _ _).thn hw));clear hw)
    go_ret
    exact ⟨rfl,HW.out⟩
  have aS:r=true:=by
   have:=hE.out
   rw [Qu (by rw [Z.out];omega),Qu (by rw [aA.out];omega)] at this
   exact this.symm
  subst aS
  clear hE
  go_wp2_with fail
  go_ret
  exact ⟨rfl,I.out⟩
 rw [Ut p a b hn]
 have hq:((a.length:Int) != (b.length:Int))=true:=by rw [bne_iff_ne];omega
 clear hn
 go_enter func111,ntmps111
 go_wp2_with fail
 go_ret
 exact ⟨rfl,Qz _ _⟩
theorem Qkn (S:Nat->Prop) (va vb:Value) (a b:List Bs) (w:World) (ha:Sl Zg S w va a) (hb:Sl Zg S w vb b):
  Calls prog 175 #[va,vb] w fun e w'=>e=.returned (.bool (eqL (fun x y=>decide (x=y)) a b))/\Below w w w':=by
 obtain ⟨pa,ca,rfl,aD⟩:=ha.len
 obtain ⟨pb,cb,rfl,aE⟩:=hb.len
 have HA:=Qq ha;have HB:=Qq hb
 clear ha hb
 by_cases hn:a.length=b.length
 ·obtain ⟨n,J⟩:=eX (b.length)
  rw [J] at hn aE HB
  rw [hn] at HA aD
  rw [hn,J]
  obtain ⟨r,hr⟩:=eX (eqL (fun (x y:Bs)=>decide (x=y)) a b)
  rw [hr]
  obtain ⟨HR,O,T⟩:=Qxn hr hn J
  clear hr hn J
  go_enter func175,ntmps175
  go_wp2_with fail
  go_loopw [13] (fun i wr=>∃ k:Nat,k<=n/\i=.int .i64 k/\Aside (eqL (fun (x y:Bs)=>decide (x=y)) (a.drop k) (b.drop k)=r)/\Below w w wr) (fun i _=>n - (intOf i).toNat)
  case atStart=>exact ⟨0,Q8 _,rfl,HR.out,Qz _ _⟩
  obtain ⟨k,aL,rfl,hE,U⟩:=hrel
  have A:=Qq U
  clear U
  by_cases hlt:k<n
  ·have aJ:(0:Int)<=(k:Int):=Qvu
   have aK:(k:Int)<(n:Int):=Qvu
   have D:k<a.length:=by rw [O.out];exact hlt
   have I:k<b.length:=by rw [T.out];exact hlt
   obtain ⟨x,hx⟩:∃ x,a[k]?=some x:=⟨_,Qx D⟩
   obtain ⟨y,hy⟩:∃ y,b[k]?=some y:=⟨_,Qx I⟩
   have Y:a.drop k=x::a.drop (k+1):=by rw [Qp D];rw [Qx D] at hx;cases hx;rfl
   have Z:b.drop k=y::b.drop (k+1):=by rw [Qp I];rw [Qx I] at hy;cases hy;rfl
   obtain ⟨ba,oa,rfl,c1,-⟩:=(HA.out.below A.out).str hx
   obtain ⟨bb,ob,rfl,c2,-⟩:=(HB.out.below A.out).str hy
   have V:(decide (x=y)&&eqL (fun (x y:Bs)=>decide (x=y)) (a.drop (k+1)) (b.drop (k+1)))=r:=by have:=hE.out;rw [Y,Z] at this;exact this
   have N:=Qq V
   clear hE V Y Z D I hx hy
   by_cases M:x=y
   ·subst M
    have aF:(x != x)=false:=Qxz
    go_wp2_with fail
    go_quiet (fail)
    go_wp2
    go_roundw
    case measure=>simp [intOf];omega
    case rel=>exact ⟨k+1,Qvu,by go_num,(show Aside _ from by have:=N.out;simp at this;exact this),A.out.thn (Zn _ _)⟩
   have aF:(x != y)=true:=by rw [bne_iff_ne];exact M
   have aH:r=false:=by have:=N.out;rw [decide_eq_false M,Bool.false_and] at this;exact this.symm
   subst aH
   have aM:(x==y)=false:=by rw [<- Qt,beq_iff_eq];exact M
   clear M
   go_wp2_with fail
   go_quiet (fail)
   go_wp2
   go_ret
   exact ⟨rfl,A.out.thn (Zn _ _)⟩
  have aI:r=true:=by
   have:=hE.out
   rw [Qu (by rw [O.out];omega),Qu (by rw [T.out];omega)] at this
   exact this.symm
  subst aI
  clear hE
  go_wp2_with fail
  go_ret
  exact ⟨rfl,A.out⟩
 rw [Ut _ a b hn]
 have M:((a.length:Int) != (b.length:Int))=true:=by rw [bne_iff_ne];omega
 clear hn
 go_enter func175,ntmps175
 go_wp2_with fail
 go_ret
 exact ⟨rfl,Qz _ _⟩
theorem U8 (w:World) (o p q:Obj):Below w w (((w.alloc o).alloc p).alloc q):=(Zu w o p).alloc (Zu w o p).size _
theorem Yz (w:World) (A B C:Obj):(((w.alloc A).alloc B).alloc C).heap[w.heap.size+2]?=some C:=by
 have e:((w.alloc A).alloc B).heap.size=w.heap.size+2:=Qxz
 rw [<- e];exact Qw _ _
def Bb (us:List Sm) (v:Val) (t:Ty) (b:Bool):Prop:=∀ (S S' S'':Nat->Prop) (cv ct:List Value) (ps:Option Addr) (ns cs:Nat) (w:World),Sl Ka S'' w (.slice ps ns cs) us->Za S w cv v->Xc S' w ct t ->
 Calls prog 118 #[.slice ps ns cs,cv,ct] w fun e w'=>e=.returned (.bool b)/\Below w w w'
theorem Xc.cells' {S:Nat->Prop} {w:World} {cs:List Value} {k n:Int} {s:Bs} {names:List Bs} {kids:List Ty} (h:Xc S w cs (.mk k s n names kids)):∃ p3 k3 p4 k4,cs=[.int .i64 k,.string ⟨s.toArray⟩,.int .i64 n,.slice p3 names.length k3,.slice p4 kids.length k4]/\Sl Zg S w (.slice p3 names.length k3) names/\Sl Jo S w (.slice p4 kids.length k4) kids:=by
 obtain ⟨nv,kv,rfl,hs,hn,hk⟩:=Rn.1 h
 obtain ⟨p3,k3,rfl,_⟩:=hn.len
 obtain ⟨p4,k4,rfl,_⟩:=hk.len
 exact ⟨p3,k3,p4,k4,rfl,hn,hk⟩
theorem hasLeaf (us:List Sm) (v:Val) (k:Int) (hk:k=0\/k=1\/k=2) (s:Bs) (n:Int) (names:List Bs) (kids:List Ty):Bb us v (.mk k s n names kids) (v.kind==k):=by
 intro S S' I cv ct ps ns cs w D hv ht
 obtain ⟨p3,k3,p4,k4,A,_⟩:=Za.cells hv
 simp only [vcs] at A
 subst A
 obtain ⟨q3,l3,q4,l4,rfl,_⟩:=ht.cells'
 clear hv ht D
 rcases hk with rfl | rfl | rfl
 all_goals
  go_enter func118,ntmps118
  go_wp2_with fail
  go_ret
  exact ⟨rfl,U8 _ _ _ _⟩
theorem has2_any (us:List Sm) (v:Val) (t:Ty) (b:Bool) (h:Bb us v t b) (S S' S'':Nat->Prop) (cv ct:List Value) (ps:Option Addr) (ns cs:Nat) (B:Nat) (w:World) (hsm:Sl Ka S'' w (.slice ps ns cs) us) (hv:Za S w cv v) (ht:Xc S' w ct t) (hc:w.cell? ⟨B,0,none⟩=some (.slice ps ns cs)):
  Calls prog 177 #[cv,ct,Qxb B] w fun e w'=>e=.returned (.bool b)/\Below w w w':=by
 have HH:=Qq (fun W (hb:Below w w W)=>h S S' S'' cv ct ps ns cs W (hsm.below hb) (hv.move (.of_below hb) Qyv) (ht.move (.of_below hb) Qyv))
 have hB:=Qv w _ hc
 obtain ⟨p3,k3,p4,k4,A,_⟩:=Za.cells hv
 simp only [vcs] at A
 subst A
 obtain ⟨_,_,_,_,_,_,_,_,_,rfl⟩:=ht.cells
 have D:B<w.heap.size:=hB
 have I:B<w.heap.size+1:=Qvu
 clear hv ht h hsm
 go_enter func177,ntmps177
 go_wp2_with (go_at_call 118;refine (HH.out _ (Zu _ _ _)).mono ?_;rintro e w' ⟨rfl,hw⟩)
 go_ret
 exact ⟨rfl,(Zu _ _ _).thn hw⟩
def hasR (p:Val->Ty->Bool) (v:Val) (names:List Bs) (kids:List Ty):Bool:=(v.kind==4)&&eqL (fun x y=>decide (x=y)) v.names names&&eqL p v.kids kids
theorem hasRec (us:List Sm) (v:Val) (s:Bs) (names:List Bs) (kids:List Ty) (p:Val->Ty->Bool) (hp:∀ x ∈ v.kids,∀ y ∈ kids,Bb us x y (p x y)):Bb us v (.mk 5 s 0 names kids) (hasR p v names kids):=by
 intro S0 aJ aI cv ct ps ns cs w A Z U
 have T:Sl Ka (fun b=>b<w) w (.slice ps ns cs) us:=A.mono (fun b hb _=>hb)
 have hv:Za (fun b=>b<w) w cv v:=Z.move (.refl _ _) (fun b hb _=>hb)
 have ht:Xc (fun b=>b<w) w ct (.mk 5 s 0 names kids):=U.move (.refl _ _) (fun b hb _=>hb)
 clear Z U A
 obtain ⟨p3,k3,p4,k4,O,aB,aA,_⟩:=Za.cells hv
 simp only [vcs] at O
 subst O
 obtain ⟨q3,l3,q4,l4,rfl,Y,V⟩:=ht.cells'
 have HN:=Qq (fun W (hb:Below w w W)=>Qkn _ _ _ v.names names W (aB.below hb) (Y.below hb))
 have HE:=Qq (fun W (hb:Below w w W) (hc:W.cell? ⟨w,0,none⟩=some (.slice ps ns cs))=>eqFValTy 177 #[Qxb w] (enters_of func177 Qxx rfl) _ _ _ v.kids kids W (aA.below hb) (V.below hb) p
  (fun W' x y cx cy N hx hy h1 h2=>has2_any us x y _ (hp x hx y hy) _ _ _ cx cy ps ns cs w W' ((T.below hb).below N) h1 h2 (kD N (Qv W _ hc) hc)))
 have hR:hasR p v names kids=((v.kind==4)&&eqL (fun x y=>decide (x=y)) v.names names&&eqL p v.kids kids):=rfl
 rw [hR]
 generalize eqL (fun (x y:Bs)=>decide (x=y)) v.names names=bn at HN |-
 generalize eqL p v.kids kids=bk at HE |-
 clear hv ht aB aA Y V hp hR T
 by_cases h4:v.kind=4
 ·rw [h4]
  have hq:((4:Int)==4)=true:=rfl
  rw [hq]
  go_enter func118,ntmps118
  go_wp2_with fail
  refine (HN.out _ (U8 _ _ _ _)).mono ?_
  rintro e w1 ⟨rfl,D⟩
  have I:=(D.block w (by simp;omega)).trans ((Below.heap_alloc _ _ _ (by simp;omega)).trans (Q5 w _ _))
  have J:=(D.block (w+1) Qxz).trans ((Below.heap_alloc _ _ _ Qxz).trans (Q6 w _ _))
  have M:=(D.block (w+2) Qxz).trans (Yz w _ _ _)
  have c0:=rA0 I;have c4:=rA4 J;have d4:=rA4 M
  have HW:=Qq ((U8 w _ _ _).thn D)
  have aC:=Qq c0
  clear D I J M
  cases bn with
  | false=>
   go_wp2_with fail
   go_ret
   exact ⟨rfl,HW.out⟩
  | true=>
   go_wp2_with (go_at_call 176;refine (HE.out _ HW.out aC.out).mono ?_;rintro e w' ⟨rfl,D⟩;have aE:=Qq (HW.out.thn D);clear D)
   go_ret
   exact ⟨rfl,aE.out⟩
 have hq:(v.kind==4)=false:=by simpa using h4
 rw [hq]
 clear h4
 go_enter func118,ntmps118
 go_wp2_with fail
 go_ret
 exact ⟨rfl,U8 _ _ _ _⟩
theorem hasGood (us:List Sm) (v:Val) (t:Ty) (b:Bool) (hg:X6 v) (h:Bb us v t b) (S S' S'':Nat->Prop) (cv ct:List Value) (ps:Option Addr) (ns cs:Nat) (w:World) (hsm:Sl Ka S'' w (.slice ps ns cs) us) (hv:Za S w cv v) (ht:Xc S' w ct t) (hT:Vp w):
  Calls prog 64 #[.slice ps ns cs,cv,ct] w fun e w'=>e=.returned (.bool b)/\Below w w w':=by
 have HV:=Qq (fun W (hb:Below w w W)=>Nc v hg S cv W (hv.move (.of_below hb) Qyv) (hT.below hb))
 have HH:=Qq (fun W (hb:Below w w W)=>h S S' S'' cv ct ps ns cs W (hsm.below hb) (hv.move (.of_below hb) Qyv) (ht.move (.of_below hb) Qyv))
 obtain ⟨p3,k3,p4,k4,J,_⟩:=Za.cells hv
 simp only [vcs] at J
 subst J
 obtain ⟨y1,y2,y3,y4,y5,y6,y7,y8,y9,rfl⟩:=ht.cells
 clear hv ht h hg hT hsm
 go_enter func64,ntmps64
 go_wp2_with fail
 refine (HV.out _ (Zu _ _ _)).mono ?_
 rintro e w1 ⟨rfl,I⟩
 have A:=(I.block w (by simp;omega)).trans (Q5 w _ _)
 have D:=(I.block (w+1) Qxz).trans (Q6 w _ _)
 have c0:=rA0 A;have c1:=rA1 A;have c2:=rA2 A;have c3:=rA3 A;have c4:=rA4 A;have d0:=rA0 D;have d1:=rA1 D;have d2:=rA2 D;have d3:=rA3 D;have d4:=rA4 D
 have HW:=Qq ((Zu w _ _).thn I)
 clear I A D
 go_wp2_with (go_at_call 118;refine (HH.out _ HW.out).mono ?_;rintro e w' ⟨rfl,I⟩)
 go_ret
 exact ⟨rfl,HW.out.thn I⟩
def Tm:List Bs:=[[116,121,112,101],[116,97,98,108,101],[107,101,121],[114,101,102],[116,111],[99,104,101,99,107],[102,117,110],[112,114,111,99],[108,101,116],[105,110],[105,102],[116,104,101,110],[101,108,115,101],[109,97,116,99,104],[105,110,115,101,114,116],[100,101,108,101,116,101],[97,115],[119,104,101,114,101],[117,112,100,97,116,101],[115,101,116],[119,105,116,104],[97,110,100],[111,114],[110,111,116],[116,114,117,101],[102,97,108,115,101]]
theorem kwsR_eq (l:Bs):Tm.contains l=Ff l:=by
 unfold Ff
 rw [Bool.eq_iff_iff,List.contains_iff_mem,List.contains_iff_mem]
 have h1:∀ x ∈ Tm,x ∈ kws:=Qxv
 have h2:∀ x ∈ kws,x ∈ Tm:=Qxv
 exact ⟨h1 l,h2 l⟩
theorem Ou (w:World):Calls prog 308 #[] w fun e w'=>e=.returned (.slice (some ⟨w,0,none⟩) 26 26)/\w'=w.alloc (.cells (svs Tm).toArray 9):=by
 go_enter func308,ntmps308
 go_wp2
 go_ret
 exact ⟨rfl,rfl⟩
theorem svs_get (ls:List Bs) (i:Nat) (h:i<ls.length):(svs ls)[i]?=some (.string ⟨(ls.getD i []).toArray⟩):=by
 simp only [svs,List.getElem?_map,Qx h,Option.map_some,Qs,Option.getD_some]
 rfl
theorem Tp (ls:List Bs) (b c:Nat) (s:ByteArray) (w:World) (hl:ls.length<=1000000) (hr:w.rangeAt b 0 (svs ls)):
  Calls prog 307 #[Qxa b 0 ls.length c,.string s] w fun e w'=>e=.returned (.bool (ls.contains (bl s)))/\w=w':=by
 have HR:=Qq hr;clear hr
 obtain ⟨n,V⟩:=eX (ls.length)
 rw [V] at hl |-
 have N:=Qq V;clear V
 obtain ⟨R,O⟩:=eX (ls.contains (bl s))
 rw [O]
 have I:=Qq O;clear O
 go_enter func307,ntmps307
 go_wp2
 go_loop [5] (fun i=>∃ k:Nat,k<=n/\(∀ j,j<k->ls[j]?≠some (bl s))/\i=.int .i64 k) (fun i=>n - (intOf i).toNat)
 case atStart=>exact ⟨0,Q8 _,fun j T=>Qvu,rfl⟩
 obtain ⟨k,hk,J,rfl⟩:=hrel
 have D:=Qq J;clear J
 by_cases hlt:k<n
 ·obtain ⟨x,Y⟩:∃ x:ByteArray,(⟨(ls.getD k []).toArray⟩:ByteArray)=x:=⟨_,rfl⟩
  have hc:w.cell? ⟨b,k,none⟩=some (.string x):=by
   have:=HR.out k _ (svs_get ls k (by rw [N.out];exact hlt))
   rw [Nat.zero_add,Y] at this;exact this
  have hg:ls[k]?=some (bl x):=by
   have U:k<ls.length:=by rw [N.out];exact hlt
   rw [<- Y,B5,Qs,Qx U];rfl
  have HG:=Qq hg;clear hg Y
  by_cases he:bl x=bl s
  ·have hb:(x.toList==s.toList)=true:=by rw [Lib.toList_data,Lib.toList_data];simpa using he
   have M:=Qq he;clear he
   go_wp2
   go_ret
   have e:R=true:=by
    rw [<- I.out,<- M.out];exact List.contains_iff_mem.2 (Qy HG.out)
   exact ⟨by rw [e];rfl,rfl⟩
  have hb:(x.toList==s.toList)=false:=by rw [Lib.toList_data,Lib.toList_data];simpa using he
  have M:=Qq he;clear he
  go_wp2
  go_round
  case rel=>
   refine ⟨k+1,Qvu,fun j T A=>?_,by go_num⟩
   by_cases hjk:j=k
   ·subst hjk;rw [HG.out] at A;exact M.out (Qb A)
   exact D.out j Qvu A
  case measure=>simp [intOf];omega
 go_wp2
 go_ret
 have e:R=false:=by
  rw [<- I.out,<- Qt]
  intro hc
  obtain ⟨j,T,e⟩:=List.getElem_of_mem (List.contains_iff_mem.1 hc)
  exact D.out j (Qxj N.out) (by rw [Qx T,e])
 exact ⟨by rw [e];rfl,rfl⟩
theorem Rm (s:ByteArray) (w:World):Calls prog 291 #[.string s] w fun e w'=>e=.returned (.bool (Ff (bl s)))/\Below w w w':=by
 have hk:=kwsR_eq (bl s)
 have h2:∀ w:World,Calls prog 307 #[Qxa w 0 26 26,.string s] (w.alloc (.cells (svs Tm).toArray 9)) fun e w'=>e=.returned (.bool (Ff (bl s)))/\(w.alloc (.cells (svs Tm).toArray 9))=w':=by
  intro w
  rw [<- hk]
  exact Tp Tm w 26 s _ Qxv (fun j v hv=>by
   rw [Qk _ w (0+j) _ _ _ (Qw w _)]
   simpa using hv)
 have HK:=Qq h2;clear h2 hk
 go_enter func291,ntmps291
 go_wp2_with (first | (go_at_call 308;refine (Ou _).mono ?_;rintro e w' ⟨rfl,rfl⟩) | (go_at_call 307;refine (HK.out _).mono ?_;rintro e w' ⟨rfl,rfl⟩))
 go_ret
 exact ⟨rfl,(Qz _ _).alloc (Q9 _) _⟩
def Ud (c:UInt8):Nat:=if Fe c then 0 else if Dl c then 1 else if Bx c then 2 else if Fv c then 3 else if c==95 then 4 else 5
def clsI (n:Int):Int:=if n=9\/n=10\/n=13\/n=32 then 0 else if 97<=n/\n<=122 then 1 else if 65<=n/\n<=90 then 2 else if 48<=n/\n<=57 then 3 else if n=95 then 4 else 5
theorem clsI_eq (c:UInt8):((Ud c:Nat):Int)=clsI c.toNat:=by
 have A:=Dg c 95
 rw [show ((95:UInt8).toNat:Int)=95 from rfl] at A
 unfold Ud clsI
 rw [Gg,Bc,Lw,Pi,A]
 simp only [Bool.or_eq_true,beq_iff_eq,Bool.and_eq_true,decide_eq_true_eq]
 (repeat' split) <;> omega
theorem Qql (c:UInt8) (w:World):Calls prog 290 #[.int .u8 c.toNat] w fun e w'=>e=.returned (.int .i64 (Ud c))/\w=w':=by
 rw [clsI_eq]
 obtain ⟨n,hn⟩:∃ n:Int,(c.toNat:Int)=n:=⟨_,rfl⟩
 rw [hn]
 clear hn
 go_enter func290,ntmps290
 go_wp2
 all_goals (go_ret;refine ⟨Ys ?_,rfl⟩;unfold clsI)
 all_goals (try simp only [beq_iff_eq,beq_eq_false_iff_ne,ne_eq] at *)
 all_goals ((repeat' split) <;> omega)
theorem Pk (P:UInt8->Bool) (h:(List.range 256).all (fun n=>P (UInt8.ofNat n))=true) (c:UInt8):P c=true:=by
 have:=List.all_eq_true.1 h c.toNat (by simpa using c.toNat_lt)
 simpa using this
theorem cls_wo (c:UInt8):Jw c=decide (Ud c=1\/Ud c=3\/Ud c=4):=by
 have:=Pk (fun c=>Jw c==decide (Ud c=1\/Ud c=3\/Ud c=4)) (by decide +kernel) c
 simpa using this
theorem cls_na (c:UInt8):Bl c=decide (1<=Ud c/\Ud c<=3):=by
 have:=Pk (fun c=>Bl c==decide (1<=Ud c/\Ud c<=3)) (by decide +kernel) c
 simpa using this
theorem cls_lo (c:UInt8):Dl c=decide (Ud c=1):=by
 have:=Pk (fun c=>Dl c==decide (Ud c=1)) (by decide +kernel) c
 simpa using this
theorem cls_up (c:UInt8):Bx c=decide (Ud c=2):=by
 have:=Pk (fun c=>Bx c==decide (Ud c=2)) (by decide +kernel) c
 simpa using this
theorem Kd (c:UInt8) (v:Nat) (h:Ud c=v) (w:World):Calls prog 290 #[.int .u8 c.toNat] w fun e w'=>e=.returned (.int .i64 v)/\w=w':=by
 rw [<- h];exact Qql c w
theorem Wp (s:ByteArray) (a:Nat) (w:World) (hs:s.size<=16) (ha:a<s.size) (hcl:Ud (s[a]'ha)=1) (hall:∀ (k:Nat) (h:k<s.size),Ud (s[k]'h)=1\/Ud (s[k]'h)=3\/Ud (s[k]'h)=4) (hkw:Ff (bl (s.extract a s.size))=false):
  Calls prog 276 #[.string s,a] w fun e w'=>e=.returned (.tuple #[.int .i64 2,s.size])/\Below w w w':=by
 have J:=Qq hcl;clear hcl
 have I:=Qq hall;clear hall
 have D:=fun W=>Rm (s.extract a s.size) W
 rw [hkw] at D
 have M:=Qq D
 clear D hkw
 go_enter func276,ntmps276
 go_wp2_with (go_at_call 290;refine (Kd _ 1 J.out _).mono ?_;rintro e w' ⟨rfl,rfl⟩)
 go_loop [7] (fun i=>∃ k:Nat,a+1<=k/\k<=s.size/\i=.int .i64 k) (fun i=>s.size - (intOf i).toNat)
 case atStart=>exact ⟨a+1,Q9 _,ha,by go_num⟩
 obtain ⟨k,T,U,rfl⟩:=hrel
 by_cases hlt:k<s.size
 ·obtain ⟨v,O⟩:=eX (Ud (s[k]'hlt))
  have A:=I.out k hlt
  rw [O] at A
  have N:=Qq O;clear O
  rcases A with A | A | A
  ·have q0:((v:Int)==1)=true:=by simpa using (by omega:(v:Int)=1)
   clear A
   go_wp2_with (go_at_call 290;refine (Kd _ v N.out _).mono ?_;rintro e w' ⟨rfl,rfl⟩)
   go_round
   case rel=>exact ⟨k+1,Qvu,Qvu,by go_num⟩
   case measure=>simp [intOf];omega
  ·have q0:((v:Int)==1)=false:=by simpa using (by omega:¬ (v:Int)=1)
   have q1:((v:Int)==3)=true:=by simpa using (by omega:(v:Int)=3)
   clear A
   go_wp2_with (go_at_call 290;refine (Kd _ v N.out _).mono ?_;rintro e w' ⟨rfl,rfl⟩)
   go_round
   case rel=>exact ⟨k+1,Qvu,Qvu,by go_num⟩
   case measure=>simp [intOf];omega
  have q0:((v:Int)==1)=false:=by simpa using (by omega:¬ (v:Int)=1)
  have q1:((v:Int)==3)=false:=by simpa using (by omega:¬ (v:Int)=3)
  have q2:((v:Int)==4)=true:=by simpa using (by omega:(v:Int)=4)
  clear A
  go_wp2_with (go_at_call 290;refine (Kd _ v N.out _).mono ?_;rintro e w' ⟨rfl,rfl⟩)
  go_round
  case rel=>exact ⟨k+1,Qvu,Qvu,by go_num⟩
  case measure=>simp [intOf];omega
 obtain rfl:k=s.size:=Qvu
 go_wp2_with (go_at_call 291;refine (M.out _).mono ?_;rintro e w' ⟨rfl,hw⟩)
 go_ret2
 exact ⟨rfl,hw⟩
theorem Qvp (s:ByteArray) (a:Nat) (w:World) (hs:s.size<=16) (ha:a<s.size) (hcl:Ud (s[a]'ha)=2) (hall:∀ (k:Nat) (h:k<s.size),1<=Ud (s[k]'h)/\Ud (s[k]'h)<=3):
  Calls prog 276 #[.string s,a] w fun e w'=>e=.returned (.tuple #[.int .i64 3,s.size])/\Below w w w':=by
 have D:=Qq hcl;clear hcl
 have A:=Qq hall;clear hall
 go_enter func276,ntmps276
 go_wp2_with (go_at_call 290;refine (Kd _ 2 D.out _).mono ?_;rintro e w' ⟨rfl,rfl⟩)
 go_loop [7] (fun i=>∃ k:Nat,a+1<=k/\k<=s.size/\i=.int .i64 k) (fun i=>s.size - (intOf i).toNat)
 case atStart=>exact ⟨a+1,Q9 _,ha,by go_num⟩
 obtain ⟨k,J,M,rfl⟩:=hrel
 by_cases hlt:k<s.size
 ·obtain ⟨v,I⟩:=eX (Ud (s[k]'hlt))
  have hc:=A.out k hlt
  rw [I] at hc
  have HV:=Qq I;clear I
  have q0:decide ((1:Int)<=(v:Int))=true:=by simp;omega
  have q1:decide ((v:Int)<=3)=true:=by simp;omega
  clear hc
  go_wp2_with (go_at_call 290;refine (Kd _ v HV.out _).mono ?_;rintro e w' ⟨rfl,rfl⟩)
  go_round
  case rel=>exact ⟨k+1,Qvu,Qvu,by go_num⟩
  case measure=>simp [intOf];omega
 obtain rfl:k=s.size:=Qvu
 go_wp2_with fail
 go_ret2
 exact ⟨rfl,Qz _ _⟩
def M6 (s:ByteArray) (K:Int):Prop:=∀ W,Calls prog 276 #[.string s,Qxc] W fun e w'=>e=.returned (.tuple #[K,s.size])/\Below W W w'
theorem Qqt (x:Bs) (h:V8 x):M6 ⟨x.toArray⟩ 2:=by
 intro W
 have A:=Xn x
 have J:0<(⟨x.toArray⟩:ByteArray).size:=by rw [A];exact h.pos
 have ha:∀ (k:Nat) (D:k<(⟨x.toArray⟩:ByteArray).size),Jw ((⟨x.toArray⟩:ByteArray)[k]'D)=true:=fun k D=>
  Ec (p:=Jw) (l:=x) (by rw [h.all,<- A];exact D) (Bn x k D)
 have I:Dl ((⟨x.toArray⟩:ByteArray)[0]'J)=true:=h.head _ (Bn x 0 J)
 have:=Wp ⟨x.toArray⟩ 0 W (by rw [A];exact h.len) J (by rw [cls_lo] at I;simpa using I) (fun k D=>by have:=ha k D;rw [cls_wo] at this;simpa using this) (by rw [A,Hv,B5];exact h.kw)
 exact this
theorem rtok_cap (x:Bs) (h:Bq x):M6 ⟨x.toArray⟩ 3:=by
 intro W
 have A:=Xn x
 have J:0<(⟨x.toArray⟩:ByteArray).size:=by rw [A];exact h.pos
 have ha:∀ (k:Nat) (D:k<(⟨x.toArray⟩:ByteArray).size),Bl ((⟨x.toArray⟩:ByteArray)[k]'D)=true:=fun k D=>
  Ec (p:=Bl) (l:=x) (by rw [h.all,<- A];exact D) (Bn x k D)
 have I:Bx ((⟨x.toArray⟩:ByteArray)[0]'J)=true:=h.head _ (Bn x 0 J)
 have:=Qvp ⟨x.toArray⟩ 0 W (by rw [A];exact h.len) J (by rw [cls_up] at I;simpa using I) (fun k D=>by have:=ha k D;rw [cls_na] at this;simpa using this)
 exact this
theorem rnext_at (s:ByteArray) (K:Int) (hp:0<s.size) (h:M6 s K) (W:World):
  Calls prog 249 #[.string s,Qxc] W fun e w'=>e=.returned (.tuple #[K,s.size])/\Below W W w':=by
 have HG:=Qq h
 clear h
 have h1:(0:Int)<(s.size:Int):=Qvu
 go_enter func249,ntmps249
 go_wp2_with (go_at_call 276;refine (HG.out _).mono ?_;rintro e w' ⟨rfl,hw⟩)
 go_ret2
 exact ⟨rfl,hw⟩
theorem Qzx (w:World) (xs:List Value) (t:TypeId):∀ j u,xs[j]?=some u->(w.alloc (.cells xs.toArray t)).cell? ((⟨w,0,none⟩:Addr).add j)=some u:=by
 intro j u h
 rw [show (⟨w,0,none⟩:Addr).add j=⟨w,j,none⟩ by unfold Addr.add;split <;> simp_all]
 rw [Qk _ w j _ _ _ (Qw w _)]
 simpa using h
theorem Nx {w w':World} {B:Nat} {e:TypeId} {sz n:Nat} {v:Value} {xs:List Value} (h:w.ownsRow B e sz v n xs) (hb:Below w w w'):w'.ownsRow B e sz v n xs:=Dd h hb
theorem Wo (s:ByteArray) (K:Int) (hp:0<s.size) (hl:s.size<=16) (h:M6 s K) (w:World):
  Calls prog 201 #[.string s] w fun e w'=>∃ g cap,e=.returned (.slice (some ⟨g,0,none⟩) 1 cap)/\Qxw w' g 0 K/\Below w w w':=by
 have HN:=Qq (fun W=>rnext_at s K hp h W)
 clear h
 obtain ⟨i0,hi,T,U,V⟩:=Y4 (P:=prog) (t:=188) (z:=.agg #[Qxc,Qxd,Qxc]) (n:=3) (b:=32) Qxx
 obtain ⟨H1,H2,H3,H4⟩:=Qxo hi T U V
 clear hi T U V
 go_enter func201,ntmps201
 go_wp2_with fail
 go_loopw [3,4,5,6] (fun o x _ _ wr=>∃ (a n:Nat) (pre:List Value),a<=s.size/\Aside ((a=0/\n=0/\pre=[])\/(a=s.size/\n=1/\pre=[.int .i64 K,.string s,.int .i64 0]))/\x=.int .i64 a/\wr.ownsRow w 188 3 o n pre/\Below w w wr) (fun _ x _ _ _=>s.size - (intOf x).toNat)
 case atStart=>exact ⟨0,0,[],Qvu,.inl ⟨rfl,rfl,rfl⟩,rfl,World.ownsRow_nil _ _ _ _,Qz _ _⟩
 obtain ⟨a,n,pre,ha,Y,rfl,I,hB⟩:=hrel
 have Z:=Qq hB;have HO:=Qq I
 clear hB I
 by_cases hlt:a<s.size
 ·have aA:a=0/\n=0/\pre=[]:=by
   rcases Y.out with h | h
   ·exact h
   exact absurd h.1 Qvu
  obtain ⟨rfl,rfl,rfl⟩:=aA
  clear Y
  have h1:(0:Int)<(s.size:Int):=Qvu
  go_wp2_with fail
  refine (HN.out _).mono ?_
  rintro e w2 ⟨rfl,hw⟩
  have A:=Nx HO.out hw
  have O:=Z.out.trans (hw.mono Z.out.size)
  have D:=Qq O;have N:=Qq A
  clear hw A O
  go_wp2_with (at_builtin;refine wpList_append_own _ rfl _ _ 235 rfl w 188 i0 (.agg #[Qxc,Qxd,Qxc]) 3 32 underlying235 H1.out H2.out H3.out H4.out rfl Qxv _ _ _ rfl (N.out.alloc _) ⟨w2,0,none⟩ 1 1 [K,.string s,Qxc] rfl rfl (Qzx _ _ _) (by simp [Value.oneCell']) (by unfold maxLen;omega) Qvu (by have:=D.out.size;simp;omega) ?_;intro v' w1 M J _)
  refine ⟨⟨s.size,1,[K,.string s,Qxc],Q9 _,.inr ⟨rfl,rfl,rfl⟩,rfl,by simpa using M,?_⟩,by simp [intOf];omega⟩
  exact (D.out.alloc D.out.size _).grown J (by have:=D.out.size;simp;omega) (fun j e=>(N.out.lt j e).1)
 have aB:n=1/\pre=[.int .i64 K,.string s,.int .i64 0]:=by
  rcases Y.out with h | h
  ·exact absurd h.1 Qvu
  exact h.2
 obtain ⟨rfl,rfl⟩:=aB
 clear Y
 go_wp2_with fail
 go_ret
 rcases HO.out.2 with ⟨_,hn⟩ | ⟨g,cap,aD,rfl,_,hg,_,_,_,ht⟩
 ·cases hn
 exact ⟨g,cap,rfl,Hd hg ht rfl,Z.out⟩
theorem So (s:ByteArray) (K at':Int) (hK:K=2\/K=3) (hp:0<s.size) (hl:s.size<=16) (h:M6 s K) (w:World):
  Calls prog 134 #[.agg #[K,.string s,at']] w fun e w'=>e=.returned (.bool true)/\Below w w w':=by
 have HS:=Qq (fun W=>Wo s K hp hl h W)
 clear h
 go_enter func134,ntmps134
 go_wp2_with fail
 have J:Below w w (w.alloc (.cells #[K,.string s,at'] 188)):=(Qz _ _).alloc (Q9 _) _
 have M:(w.alloc (.cells #[K,.string s,at'] 188)).cell? ⟨w,0,none⟩=some (.int .i64 K):=by rw [Qk _ w 0 _ _ _ (Qw w _)];rfl
 have c1:(w.alloc (.cells #[K,.string s,at'] 188)).cell? ⟨w,1,none⟩=some (.string s):=by rw [Qk _ w 1 _ _ _ (Qw w _)];rfl
 have D:=Qq J;clear J
 generalize hG:w.heap.size=G at M c1 |-
 generalize w.alloc (.cells #[K,.string s,at'] 188)=W1 at *
 refine (HS.out _).mono ?_
 rintro e w2 ⟨g,cap,rfl,e0,A⟩
 have d0:=kD A (Qv W1 _ M) M
 have d1:=kD A (Qv W1 _ c1) c1
 have I:=Qq (D.out.trans (A.mono D.out.size))
 clear A M c1 hG
 rcases hK with rfl | rfl
 all_goals
  go_wp2_with fail
  go_quiet (fail)
  go_wp2_with fail
  go_ret
  refine ⟨?_,I.out.trans ((Zn _ _).mono I.out.size)⟩
  show Ending.returned (.bool (decide ((s.size:Int)<=16)))=_
  rw [decide_eq_true Qvu]
theorem L7 (x:Bs) (h:V8 x) (w:World):Calls prog 134 #[.agg #[.int .i64 2,sv x,Qxc]] w fun e w'=>e=.returned (.bool true)/\Below w w w':=
 So ⟨x.toArray⟩ 2 0 (.inl rfl) (by rw [Xn];exact h.pos) (by rw [Xn];exact h.len) (Qqt x h) w
theorem Qvg (x:Bs) (h:Bq x) (w:World):Calls prog 134 #[.agg #[.int .i64 3,sv x,Qxc]] w fun e w'=>e=.returned (.bool true)/\Below w w w':=
 So ⟨x.toArray⟩ 3 0 (.inr rfl) (by rw [Xn];exact h.pos) (by rw [Xn];exact h.len) (rtok_cap x h) w
end Go.Proofs.YtlanplhphiikjaaGreatDoor
