import Derived.Test.YtlanplhphiikjaaGreatDoorF06
set_option maxRecDepth 100000
set_option maxHeartbeats 400000000
namespace Go.Proofs.YtlanplhphiikjaaGreatDoor
open Go.RowKit Go.Shelf Go.Lib Tryz
inductive Vj:Val->Prop
 | int (n:Int) (hb:-1000000<=n/\n<=1000000):Vj (.mk 0 n [] [] [])
 | text (s:Bs):Vj (.mk 1 0 s [] [])
 | bool (n:Int) (hn:n=0\/n=1):Vj (.mk 2 n [] [] [])
 | make (s:Bs) (kids:List Val) (hs:Md s) (hl:kids.length<=1) (hk:∀ k ∈ kids,Vj k):Vj (.mk 3 0 s [] kids)
 | record (names:List Bs) (kids:List Val) (hl:names.length=kids.length) (hn:∀ x ∈ names,Fe x) (hs:∀ (i:Nat) (x y:Bs),names[i]?=some x->names[i+1]?=some y->Y7 x y<0) (hk:∀ k ∈ kids,Vj k):Vj (.mk 4 0 [] names kids)
 | list (kids:List Val) (hk:∀ k ∈ kids,Vj k):Vj (.mk 5 0 [] [] kids)
def Ba (v:Val):Prop:=∀ (S:Nat->Prop) (cs:List Value) (w:World),Z5 S w cs v->X7 w->Calls prog 88 #[cs] w fun e w'=>e=.returned (.bool true)/\Below w w w'
theorem Ho (v:Val) (hv:Ba v) (S:Nat->Prop) (cs:List Value) (w:World) (h:Z5 S w cs v) (hT:X7 w):
  Calls prog 139 #[cs] w fun e w'=>e=.returned (.bool false)/\Below w w w':=by
 have HV:=Qq (fun W (hb:Below w w W)=>hv S cs W (h.move (.of_below hb) P8) (hT.below hb))
 obtain ⟨p3,k3,p4,k4,D,_⟩:=Z5.cells h
 simp only [vcs] at D
 subst D
 clear h hv hT
 go_enter func139,ntmps139
 go_wp2_with (go_at_call 88;refine (HV.out _ (Zb _ _)).mono ?_;rintro e w' ⟨rfl,hw⟩)
 go_ret
 exact ⟨rfl,(Zb _ _).thn hw⟩
theorem V6 (kids:List Val) (hk:∀ k ∈ kids,Ba k) (S:Nat->Prop) (v:Value) (w:World) (h:Sl Zc S w v kids) (hT:X7 w):
  Calls prog 94 #[v,.func (.func 139) #[] #[]] w fun e w'=>e=.returned (.bool false)/\Below w w w':=by
 have:=conFn Tryz.cfVal Zc isAgg48 sizeOf48 139 #[] (enters_of func139 Og rfl) S v kids w (fun _=>false) h
  (fun W x cs hb hx hr=>Ho x (hk x hx) S cs W hr (hT.below hb))
 rwa [show kids.any (fun _=>false)=false by induction kids <;> simp_all] at this
theorem Fu (a b:Bs) (h:Y7 a b<0):Op.bytesLess a b=true:=by
 rw [(Vc a b).1];simpa using h
theorem Ns (v:Val) (hv:Vj v):Ba v:=by
 induction hv with
 | int n=>
  intro S cs w h L
  obtain ⟨p3,k3,p4,k4,D,_,G,_⟩:=Z5.cells h
  simp only [vcs,Val.kind,Val.n,Val.s,Val.names,Val.kids,List.length_nil] at D
  subst D
  have J:=Qq (fun W (hb:Below w w W)=>V6 [] (fun k G=>by simp at G) S _ W (G.below hb) (L.below hb))
  simp only [Val.kids,List.length_nil] at J
  clear h G L
  go_enter func88,ntmps88
  go_wp2_with (go_at_call 94;refine (J.out _ (Zb _ _)).mono ?_;rintro e w' ⟨rfl,I⟩)
  go_ret
  exact ⟨rfl,(Zb _ _).thn I⟩
 | text s=>
  intro S cs w h L
  obtain ⟨p3,k3,p4,k4,D,_,G,_⟩:=Z5.cells h
  simp only [vcs,Val.kind,Val.n,Val.s,Val.names,Val.kids,List.length_nil] at D
  subst D
  have J:=Qq (fun W (hb:Below w w W)=>V6 [] (fun k G=>by simp at G) S _ W (G.below hb) (L.below hb))
  simp only [Val.kids,List.length_nil] at J
  clear h G L
  go_enter func88,ntmps88
  go_wp2_with (go_at_call 94;refine (J.out _ (Zb _ _)).mono ?_;rintro e w' ⟨rfl,I⟩)
  go_ret
  exact ⟨rfl,(Zb _ _).thn I⟩
 | bool n hn=>
  intro S cs w h L
  obtain ⟨p3,k3,p4,k4,D,_,G,_⟩:=Z5.cells h
  simp only [vcs,Val.kind,Val.n,Val.s,Val.names,Val.kids,List.length_nil] at D
  subst D
  have J:=Qq (fun W (hb:Below w w W)=>V6 [] (fun k G=>by simp at G) S _ W (G.below hb) (L.below hb))
  simp only [Val.kids,List.length_nil] at J
  clear h G L
  rcases hn with rfl | rfl
  all_goals
   go_enter func88,ntmps88
   go_wp2_with (go_at_call 94;refine (J.out _ (Zb _ _)).mono ?_;rintro e w' ⟨rfl,I⟩)
   go_ret
   exact ⟨rfl,(Zb _ _).thn I⟩
 | make s kids hs hl hkk ih=>
  intro S cs w h L
  obtain ⟨p3,k3,p4,k4,D,_,G,_⟩:=Z5.cells h
  simp only [vcs,Val.kind,Val.n,Val.s,Val.names,Val.kids,List.length_nil] at D
  subst D
  have J:=Qq (fun W (hb:Below w w W)=>V6 kids ih S _ W (G.below hb) (L.below hb))
  have HC:=Qq (fun W=>O4 s hs W)
  simp only [Val.kids] at J
  unfold sv at HC
  have bB:decide ((kids.length:Int)<=1)=true:=by simp;omega
  clear h G L ih hkk hs
  go_enter func88,ntmps88
  go_wp2_with fail
  refine (HC.out _).mono ?_
  rintro e w1 ⟨rfl,I⟩
  have c4:=(I.cell (p:=⟨w,4,none⟩) Od).trans (Qk _ _ 4 _ _ _ (Qw w _))
  simp only [Qa,Qb,Qc] at c4
  have HW:=Qq ((Zb w _).thn I)
  clear I
  go_wp2_with (go_at_call 94;refine (J.out _ HW.out).mono ?_;rintro e w' ⟨rfl,I⟩)
  go_ret
  exact ⟨rfl,HW.out.thn I⟩
 | list kids hkk ih=>
  intro S cs w h L
  obtain ⟨p3,k3,p4,k4,D,_,G,_⟩:=Z5.cells h
  simp only [vcs,Val.kind,Val.n,Val.s,Val.names,Val.kids,List.length_nil] at D
  subst D
  have J:=Qq (fun W (hb:Below w w W)=>V6 kids ih S _ W (G.below hb) (L.below hb))
  simp only [Val.kids] at J
  clear h G L ih hkk
  go_enter func88,ntmps88
  go_wp2_with (go_at_call 94;refine (J.out _ (Zb _ _)).mono ?_;rintro e w' ⟨rfl,I⟩)
  go_ret
  exact ⟨rfl,(Zb _ _).thn I⟩
 | record names kids hl hn hs hkk ih=>
  intro S cs w h L
  obtain ⟨p3,k3,p4,k4,D,O,G,_⟩:=Z5.cells h
  simp only [vcs,Val.kind,Val.n,Val.s,Val.names,Val.kids] at D O
  rw [hl] at D O
  subst D
  have J:=Qq (fun W (hb:Below w w W)=>V6 kids ih S _ W (G.below hb) (L.below hb))
  obtain ⟨HN,HW,HS,HL,HT⟩:=Pw O hn hs hl L
  simp only [Val.kids] at J
  have aU:kids.length<=1000000:=by obtain ⟨_,_,_,h⟩:=O.len;omega
  clear h G L ih hkk hn hs hl O
  generalize kids.length=n at J HN HL aU |-
  go_enter func88,ntmps88
  go_wp2_with fail
  obtain ⟨W1,U⟩:=eX (w.alloc (.cells #[.int .i64 4,On,Oo,.slice p3 n k3,.slice p4 n k4] 48))
  rw [U]
  have aF:=eqB U (Zb _ _)
  have aE:=eqH (b:=w.heap.size) U (Qw _ _)
  have aK:=Qq aF;have aN:=Qq aE
  clear U aF aE
  go_loopw [3,93] (fun ok i wr=>∃ k:Nat,k<=n/\i=.int .i64 k/\ok=.bool true/\Below W1 W1 wr) (fun _ i _=>n - (intOf i).toNat)
  case atStart=>exact ⟨0,Q3 _,rfl,rfl,Qz _ _⟩
  obtain ⟨k,bA,rfl,rfl,T⟩:=hrel
  have V:=kB T aN.out
  have aO:=Z3 V
  have c4:=rA4 V;have c3:=rA3 V
  have N:=Qq (aK.out.thn T);have Y:=Qq T
  clear T V
  by_cases hlt:k<n
  ·have aR:(0:Int)<=(k:Int):=Oa
   have aS:(k:Int)<(n:Int):=Oa
   obtain ⟨x,hx⟩:∃ x,names[k]?=some x:=⟨_,Qx (by rw [HL.out];exact hlt)⟩
   obtain ⟨b,aW,rfl,hc,-⟩:=(HN.out.below N.out).str hx
   have M:=Qq (Lh x (HW.out x (Qy hx)) wr (HT.out.below N.out))
   unfold sv at M
   cases k with
   | zero=>
    clear hx
    rw [show ((0:Nat):Int)=0 from rfl] at aR aS |-
    rw [Nat.add_zero] at hc
    go_wp2_with (go_at_call 138;refine M.out.mono ?_;rintro e w' ⟨rfl,I⟩;have Z:=Qq I;clear I)
    go_roundw
    case measure=>simp [intOf];omega
    case rel=>exact ⟨1,Oa,rfl,rfl,Y.out.thn Z.out⟩
   | succ k'=>
    obtain ⟨y,hy⟩:∃ y,names[k']?=some y:=⟨_,Qx (by rw [HL.out];omega)⟩
    obtain ⟨b',aI,he,aQ,-⟩:=(HN.out.below N.out).str hy
    obtain ⟨rfl,rfl,-⟩:b=b'/\aW=aI/\True:=by simpa using he
    have aT:=Fu y x (HS.out k' y x hy hx)
    have aP:=Qv wr _ hc
    have aX:(0:Int)<=(k':Int):=Oa
    have aY:(k':Int)<(n:Int):=Oa
    have aZ:((k':Int)+1==0)=false:=by simp;omega
    clear hx hy he
    go_wp2_with fail
    refine M.out.mono ?_
    rintro e w2 ⟨rfl,I⟩
    have d3:=kD I aO c3
    have dc:=kD I aP aQ
    have Z:=Qq I
    clear I
    go_wp2_with fail
    go_roundw
    case measure=>simp [intOf];omega
    case rel=>exact ⟨k'+1+1,Oa,by go_num,rfl,Y.out.thn Z.out⟩
  have aG:k=n:=Oa
  subst aG
  go_wp2_with (go_at_call 94;refine (J.out _ N.out).mono ?_;rintro e w' ⟨rfl,I⟩)
  go_ret
  exact ⟨rfl,N.out.thn I⟩
def eqL {A B:Type} (p:A->B->Bool):List A->List B->Bool
 | [],[]=>true
 | x::s,y::t=>p x y&&eqL p s t
 | _,_=>false
theorem Jw {A B:Type} (p:A->B->Bool):∀ (a:List A) (b:List B),a.length≠b.length->eqL p a b=false
 | [],[],h=>absurd rfl h
 | [],_::_,_=>rfl
 | _::_,[],_=>rfl
 | x::s,y::t,h=>by unfold eqL;rw [Jw p s t (fun e=>h (by simp [e])),Bool.and_false]
theorem Nr {S:Nat->Prop} {w:World} {cs:List Value} {x:Rel} (h:Yd.R S w cs x):∃ p c,cs=[.string ⟨x.table.toArray⟩,.slice p x.rows.length c]:=by
 obtain ⟨v,rfl,_,h2⟩:=h
 obtain ⟨p,c,rfl,_⟩:=h2.len
 exact ⟨p,c,rfl⟩
theorem eqFValTy (g:Nat) (lb:Array Value) (eg:∀ args w,(callFunc g args).run prog w=.ok (.enter g args) w) (S:Nat->Prop) (va vb:Value) (a:List Val) (b:List Ty) (w:World) (ha:Sl Zc S w va a) (hb:Sl Vf S w vb b) (p:Val->Ty->Bool)
  (hp:∀ (W:World) (x:Val) (y:Ty) (cx cy:List Value),Below w w W->x ∈ a->y ∈ b->Zc.R S W cx x->Vf.R S W cy y->Calls prog g (#[.agg cx.toArray,.agg cy.toArray]++lb) W fun e w'=>e=.returned (.bool (p x y))/\Below W W w'):
  Calls prog 176 #[va,vb,.func (.func g) #[] lb] w fun e w'=>e=.returned (.bool (eqL p a b))/\Below w w w':=by
 obtain ⟨pa,ca,rfl,aJ⟩:=ha.len
 obtain ⟨pb,cb,rfl,aK⟩:=hb.len
 obtain ⟨HA,HB,HP⟩:=Px ha hb hp
 clear ha hb hp
 by_cases hn:a.length=b.length
 ·obtain ⟨n,O⟩:=eX (b.length)
  rw [O] at hn aK HB
  rw [hn] at HA aJ
  rw [hn,O]
  obtain ⟨r,hr⟩:=eX (eqL p a b)
  rw [hr]
  obtain ⟨HR,Y,Z⟩:=Px hr hn O
  clear hr hn O
  go_enter func176,ntmps176
  go_wp2_with fail
  go_loopw [17] (fun i wr=>∃ k:Nat,k<=n/\i=.int .i64 k/\Aside (eqL p (a.drop k) (b.drop k)=r)/\Below w w wr) (fun i _=>n - (intOf i).toNat)
  case atStart=>exact ⟨0,Q3 _,rfl,HR.out,Qz _ _⟩
  obtain ⟨k,aT,rfl,hE,aA⟩:=hrel
  have G:=Qq aA
  clear aA
  by_cases hlt:k<n
  ·have aR:(0:Int)<=(k:Int):=Oa
   have aS:(k:Int)<(n:Int):=Oa
   have M:k<a.length:=by rw [Y.out];exact hlt
   have N:k<b.length:=by rw [Z.out];exact hlt
   obtain ⟨x,hx⟩:∃ x,a[k]?=some x:=⟨_,Qx M⟩
   obtain ⟨y,hy⟩:∃ y,b[k]?=some y:=⟨_,Qx N⟩
   have aC:a.drop k=x::a.drop (k+1):=by rw [Qi M];rw [Qx M] at hx;cases hx;rfl
   have aD:b.drop k=y::b.drop (k+1):=by rw [Qi N];rw [Qx N] at hy;cases hy;rfl
   obtain ⟨ba,oa,cx,rfl,aP,-,-,U,I⟩:=(HA.out.below G.out).elem hx
   obtain ⟨bb,ob,cy,rfl,aQ,-,-,V,J⟩:=(HB.out.below G.out).elem hy
   have D:=Qq (fun W (h:Below wr wr W)=>HP.out W x y cx cy (G.out.thn h) (Qy hx) (Qy hy) (Zc.frame U (.of_below h)) (Vf.frame V (.of_below h)))
   obtain ⟨bA,aU,bC,aW,T,_⟩:=Z5.cells U;simp only [vcs] at T;subst T
   obtain ⟨ky,sy,ny,bB,aY,aV,bD,aZ,aX,rfl⟩:=Y6.cells V
   have d0:=I 0 _ rfl;have d1:=I 1 _ rfl;have d2:=I 2 _ rfl;have d3:=I 3 _ rfl;have d4:=I 4 _ rfl
   have e0:=J 0 _ rfl;have e1:=J 1 _ rfl;have e2:=J 2 _ rfl;have e3:=J 3 _ rfl;have e4:=J 4 _ rfl
   simp only [show Zc.k=5 from rfl,Nat.add_zero] at d0 d1 d2 d3 d4
   simp only [show Vf.k=5 from rfl,Nat.add_zero] at e0 e1 e2 e3 e4
   have aB:(p x y&&eqL p (a.drop (k+1)) (b.drop (k+1)))=r:=by have:=hE.out;rw [aC,aD] at this;exact this
   have L:=Qq aB
   clear hE aB aC aD M N hx hy U V I J
   cases hq:p x y with
   | true=>
    rw [hq] at D L
    go_wp2_with (go_at_fn g;refine (D.out _ (Zl _ _ _)).mono ?_;rintro e w' ⟨rfl,hw⟩;have HW:=Qq (G.out.thn ((Zl wr _ _).thn hw));clear hw)
    go_roundw
    case measure=>simp [intOf];omega
    case rel=>exact ⟨k+1,Oa,by go_num,(show Aside _ from by have:=L.out;rwa [Bool.true_and] at this),HW.out⟩
   | false=>
    rw [hq] at D L
    have aN:r=false:=by have:=L.out;rw [Bool.false_and] at this;exact this.symm
    subst aN
    go_wp2_with (go_at_fn g;refine (D.out _ (Zl _ _ _)).mono ?_;rintro e w' ⟨rfl,hw⟩;have HW:=Qq (G.out.thn ((Zl wr _ _).thn hw));clear hw)
    go_ret
    exact ⟨rfl,HW.out⟩
  have aO:r=true:=by
   have:=hE.out
   rw [Qo (by rw [Y.out];omega),Qo (by rw [Z.out];omega)] at this
   exact this.symm
  subst aO
  clear hE
  go_wp2_with fail
  go_ret
  exact ⟨rfl,G.out⟩
 rw [Jw p a b hn]
 have hq:((a.length:Int) != (b.length:Int))=true:=by rw [bne_iff_ne];omega
 clear hn
 go_enter func176,ntmps176
 go_wp2_with fail
 go_ret
 exact ⟨rfl,Qz _ _⟩
theorem O9 (g:Nat) (lb:Array Value) (eg:∀ args w,(callFunc g args).run prog w=.ok (.enter g args) w) (S:Nat->Prop) (va vb:Value) (a:List Val) (b:List Val) (w:World) (ha:Sl Zc S w va a) (hb:Sl Zc S w vb b) (p:Val->Val->Bool)
  (hp:∀ (W:World) (x:Val) (y:Val) (cx cy:List Value),Below w w W->x ∈ a->y ∈ b->Zc.R S W cx x->Zc.R S W cy y->Calls prog g (#[.agg cx.toArray,.agg cy.toArray]++lb) W fun e w'=>e=.returned (.bool (p x y))/\Below W W w'):
  Calls prog 184 #[va,vb,.func (.func g) #[] lb] w fun e w'=>e=.returned (.bool (eqL p a b))/\Below w w w':=by
 obtain ⟨pa,ca,rfl,aK⟩:=ha.len
 obtain ⟨pb,cb,rfl,aL⟩:=hb.len
 obtain ⟨HA,HB,HP⟩:=Px ha hb hp
 clear ha hb hp
 by_cases hn:a.length=b.length
 ·obtain ⟨n,O⟩:=eX (b.length)
  rw [O] at hn aL HB
  rw [hn] at HA aK
  rw [hn,O]
  obtain ⟨r,hr⟩:=eX (eqL p a b)
  rw [hr]
  obtain ⟨HR,Z,aA⟩:=Px hr hn O
  clear hr hn O
  go_enter func184,ntmps184
  go_wp2_with fail
  go_loopw [17] (fun i wr=>∃ k:Nat,k<=n/\i=.int .i64 k/\Aside (eqL p (a.drop k) (b.drop k)=r)/\Below w w wr) (fun i _=>n - (intOf i).toNat)
  case atStart=>exact ⟨0,Q3 _,rfl,HR.out,Qz _ _⟩
  obtain ⟨k,aU,rfl,hE,aB⟩:=hrel
  have G:=Qq aB
  clear aB
  by_cases hlt:k<n
  ·have aS:(0:Int)<=(k:Int):=Oa
   have aT:(k:Int)<(n:Int):=Oa
   have M:k<a.length:=by rw [Z.out];exact hlt
   have N:k<b.length:=by rw [aA.out];exact hlt
   obtain ⟨x,hx⟩:∃ x,a[k]?=some x:=⟨_,Qx M⟩
   obtain ⟨y,hy⟩:∃ y,b[k]?=some y:=⟨_,Qx N⟩
   have aD:a.drop k=x::a.drop (k+1):=by rw [Qi M];rw [Qx M] at hx;cases hx;rfl
   have aE:b.drop k=y::b.drop (k+1):=by rw [Qi N];rw [Qx N] at hy;cases hy;rfl
   obtain ⟨ba,oa,cx,rfl,aQ,-,-,V,I⟩:=(HA.out.below G.out).elem hx
   obtain ⟨bb,ob,cy,rfl,aR,-,-,Y,J⟩:=(HB.out.below G.out).elem hy
   have D:=Qq (fun W (h:Below wr wr W)=>HP.out W x y cx cy (G.out.thn h) (Qy hx) (Qy hy) (Zc.frame V (.of_below h)) (Zc.frame Y (.of_below h)))
   obtain ⟨aZ,aV,bB,aX,T,_⟩:=Z5.cells V;simp only [vcs] at T;subst T
   obtain ⟨bA,aW,bC,aY,U,_⟩:=Z5.cells Y;simp only [vcs] at U;subst U
   have d0:=I 0 _ rfl;have d1:=I 1 _ rfl;have d2:=I 2 _ rfl;have d3:=I 3 _ rfl;have d4:=I 4 _ rfl
   have e0:=J 0 _ rfl;have e1:=J 1 _ rfl;have e2:=J 2 _ rfl;have e3:=J 3 _ rfl;have e4:=J 4 _ rfl
   simp only [show Zc.k=5 from rfl,Nat.add_zero] at d0 d1 d2 d3 d4
   simp only [show Zc.k=5 from rfl,Nat.add_zero] at e0 e1 e2 e3 e4
   have aC:(p x y&&eqL p (a.drop (k+1)) (b.drop (k+1)))=r:=by have:=hE.out;rw [aD,aE] at this;exact this
   have L:=Qq aC
   clear hE aC aD aE M N hx hy V Y I J
   cases hq:p x y with
   | true=>
    rw [hq] at D L
    go_wp2_with (go_at_fn g;refine (D.out _ (Zl _ _ _)).mono ?_;rintro e w' ⟨rfl,hw⟩;have HW:=Qq (G.out.thn ((Zl wr _ _).thn hw));clear hw)
    go_roundw
    case measure=>simp [intOf];omega
    case rel=>exact ⟨k+1,Oa,by go_num,(show Aside _ from by have:=L.out;rwa [Bool.true_and] at this),HW.out⟩
   | false=>
    rw [hq] at D L
    have aO:r=false:=by have:=L.out;rw [Bool.false_and] at this;exact this.symm
    subst aO
    go_wp2_with (go_at_fn g;refine (D.out _ (Zl _ _ _)).mono ?_;rintro e w' ⟨rfl,hw⟩;have HW:=Qq (G.out.thn ((Zl wr _ _).thn hw));clear hw)
    go_ret
    exact ⟨rfl,HW.out⟩
  have aP:r=true:=by
   have:=hE.out
   rw [Qo (by rw [Z.out];omega),Qo (by rw [aA.out];omega)] at this
   exact this.symm
  subst aP
  clear hE
  go_wp2_with fail
  go_ret
  exact ⟨rfl,G.out⟩
 rw [Jw p a b hn]
 have hq:((a.length:Int) != (b.length:Int))=true:=by rw [bne_iff_ne];omega
 clear hn
 go_enter func184,ntmps184
 go_wp2_with fail
 go_ret
 exact ⟨rfl,Qz _ _⟩
theorem Ow (g:Nat) (lb:Array Value) (eg:∀ args w,(callFunc g args).run prog w=.ok (.enter g args) w) (S:Nat->Prop) (va vb:Value) (a:List Tbl) (b:List Rel) (w:World) (ha:Sl Zg S w va a) (hb:Sl Yd S w vb b) (p:Tbl->Rel->Bool)
  (hp:∀ (W:World) (x:Tbl) (y:Rel) (cx cy:List Value),Below w w W->x ∈ a->y ∈ b->Zg.R S W cx x->Yd.R S W cy y->Calls prog g (#[.agg cx.toArray,.agg cy.toArray]++lb) W fun e w'=>e=.returned (.bool (p x y))/\Below W W w'):
  Calls prog 111 #[va,vb,.func (.func g) #[] lb] w fun e w'=>e=.returned (.bool (eqL p a b))/\Below w w w':=by
 obtain ⟨pa,ca,rfl,aM⟩:=ha.len
 obtain ⟨pb,cb,rfl,aN⟩:=hb.len
 obtain ⟨HA,HB,HP⟩:=Px ha hb hp
 clear ha hb hp
 by_cases hn:a.length=b.length
 ·obtain ⟨n,N⟩:=eX (b.length)
  rw [N] at hn aN HB
  rw [hn] at HA aM
  rw [hn,N]
  obtain ⟨r,hr⟩:=eX (eqL p a b)
  rw [hr]
  obtain ⟨HR,Y,Z⟩:=Px hr hn N
  clear hr hn N
  go_enter func111,ntmps111
  go_wp2_with fail
  go_loopw [17] (fun i wr=>∃ k:Nat,k<=n/\i=.int .i64 k/\Aside (eqL p (a.drop k) (b.drop k)=r)/\Below w w wr) (fun i _=>n - (intOf i).toNat)
  case atStart=>exact ⟨0,Q3 _,rfl,HR.out,Qz _ _⟩
  obtain ⟨k,bB,rfl,hE,aA⟩:=hrel
  have I:=Qq aA
  clear aA
  by_cases hlt:k<n
  ·have aZ:(0:Int)<=(k:Int):=Oa
   have bA:(k:Int)<(n:Int):=Oa
   have L:k<a.length:=by rw [Y.out];exact hlt
   have M:k<b.length:=by rw [Z.out];exact hlt
   obtain ⟨x,hx⟩:∃ x,a[k]?=some x:=⟨_,Qx L⟩
   obtain ⟨y,hy⟩:∃ y,b[k]?=some y:=⟨_,Qx M⟩
   have aC:a.drop k=x::a.drop (k+1):=by rw [Qi L];rw [Qx L] at hx;cases hx;rfl
   have aD:b.drop k=y::b.drop (k+1):=by rw [Qi M];rw [Qx M] at hy;cases hy;rfl
   obtain ⟨ba,oa,cx,rfl,aX,-,-,U,D⟩:=(HA.out.below I.out).elem hx
   obtain ⟨bb,ob,cy,rfl,aY,-,-,V,T⟩:=(HB.out.below I.out).elem hy
   have G:=Qq (fun W (h:Below wr wr W)=>HP.out W x y cx cy (I.out.thn h) (Qy hx) (Qy hy) (Zg.frame U (.of_below h)) (Yd.frame V (.of_below h)))
   obtain ⟨aW,aV,bD,bC,bM,bK,kx,bO,nx,bP,bH,bE,aS,bI,bF,aT,bJ,bG,aU,ax,zx,O,_⟩:=Zr U;simp only [tcs] at O;subst O
   obtain ⟨bN,bL,rfl⟩:=Nr V
   have d0:=D 0 _ rfl;have d1:=D 1 _ rfl;have d2:=D 2 _ rfl;have d3:=D 3 _ rfl;have d4:=D 4 _ rfl;have d5:=D 5 _ rfl;have d6:=D 6 _ rfl;have d7:=D 7 _ rfl;have d8:=D 8 _ rfl;have d9:=D 9 _ rfl;have aJ:=D 10 _ rfl;have aK:=D 11 _ rfl;have aL:=D 12 _ rfl
   have e0:=T 0 _ rfl;have e1:=T 1 _ rfl
   simp only [show Zg.k=13 from rfl,Nat.add_zero] at d0 d1 d2 d3 d4 d5 d6 d7 d8 d9 aJ aK aL
   simp only [show Yd.k=2 from rfl,Nat.add_zero] at e0 e1
   have aB:(p x y&&eqL p (a.drop (k+1)) (b.drop (k+1)))=r:=by have:=hE.out;rw [aC,aD] at this;exact this
   have J:=Qq aB
   clear hE aB aC aD L M hx hy U V D T
   cases hq:p x y with
   | true=>
    rw [hq] at G J
    go_wp2_with (go_at_fn g;refine (G.out _ (Zl _ _ _)).mono ?_;rintro e w' ⟨rfl,hw⟩;have HW:=Qq (I.out.thn ((Zl wr _ _).thn hw));clear hw)
    go_roundw
    case measure=>simp [intOf];omega
    case rel=>exact ⟨k+1,Oa,by go_num,(show Aside _ from by have:=J.out;rwa [Bool.true_and] at this),HW.out⟩
   | false=>
    rw [hq] at G J
    have aQ:r=false:=by have:=J.out;rw [Bool.false_and] at this;exact this.symm
    subst aQ
    go_wp2_with (go_at_fn g;refine (G.out _ (Zl _ _ _)).mono ?_;rintro e w' ⟨rfl,hw⟩;have HW:=Qq (I.out.thn ((Zl wr _ _).thn hw));clear hw)
    go_ret
    exact ⟨rfl,HW.out⟩
  have aR:r=true:=by
   have:=hE.out
   rw [Qo (by rw [Y.out];omega),Qo (by rw [Z.out];omega)] at this
   exact this.symm
  subst aR
  clear hE
  go_wp2_with fail
  go_ret
  exact ⟨rfl,I.out⟩
 rw [Jw p a b hn]
 have hq:((a.length:Int) != (b.length:Int))=true:=by rw [bne_iff_ne];omega
 clear hn
 go_enter func111,ntmps111
 go_wp2_with fail
 go_ret
 exact ⟨rfl,Qz _ _⟩
theorem O5 (S:Nat->Prop) (va vb:Value) (a b:List Bs) (w:World) (ha:Sl Zi S w va a) (hb:Sl Zi S w vb b):
  Calls prog 175 #[va,vb] w fun e w'=>e=.returned (.bool (eqL (fun x y=>decide (x=y)) a b))/\Below w w w':=by
 obtain ⟨pa,ca,rfl,aC⟩:=ha.len
 obtain ⟨pb,cb,rfl,aD⟩:=hb.len
 have HA:=Qq ha;have HB:=Qq hb
 clear ha hb
 by_cases hn:a.length=b.length
 ·obtain ⟨n,J⟩:=eX (b.length)
  rw [J] at hn aD HB
  rw [hn] at HA aC
  rw [hn,J]
  obtain ⟨r,hr⟩:=eX (eqL (fun (x y:Bs)=>decide (x=y)) a b)
  rw [hr]
  obtain ⟨HR,N,O⟩:=Px hr hn J
  clear hr hn J
  go_enter func175,ntmps175
  go_wp2_with fail
  go_loopw [13] (fun i wr=>∃ k:Nat,k<=n/\i=.int .i64 k/\Aside (eqL (fun (x y:Bs)=>decide (x=y)) (a.drop k) (b.drop k)=r)/\Below w w wr) (fun i _=>n - (intOf i).toNat)
  case atStart=>exact ⟨0,Q3 _,rfl,HR.out,Qz _ _⟩
  obtain ⟨k,aK,rfl,Z,T⟩:=hrel
  have D:=Qq T
  clear T
  by_cases hlt:k<n
  ·have aI:(0:Int)<=(k:Int):=Oa
   have aJ:(k:Int)<(n:Int):=Oa
   have G:k<a.length:=by rw [N.out];exact hlt
   have I:k<b.length:=by rw [O.out];exact hlt
   obtain ⟨x,hx⟩:∃ x,a[k]?=some x:=⟨_,Qx G⟩
   obtain ⟨y,hy⟩:∃ y,b[k]?=some y:=⟨_,Qx I⟩
   have V:a.drop k=x::a.drop (k+1):=by rw [Qi G];rw [Qx G] at hx;cases hx;rfl
   have Y:b.drop k=y::b.drop (k+1):=by rw [Qi I];rw [Qx I] at hy;cases hy;rfl
   obtain ⟨ba,oa,rfl,c1,-⟩:=(HA.out.below D.out).str hx
   obtain ⟨bb,ob,rfl,c2,-⟩:=(HB.out.below D.out).str hy
   have U:(decide (x=y)&&eqL (fun (x y:Bs)=>decide (x=y)) (a.drop (k+1)) (b.drop (k+1)))=r:=by have:=Z.out;rw [V,Y] at this;exact this
   have M:=Qq U
   clear Z U V Y G I hx hy
   by_cases L:x=y
   ·subst L
    have aE:(x != x)=false:=Od
    go_wp2_with fail
    go_quiet (fail)
    go_wp2
    go_roundw
    case measure=>simp [intOf];omega
    case rel=>exact ⟨k+1,Oa,by go_num,(show Aside _ from by have:=M.out;simp at this;exact this),D.out.thn (Yv _ _)⟩
   have aE:(x != y)=true:=by rw [bne_iff_ne];exact L
   have aG:r=false:=by have:=M.out;rw [decide_eq_false L,Bool.false_and] at this;exact this.symm
   subst aG
   have aL:(x==y)=false:=by rw [<- Qn,beq_iff_eq];exact L
   clear L
   go_wp2_with fail
   go_quiet (fail)
   go_wp2
   go_ret
   exact ⟨rfl,D.out.thn (Yv _ _)⟩
  have aH:r=true:=by
   have:=Z.out
   rw [Qo (by rw [N.out];omega),Qo (by rw [O.out];omega)] at this
   exact this.symm
  subst aH
  clear Z
  go_wp2_with fail
  go_ret
  exact ⟨rfl,D.out⟩
 rw [Jw _ a b hn]
 have L:((a.length:Int) != (b.length:Int))=true:=by rw [bne_iff_ne];omega
 clear hn
 go_enter func175,ntmps175
 go_wp2_with fail
 go_ret
 exact ⟨rfl,Qz _ _⟩
theorem Yr (w:World) (o p q:Obj):Below w w (((w.alloc o).alloc p).alloc q):=(Zl w o p).alloc (Zl w o p).size _
theorem Z9 (w:World) (A B C:Obj):(((w.alloc A).alloc B).alloc C).heap[w.heap.size+2]?=some C:=by
 have e:((w.alloc A).alloc B).heap.size=w.heap.size+2:=Od
 rw [<- e];exact Qw _ _
def Us (us:List Sm) (v:Val) (t:Ty) (b:Bool):Prop:=∀ (S S' S'':Nat->Prop) (cv ct:List Value) (ps:Option Addr) (ns cs:Nat) (w:World),Sl Vi S'' w (.slice ps ns cs) us->Z5 S w cv v->Y6 S' w ct t ->
 Calls prog 118 #[.slice ps ns cs,cv,ct] w fun e w'=>e=.returned (.bool b)/\Below w w w'
theorem Y6.cells' {S:Nat->Prop} {w:World} {cs:List Value} {k n:Int} {s:Bs} {names:List Bs} {kids:List Ty} (h:Y6 S w cs (.mk k s n names kids)):∃ p3 k3 p4 k4,cs=[.int .i64 k,.string ⟨s.toArray⟩,.int .i64 n,.slice p3 names.length k3,.slice p4 kids.length k4]/\Sl Zi S w (.slice p3 names.length k3) names/\Sl Vf S w (.slice p4 kids.length k4) kids:=by
 obtain ⟨nv,kv,rfl,hs,hn,hk⟩:=E9.1 h
 obtain ⟨p3,k3,rfl,_⟩:=hn.len
 obtain ⟨p4,k4,rfl,_⟩:=hk.len
 exact ⟨p3,k3,p4,k4,rfl,hn,hk⟩
theorem hasLeaf (us:List Sm) (v:Val) (k:Int) (hk:k=0\/k=1\/k=2) (s:Bs) (n:Int) (names:List Bs) (kids:List Ty):Us us v (.mk k s n names kids) (v.kind==k):=by
 intro S S' I cv ct ps ns cs w G hv ht
 obtain ⟨p3,k3,p4,k4,D,_⟩:=Z5.cells hv
 simp only [vcs] at D
 subst D
 obtain ⟨q3,l3,q4,l4,rfl,_⟩:=ht.cells'
 clear hv ht G
 rcases hk with rfl | rfl | rfl
 all_goals
  go_enter func118,ntmps118
  go_wp2_with fail
  go_ret
  exact ⟨rfl,Yr _ _ _ _⟩
theorem has2_any (us:List Sm) (v:Val) (t:Ty) (b:Bool) (h:Us us v t b) (S S' S'':Nat->Prop) (cv ct:List Value) (ps:Option Addr) (ns cs:Nat) (B:Nat) (w:World) (hsm:Sl Vi S'' w (.slice ps ns cs) us) (hv:Z5 S w cv v) (ht:Y6 S' w ct t) (hc:w.cell? ⟨B,0,none⟩=some (.slice ps ns cs)):
  Calls prog 177 #[cv,ct,Om B] w fun e w'=>e=.returned (.bool b)/\Below w w w':=by
 have HH:=Qq (fun W (hb:Below w w W)=>h S S' S'' cv ct ps ns cs W (hsm.below hb) (hv.move (.of_below hb) P8) (ht.move (.of_below hb) P8))
 have hB:=Qv w _ hc
 obtain ⟨p3,k3,p4,k4,D,_⟩:=Z5.cells hv
 simp only [vcs] at D
 subst D
 obtain ⟨_,_,_,_,_,_,_,_,_,rfl⟩:=ht.cells
 have G:B<w.heap.size:=hB
 have I:B<w.heap.size+1:=Oa
 clear hv ht h hsm
 go_enter func177,ntmps177
 go_wp2_with (go_at_call 118;refine (HH.out _ (Zl _ _ _)).mono ?_;rintro e w' ⟨rfl,hw⟩)
 go_ret
 exact ⟨rfl,(Zl _ _ _).thn hw⟩
def hasR (p:Val->Ty->Bool) (v:Val) (names:List Bs) (kids:List Ty):Bool:=(v.kind==4)&&eqL (fun x y=>decide (x=y)) v.names names&&eqL p v.kids kids
theorem hasRec (us:List Sm) (v:Val) (s:Bs) (names:List Bs) (kids:List Ty) (p:Val->Ty->Bool) (hp:∀ x ∈ v.kids,∀ y ∈ kids,Us us x y (p x y)):Us us v (.mk 5 s 0 names kids) (hasR p v names kids):=by
 intro S0 aI aH cv ct ps ns cs w D Y T
 have O:Sl Vi (fun b=>b<w) w (.slice ps ns cs) us:=D.mono (fun b hb _=>hb)
 have hv:Z5 (fun b=>b<w) w cv v:=Y.move (.refl _ _) (fun b hb _=>hb)
 have ht:Y6 (fun b=>b<w) w ct (.mk 5 s 0 names kids):=T.move (.refl _ _) (fun b hb _=>hb)
 clear Y T D
 obtain ⟨p3,k3,p4,k4,N,aA,Z,_⟩:=Z5.cells hv
 simp only [vcs] at N
 subst N
 obtain ⟨q3,l3,q4,l4,rfl,V,U⟩:=ht.cells'
 have HN:=Qq (fun W (hb:Below w w W)=>O5 _ _ _ v.names names W (aA.below hb) (V.below hb))
 have HE:=Qq (fun W (hb:Below w w W) (hc:W.cell? ⟨w,0,none⟩=some (.slice ps ns cs))=>eqFValTy 177 #[Om w] (enters_of func177 Og rfl) _ _ _ v.kids kids W (Z.below hb) (U.below hb) p
  (fun W' x y cx cy M hx hy h1 h2=>has2_any us x y _ (hp x hx y hy) _ _ _ cx cy ps ns cs w W' ((O.below hb).below M) h1 h2 (kD M (Qv W _ hc) hc)))
 have hR:hasR p v names kids=((v.kind==4)&&eqL (fun x y=>decide (x=y)) v.names names&&eqL p v.kids kids):=rfl
 rw [hR]
 generalize eqL (fun (x y:Bs)=>decide (x=y)) v.names names=bn at HN |-
 generalize eqL p v.kids kids=bk at HE |-
 clear hv ht aA Z V U hp hR O
 by_cases h4:v.kind=4
 ·rw [h4]
  have hq:((4:Int)==4)=true:=rfl
  rw [hq]
  go_enter func118,ntmps118
  go_wp2_with fail
  refine (HN.out _ (Yr _ _ _ _)).mono ?_
  rintro e w1 ⟨rfl,G⟩
  have I:=(G.block w (by simp;omega)).trans ((Below.heap_alloc _ _ _ (by simp;omega)).trans (Q0 w _ _))
  have J:=(G.block (w+1) Od).trans ((Below.heap_alloc _ _ _ Od).trans (Q1 w _ _))
  have L:=(G.block (w+2) Od).trans (Z9 w _ _ _)
  have c0:=rA0 I;have c4:=rA4 J;have d4:=rA4 L
  have HW:=Qq ((Yr w _ _ _).thn G)
  have aB:=Qq c0
  clear G I J L
  cases bn with
  | false=>
   go_wp2_with fail
   go_ret
   exact ⟨rfl,HW.out⟩
  | true=>
   go_wp2_with (go_at_call 176;refine (HE.out _ HW.out aB.out).mono ?_;rintro e w' ⟨rfl,G⟩;have aD:=Qq (HW.out.thn G);clear G)
   go_ret
   exact ⟨rfl,aD.out⟩
 have hq:(v.kind==4)=false:=by simpa using h4
 rw [hq]
 clear h4
 go_enter func118,ntmps118
 go_wp2_with fail
 go_ret
 exact ⟨rfl,Yr _ _ _ _⟩
theorem hasGood (us:List Sm) (v:Val) (t:Ty) (b:Bool) (hg:Vj v) (h:Us us v t b) (S S' S'':Nat->Prop) (cv ct:List Value) (ps:Option Addr) (ns cs:Nat) (w:World) (hsm:Sl Vi S'' w (.slice ps ns cs) us) (hv:Z5 S w cv v) (ht:Y6 S' w ct t) (hT:X7 w):
  Calls prog 64 #[.slice ps ns cs,cv,ct] w fun e w'=>e=.returned (.bool b)/\Below w w w':=by
 have HV:=Qq (fun W (hb:Below w w W)=>Ns v hg S cv W (hv.move (.of_below hb) P8) (hT.below hb))
 have HH:=Qq (fun W (hb:Below w w W)=>h S S' S'' cv ct ps ns cs W (hsm.below hb) (hv.move (.of_below hb) P8) (ht.move (.of_below hb) P8))
 obtain ⟨p3,k3,p4,k4,J,_⟩:=Z5.cells hv
 simp only [vcs] at J
 subst J
 obtain ⟨y1,y2,y3,y4,y5,y6,y7,y8,y9,rfl⟩:=ht.cells
 clear hv ht h hg hT hsm
 go_enter func64,ntmps64
 go_wp2_with fail
 refine (HV.out _ (Zl _ _ _)).mono ?_
 rintro e w1 ⟨rfl,I⟩
 have D:=(I.block w (by simp;omega)).trans (Q0 w _ _)
 have G:=(I.block (w+1) Od).trans (Q1 w _ _)
 have c0:=rA0 D;have c1:=rA1 D;have c2:=rA2 D;have c3:=rA3 D;have c4:=rA4 D;have d0:=rA0 G;have d1:=rA1 G;have d2:=rA2 G;have d3:=rA3 G;have d4:=rA4 G
 have HW:=Qq ((Zl w _ _).thn I)
 clear I D G
 go_wp2_with (go_at_call 118;refine (HH.out _ HW.out).mono ?_;rintro e w' ⟨rfl,I⟩)
 go_ret
 exact ⟨rfl,HW.out.thn I⟩
end Go.Proofs.YtlanplhphiikjaaGreatDoor
