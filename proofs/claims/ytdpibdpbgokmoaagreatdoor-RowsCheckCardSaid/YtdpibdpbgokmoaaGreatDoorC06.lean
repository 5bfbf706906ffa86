import Derived.Test.YtdpibdpbgokmoaaGreatDoorC05
set_option maxRecDepth 100000
set_option maxHeartbeats 400000000
namespace Go.Proofs.YtdpibdpbgokmoaaGreatDoor
open Go.RowKit Go.Shelf Go.Lib Tryz
inductive Y2:Val→Prop
 | int (n:Int) (hb:-1000000≤n∧n≤1000000):Y2 (.mk 0 n [] [] [])
 | text (s:Bs):Y2 (.mk 1 0 s [] [])
 | bool (n:Int) (hn:n=0∨n=1):Y2 (.mk 2 n [] [] [])
 | make (s:Bs) (kids:List Val) (hs:B0 s) (hl:kids.length≤1) (hk:∀ k ∈ kids,Y2 k):Y2 (.mk 3 0 s [] kids)
 | record (names:List Bs) (kids:List Val) (hl:names.length=kids.length) (hn:∀ x ∈ names,Va x) (hs:∀ (i:Nat) (x y:Bs),names[i]?=some x→names[i+1]?=some y→Yf x y<0) (hk:∀ k ∈ kids,Y2 k):Y2 (.mk 4 0 [] names kids)
 | list (kids:List Val) (hk:∀ k ∈ kids,Y2 k):Y2 (.mk 5 0 [] [] kids)
def Ny (v:Val):Prop:=∀ (S:Nat→Prop) (cs:List Value) (w:World),Z9 S w cs v→Xl w→Calls prog 81 #[cs] w fun e w'=>e=.returned (.bool true)∧Below w w w'
theorem Rj (v:Val) (hv:Ny v) (S:Nat→Prop) (cs:List Value) (w:World) (h:Z9 S w cs v) (hT:Xl w):
  Calls prog 113 #[cs] w fun e w'=>e=.returned (.bool false)∧Below w w w':=by
 have HV:=Qq (fun W (hb:Below w w W)=>hv S cs W (h.move (.of_below hb) Qzx) (hT.below hb))
 obtain ⟨p3,k3,p4,k4,A,_⟩:=Z9.cells h
 simp only [vcs] at A
 subst A
 clear h hv hT
 go_enter func113,ntmps113
 go_wp2_with (go_at_call 81;refine (HV.out _ (Zg _ _)).mono ?_;rintro e w' ⟨rfl,hw⟩)
 go_ret
 exact ⟨rfl,(Zg _ _).thn hw⟩
theorem J3 (kids:List Val) (hk:∀ k ∈ kids,Ny k) (S:Nat→Prop) (v:Value) (w:World) (h:Sl Ze S w v kids) (hT:Xl w):
  Calls prog 57 #[v,.func (.func 113) #[] #[]] w fun e w'=>e=.returned (.bool false)∧Below w w w':=by
 have:=conFn Tryz.cfVal Ze isAgg36 sizeOf36 113 #[] (enters_of func113 Qqy rfl) S v kids w (fun _=>false) h
  (fun W x cs hb hx hr=>Rj x (hk x hx) S cs W hr (hT.below hb))
 rwa [show kids.any (fun _=>false)=false by induction kids <;> simp_all] at this
theorem L7 (a b:Bs) (h:Yf a b<0):Op.bytesLess a b=true:=by
 rw [(Vi a b).1];simpa using h
theorem Ao (v:Val) (hv:Y2 v):Ny v:=by
 induction hv with
 | int n=>
  intro S cs w h J
  obtain ⟨p3,k3,p4,k4,A,_,D,_⟩:=Z9.cells h
  simp only [vcs,Val.kind,Val.n,Val.s,Val.names,Val.kids,List.length_nil] at A
  subst A
  have I:=Qq (fun W (hb:Below w w W)=>J3 [] (fun k D=>by simp at D) S _ W (D.below hb) (J.below hb))
  simp only [Val.kids,List.length_nil] at I
  clear h D J
  go_enter func81,ntmps81
  go_wp2_with (go_at_call 57;refine (I.out _ (Zg _ _)).mono ?_;rintro e w' ⟨rfl,G⟩)
  go_ret
  exact ⟨rfl,(Zg _ _).thn G⟩
 | text s=>
  intro S cs w h J
  obtain ⟨p3,k3,p4,k4,A,_,D,_⟩:=Z9.cells h
  simp only [vcs,Val.kind,Val.n,Val.s,Val.names,Val.kids,List.length_nil] at A
  subst A
  have I:=Qq (fun W (hb:Below w w W)=>J3 [] (fun k D=>by simp at D) S _ W (D.below hb) (J.below hb))
  simp only [Val.kids,List.length_nil] at I
  clear h D J
  go_enter func81,ntmps81
  go_wp2_with (go_at_call 57;refine (I.out _ (Zg _ _)).mono ?_;rintro e w' ⟨rfl,G⟩)
  go_ret
  exact ⟨rfl,(Zg _ _).thn G⟩
 | bool n hn=>
  intro S cs w h J
  obtain ⟨p3,k3,p4,k4,A,_,D,_⟩:=Z9.cells h
  simp only [vcs,Val.kind,Val.n,Val.s,Val.names,Val.kids,List.length_nil] at A
  subst A
  have I:=Qq (fun W (hb:Below w w W)=>J3 [] (fun k D=>by simp at D) S _ W (D.below hb) (J.below hb))
  simp only [Val.kids,List.length_nil] at I
  clear h D J
  rcases hn with rfl | rfl
  all_goals
   go_enter func81,ntmps81
   go_wp2_with (go_at_call 57;refine (I.out _ (Zg _ _)).mono ?_;rintro e w' ⟨rfl,G⟩)
   go_ret
   exact ⟨rfl,(Zg _ _).thn G⟩
 | make s kids hs hl hkk ih=>
  intro S cs w h J
  obtain ⟨p3,k3,p4,k4,A,_,D,_⟩:=Z9.cells h
  simp only [vcs,Val.kind,Val.n,Val.s,Val.names,Val.kids,List.length_nil] at A
  subst A
  have I:=Qq (fun W (hb:Below w w W)=>J3 kids ih S _ W (D.below hb) (J.below hb))
  have HC:=Qq (fun W=>We s hs W)
  simp only [Val.kids] at I
  unfold sv at HC
  have bB:decide ((kids.length:Int)≤1)=true:=by simp;omega
  clear h D J ih hkk hs
  go_enter func81,ntmps81
  go_wp2_with fail
  refine (HC.out _).mono ?_
  rintro e w1 ⟨rfl,G⟩
  have c4:=(G.cell (p:=⟨w,4,none⟩) Qqk).trans (Qk _ _ 4 _ _ _ (Qw w _))
  simp only [Qf,Qg,Qh] at c4
  have HW:=Qq ((Zg w _).thn G)
  clear G
  go_wp2_with (go_at_call 57;refine (I.out _ HW.out).mono ?_;rintro e w' ⟨rfl,G⟩)
  go_ret
  exact ⟨rfl,HW.out.thn G⟩
 | list kids hkk ih=>
  intro S cs w h J
  obtain ⟨p3,k3,p4,k4,A,_,D,_⟩:=Z9.cells h
  simp only [vcs,Val.kind,Val.n,Val.s,Val.names,Val.kids,List.length_nil] at A
  subst A
  have I:=Qq (fun W (hb:Below w w W)=>J3 kids ih S _ W (D.below hb) (J.below hb))
  simp only [Val.kids] at I
  clear h D J ih hkk
  go_enter func81,ntmps81
  go_wp2_with (go_at_call 57;refine (I.out _ (Zg _ _)).mono ?_;rintro e w' ⟨rfl,G⟩)
  go_ret
  exact ⟨rfl,(Zg _ _).thn G⟩
 | record names kids hl hn hs hkk ih=>
  intro S cs w h J
  obtain ⟨p3,k3,p4,k4,A,O,D,_⟩:=Z9.cells h
  simp only [vcs,Val.kind,Val.n,Val.s,Val.names,Val.kids] at A O
  rw [hl] at A O
  subst A
  have I:=Qq (fun W (hb:Below w w W)=>J3 kids ih S _ W (D.below hb) (J.below hb))
  obtain ⟨HN,HW,HS,HL,HT⟩:=Qqr O hn hs hl J
  simp only [Val.kids] at I
  have aU:kids.length≤1000000:=by obtain ⟨_,_,_,h⟩:=O.len;omega
  clear h D J ih hkk hn hs hl O
  generalize kids.length=n at I HN HL aU ⊢
  go_enter func81,ntmps81
  go_wp2_with fail
  obtain ⟨W1,U⟩:=eX (w.alloc (.cells #[.int .i64 4,Qqd,Qqe,.slice p3 n k3,.slice p4 n k4] 36))
  rw [U]
  have aF:=eqB U (Zg _ _)
  have aE:=eqH (b:=w.heap.size) U (Qw _ _)
  have aK:=Qq aF;have aN:=Qq aE
  clear U aF aE
  go_loopw [3,93] (fun ok i wr=>∃ k:Nat,k≤n∧i=.int .i64 k∧ok=.bool true∧Below W1 W1 wr) (fun _ i _=>n - (intOf i).toNat)
  case atStart=>exact ⟨0,Q8 _,rfl,rfl,Qz _ _⟩
  obtain ⟨k,bA,rfl,rfl,T⟩:=hrel
  have V:=kB T aN.out
  have aO:=Z8 V
  have c4:=rA4 V;have c3:=rA3 V
  have N:=Qq (aK.out.thn T);have Y:=Qq T
  clear T V
  by_cases hlt:k<n
  ·have aR:(0:Int)≤(k:Int):=Qqj
   have aS:(k:Int)<(n:Int):=Qqj
   obtain ⟨x,hx⟩:∃ x,names[k]?=some x:=⟨_,Qx (by rw [HL.out];exact hlt)⟩
   obtain ⟨b,aW,rfl,hc,-⟩:=(HN.out.below N.out).str hx
   have M:=Qq (H7 x (HW.out x (Qy hx)) wr (HT.out.below N.out))
   unfold sv at M
   cases k with
   | zero=>
    clear hx
    rw [show ((0:Nat):Int)=0 from rfl] at aR aS ⊢
    rw [Nat.add_zero] at hc
    go_wp2_with (go_at_call 112;refine M.out.mono ?_;rintro e w' ⟨rfl,G⟩;have Z:=Qq G;clear G)
    go_roundw
    case measure=>simp [intOf];omega
    case rel=>exact ⟨1,Qqj,rfl,rfl,Y.out.thn Z.out⟩
   | succ k'=>
    obtain ⟨y,hy⟩:∃ y,names[k']?=some y:=⟨_,Qx (by rw [HL.out];omega)⟩
    obtain ⟨b',aI,he,aQ,-⟩:=(HN.out.below N.out).str hy
    obtain ⟨rfl,rfl,-⟩:b=b'∧aW=aI∧True:=by simpa using he
    have aT:=L7 y x (HS.out k' y x hy hx)
    have aP:=Qv wr _ hc
    have aX:(0:Int)≤(k':Int):=Qqj
    have aY:(k':Int)<(n:Int):=Qqj
    have aZ:((k':Int)+1==0)=false:=by simp;omega
    clear hx hy he
    go_wp2_with fail
    refine M.out.mono ?_
    rintro e w2 ⟨rfl,G⟩
    have d3:=kD G aO c3
    have dc:=kD G aP aQ
    have Z:=Qq G
    clear G
    go_wp2_with fail
    go_roundw
    case measure=>simp [intOf];omega
    case rel=>exact ⟨k'+1+1,Qqj,by go_num,rfl,Y.out.thn Z.out⟩
  have aG:k=n:=Qqj
  subst aG
  go_wp2_with (go_at_call 57;refine (I.out _ N.out).mono ?_;rintro e w' ⟨rfl,G⟩)
  go_ret
  exact ⟨rfl,N.out.thn G⟩
def eqL {A B:Type} (p:A→B→Bool):List A→List B→Bool
 | [],[]=>true
 | x::s,y::t=>p x y&&eqL p s t
 | _,_=>false
theorem Ji {A B:Type} (p:A→B→Bool):∀ (a:List A) (b:List B),a.length≠b.length→eqL p a b=false
 | [],[],h=>absurd rfl h
 | [],_::_,_=>rfl
 | _::_,[],_=>rfl
 | x::s,y::t,h=>by unfold eqL;rw [Ji p s t (fun e=>h (by simp [e])),Bool.and_false]
theorem Qjd {S:Nat→Prop} {w:World} {cs:List Value} {x:Rel} (h:Y7.R S w cs x):∃ p c,cs=[.string ⟨x.table.toArray⟩,.slice p x.rows.length c]:=by
 obtain ⟨v,rfl,_,h2⟩:=h
 obtain ⟨p,c,rfl,_⟩:=h2.len
 exact ⟨p,c,rfl⟩
theorem eqFValTy (g:Nat) (lb:Array Value) (eg:∀ args w,(callFunc g args).run prog w=.ok (.enter g args) w) (S:Nat→Prop) (va vb:Value) (a:List Val) (b:List Ty) (w:World) (ha:Sl Ze S w va a) (hb:Sl J6 S w vb b) (p:Val→Ty→Bool)
  (hp:∀ (W:World) (x:Val) (y:Ty) (cx cy:List Value),Below w w W→x ∈ a→y ∈ b→Ze.R S W cx x→J6.R S W cy y→Calls prog g (#[.agg cx.toArray,.agg cy.toArray]++lb) W fun e w'=>e=.returned (.bool (p x y))∧Below W W w'):
  Calls prog 116 #[va,vb,.func (.func g) #[] lb] w fun e w'=>e=.returned (.bool (eqL p a b))∧Below w w w':=by
 obtain ⟨pa,ca,rfl,aJ⟩:=ha.len
 obtain ⟨pb,cb,rfl,aK⟩:=hb.len
 obtain ⟨HA,HB,HP⟩:=Qqo ha hb hp
 clear ha hb hp
 by_cases hn:a.length=b.length
 ·obtain ⟨n,O⟩:=eX (b.length)
  rw [O] at hn aK HB
  rw [hn] at HA aJ
  rw [hn,O]
  obtain ⟨r,hr⟩:=eX (eqL p a b)
  rw [hr]
  obtain ⟨HR,Y,Z⟩:=Qqo hr hn O
  clear hr hn O
  go_enter func116,ntmps116
  go_wp2_with fail
  go_loopw [17] (fun i wr=>∃ k:Nat,k≤n∧i=.int .i64 k∧Aside (eqL p (a.drop k) (b.drop k)=r)∧Below w w wr) (fun i _=>n - (intOf i).toNat)
  case atStart=>exact ⟨0,Q8 _,rfl,HR.out,Qz _ _⟩
  obtain ⟨k,aT,rfl,hE,aA⟩:=hrel
  have D:=Qq aA
  clear aA
  by_cases hlt:k<n
  ·have aR:(0:Int)≤(k:Int):=Qqj
   have aS:(k:Int)<(n:Int):=Qqj
   have M:k<a.length:=by rw [Y.out];exact hlt
   have N:k<b.length:=by rw [Z.out];exact hlt
   obtain ⟨x,hx⟩:∃ x,a[k]?=some x:=⟨_,Qx M⟩
   obtain ⟨y,hy⟩:∃ y,b[k]?=some y:=⟨_,Qx N⟩
   have aC:a.drop k=x::a.drop (k+1):=by rw [Qp M];rw [Qx M] at hx;cases hx;rfl
   have aD:b.drop k=y::b.drop (k+1):=by rw [Qp N];rw [Qx N] at hy;cases hy;rfl
   obtain ⟨ba,oa,cx,rfl,aP,-,-,U,G⟩:=(HA.out.below D.out).elem hx
   obtain ⟨bb,ob,cy,rfl,aQ,-,-,V,I⟩:=(HB.out.below D.out).elem hy
   have A:=Qq (fun W (h:Below wr wr W)=>HP.out W x y cx cy (D.out.thn h) (Qy hx) (Qy hy) (Ze.frame U (.of_below h)) (J6.frame V (.of_below h)))
   obtain ⟨bA,aU,bC,aW,T,_⟩:=Z9.cells U;simp only [vcs] at T;subst T
   obtain ⟨ky,sy,ny,bB,aY,aV,bD,aZ,aX,rfl⟩:=Xf.cells V
   have d0:=G 0 _ rfl;have d1:=G 1 _ rfl;have d2:=G 2 _ rfl;have d3:=G 3 _ rfl;have d4:=G 4 _ rfl
   have e0:=I 0 _ rfl;have e1:=I 1 _ rfl;have e2:=I 2 _ rfl;have e3:=I 3 _ rfl;have e4:=I 4 _ rfl
   simp only [show Ze.k=5 from rfl,Nat.add_zero] at d0 d1 d2 d3 d4
   simp only [show J6.k=5 from rfl,Nat.add_zero] at e0 e1 e2 e3 e4
   have aB:(p x y&&eqL p (a.drop (k+1)) (b.drop (k+1)))=r:=by have:=hE.out;rw [aC,aD] at this;exact this
   have J:=Qq aB
   clear hE aB aC aD M N hx hy U V G I
   cases hq:p x y with
   | true=>
    rw [hq] at A J
    go_wp2_with (go_at_fn g;refine (A.out _ (Zt _ _ _)).mono ?_;rintro e w' ⟨rfl,hw⟩;have HW:=Qq (D.out.thn ((Zt wr _ _).thn hw));clear hw)
    go_roundw
    case measure=>simp [intOf];omega
    case rel=>exact ⟨k+1,Qqj,by go_num,(show Aside _ from by have:=J.out;rwa [Bool.true_and] at this),HW.out⟩
   | false=>
    rw [hq] at A J
    have aN:r=false:=by have:=J.out;rw [Bool.false_and] at this;exact this.symm
    subst aN
    go_wp2_with (go_at_fn g;refine (A.out _ (Zt _ _ _)).mono ?_;rintro e w' ⟨rfl,hw⟩;have HW:=Qq (D.out.thn ((Zt wr _ _).thn hw));clear hw)
    go_ret
    exact ⟨rfl,HW.out⟩
  have aO:r=true:=by
   have:=hE.out
   rw [Qu (by rw [Y.out];omega),Qu (by rw [Z.out];omega)] at this
   exact this.symm
  subst aO
  clear hE
  go_wp2_with fail
  go_ret
  exact ⟨rfl,D.out⟩
 rw [Ji p a b hn]
 have hq:((a.length:Int) != (b.length:Int))=true:=by rw [bne_iff_ne];omega
 clear hn
 go_enter func116,ntmps116
 go_wp2_with fail
 go_ret
 exact ⟨rfl,Qz _ _⟩
theorem Ag (g:Nat) (lb:Array Value) (eg:∀ args w,(callFunc g args).run prog w=.ok (.enter g args) w) (S:Nat→Prop) (va vb:Value) (a:List Val) (b:List Val) (w:World) (ha:Sl Ze S w va a) (hb:Sl Ze S w vb b) (p:Val→Val→Bool)
  (hp:∀ (W:World) (x:Val) (y:Val) (cx cy:List Value),Below w w W→x ∈ a→y ∈ b→Ze.R S W cx x→Ze.R S W cy y→Calls prog g (#[.agg cx.toArray,.agg cy.toArray]++lb) W fun e w'=>e=.returned (.bool (p x y))∧Below W W w'):
  Calls prog 56 #[va,vb,.func (.func g) #[] lb] w fun e w'=>e=.returned (.bool (eqL p a b))∧Below w w w':=by
 obtain ⟨pa,ca,rfl,aK⟩:=ha.len
 obtain ⟨pb,cb,rfl,aL⟩:=hb.len
 obtain ⟨HA,HB,HP⟩:=Qqo ha hb hp
 clear ha hb hp
 by_cases hn:a.length=b.length
 ·obtain ⟨n,O⟩:=eX (b.length)
  rw [O] at hn aL HB
  rw [hn] at HA aK
  rw [hn,O]
  obtain ⟨r,hr⟩:=eX (eqL p a b)
  rw [hr]
  obtain ⟨HR,Z,aA⟩:=Qqo hr hn O
  clear hr hn O
  go_enter func56,ntmps56
  go_wp2_with fail
  go_loopw [17] (fun i wr=>∃ k:Nat,k≤n∧i=.int .i64 k∧Aside (eqL p (a.drop k) (b.drop k)=r)∧Below w w wr) (fun i _=>n - (intOf i).toNat)
  case atStart=>exact ⟨0,Q8 _,rfl,HR.out,Qz _ _⟩
  obtain ⟨k,aU,rfl,hE,aB⟩:=hrel
  have D:=Qq aB
  clear aB
  by_cases hlt:k<n
  ·have aS:(0:Int)≤(k:Int):=Qqj
   have aT:(k:Int)<(n:Int):=Qqj
   have M:k<a.length:=by rw [Z.out];exact hlt
   have N:k<b.length:=by rw [aA.out];exact hlt
   obtain ⟨x,hx⟩:∃ x,a[k]?=some x:=⟨_,Qx M⟩
   obtain ⟨y,hy⟩:∃ y,b[k]?=some y:=⟨_,Qx N⟩
   have aD:a.drop k=x::a.drop (k+1):=by rw [Qp M];rw [Qx M] at hx;cases hx;rfl
   have aE:b.drop k=y::b.drop (k+1):=by rw [Qp N];rw [Qx N] at hy;cases hy;rfl
   obtain ⟨ba,oa,cx,rfl,aQ,-,-,V,G⟩:=(HA.out.below D.out).elem hx
   obtain ⟨bb,ob,cy,rfl,aR,-,-,Y,I⟩:=(HB.out.below D.out).elem hy
   have A:=Qq (fun W (h:Below wr wr W)=>HP.out W x y cx cy (D.out.thn h) (Qy hx) (Qy hy) (Ze.frame V (.of_below h)) (Ze.frame Y (.of_below h)))
   obtain ⟨aZ,aV,bB,aX,T,_⟩:=Z9.cells V;simp only [vcs] at T;subst T
   obtain ⟨bA,aW,bC,aY,U,_⟩:=Z9.cells Y;simp only [vcs] at U;subst U
   have d0:=G 0 _ rfl;have d1:=G 1 _ rfl;have d2:=G 2 _ rfl;have d3:=G 3 _ rfl;have d4:=G 4 _ rfl
   have e0:=I 0 _ rfl;have e1:=I 1 _ rfl;have e2:=I 2 _ rfl;have e3:=I 3 _ rfl;have e4:=I 4 _ rfl
   simp only [show Ze.k=5 from rfl,Nat.add_zero] at d0 d1 d2 d3 d4
   simp only [show Ze.k=5 from rfl,Nat.add_zero] at e0 e1 e2 e3 e4
   have aC:(p x y&&eqL p (a.drop (k+1)) (b.drop (k+1)))=r:=by have:=hE.out;rw [aD,aE] at this;exact this
   have J:=Qq aC
   clear hE aC aD aE M N hx hy V Y G I
   cases hq:p x y with
   | true=>
    rw [hq] at A J
    go_wp2_with (go_at_fn g;refine (A.out _ (Zt _ _ _)).mono ?_;rintro e w' ⟨rfl,hw⟩;have HW:=Qq (D.out.thn ((Zt wr _ _).thn hw));clear hw)
    go_roundw
    case measure=>simp [intOf];omega
    case rel=>exact ⟨k+1,Qqj,by go_num,(show Aside _ from by have:=J.out;rwa [Bool.true_and] at this),HW.out⟩
   | false=>
    rw [hq] at A J
    have aO:r=false:=by have:=J.out;rw [Bool.false_and] at this;exact this.symm
    subst aO
    go_wp2_with (go_at_fn g;refine (A.out _ (Zt _ _ _)).mono ?_;rintro e w' ⟨rfl,hw⟩;have HW:=Qq (D.out.thn ((Zt wr _ _).thn hw));clear hw)
    go_ret
    exact ⟨rfl,HW.out⟩
  have aP:r=true:=by
   have:=hE.out
   rw [Qu (by rw [Z.out];omega),Qu (by rw [aA.out];omega)] at this
   exact this.symm
  subst aP
  clear hE
  go_wp2_with fail
  go_ret
  exact ⟨rfl,D.out⟩
 rw [Ji p a b hn]
 have hq:((a.length:Int) != (b.length:Int))=true:=by rw [bne_iff_ne];omega
 clear hn
 go_enter func56,ntmps56
 go_wp2_with fail
 go_ret
 exact ⟨rfl,Qz _ _⟩
theorem C1 (g:Nat) (lb:Array Value) (eg:∀ args w,(callFunc g args).run prog w=.ok (.enter g args) w) (S:Nat→Prop) (va vb:Value) (a:List Tbl) (b:List Rel) (w:World) (ha:Sl Zn S w va a) (hb:Sl Y7 S w vb b) (p:Tbl→Rel→Bool)
  (hp:∀ (W:World) (x:Tbl) (y:Rel) (cx cy:List Value),Below w w W→x ∈ a→y ∈ b→Zn.R S W cx x→Y7.R S W cy y→Calls prog g (#[.agg cx.toArray,.agg cy.toArray]++lb) W fun e w'=>e=.returned (.bool (p x y))∧Below W W w'):
  Calls prog 74 #[va,vb,.func (.func g) #[] lb] w fun e w'=>e=.returned (.bool (eqL p a b))∧Below w w w':=by
 obtain ⟨pa,ca,rfl,aM⟩:=ha.len
 obtain ⟨pb,cb,rfl,aN⟩:=hb.len
 obtain ⟨HA,HB,HP⟩:=Qqo ha hb hp
 clear ha hb hp
 by_cases hn:a.length=b.length
 ·obtain ⟨n,N⟩:=eX (b.length)
  rw [N] at hn aN HB
  rw [hn] at HA aM
  rw [hn,N]
  obtain ⟨r,hr⟩:=eX (eqL p a b)
  rw [hr]
  obtain ⟨HR,Y,Z⟩:=Qqo hr hn N
  clear hr hn N
  go_enter func74,ntmps74
  go_wp2_with fail
  go_loopw [17] (fun i wr=>∃ k:Nat,k≤n∧i=.int .i64 k∧Aside (eqL p (a.drop k) (b.drop k)=r)∧Below w w wr) (fun i _=>n - (intOf i).toNat)
  case atStart=>exact ⟨0,Q8 _,rfl,HR.out,Qz _ _⟩
  obtain ⟨k,bB,rfl,hE,aA⟩:=hrel
  have G:=Qq aA
  clear aA
  by_cases hlt:k<n
  ·have aZ:(0:Int)≤(k:Int):=Qqj
   have bA:(k:Int)<(n:Int):=Qqj
   have J:k<a.length:=by rw [Y.out];exact hlt
   have M:k<b.length:=by rw [Z.out];exact hlt
   obtain ⟨x,hx⟩:∃ x,a[k]?=some x:=⟨_,Qx J⟩
   obtain ⟨y,hy⟩:∃ y,b[k]?=some y:=⟨_,Qx M⟩
   have aC:a.drop k=x::a.drop (k+1):=by rw [Qp J];rw [Qx J] at hx;cases hx;rfl
   have aD:b.drop k=y::b.drop (k+1):=by rw [Qp M];rw [Qx M] at hy;cases hy;rfl
   obtain ⟨ba,oa,cx,rfl,aX,-,-,U,A⟩:=(HA.out.below G.out).elem hx
   obtain ⟨bb,ob,cy,rfl,aY,-,-,V,T⟩:=(HB.out.below G.out).elem hy
   have D:=Qq (fun W (h:Below wr wr W)=>HP.out W x y cx cy (G.out.thn h) (Qy hx) (Qy hy) (Zn.frame U (.of_below h)) (Y7.frame V (.of_below h)))
   obtain ⟨aW,aV,bD,bC,bM,bK,kx,bO,nx,bP,bH,bE,aS,bI,bF,aT,bJ,bG,aU,ax,zx,O,_⟩:=Yj U;simp only [tcs] at O;subst O
   obtain ⟨bN,bL,rfl⟩:=Qjd V
   have d0:=A 0 _ rfl;have d1:=A 1 _ rfl;have d2:=A 2 _ rfl;have d3:=A 3 _ rfl;have d4:=A 4 _ rfl;have d5:=A 5 _ rfl;have d6:=A 6 _ rfl;have d7:=A 7 _ rfl;have d8:=A 8 _ rfl;have d9:=A 9 _ rfl;have aJ:=A 10 _ rfl;have aK:=A 11 _ rfl;have aL:=A 12 _ rfl
   have e0:=T 0 _ rfl;have e1:=T 1 _ rfl
   simp only [show Zn.k=13 from rfl,Nat.add_zero] at d0 d1 d2 d3 d4 d5 d6 d7 d8 d9 aJ aK aL
   simp only [show Y7.k=2 from rfl,Nat.add_zero] at e0 e1
   have aB:(p x y&&eqL p (a.drop (k+1)) (b.drop (k+1)))=r:=by have:=hE.out;rw [aC,aD] at this;exact this
   have I:=Qq aB
   clear hE aB aC aD J M hx hy U V A T
   cases hq:p x y with
   | true=>
    rw [hq] at D I
    go_wp2_with (go_at_fn g;refine (D.out _ (Zt _ _ _)).mono ?_;rintro e w' ⟨rfl,hw⟩;have HW:=Qq (G.out.thn ((Zt wr _ _).thn hw));clear hw)
    go_roundw
    case measure=>simp [intOf];omega
    case rel=>exact ⟨k+1,Qqj,by go_num,(show Aside _ from by have:=I.out;rwa [Bool.true_and] at this),HW.out⟩
   | false=>
    rw [hq] at D I
    have aQ:r=false:=by have:=I.out;rw [Bool.false_and] at this;exact this.symm
    subst aQ
    go_wp2_with (go_at_fn g;refine (D.out _ (Zt _ _ _)).mono ?_;rintro e w' ⟨rfl,hw⟩;have HW:=Qq (G.out.thn ((Zt wr _ _).thn hw));clear hw)
    go_ret
    exact ⟨rfl,HW.out⟩
  have aR:r=true:=by
   have:=hE.out
   rw [Qu (by rw [Y.out];omega),Qu (by rw [Z.out];omega)] at this
   exact this.symm
  subst aR
  clear hE
  go_wp2_with fail
  go_ret
  exact ⟨rfl,G.out⟩
 rw [Ji p a b hn]
 have hq:((a.length:Int) != (b.length:Int))=true:=by rw [bne_iff_ne];omega
 clear hn
 go_enter func74,ntmps74
 go_wp2_with fail
 go_ret
 exact ⟨rfl,Qz _ _⟩
theorem Qjj (S:Nat→Prop) (va vb:Value) (a b:List Bs) (w:World) (ha:Sl Zh S w va a) (hb:Sl Zh S w vb b):
  Calls prog 115 #[va,vb] w fun e w'=>e=.returned (.bool (eqL (fun x y=>decide (x=y)) a b))∧Below w w w':=by
 obtain ⟨pa,ca,rfl,aC⟩:=ha.len
 obtain ⟨pb,cb,rfl,aD⟩:=hb.len
 have HA:=Qq ha;have HB:=Qq hb
 clear ha hb
 by_cases hn:a.length=b.length
 ·obtain ⟨n,I⟩:=eX (b.length)
  rw [I] at hn aD HB
  rw [hn] at HA aC
  rw [hn,I]
  obtain ⟨r,hr⟩:=eX (eqL (fun (x y:Bs)=>decide (x=y)) a b)
  rw [hr]
  obtain ⟨HR,N,O⟩:=Qqo hr hn I
  clear hr hn I
  go_enter func115,ntmps115
  go_wp2_with fail
  go_loopw [13] (fun i wr=>∃ k:Nat,k≤n∧i=.int .i64 k∧Aside (eqL (fun (x y:Bs)=>decide (x=y)) (a.drop k) (b.drop k)=r)∧Below w w wr) (fun i _=>n - (intOf i).toNat)
  case atStart=>exact ⟨0,Q8 _,rfl,HR.out,Qz _ _⟩
  obtain ⟨k,aK,rfl,Z,T⟩:=hrel
  have A:=Qq T
  clear T
  by_cases hlt:k<n
  ·have aI:(0:Int)≤(k:Int):=Qqj
   have aJ:(k:Int)<(n:Int):=Qqj
   have D:k<a.length:=by rw [N.out];exact hlt
   have G:k<b.length:=by rw [O.out];exact hlt
   obtain ⟨x,hx⟩:∃ x,a[k]?=some x:=⟨_,Qx D⟩
   obtain ⟨y,hy⟩:∃ y,b[k]?=some y:=⟨_,Qx G⟩
   have V:a.drop k=x::a.drop (k+1):=by rw [Qp D];rw [Qx D] at hx;cases hx;rfl
   have Y:b.drop k=y::b.drop (k+1):=by rw [Qp G];rw [Qx G] at hy;cases hy;rfl
   obtain ⟨ba,oa,rfl,c1,-⟩:=(HA.out.below A.out).str hx
   obtain ⟨bb,ob,rfl,c2,-⟩:=(HB.out.below A.out).str hy
   have U:(decide (x=y)&&eqL (fun (x y:Bs)=>decide (x=y)) (a.drop (k+1)) (b.drop (k+1)))=r:=by have:=Z.out;rw [V,Y] at this;exact this
   have M:=Qq U
   clear Z U V Y D G hx hy
   by_cases J:x=y
   ·subst J
    have aE:(x != x)=false:=Qqk
    go_wp2_with fail
    go_quiet (fail)
    go_wp2
    go_roundw
    case measure=>simp [intOf];omega
    case rel=>exact ⟨k+1,Qqj,by go_num,(show Aside _ from by have:=M.out;simp at this;exact this),A.out.thn (Yq _ _)⟩
   have aE:(x != y)=true:=by rw [bne_iff_ne];exact J
   have aG:r=false:=by have:=M.out;rw [decide_eq_false J,Bool.false_and] at this;exact this.symm
   subst aG
   have aL:(x==y)=false:=by rw [← Qt,beq_iff_eq];exact J
   clear J
   go_wp2_with fail
   go_quiet (fail)
   go_wp2
   go_ret
   exact ⟨rfl,A.out.thn (Yq _ _)⟩
  have aH:r=true:=by
   have:=Z.out
   rw [Qu (by rw [N.out];omega),Qu (by rw [O.out];omega)] at this
   exact this.symm
  subst aH
  clear Z
  go_wp2_with fail
  go_ret
  exact ⟨rfl,A.out⟩
 rw [Ji _ a b hn]
 have J:((a.length:Int) != (b.length:Int))=true:=by rw [bne_iff_ne];omega
 clear hn
 go_enter func115,ntmps115
 go_wp2_with fail
 go_ret
 exact ⟨rfl,Qz _ _⟩
theorem Xm (w:World) (o p q:Obj):Below w w (((w.alloc o).alloc p).alloc q):=(Zt w o p).alloc (Zt w o p).size _
theorem Zi (w:World) (A B C:Obj):(((w.alloc A).alloc B).alloc C).heap[w.heap.size+2]?=some C:=by
 have e:((w.alloc A).alloc B).heap.size=w.heap.size+2:=Qqk
 rw [← e];exact Qw _ _
def Dk (us:List Sm) (v:Val) (t:Ty) (b:Bool):Prop:=∀ (S S' S'':Nat→Prop) (cv ct:List Value) (ps:Option Addr) (ns cs:Nat) (w:World),Sl Uu S'' w (.slice ps ns cs) us→Z9 S w cv v→Xf S' w ct t →
 Calls prog 82 #[.slice ps ns cs,cv,ct] w fun e w'=>e=.returned (.bool b)∧Below w w w'
theorem Xf.cells' {S:Nat→Prop} {w:World} {cs:List Value} {k n:Int} {s:Bs} {names:List Bs} {kids:List Ty} (h:Xf S w cs (.mk k s n names kids)):∃ p3 k3 p4 k4,cs=[.int .i64 k,.string ⟨s.toArray⟩,.int .i64 n,.slice p3 names.length k3,.slice p4 kids.length k4]∧Sl Zh S w (.slice p3 names.length k3) names∧Sl J6 S w (.slice p4 kids.length k4) kids:=by
 obtain ⟨nv,kv,rfl,hs,hn,hk⟩:=O4.1 h
 obtain ⟨p3,k3,rfl,_⟩:=hn.len
 obtain ⟨p4,k4,rfl,_⟩:=hk.len
 exact ⟨p3,k3,p4,k4,rfl,hn,hk⟩
theorem Tr (us:List Sm) (v:Val) (k:Int) (hk:k=0∨k=1∨k=2) (s:Bs) (n:Int) (names:List Bs) (kids:List Ty):Dk us v (.mk k s n names kids) (v.kind==k):=by
 intro S S' G cv ct ps ns cs w D hv ht
 obtain ⟨p3,k3,p4,k4,A,_⟩:=Z9.cells hv
 simp only [vcs] at A
 subst A
 obtain ⟨q3,l3,q4,l4,rfl,_⟩:=ht.cells'
 clear hv ht D
 rcases hk with rfl | rfl | rfl
 all_goals
  go_enter func82,ntmps82
  go_wp2_with fail
  go_ret
  exact ⟨rfl,Xm _ _ _ _⟩
theorem has2_any (us:List Sm) (v:Val) (t:Ty) (b:Bool) (h:Dk us v t b) (S S' S'':Nat→Prop) (cv ct:List Value) (ps:Option Addr) (ns cs:Nat) (B:Nat) (w:World) (hsm:Sl Uu S'' w (.slice ps ns cs) us) (hv:Z9 S w cv v) (ht:Xf S' w ct t) (hc:w.cell? ⟨B,0,none⟩=some (.slice ps ns cs)):
  Calls prog 117 #[cv,ct,Qqc B] w fun e w'=>e=.returned (.bool b)∧Below w w w':=by
 have HH:=Qq (fun W (hb:Below w w W)=>h S S' S'' cv ct ps ns cs W (hsm.below hb) (hv.move (.of_below hb) Qzx) (ht.move (.of_below hb) Qzx))
 have hB:=Qv w _ hc
 obtain ⟨p3,k3,p4,k4,A,_⟩:=Z9.cells hv
 simp only [vcs] at A
 subst A
 obtain ⟨_,_,_,_,_,_,_,_,_,rfl⟩:=ht.cells
 have D:B<w.heap.size:=hB
 have G:B<w.heap.size+1:=Qqj
 clear hv ht h hsm
 go_enter func117,ntmps117
 go_wp2_with (go_at_call 82;refine (HH.out _ (Zt _ _ _)).mono ?_;rintro e w' ⟨rfl,hw⟩)
 go_ret
 exact ⟨rfl,(Zt _ _ _).thn hw⟩
def A9 (p:Val→Ty→Bool) (v:Val) (names:List Bs) (kids:List Ty):Bool:=(v.kind==4)&&eqL (fun x y=>decide (x=y)) v.names names&&eqL p v.kids kids
theorem Sp (us:List Sm) (v:Val) (s:Bs) (names:List Bs) (kids:List Ty) (p:Val→Ty→Bool) (hp:∀ x ∈ v.kids,∀ y ∈ kids,Dk us x y (p x y)):Dk us v (.mk 5 s 0 names kids) (A9 p v names kids):=by
 intro S0 aI aH cv ct ps ns cs w A Y T
 have O:Sl Uu (fun b=>b<w) w (.slice ps ns cs) us:=A.mono (fun b hb _=>hb)
 have hv:Z9 (fun b=>b<w) w cv v:=Y.move (.refl _ _) (fun b hb _=>hb)
 have ht:Xf (fun b=>b<w) w ct (.mk 5 s 0 names kids):=T.move (.refl _ _) (fun b hb _=>hb)
 clear Y T A
 obtain ⟨p3,k3,p4,k4,N,aA,Z,_⟩:=Z9.cells hv
 simp only [vcs] at N
 subst N
 obtain ⟨q3,l3,q4,l4,rfl,V,U⟩:=ht.cells'
 have HN:=Qq (fun W (hb:Below w w W)=>Qjj _ _ _ v.names names W (aA.below hb) (V.below hb))
 have HE:=Qq (fun W (hb:Below w w W) (hc:W.cell? ⟨w,0,none⟩=some (.slice ps ns cs))=>eqFValTy 117 #[Qqc w] (enters_of func117 Qqy rfl) _ _ _ v.kids kids W (Z.below hb) (U.below hb) p
  (fun W' x y cx cy M hx hy h1 h2=>has2_any us x y _ (hp x hx y hy) _ _ _ cx cy ps ns cs w W' ((O.below hb).below M) h1 h2 (kD M (Qv W _ hc) hc)))
 have hR:A9 p v names kids=((v.kind==4)&&eqL (fun x y=>decide (x=y)) v.names names&&eqL p v.kids kids):=rfl
 rw [hR]
 generalize eqL (fun (x y:Bs)=>decide (x=y)) v.names names=bn at HN ⊢
 generalize eqL p v.kids kids=bk at HE ⊢
 clear hv ht aA Z V U hp hR O
 by_cases h4:v.kind=4
 ·rw [h4]
  have hq:((4:Int)==4)=true:=rfl
  rw [hq]
  go_enter func82,ntmps82
  go_wp2_with fail
  refine (HN.out _ (Xm _ _ _ _)).mono ?_
  rintro e w1 ⟨rfl,D⟩
  have G:=(D.block w (by simp;omega)).trans ((Below.heap_alloc _ _ _ (by simp;omega)).trans (Q5 w _ _))
  have I:=(D.block (w+1) Qqk).trans ((Below.heap_alloc _ _ _ Qqk).trans (Q6 w _ _))
  have J:=(D.block (w+2) Qqk).trans (Zi w _ _ _)
  have c0:=rA0 G;have c4:=rA4 I;have d4:=rA4 J
  have HW:=Qq ((Xm w _ _ _).thn D)
  have aB:=Qq c0
  clear D G I J
  cases bn with
  | false=>
   go_wp2_with fail
   go_ret
   exact ⟨rfl,HW.out⟩
  | true=>
   go_wp2_with (go_at_call 116;refine (HE.out _ HW.out aB.out).mono ?_;rintro e w' ⟨rfl,D⟩;have aD:=Qq (HW.out.thn D);clear D)
   go_ret
   exact ⟨rfl,aD.out⟩
 have hq:(v.kind==4)=false:=by simpa using h4
 rw [hq]
 clear h4
 go_enter func82,ntmps82
 go_wp2_with fail
 go_ret
 exact ⟨rfl,Xm _ _ _ _⟩
theorem hasGood (us:List Sm) (v:Val) (t:Ty) (b:Bool) (hg:Y2 v) (h:Dk us v t b) (S S' S'':Nat→Prop) (cv ct:List Value) (ps:Option Addr) (ns cs:Nat) (w:World) (hsm:Sl Uu S'' w (.slice ps ns cs) us) (hv:Z9 S w cv v) (ht:Xf S' w ct t) (hT:Xl w):
  Calls prog 30 #[.slice ps ns cs,cv,ct] w fun e w'=>e=.returned (.bool b)∧Below w w w':=by
 have HV:=Qq (fun W (hb:Below w w W)=>Ao v hg S cv W (hv.move (.of_below hb) Qzx) (hT.below hb))
 have HH:=Qq (fun W (hb:Below w w W)=>h S S' S'' cv ct ps ns cs W (hsm.below hb) (hv.move (.of_below hb) Qzx) (ht.move (.of_below hb) Qzx))
 obtain ⟨p3,k3,p4,k4,I,_⟩:=Z9.cells hv
 simp only [vcs] at I
 subst I
 obtain ⟨y1,y2,y3,y4,y5,y6,y7,y8,y9,rfl⟩:=ht.cells
 clear hv ht h hg hT hsm
 go_enter func30,ntmps30
 go_wp2_with fail
 refine (HV.out _ (Zt _ _ _)).mono ?_
 rintro e w1 ⟨rfl,G⟩
 have A:=(G.block w (by simp;omega)).trans (Q5 w _ _)
 have D:=(G.block (w+1) Qqk).trans (Q6 w _ _)
 have c0:=rA0 A;have c1:=rA1 A;have c2:=rA2 A;have c3:=rA3 A;have c4:=rA4 A;have d0:=rA0 D;have d1:=rA1 D;have d2:=rA2 D;have d3:=rA3 D;have d4:=rA4 D
 have HW:=Qq ((Zt w _ _).thn G)
 clear G A D
 go_wp2_with (go_at_call 82;refine (HH.out _ HW.out).mono ?_;rintro e w' ⟨rfl,G⟩)
 go_ret
 exact ⟨rfl,HW.out.thn G⟩
def Vl:Rd UInt8 where
 k:=1
 R _ _ cs x:=cs=[.int .u8 x.toNat]
 len h:=by rw [h];rfl
 frame h _:=h
 mono h _:=h
theorem Od:∀ S w cs x,Vl.R S w cs x→∀ u ∈ cs,u.oneCell'=true:=by
 intro S w cs x h u A
 rw [show cs=[.int .u8 x.toNat] from h] at A
 simp only [Z3,Z2,or_false] at A
 subst A;rfl
def vb (n:Nat):Bs:=if h:n<128 then [UInt8.ofNat n] else UInt8.ofNat (n % 128+128)::vb (n / 128)
termination_by n
decreasing_by omega
theorem B8 {n:Nat} (h:n<128):vb n=[UInt8.ofNat n]:=by unfold vb;rw [dif_pos h]
theorem Le {n:Nat} (h:¬ n<128):vb n=UInt8.ofNat (n % 128+128)::vb (n / 128):=by rw [vb,dif_neg h]
theorem vb_len:∀ (k n:Nat),n<128 ^ (k+1)→(vb n).length≤k+1
 | 0,n,h=>by rw [B8 (by simpa using h)];simp
 | k+1,n,h=>by
  by_cases hn:n<128
  ·rw [B8 hn];simp
  rw [Le hn,List.length_cons]
  have:n / 128<128 ^ (k+1):=by
   rw [Nat.div_lt_iff_lt_mul Qqj]
   rw [Nat.pow_succ] at h
   omega
  have:=vb_len k (n / 128) this
  omega
theorem Nx {n:Nat} (h:n<18446744073709551616):(vb n).length≤10:=vb_len 9 n Qqj
structure WAt (g:Nat) (w:World) (v:Value) (bs:Bs):Prop where
 cell:w.heap[g]?=some (.cells #[v] 148 (0,0))
 own:∃ css,Own Vl 5 (fun _=>False) (g+1) w v bs css
structure Jd (g:Nat) (w:World) (v:Value) (w':World) (v':Value):Prop where
 below:Below g w w'
 size:w≤w'.heap.size
 keep:∀ b,b<w.heap.size→b≠g→some b≠v.ownBlock→w'.heap[b]?=w.heap[b]?
 at':v'.ownBlock=v.ownBlock∨∃ k,v'.ownBlock=some k∧w.heap.size≤k
theorem Jd.refl (g:Nat) (w:World) (v:Value):Jd g w v w v:=⟨Qz _ _,Q9 _,fun _ _ _ _=>rfl,.inl rfl⟩
theorem Jd.trans {g:Nat} {a b c:World} {u v x:Value} (h:Jd g a u b v) (k:Jd g b v c x):Jd g a u c x:=by
 refine ⟨h.below.trans k.below,Qc h.size k.size,fun i hi hg hu=>?_,?_⟩
 ·rw [k.keep i (Qa hi h.size) hg (fun e=>?_),h.keep i hi hg hu]
  rcases h.at' with e2 | ⟨q,e2,hq⟩
  ·exact hu (e.trans e2)
  rw [e2] at e;have:=Qb e;omega
 rcases k.at' with e | ⟨q,e,hq⟩
 ·rcases h.at' with e2 | ⟨q2,e2,hq2⟩
  ·exact .inl (e.trans e2)
  exact .inr ⟨q2,e.trans e2,hq2⟩
 exact .inr ⟨q,e,Qc h.size hq⟩
theorem WAt.below {g:Nat} {w w':World} {v:Value} {bs:Bs} (h:WAt g w v bs) (hb:Below w w w'):WAt g w' v bs:=by
 obtain ⟨css,ho⟩:=h.own
 exact ⟨kB hb h.cell,css,ho.below hb⟩
theorem Jd.of_below {g:Nat} {w w':World} {v:Value} (hb:Below w w w') (hg:g≤w):Jd g w v w' v:=⟨hb.mono hg,hb.size,fun b A _ _=>hb.block b A,.inl rfl⟩
theorem or128 (m:Nat):bits BinOp.or IntKind.u8 ((m:Int) % 256) 128=((UInt8.ofNat (m % 128+128)).toNat:Int):=by
 have h:∀ r,r<256→bits BinOp.or IntKind.u8 ((r:Nat):Int) 128=((r % 128+128:Nat):Int):=Qqx
 have e:(m:Int) % 256=((m % 256:Nat):Int):=Qqj
 rw [e,h (m % 256) (Nat.mod_lt _ Qqj)]
 rw [show (UInt8.ofNat (m % 128+128)).toNat=m % 128+128 from by rw [UInt8.toNat_ofNat'];omega]
 omega
theorem low128 (m:Nat) (h:m<128):(m:Int)=((UInt8.ofNat m).toNat:Int):=by
 rw [show (UInt8.ofNat m).toNat=m from by rw [UInt8.toNat_ofNat'];omega]
def Nb (g:Nat) (w:World) (v:Value) (bs:Bs) (e:Ending) (w':World):Prop:=e=.returned (.tuple #[])∧∃ v',WAt g w' v' bs∧Jd g w v w' v'
theorem uint_any (g:Nat) (w:World) (v:Value) (bs:Bs) (n:Nat) (h:WAt g w v bs) (hn:n<18446744073709551616) (hl:bs.length≤100000):
  Calls prog 181 #[Qqc g,.int .u64 n] w (Nb g w v (bs++vb n)):=by
 have H:=Qq h
 obtain ⟨i5,j1,j2,j3,j4⟩:=Y9 (P:=prog) (t:=5) (z:=.int .u8 0) (n:=1) (b:=1) Qqy
 obtain ⟨HJ,aB,aC,aD⟩:=Qqp j1 j2 j3 j4
 clear h j1 j2 j3 j4
 go_enter func181,ntmps181
 go_wp2_with fail
 go_loopw [1] (fun s wr=>∃ (m:Nat) (cs:Bs) (u:Value),s=.int .u64 m∧m≤n∧Aside (cs++vb m=bs++vb n)∧WAt g wr u cs∧Jd g w v wr u) (fun s _=>(intOf s).toNat)
 case atStart=>exact ⟨n,bs,v,rfl,Q9 _,rfl,H.out,Jd.refl _ _ _⟩
 obtain ⟨m,cs,u,rfl,aQ,hE,hA,hS⟩:=hrel
 have c0:=Qk _ _ 0 _ _ _ hA.cell;have f0:=fA 0 hA.cell
 simp only [Qf,Qg] at c0
 obtain ⟨css,hO⟩:=hA.own
 obtain ⟨up,T,rfl⟩:∃ p cap,u=.slice p cs.length cap:=by
  rcases hO.row.2 with ⟨rfl,h0⟩ | ⟨q,cap,aO,rfl,_⟩
  ·exact ⟨none,0,by rw [h0]⟩
  exact ⟨_,_,rfl⟩
 have O:=Z8 hA.cell
 have aP:cs.length≤100010:=by
  have h1:=congrArg List.length hE.out
  rw [Ql,Ql] at h1
  have:=Nx hn
  omega
 obtain ⟨HA,HS,HO,HE⟩:=Qqp hA.cell hS hO hE.out
 clear hA hS hO hE
 by_cases hlt:m<128
 ·have aM:(m:Int)<128:=Qqj
  have hb:=low128 m hlt
  obtain ⟨c,Y⟩:=eX (UInt8.ofNat m)
  rw [Y] at hb
  have HC:=Qq Y;have aG:=Qq hb
  clear Y hb
  go_wp2_with (at_builtin;refine Yl (r:=Vl) Qqx rfl (.tmp 24) (.tmp 27) _ rfl 5 i5 (.int .u8 0) 1 underlying116 HJ.out aB.out aC.out aD.out rfl Qqj (fun _=>False) (g+1) wr (.slice up cs.length T) cs css [.int .u8 m] c rfl HO.out rfl (by show _=_;rw [aG.out]) (by simp [Value.oneCell']) cs.length rfl Qqj Qqj ?_;intro p5 N J w5 M G;have I:=Qq M;have A:=Qq G;have D:=(G.other g O (fun e=>by have:=(HO.out.row.lt g e.symm).1;omega)).trans HA.out;have aJ:=fA 0 D;have aI:=rA0 D;have U:=Qq D;clear M G D)
  go_end0
  have aN:bs++vb n=cs++[c]:=by rw [← HE.out,B8 hlt,HC.out]
  rw [aN]
  refine ⟨rfl,_,⟨by rw [Qi _ _ _ _ _ _ U.out];rfl,J,I.out.move (Q9 _) (fun b _ h=>Za ?_)⟩,HS.out.trans ⟨(A.out.below.mono (Nat.le_succ g)).setCell (p:=⟨g,0,none⟩) (Q9 _) _,by simp [World.setCell];exact A.out.size,fun b hb V Z=>?_,A.out.at'⟩⟩
  ·rcases h with h | h
   ·exact h.elim
   have:=(I.out.row.lt b h).1
   show b≠g
   omega
  rw [Za V,A.out.other b hb Z]
 have aM:(128:Int)≤(m:Int):=Qqj
 have hb:=or128 m
 obtain ⟨c,Y⟩:=eX (UInt8.ofNat (m % 128+128))
 rw [Y] at hb
 have HC:=Qq Y
 clear Y
 go_wp2_with (at_builtin;refine Yl (r:=Vl) Qqx rfl (.tmp 12) (.tmp 16) _ rfl 5 i5 (.int .u8 0) 1 underlying116 HJ.out aB.out aC.out aD.out rfl Qqj (fun _=>False) (g+1) wr (.slice up cs.length T) cs css [.int .u8 c.toNat] c rfl HO.out rfl rfl (by simp [Value.oneCell']) cs.length rfl Qqj Qqj ?_;intro p5 N J w5 M G;have I:=Qq M;have A:=Qq G;have D:=(G.other g O (fun e=>by have:=(HO.out.row.lt g e.symm).1;omega)).trans HA.out;have aJ:=fA 0 D;have aI:=rA0 D;have U:=Qq D;clear M G D)
 go_roundw
 case measure=>simp only [intOf];omega
 case rel=>
  refine ⟨m / 128,cs++[c],.slice p5 (cs.length+1) N,by go_num,Qqj,(show Aside _ from ?_),⟨by rw [Qi _ _ _ _ _ _ U.out];rfl,J,I.out.move (Q9 _) (fun b _ h=>Za ?_)⟩,HS.out.trans ⟨(A.out.below.mono (Nat.le_succ g)).setCell (p:=⟨g,0,none⟩) (Q9 _) _,by simp [World.setCell];exact A.out.size,fun b hb V Z=>?_,A.out.at'⟩⟩
  ·have h1:=HE.out
   rw [Le hlt,HC.out] at h1
   have h2:cs++[c]++vb (m / 128)=bs++vb n:=by rw [← h1];simp
   exact h2
  ·rcases h with h | h
   ·exact h.elim
   have:=(I.out.row.lt b h).1
   show b≠g
   omega
  rw [Za V,A.out.other b hb Z]
def zz (n:Int):Nat:=if 0≤n then (2*n).toNat else (-2*n - 1).toNat
theorem xor_zero (x:Int) (h0:0≤x) (h1:x<18446744073709551616):bits BinOp.xor IntKind.u64 x 0=x:=by
 show IntKind.u64.wrap ((BitVec.ofInt 64 x ^^^ BitVec.ofInt 64 0).toNat:Int)=x
 have e:BitVec.ofInt 64 0=0#64:=Qqx
 rw [e,BitVec.xor_zero,IntKind.wrap_u64,BitVec.toNat_ofInt]
 omega
theorem xor_ones (x:Int) (h0:0≤x) (h1:x<18446744073709551616):bits BinOp.xor IntKind.u64 x 18446744073709551615=18446744073709551615 - x:=by
 show IntKind.u64.wrap ((BitVec.ofInt 64 x ^^^ BitVec.ofInt 64 18446744073709551615).toNat:Int)=_
 have e:BitVec.ofInt 64 18446744073709551615=BitVec.allOnes 64:=Qqx
 rw [e,BitVec.xor_allOnes,BitVec.toNat_not,IntKind.wrap_u64,BitVec.toNat_ofInt]
 omega
theorem zig_any (n:Int) (h0:-2305843009213693952≤n) (h1:n<2305843009213693952) (w:World):Calls prog 195 #[n] w fun e w'=>e=.returned (.int .u64 (zz n))∧w=w':=by
 by_cases h:0≤n
 ·have A:bits BinOp.xor IntKind.u64 (n*2) (n / 9223372036854775808)=(zz n:Nat):=by
   rw [show n / 9223372036854775808=0 by omega,xor_zero _ Qqj Qqj]
   unfold zz;rw [if_pos h];omega
  have D:=Qq A
  clear A
  go_enter func195,ntmps195
  go_wp2_with fail
  go_ret
  exact ⟨Ki D.out,rfl⟩
 have h':n<0:=Qqj
 have A:bits BinOp.xor IntKind.u64 (IntKind.u64.wrap (IntKind.u64.wrap n*2)) (IntKind.u64.wrap (n / 9223372036854775808))=(zz n:Nat):=by
  rw [IntKind.wrap_u64,IntKind.wrap_u64,IntKind.wrap_u64,show n / 9223372036854775808 % 18446744073709551616=18446744073709551615 by omega,xor_ones _ Qqj Qqj]
  unfold zz;rw [if_neg h];omega
 have D:=Qq A
 clear A h
 go_enter func195,ntmps195
 go_wp2_with fail
 go_ret
 exact ⟨Ki D.out,rfl⟩
theorem Wk {n:Int} (h0:-2305843009213693952≤n) (h1:n<2305843009213693952):zz n<18446744073709551616:=by unfold zz;split <;> omega
theorem zz_inj {a b:Int} (h:zz a=zz b):a=b:=by unfold zz at h;split at h <;> split at h <;> omega
theorem Rh:∀ (n a b:Nat) (x y:Bs),a≤n→vb a++x=vb b++y→a=b∧x=y
 | n,a,b,x,y,hn,h=>by
  by_cases ha:a<128
  ·by_cases hb:b<128
   ·rw [B8 ha,B8 hb] at h
    simp only [List.cons_append,List.nil_append,List.cons.injEq] at h
    have h1:=congrArg UInt8.toNat h.1
    rw [UInt8.toNat_ofNat',UInt8.toNat_ofNat'] at h1
    exact ⟨Qqj,h.2⟩
   rw [B8 ha,Le hb] at h
   simp only [List.cons_append,List.nil_append,List.cons.injEq] at h
   have h1:=congrArg UInt8.toNat h.1
   rw [UInt8.toNat_ofNat',UInt8.toNat_ofNat'] at h1
   omega
  by_cases hb:b<128
  ·rw [Le ha,B8 hb] at h
   simp only [List.cons_append,List.nil_append,List.cons.injEq] at h
   have h1:=congrArg UInt8.toNat h.1
   rw [UInt8.toNat_ofNat',UInt8.toNat_ofNat'] at h1
   omega
  rw [Le ha,Le hb] at h
  simp only [List.cons_append,List.cons.injEq] at h
  have h1:=congrArg UInt8.toNat h.1
  rw [UInt8.toNat_ofNat',UInt8.toNat_ofNat'] at h1
  cases n with
  | zero=>omega
  | succ n=>
   obtain ⟨h2,h3⟩:=Rh n (a / 128) (b / 128) x y Qqj h.2
   exact ⟨Qqj,h3⟩
theorem Wv (g:Nat) (w:World) (v:Value) (bs:Bs) (n:Int) (h:WAt g w v bs) (h0:-2305843009213693952≤n) (h1:n<2305843009213693952) (hl:bs.length≤100000):
  Calls prog 180 #[Qqc g,n] w (Nb g w v (bs++vb (zz n))):=by
 have HZ:=Qq (zig_any n h0 h1 w)
 have A:=Qq (uint_any g w v bs (zz n) h (Wk h0 h1) hl)
 clear h h0 h1 hl
 generalize zz n=m at HZ A ⊢
 generalize D:bs++vb m=b2 at A ⊢
 clear D
 go_enter func180,ntmps180
 go_wp2_with (first | (go_at_call 195;refine HZ.out.mono ?_;rintro e w' ⟨rfl,rfl⟩) | (go_at_call 181;refine A.out.mono ?_;rintro e w' ⟨rfl,hw⟩))
 go_end0
 exact ⟨rfl,hw⟩
theorem Wm (g:Nat) (w:World) (v:Value) (bs:Bs) (a n:Int) (b:Nat) (hA:WAt g w v bs) (h0:-2305843009213693952≤n) (h1:n<2305843009213693952) (a0:-2305843009213693952≤a) (a1:a<2305843009213693952) (hl:bs.length≤10000)
  (hb:w.heap[b]?=some (.cells #[a,n] 3 (0,0))) (hbg:b≠g) (hbv:v.ownBlock≠some b):
  Calls prog 159 #[Qqc g,Qqb b 0 2 2] w (Nb g w v (bs++vb (zz a)++vb (zz n))):=by
 obtain ⟨HA,HB,HV,H0,H1,Z,aA⟩:=Qqt hA hb hbv h0 h1 a0 a1
 have aG:=Nx (Wk a0 a1)
 clear hA hb hbv h0 h1 a0 a1
 go_enter func159,ntmps159
 go_wp2_with fail
 go_loopw [8] (fun i wr=>∃ (k:Nat) (cs:Bs) (u:Value),k≤2∧i=.int .i64 k∧Aside (k=0→cs=bs)∧Aside (k=1→cs=bs++vb (zz a))∧Aside (k=2→cs=bs++vb (zz a)++vb (zz n))∧WAt g wr u cs∧Jd g w v wr u) (fun i _=>2 - (intOf i).toNat)
 case atStart=>exact ⟨0,bs,v,Qqj,rfl,fun _=>rfl,fun h=>Qqj,fun h=>Qqj,HA.out,Jd.refl _ _ _⟩
 obtain ⟨k,cs,u,hk,rfl,U,V,Y,hA,hS⟩:=hrel
 have T:wr.heap[b]?=some (.cells #[a,n] 3 (0,0)):=by
  rw [hS.keep b (Z8 HB.out) hbg (fun e=>HV.out e.symm)];exact HB.out
 obtain ⟨c0,c1⟩:=row2 T
 have HS:=Qq hS
 clear T hS
 match k,hk with
 | 0,_=>
  have A:cs=bs:=U.out rfl
  subst A
  have O:=Qq (Wv g wr u cs a hA Z.out aA.out Qqj)
  clear U V Y hA
  generalize D:cs++vb (zz a)=b2 at O
  have M:=Qq D
  clear D
  rw [show ((0:Nat):Int)=0 from rfl]
  go_wp2_with (go_at_call 180;refine O.out.mono ?_;rintro e w' ⟨rfl,v',G,I⟩;have J:=Qq G;have N:=Qq I;clear G I)
  go_roundw
  case measure=>simp [intOf]
  case rel=>exact ⟨1,b2,v',Qqj,rfl,fun h=>Qqj,fun _=>(by first | exact M.out.symm | rfl),fun h=>Qqj,J.out,HS.out.trans N.out⟩
 | 1,_=>
  have A:cs=bs++vb (zz a):=V.out rfl
  have O:=Qq (Wv g wr u cs n hA H0.out H1.out (by rw [A,Ql];omega))
  clear U V Y hA
  generalize D:cs++vb (zz n)=b2 at O
  rw [A] at D
  have M:=Qq D
  clear D A
  rw [show ((1:Nat):Int)=1 from rfl]
  go_wp2_with (go_at_call 180;refine O.out.mono ?_;rintro e w' ⟨rfl,v',G,I⟩;have J:=Qq G;have N:=Qq I;clear G I)
  go_roundw
  case measure=>simp [intOf]
  case rel=>exact ⟨2,b2,v',Qqj,rfl,fun h=>Qqj,fun h=>Qqj,fun _=>(by first | exact M.out.symm | rfl),J.out,HS.out.trans N.out⟩
 | 2,_=>
  have A:cs=bs++vb (zz a)++vb (zz n):=Y.out rfl
  have aC:=Qq A
  have aB:=Qq hA
  clear U V Y hA A
  rw [show ((2:Nat):Int)=2 from rfl]
  go_wp2_with fail
  go_end0
  exact ⟨rfl,u,by rw [← aC.out];exact aB.out,HS.out⟩
def J2 (n:Int):Bs:=vb (zz 0)++vb (zz n)
theorem encI_inj {a b:Int} (h:J2 a=J2 b):a=b:=by
 unfold J2 at h
 have h1:=List.append_cancel_left h
 have:=Rh (zz a) (zz a) (zz b) [] [] (Q9 _) (by simpa using h1)
 exact zz_inj this.1
theorem P6 {n:Int} (h0:-2305843009213693952≤n) (h1:n<2305843009213693952):(J2 n).length≤20:=by
 have a:=Nx (Wk (n:=0) Qqj Qqj)
 have b:=Nx (Wk h0 h1)
 unfold J2;rw [Ql];omega
theorem Al (g:Nat) (w:World) (v:Value) (n:Int) (s:ByteArray) (p3:Option Addr) (l3 k3:Nat) (p4:Option Addr) (k4:Nat) (hA:WAt g w v []) (h0:-2305843009213693952≤n) (h1:n<2305843009213693952):
  Calls prog 122 #[Qqc g,.agg #[Qqd,n,.string s,.slice p3 l3 k3,.slice p4 0 k4]] w (Nb g w v (J2 n)):=by
 have hg:=Z8 hA.cell
 have G:∀ b,v.ownBlock=some b→b<w.heap.size:=fun b hb=>by
  obtain ⟨_,ho⟩:=hA.own
  exact (ho.row.lt b hb).2
 obtain ⟨HA,D,H0,H1⟩:=Qqp hA G h0 h1
 clear hA G h0 h1
 go_enter func122,ntmps122
 go_wp2_with fail
 have A:Below w w ((w.alloc (.cells #[Qqd,n,.string s,.slice p3 l3 k3,.slice p4 0 k4] 36)).alloc (.cells #[Qqd,n] 3)):=Zt _ _ _
 have U:=Q5 w (.cells #[Qqd,n,.string s,.slice p3 l3 k3,.slice p4 0 k4] 36) (.cells #[Qqd,n] 3)
 have V:=Q6 w (.cells #[Qqd,n,.string s,.slice p3 l3 k3,.slice p4 0 k4] 36) (.cells #[Qqd,n] 3)
 generalize (w.alloc (.cells #[Qqd,n,.string s,.slice p3 l3 k3,.slice p4 0 k4] 36)).alloc (.cells #[Qqd,n] 3)=W1 at A U V ⊢
 have hi:=Wm g W1 v [] 0 n (w+1) (HA.out.below A) H0.out H1.out Qqj Qqj Qqk V Qqj (fun e=>by have:=D.out _ e;omega)
 obtain ⟨HI,O,HX⟩:=Qqo hi A U
 clear hi A U V
 rw [List.nil_append,show vb (zz 0)++vb (zz n)=J2 n from rfl] at HI
 refine HI.out.mono ?_
 rintro e w2 ⟨rfl,v2,J,I⟩
 have M:=(I.keep w (Z8 HX.out) Qqj (fun e=>by have:=D.out _ e.symm;omega)).trans HX.out
 have c4:=rA4 M
 have N:=Qq J;have T:=Qq ((Jd.of_below (v:=v) O.out Qqj:Jd g w v W1 v).trans I)
 clear J I M
 go_wp2_with fail
 go_loop [57] (fun i=>i=.int .i64 0) (fun _=>0)
 case atStart=>exact rfl
 subst hrel
 go_wp2_with fail
 go_end0
 exact ⟨rfl,v2,N.out,T.out⟩
theorem Qjx (S:Nat→Prop) (v:Value) (xs:List UInt8) (w:World) (hs:Sl Vl S w v xs):Calls prog 161 #[v] w (Ja Vl 5 S w xs):=by
 obtain ⟨i0,h1,h2,h3,h4⟩:=Y9 (P:=prog) (t:=5) (z:=.int .u8 0) (n:=1) (b:=1) Qqy
 exact Ds Tryz.clByte Vl Qqx 1 i0 _ h1 h2 h3 h4 rfl sizeOf5 Qqj Od S v xs w hs
theorem done_any (g:Nat) (w:World) (v:Value) (bs:Bs) (hA:WAt g w v bs) (hl:bs.length≤1000000):
  Calls prog 123 #[Qqc g] w (Ja Vl 5 (fun _=>True) w bs):=by
 obtain ⟨css,hO⟩:=hA.own
 have A:Sl Vl (fun _=>True) w v bs:=hO.sl hl (fun _ _=>trivial) (fun _ _ _=>trivial)
 have HC:=Qq (Qjx _ v bs w A)
 obtain ⟨p,cap,rfl,_⟩:=A.len
 have c0:=rA0 hA.cell
 clear hA hO A
 go_enter func123,ntmps123
 go_wp2_with (go_at_call 161;refine HC.out.mono ?_;rintro e w' ⟨q,qc,qs,rfl,D,G⟩;have J:=Qq D;have I:=Qq G;clear D G)
 go_ret
 exact ⟨q,qc,qs,rfl,J.out,I.out⟩
theorem T0 (S:Nat→Prop) (n:Int) (s:Bs) (names:List Bs) (cs:List Value) (w:World) (h:Z9 S w cs (.mk 0 n s names [])) (h0:-2305843009213693952≤n) (h1:n<2305843009213693952):
  Calls prog 84 #[cs] w (Ja Vl 5 (fun _=>True) w (J2 n)):=by
 obtain ⟨Z,V,p4,Y,N,_⟩:=Z9.cells h
 simp only [vcs,Val.kind,Val.n,Val.s,Val.names,Val.kids,List.length_nil] at N
 subst N
 have aB:=P6 h0 h1
 have H0:=Qq h0;have H1:=Qq h1
 clear h h0 h1
 go_enter func84,ntmps84
 go_wp2_with fail
 have J:=Zt w (.cells #[Qqd,n,s,.slice Z names.length V,.slice p4 0 Y] 36) (.cells #[Qqf] 148)
 have hA:WAt (w+1) ((w.alloc (.cells #[Qqd,n,s,.slice Z names.length V,.slice p4 0 Y] 36)).alloc (.cells #[Qqf] 148)) (.slice none 0 0) []:=⟨Q6 _ _ _,[],Own.nil _ _ _ _ _⟩
 refine (Al _ _ _ n ⟨s.toArray⟩ Z names.length V p4 Y hA H0.out H1.out).mono ?_
 rintro e w2 ⟨rfl,v2,D,I⟩
 have O:=Qq D
 have A:=Qq (J.trans (I.below.mono (Nat.le_succ _)))
 clear hA D I J
 go_wp2_with (go_at_call 123;refine (done_any _ _ _ _ O.out Qqj).mono ?_;rintro e w' ⟨q,qc,qs,rfl,G,M⟩;have U:=Qq G;have T:=Qq M;clear G M)
 go_ret
 exact ⟨q,qc,qs,rfl,U.out.move A.out.size (fun _ _ _=>rfl),A.out.thn T.out⟩
end Go.Proofs.YtdpibdpbgokmoaaGreatDoor
