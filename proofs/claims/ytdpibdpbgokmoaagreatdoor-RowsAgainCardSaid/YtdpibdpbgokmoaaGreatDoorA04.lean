import Derived.Test.YtdpibdpbgokmoaaGreatDoorA03
import Derived.Test.YtdpibdpbgokmoaaGreatDoorA01
set_option maxRecDepth 100000
set_option maxHeartbeats 400000000
namespace Go.Proofs.YtdpibdpbgokmoaaGreatDoor
open Go.RowKit
theorem _root_.Go.RowKit.Below.n {B:Nat} {a b c:World} (h:Below B a b) (k:Below b b c) (hB:B<=a.heap.size:=by exact Q9 _):Below B a c:=h.trans (k.mono (Qc hB h.size))
theorem Zg (w:World) (o:Obj):Below w w (w.alloc o):=(Qz _ _).alloc (Q9 _) _
theorem Zs (w:World) (o p:Obj):Below w w ((w.alloc o).alloc p):=(Zg w o).alloc (Zg w o).size _
def Gr (w w':World):Prop:=∃ q os,w'=Sort.grow (w.drewN q) os
theorem Gr.refl (w:World):Gr w w:=⟨0,#[],by rw [Sort.grow_empty];rfl⟩
theorem Gr.n {a b c:World} (h:Gr a b) (k:Gr b c):Gr a c:=by
 obtain ⟨q,os,rfl⟩:=h
 obtain ⟨q',A,rfl⟩:=k
 refine ⟨q+q',os++A,?_⟩
 show Sort.grow (Sort.grow ((a.drewN q).drewN q') os) A=_
 rw [Sort.grow_grow,World.drewN_drewN]
theorem Gr.alloc {a b:World} (h:Gr a b) (o:Obj):Gr a (b.alloc o):=h.n ⟨0,#[o],by rw [Sort.alloc_eq_grow];rfl⟩
theorem gal1 (w:World) (o:Obj):Gr w (w.alloc o):=(Gr.refl w).alloc o
theorem Uj (w:World) (o p:Obj):Gr w ((w.alloc o).alloc p):=(gal1 w o).alloc p
theorem Gr.bl {w w':World} (h:Gr w w'):Below w w w':=by
 obtain ⟨q,os,rfl⟩:=h
 refine ⟨rfl,rfl,rfl,by simp [Sort.grow],λk hk=>?_⟩
 show (w.heap++os)[k]?=_
 rw [Array.getElem?_append_left hk]
def Al (x:Val):Prop:=∀ (y:Val) (S:Nat->Prop) (cx cy:List Value) (w:World),Z9 S w cx x->Z9 S w cy y ->
 Calls Tryz.prog 61 #[cx,cy] w λe w'=>e=.returned (.int .i64 (Zu x y))/\Gr w w'
def Il (x:Val) (p3:Option Addr) (k3:Nat) (p4:Option Addr) (k4:Nat):List Value:=[.int .i64 x.kind,.int .i64 x.n,.string ⟨x.s.toArray⟩,.slice p3 x.names.length k3,.slice p4 x.kids.length k4]
def Is (_ : Val) (_ : Option Addr) (_ : Nat) (_ : Option Addr) (_ : Nat) : AG := ⟨0⟩
instance Qkh_l {v : Val} {p : Option Addr} {a : Nat} {q : Option Addr} {b : Nat} : CoeDep AG (Is v p a q b) (List Value) := ⟨[.int .i64 v.kind, .int .i64 v.n, .string ⟨v.s.toArray⟩, .slice p v.names.length a, .slice q v.kids.length b]⟩
instance Qkh_a {v : Val} {p : Option Addr} {a : Nat} {q : Option Addr} {b : Nat} : CoeDep AG (Is v p a q b) (Array Value) := ⟨#[.int .i64 v.kind, .int .i64 v.n, .string ⟨v.s.toArray⟩, .slice p v.names.length a, .slice q v.kids.length b]⟩
def AU (_ _ : Value) (_ : Val) (_ : Option Addr) (_ : Nat) (_ : Option Addr) (_ : Nat) (_ : Val) (_ : Option Addr) (_ : Nat) (_ : Option Addr) (_ : Nat) : AG := ⟨0⟩
instance Qkm_l {c f : Value} {v : Val} {p : Option Addr} {a : Nat} {q : Option Addr} {b : Nat} {u : Val} {r : Option Addr} {d : Nat} {t : Option Addr} {e : Nat} : CoeDep AG (AU c f v p a q b u r d t e) (List Value) := ⟨[c, f, .int .i64 v.kind, .int .i64 v.n, .string ⟨v.s.toArray⟩, .slice p v.names.length a, .slice q v.kids.length b, .int .i64 u.kind, .int .i64 u.n, .string ⟨u.s.toArray⟩, .slice r u.names.length d, .slice t u.kids.length e]⟩
instance Qkm_a {c f : Value} {v : Val} {p : Option Addr} {a : Nat} {q : Option Addr} {b : Nat} {u : Val} {r : Option Addr} {d : Nat} {t : Option Addr} {e : Nat} : CoeDep AG (AU c f v p a q b u r d t e) (Array Value) := ⟨#[c, f, .int .i64 v.kind, .int .i64 v.n, .string ⟨v.s.toArray⟩, .slice p v.names.length a, .slice q v.kids.length b, .int .i64 u.kind, .int .i64 u.n, .string ⟨u.s.toArray⟩, .slice r u.names.length d, .slice t u.kids.length e]⟩
theorem Z9.cells {S:Nat->Prop} {w:World} {cs:List Value} {x:Val} (h:Z9 S w cs x):∃ p3 k3 p4 k4,cs=Il x p3 k3 p4 k4/\Sl Zh S w (.slice p3 x.names.length k3) x.names/\Sl Zc S w (.slice p4 x.kids.length k4) x.kids/\x.s.length<=1000000:=by
 obtain ⟨k,n,s,names,kids⟩:=x
 obtain ⟨nv,kv,rfl,hs,hn,hk⟩:=Uq.1 h
 obtain ⟨p3,k3,rfl,_⟩:=hn.len
 obtain ⟨p4,k4,rfl,_⟩:=hk.len
 exact ⟨p3,k3,p4,k4,rfl,hn,hk,hs⟩
theorem Sl.val {S:Nat->Prop} {w:World} {p:Option Addr} {n cap:Nat} {xs:List Val} (h:Sl Zc S w (.slice p n cap) xs) {i:Nat} {x:Val} (hx:xs[i]?=some x):
  ∃ b off p3 k3 p4 k4,p=some ⟨b,off,none⟩/\b<w.heap.size/\Z9 S w (Il x p3 k3 p4 k4) x/\Ii w b (off+i*5) x.kind/\Ii w b (off+i*5+1) x.n/\Ii w b (off+i*5+2) x.s /\
   Ii w b (off+i*5+3) (.slice p3 x.names.length k3)/\Ii w b (off+i*5+4) (.slice p4 x.kids.length k4):=by
 obtain ⟨p',c',h1,_,h3⟩:=h
 simp only [Qr] at h1
 obtain ⟨rfl,_,_⟩:=h1
 obtain ⟨b,off,e,_,hb,hc⟩:=h3 (by intro e;subst e;simp at hx)
 obtain ⟨cs,A,h5⟩:=hc i x hx
 obtain ⟨p3,k3,p4,k4,rfl,_⟩:=Z9.cells h5
 exact ⟨b,off,p3,k3,p4,k4,e,hb,h5,A 0 _ rfl,A 1 _ rfl,A 2 _ rfl,A 3 _ rfl,A 4 _ rfl⟩
theorem cmpVs_of (S:Nat->Prop) (av bv:Value) (a b:List Val) (hC:∀ x ∈ a,Al x) (w:World) (ha:Sl Zc S w av a) (hb:Sl Zc S w bv b):
  Calls Tryz.prog 103 #[av,bv,.func (.func 61) #[] #[]] w λe w'=>e=.returned (.int .i64 (V8 a b))/\Gr w w':=by
 obtain ⟨pa,ca,rfl,aM⟩:=ha.len
 obtain ⟨pb,cb,rfl,aN⟩:=hb.len
 obtain ⟨HA,HB,HC⟩:=Im ha hb hC
 obtain ⟨r,hr⟩:=eX (V8 a b)
 rw [hr]
 have HR:=Qq hr
 clear ha hb hr hC
 go_enter Tryz.func103,Tryz.ntmps103
 go_wp2_with fail
 go_loopw [13] (λi wr=>∃ k:Nat,k<=a.length/\k<=b.length/\i=.int .i64 k/\V8 (a.drop k) (b.drop k)=r/\Gr w wr) (λi _=>a.length - (intOf i).toNat)
 case atStart=>exact ⟨0,Q8 _,Q8 _,rfl,HR.o,Gr.refl _⟩
 obtain ⟨k,aK,aL,rfl,I,U⟩:=hrel
 have G:=Qq U
 clear U
 by_cases hlt:k<a.length
 ·obtain ⟨x,O⟩:∃ x,a[k]?=some x:=⟨_,Qx hlt⟩
  have A:a.drop k=x::a.drop (k+1):=by
   rw [Qp hlt];rw [Qx hlt] at O;cases O;rfl
  obtain ⟨ga,oa,p3,k3,p4,k4,rfl,aH,N,d0,d1,d2,d3,d4⟩:=(HA.o.below G.o.bl).val O
  by_cases hlb2:k<b.length
  ·obtain ⟨y,Z⟩:∃ y,b[k]?=some y:=⟨_,Qx hlb2⟩
   have D:b.drop k=y::b.drop (k+1):=by
    rw [Qp hlb2];rw [Qx hlb2] at Z;cases Z;rfl
   obtain ⟨gb,ob,q3,l3,q4,l4,rfl,aI,V,e0,e1,e2,e3,e4⟩:=(HB.o.below G.o.bl).val Z
   rw [A,D] at I
   have J:thn (Zu x y) (V8 (a.drop (k+1)) (b.drop (k+1)))=r:=I
   have HX:=Qq (HC.o x (Qy O) y S)
   have aB:=Qq N;have aC:=Qq V
   generalize Zu x y=c at HX J
   have aE:(0:Int)<=(k:Int):=Ia
   have aF:(k:Int)<a.length:=Ia
   have aJ:(k:Int)<b.length:=Ia
   have hq:decide (b.length<=k)=false:=by simp;omega
   clear N V I A D O Z
   go_wp2_with fail
   refine (HX.o (Il x p3 k3 p4 k4) (Il y q3 l3 q4 l4) _ (aB.o.move (.f (Zs _ _ _)) Ij) (aC.o.move (.f (Zs _ _ _)) Ij)).mono ?_
   rintro e w' ⟨rfl,hw⟩
   have T:=Qq (G.o.n ((Uj wr _ _).n hw))
   clear hw
   by_cases hc0:c=0
   ·subst hc0
    have aA:=Qq J
    clear J
    go_wp2_with fail
    go_roundw
    case rel=>exact ⟨k+1,Ia,Ia,by go_num,aA.o,T.o⟩
    case measure=>simp [intOf];omega
   have aO:(c != 0)=true:=by rw [bne_iff_ne];exact hc0
   have aD:c=r:=by rw [<- J];unfold thn;rw [if_neg hc0]
   subst aD
   clear J hc0
   go_wp2_with fail
   go_ret
   exact ⟨rfl,T.o⟩
  have D:b.drop k=[]:=Qu Ia
  rw [A,D] at I
  have M:r=1:=by rw [<- I];rfl
  subst M
  have aE:(0:Int)<=(k:Int):=Ia
  have aF:(k:Int)<a.length:=Ia
  have hq:decide (b.length<=k)=true:=by simp;omega
  clear I A D O N
  go_wp2_with fail
  go_ret
  exact ⟨rfl,G.o.n (gal1 _ _)⟩
 have A:a.drop k=[]:=Qu Ia
 rw [A] at I
 by_cases hlb2:a.length<b.length
 ·obtain ⟨y,t,Y⟩:∃ y t,b.drop k=y::t:=by
   have:(b.drop k).length≠0:=by rw [Zq];omega
   cases hd:b.drop k with
   | nil=>rw [hd] at this;exact absurd rfl this
   | cons y t=>exact ⟨y,t,rfl⟩
  rw [Y] at I
  have M:r=-1:=by rw [<- I];rfl
  subst M
  clear I A Y
  go_wp2_with fail
  go_ret
  exact ⟨rfl,G.o⟩
 have D:b.drop k=[]:=Qu Ia
 rw [D] at I
 have M:r=0:=by rw [<- I];rfl
 subst M
 clear I A D
 go_wp2_with fail
 go_ret
 exact ⟨rfl,G.o⟩
theorem cmpAt_of (k n:Int) (s:Bs) (ns:List Bs) (ks:List Val) (ih:∀ x ∈ ks,Al x):Al (.mk k n s ns ks):=by
 rintro ⟨Z,M,O,D,A⟩ S cx cy w hx hy
 obtain ⟨nv,kv,rfl,hs,hn,hk⟩:=Uq.1 hx
 obtain ⟨aF,aE,rfl,aM,aD,aC⟩:=Uq.1 hy
 have hN:∀ w',Below w w w'->Calls Tryz.prog 102 #[nv,aF] w' λe U=>e=.returned (.int .i64 (Ks ns D))/\w'=U:=
  λw' hb=>cmpN_any S nv aF ns D w' (hn.below hb) (aD.below hb)
 have hK:∀ w',Below w w w'->Calls Tryz.prog 103 #[kv,aE,.func (.func 61) #[] #[]] w' λe U=>e=.returned (.int .i64 (V8 ks A))/\Gr w' U:=
  λw' hb=>cmpVs_of S kv aE ks A ih w' (hk.below hb) (aC.below hb)
 have hS:∀ w',Calls Tryz.prog 79 #[sv s,sv O] w' λe U=>e=.returned (.int .i64 (Yi s O))/\w'=U:=λw'=>Sj _ _ w'
 obtain ⟨HN,HK,HS⟩:=Im hN hK hS
 obtain ⟨cb,I⟩:=eX (Yi s O)
 obtain ⟨cn,J⟩:=eX (Ks ns D)
 obtain ⟨cv,G⟩:=eX (V8 ks A)
 rw [I] at HS;rw [J] at HN;rw [G] at HK
 have aL:=Qq (λo1 o2=>Zs w o1 o2)
 clear hN hK hS hx hy ih hn aD hk aC
 by_cases hkk:k=Z
 ·subst hkk
  by_cases h0:k=0
  ·subst h0
   rw [show Zu (.mk 0 n s ns ks) (.mk 0 M O D A)=ord n M by simp [Zu]]
   have V:=Qq (λw=>Lr n M w)
   generalize ord n M=r at V |-
   clear I J G
   go_enter Tryz.func61,Tryz.ntmps61
   go_wp2_with (go_at_call 101;refine (V.o _).mono ?_;rintro e w' ⟨rfl,rfl⟩)
   go_ret
   exact ⟨rfl,Uj _ _ _⟩
  by_cases h2:k=2
  ·subst h2
   rw [show Zu (.mk 2 n s ns ks) (.mk 2 M O D A)=ord n M by simp [Zu]]
   have V:=Qq (λw=>Lr n M w)
   generalize ord n M=r at V |-
   clear I J G h0
   go_enter Tryz.func61,Tryz.ntmps61
   go_wp2_with (go_at_call 101;refine (V.o _).mono ?_;rintro e w' ⟨rfl,rfl⟩)
   go_ret
   exact ⟨rfl,Uj _ _ _⟩
  by_cases h1:k=1
  ·subst h1
   rw [show Zu (.mk 1 n s ns ks) (.mk 1 M O D A)=cb by simp [Zu,I]]
   clear I J G h0 h2
   go_enter Tryz.func61,Tryz.ntmps61
   go_wp2_with (go_at_call 79;refine (HS.o _).mono ?_;rintro e w' ⟨rfl,rfl⟩)
   go_ret
   exact ⟨rfl,Uj _ _ _⟩
  by_cases h3:k=3
  ·subst h3
   have N:Zu (.mk 3 n s ns ks) (.mk 3 M O D A)=thn cb cv:=by simp [Zu,I,G]
   clear I J G h0 h2 h1
   by_cases hz:cb=0
   ·subst hz
    rw [N,Jv]
    clear N
    go_enter Tryz.func61,Tryz.ntmps61
    go_wp2_with (first | (go_at_call 79;refine (HS.o _).mono ?_;rintro e w' ⟨rfl,rfl⟩) | (go_at_call 103;refine (HK.o _ (Zs _ _ _)).mono ?_;rintro e w' ⟨rfl,Y⟩;have HW:=Qq ((Uj w _ _).n Y);clear Y))
    go_ret
    exact ⟨rfl,HW.o⟩
   have hq:(cb != 0)=true:=by rw [bne_iff_ne];exact hz
   have T:Zu (.mk 3 n s ns ks) (.mk 3 M O D A)=cb:=by rw [N];unfold thn;rw [if_neg hz]
   rw [T]
   clear N T hz
   go_enter Tryz.func61,Tryz.ntmps61
   go_wp2_with (go_at_call 79;refine (HS.o _).mono ?_;rintro e w' ⟨rfl,rfl⟩)
   go_ret
   exact ⟨rfl,Uj _ _ _⟩
  by_cases h4:k=4
  ·subst h4
   have N:Zu (.mk 4 n s ns ks) (.mk 4 M O D A)=thn cn cv:=by simp [Zu,J,G]
   clear I J G h0 h2 h1 h3
   by_cases hz:cn=0
   ·subst hz
    rw [N,Jv]
    clear N
    go_enter Tryz.func61,Tryz.ntmps61
    go_wp2_with (first | (go_at_call 102;refine (HN.o _ (Zs _ _ _)).mono ?_;rintro e w' ⟨rfl,rfl⟩) | (go_at_call 103;refine (HK.o _ (Zs _ _ _)).mono ?_;rintro e w' ⟨rfl,Y⟩;have HW:=Qq ((Uj w _ _).n Y);clear Y))
    go_ret
    exact ⟨rfl,HW.o⟩
   have hq:(cn != 0)=true:=by rw [bne_iff_ne];exact hz
   have T:Zu (.mk 4 n s ns ks) (.mk 4 M O D A)=cn:=by rw [N];unfold thn;rw [if_neg hz]
   rw [T]
   clear N T hz
   go_enter Tryz.func61,Tryz.ntmps61
   go_wp2_with (go_at_call 102;refine (HN.o _ (Zs _ _ _)).mono ?_;rintro e w' ⟨rfl,rfl⟩)
   go_ret
   exact ⟨rfl,Uj _ _ _⟩
  by_cases h5:k=5
  ·subst h5
   rw [show Zu (.mk 5 n s ns ks) (.mk 5 M O D A)=cv by simp [Zu,G]]
   clear I J G h0 h2 h1 h3 h4
   go_enter Tryz.func61,Tryz.ntmps61
   go_wp2_with (go_at_call 103;refine (HK.o _ (Zs _ _ _)).mono ?_;rintro e w' ⟨rfl,Y⟩;have HW:=Qq ((Uj w _ _).n Y);clear Y)
   go_ret
   exact ⟨rfl,HW.o⟩
  have N:Zu (.mk k n s ns ks) (.mk k M O D A)=0:=by simp [Zu,h0,h1,h2,h3,h4,h5]
  rw [N]
  have q0:(k==0)=false:=by simpa using h0
  have q1:(k==1)=false:=by simpa using h1
  have q2:(k==2)=false:=by simpa using h2
  have q3:(k==3)=false:=by simpa using h3
  have q4:(k==4)=false:=by simpa using h4
  have q5:(k==5)=false:=by simpa using h5
  clear N I J G h0 h1 h2 h3 h4 h5
  go_enter Tryz.func61,Tryz.ntmps61
  go_wp2_with fail
  go_ret
  exact ⟨rfl,Uj _ _ _⟩
 have N:Zu (.mk k n s ns ks) (.mk Z M O D A)=ord k Z:=by simp [Zu,hkk]
 rw [N]
 have hq:(k != Z)=true:=by rw [bne_iff_ne];exact hkk
 have V:=Qq (λw=>Lr k Z w)
 generalize ord k Z=r at V |-
 clear N I J G hkk
 go_enter Tryz.func61,Tryz.ntmps61
 go_wp2_with (go_at_call 101;refine (V.o _).mono ?_;rintro e w' ⟨rfl,rfl⟩)
 go_ret
 exact ⟨rfl,Uj _ _ _⟩
theorem cmpAt:∀ x:Val,Al x
 | .mk k n s ns ks=>cmpAt_of k n s ns ks λx _=>cmpAt x
termination_by x=>SizeOf.sizeOf x
decreasing_by
 have:=List.sizeOf_lt_of_mem ‹_ ∈ ks›
 simp only [Val.mk.sizeOf_spec]
 omega
open Go.RowKit Go.Shelf Go.Lib Tryz
def X8 {T:Type} (p:T->Bool) (xs:List T):Int:=match xs.findIdx? p with
 | some i=>i
 | none=>-1
theorem Jk {T:Type} {p:T->Bool} {xs:List T} {k:Nat} {x:T} (hx:xs[k]?=some x) (hp:p x=true) (hne:∀ (j:Nat) (y:T),j<k->xs[j]?=some y->p y=false):X8 p xs=k:=by
 have:xs.findIdx? p=some k:=by
  obtain ⟨hk,rfl⟩:=Qj hx
  rw [List.findIdx?_eq_some_iff_getElem]
  exact ⟨hk,hp,λj hj=>by simpa using hne j _ hj (Qx Ia)⟩
 unfold X8;rw [this]
theorem U9 {T:Type} {p:T->Bool} {xs:List T} (hne:∀ (j:Nat) (y:T),xs[j]?=some y->p y=false):X8 p xs=-1:=by
 have:xs.findIdx? p=none:=by
  rw [List.findIdx?_eq_none_iff]
  intro y hy
  obtain ⟨j,hj⟩:=Zk hy
  exact hne j y hj
 unfold X8;rw [this]
theorem Dl {T:Type} (p:T->Bool) (xs:List T):decide (0<=X8 p xs)=xs.any p:=by
 unfold X8
 cases h:xs.findIdx? p with
 | none=>
  rw [List.findIdx?_eq_none_iff] at h
  have:xs.any p=false:=by rw [List.any_eq_false];intro x hx;simp [h x hx]
  rw [this];rfl
 | some i=>
  rw [List.findIdx?_eq_some_iff_getElem] at h
  obtain ⟨hi,hp,_⟩:=h
  have:xs.any p=true:=List.any_eq_true.2 ⟨_,Qd hi,hp⟩
  rw [this];simp
def Uv {T:Type} (P:Program) (g:Nat) (lb:Array Value) (r:Rd T) (S:Nat->Prop) (xs:List T) (p:T->Bool) (w:World):Prop:=
 ∀ (W:World) (x:T) (cs:List Value),Below w w W->x ∈ xs->r.R S W cs x ->
  Calls P g (#[.agg cs.toArray]++lb) W λe w'=>e=.returned (.bool (p x))/\Below W W w'
theorem Sl.elem {T:Type} {r:Rd T} {S:Nat->Prop} {w:World} {p:Option Addr} {n cap:Nat} {xs:List T} (h:Sl r S w (.slice p n cap) xs) {i:Nat} {x:T} (hx:xs[i]?=some x):
  ∃ b off cs,p=some ⟨b,off,none⟩/\b<w.heap.size/\S b/\cs.length=r.k/\r.R S w cs x/\∀ j u,cs[j]?=some u->w.cell? ⟨b,off+i*r.k+j,none⟩=some u:=by
 obtain ⟨p',c',h1,_,h3⟩:=h
 simp only [Qr] at h1
 obtain ⟨rfl,_,_⟩:=h1
 obtain ⟨b,off,e,hS,hb,hc⟩:=h3 (by intro e;subst e;simp at hx)
 obtain ⟨cs,h4,h5⟩:=hc i x hx
 exact ⟨b,off,cs,e,hb,hS,r.len h5,h5,h4⟩
section
variable {P:Program} {ρ:Ren} {T:Type}
theorem Fi (L:SlLaysH0.n6 P ρ) (r:Rd T) (aE:∀ w,(isAgg (ρ.t 23)).run P w=.ok true w) (zE:∀ w,(Go.sizeOf (ρ.t 23)).run P w=.ok r.k w) (g:Nat) (lb:Array Value)
  (eg:∀ args w,(callFunc g args).run P w=.ok (.enter g args) w) (S:Nat->Prop) (v:Value) (xs:List T) (w:World) (p:T->Bool) (hs:Sl r S w v xs) (hp:Uv P g lb r S xs p w):
  Calls P (ρ.f 6) #[v,.func (.func g) #[] lb] w λe w'=>e=.returned (.int .i64 (X8 p xs))/\Below w w w':=by
 obtain ⟨q,cap,rfl,hl⟩:=hs.len
 have mixed:=L.mixed;have t0:=L.t0;have a0:=L.a0;have z0:=L.z0;have v0:=L.v0;have t3:=L.t3;have a3:=L.a3;have z3:=L.z3;have v3:=L.v3;have t4:=L.t4;have a4:=L.a4;have z4:=L.z4;have v4:=L.v4;have t22:=L.t22;have a22:=L.a22;have z22:=L.z22;have v22:=L.v22;have t25:=L.t25;have a25:=L.a25;have z25:=L.z25;have v25:=L.v25
 obtain ⟨_,_,FG⟩:=L.f6
 have HS:=Qq hs;have HP:=Qq hp
 clear hs hp
 obtain ⟨n,U⟩:=eX (xs.length)
 rw [U] at HS hl
 rw [U]
 have HN:=Qq U
 clear U
 go_enter FG,SlBodyH.n6_ntmps ρ
 go_wp2
 go_loopg [5,8] n (λgg _ s8 wr=>∃ G:Nat,G<=n/\n - G<=gg/\s8=.int .i64 G/\Aside (Below w w wr)/\Aside (∀ (j:Nat) (y:T),j<G->xs[j]?=some y->p y=false))
 case atStart=>exact ⟨0,Q8 _,Ia,rfl,Qz _ w,λj _ hj=>absurd hj (Z6 _)⟩
 obtain ⟨G,Y,hg,rfl,M,A⟩:=hrel
 by_cases hlt:G<n
 ·have N:(G:Int)<(n:Int):=Ia
  have O:=Qx (l:=xs) (i:=G) (by rw [HN.o];exact hlt)
  generalize xs[G]'_=x at O
  obtain ⟨b,V,cs,rfl,hb,-,hk,hR,hc⟩:=(HS.o.below M.o).elem O
  have l2:Sem.run P (loadCellsFrom ⟨b,V+G*r.k,none⟩ 0 r.k #[]) wr=.ok cs.toArray wr:=
   run_loadCellsFrom_list P _ _ cs r.k hk (λi u hi=>by rw [Addr.add_lit];exact hc i u hi)
  have D:=HP.o wr x cs M.o (Qy O) hR
  have HX:=Qq O
  clear hc hR O
  cases hq:p x with
  | true=>
   rw [hq] at D
   go_wp2_with (go_at_fn g;refine D.mono ?_;rintro e w' ⟨rfl,I⟩)
   go_ret
   refine ⟨?_,M.o.n I⟩
   rw [Jk HX.o hq A.o]
   rfl
  | false=>
   rw [hq] at D
   go_wp2_with (go_at_fn g;refine D.mono ?_;rintro e w' ⟨rfl,I⟩)
   go_roundg (n - (G+1))
   case measure=>omega
   case rel=>
    refine ⟨G+1,Ia,Ia,by go_num,M.o.n I,(show Aside _ from λj y hj J=>?_)⟩
    by_cases e:j=G
    ·subst e
     have:=HX.o
     rw [this] at J
     cases J
     exact hq
    exact A.o j y Ia J
 have N:¬ (G:Int)<(n:Int):=Ia
 have:G=n:=Ia
 subst this
 go_wp2
 go_ret
 refine ⟨?_,M.o⟩
 rw [U9 (λj y J=>A.o j y (by have:=(Qj J).1;have:=HN.o;omega) J)]
 rfl
theorem Ph (L:SlLaysH0.n8 P ρ) (r:Rd T) (aE:∀ w,(isAgg (ρ.t 23)).run P w=.ok true w) (zE:∀ w,(Go.sizeOf (ρ.t 23)).run P w=.ok r.k w) (g:Nat) (lb:Array Value)
  (eg:∀ args w,(callFunc g args).run P w=.ok (.enter g args) w) (S:Nat->Prop) (v:Value) (xs:List T) (w:World) (p:T->Bool) (hs:Sl r S w v xs) (hp:Uv P g lb r S xs p w):
  Calls P (ρ.f 8) #[v,.func (.func g) #[] lb] w λe w'=>e=.returned (.bool (xs.any p))/\Below w w w':=by
 rw [<- Dl]
 have mixed:=L.mixed;have t0:=L.t0;have a0:=L.a0;have z0:=L.z0;have v0:=L.v0;have t3:=L.t3;have a3:=L.a3;have z3:=L.z3;have v3:=L.v3;have t4:=L.t4;have a4:=L.a4;have z4:=L.z4;have v4:=L.v4;have t22:=L.t22;have a22:=L.a22;have z22:=L.z22;have v22:=L.v22;have t25:=L.t25;have a25:=L.a25;have z25:=L.z25;have v25:=L.v25
 have e6:∀ args w,(callFunc (ρ.f 6) args).run P w=.ok (.enter (ρ.f 6) args) w:=L.f6.enters rfl
 have hC:=Qq (Fi { L with } r aE zE g lb eg S v xs w p hs hp)
 obtain ⟨_,_,FG⟩:=L.f8
 generalize X8 p xs=i at hC |-
 clear hs hp
 go_enter FG,SlBodyH.n8_ntmps ρ
 go_wp2_with (go_at_fn (ρ.f 6);refine hC.o.mono ?_;rintro e w' ⟨rfl,A⟩)
 go_ret
 exact ⟨rfl,A⟩
theorem Rj (L:SlLaysE0.n41 P ρ) (i0:TypeInfo) (z:Value) (size bytes:Nat) (hi:P.info? (ρ.t 23)=some i0) (hz0:i0.zero=some z) (hz1:i0.size=size) (hz2:i0.bytes=bytes) (hzs:z.cells.size=size) (hsz:0<size)
  (z23:∀ w,(Go.sizeOf (ρ.t 23)).run P w=.ok size w) (ad:Addr) (c:Nat) (w:World):
  Calls P (ρ.f 41) #[.slice (some ad) 0 c] w λe w'=>∃ v',e=.returned v'/\w'.ownsRow w (ρ.t 23) size v' 0 []/\Below w w w':=by
 have mixed:=L.mixed;have t4:=L.t4;have a4:=L.a4;have z4:=L.z4;have v4:=L.v4;have t22:=L.t22;have a22:=L.a22;have z22:=L.z22;have v22:=L.v22
 have M:∀ (w:World) (a:Option Addr) (n c I G:Nat),(binOp .eql (ρ.t 22) (.slice a n c) (.slice none I G)).run P w=.ok (.bool a.isNone) w:=λw a n c I G=>Lib.run_eql_slice_nil w _ _ a n c I G L.t22
 have N:∀ w,Sem.run P (underlying (ρ.t 22)) w=.ok (TypeDesc.slice (ρ.t 23)) w:=run_underlying t22
 obtain ⟨_,_,FG⟩:=L.f41
 go_enter FG,SlBodyN.n41_ntmps ρ
 go_wp2_with (at_builtin;refine wpList_append_own _ rfl _ _ (ρ.t 22) rfl w (ρ.t 23) i0 z size bytes t22 hi hz0 hz1 hz2 hzs hsz _ _ _ rfl (World.ownsRow_made w #[] 0 (Q9 _) (Q8 _) Ib) ad 0 c [] rfl Ib Ib Ib (by unfold maxLen;omega) Ib Ib ?_)
 intro v' w1 D A J
 go_wp2
 go_ret
 refine ⟨v',rfl,by simpa using D,?_⟩
 exact ((Qz _ w).alloc (Q9 _) _).grown A Ib (by intro k hk;simp [Value.ownBlock] at hk;omega)
def Jn (r:Rd T) (E:TypeId) (S:Nat->Prop) (w:World) (xs:List T) (e:Ending) (w':World):Prop:=
 ∃ p cap css,e=.returned (.slice p xs.length cap)/\Own r E S w w' (.slice p xs.length cap) xs css/\Below w w w'
theorem Own.form {r:Rd T} {E:TypeId} {S:Nat->Prop} {B:Nat} {w:World} {v:Value} {xs:List T} {css:List (List Value)} (h:Own r E S B w v xs css):∃ p cap,v=.slice p xs.length cap:=by
 rcases h.row.2 with ⟨rfl,h0⟩ | ⟨g,cap,A,rfl,_⟩
 ·exact ⟨none,0,by rw [h0]⟩
 exact ⟨_,_,rfl⟩
theorem Ew {r:Rd T} {E:TypeId} {S:Nat->Prop} {w w':World} {v:Value} {xs:List T} {css:List (List Value)} (h:Own r E S w w' v xs css) (hb:Below w w w'):Jn r E S w xs (.returned v) w':=by
 obtain ⟨p,cap,rfl⟩:=h.form
 exact ⟨p,cap,css,rfl,h,hb⟩
theorem Fa (L:SlLaysE0.n41 P ρ) (r:Rd T) (hk:0<r.k) (bytes:Nat) (i0:TypeInfo) (z:Value) (hi:P.info? (ρ.t 23)=some i0) (hz0:i0.zero=some z) (hz1:i0.size=r.k) (hz2:i0.bytes=bytes) (hzs:z.cells.size=r.k)
  (z23:∀ w,(Go.sizeOf (ρ.t 23)).run P w=.ok r.k w) (hby:bytes<=1000) (h1:∀ S w cs x,r.R S w cs x->∀ u ∈ cs,u.oneCell'=true) (S:Nat->Prop) (v:Value) (xs:List T) (w:World) (hs:Sl r S w v xs):
  Calls P (ρ.f 41) #[v] w (Jn r (ρ.t 23) S w xs):=by
 obtain ⟨p,cap,css,rfl,A,O⟩:=hs.css hk
 obtain ⟨_,_,_,hl⟩:=hs.len
 have G:∀ w' v',Below w w w'->w'.ownsRow w (ρ.t 23) r.k v' xs.length css.flatten->Own r (ρ.t 23) S w w' v' xs css:=by
  intro w' v' hb I
  refine ⟨I,A.move (.f hb) (λb hb h=>⟨h,λe=>?_⟩)⟩
  have:=(I.lt b e.symm).1
  omega
 by_cases hx:xs=[]
 ·subst hx
  have J:css=[]:=Zy A.len
  subst J
  rcases p with _ | ad
  ·refine (AnyE.slices_Clone_nil L 0 cap w).mono ?_
   rintro e w' ⟨rfl,rfl⟩
   exact Ew (G _ _ (Qz _ _) (by simpa using World.ownsRow_nil w' w' (ρ.t 23) r.k)) (Qz _ _)
  refine (Rj L i0 z r.k bytes hi hz0 hz1 hz2 hzs hk z23 ad cap w).mono ?_
  rintro e w' ⟨v',rfl,I,D⟩
  exact Ew (G _ _ D (by simpa using I)) D
 obtain ⟨b,V,rfl,hS,hb,hc⟩:=O hx
 refine (AnyE.slices_Clone L i0 z r.k bytes hi hz0 hz1 hz2 hzs hk z23 b V xs.length cap css.flatten w A.flat (by unfold maxLen;omega) (by
  have:=Nat.mul_le_mul hl hby;omega) hc (λu hu=>?_)).mono ?_
 ·obtain ⟨c,M,U⟩:=List.mem_flatten.1 hu
  obtain ⟨i,hi⟩:=Zk M
  have N:=(Qj hi).1
  exact h1 S w c _ (A.R i c _ hi (Qx (by rw [<- A.len];exact N))) u U
 rintro e w' ⟨v',rfl,I,_,D⟩
 exact Ew (G _ _ D I) D
end
def Yk:Rd Rel where
 k:=2
 R S w cs x:=∃ v,cs=[sv x.table,v]/\x.table.length<=1000000/\Sl Zc S w v x.rows
 len h:=by obtain ⟨v,rfl,_⟩:=h;rfl
 frame h hA:=by obtain ⟨v,rfl,A,D⟩:=h;exact ⟨v,rfl,A,D.frame hA⟩
 mono h hS:=by obtain ⟨v,rfl,A,D⟩:=h;exact ⟨v,rfl,A,D.mono hS⟩
def Xa:Rd Col where
 k:=6
 R S w cs x:=∃ tc,cs=sv x.name::tc/\x.name.length<=1000000/\Xl S w tc x.type
 len h:=by obtain ⟨v,rfl,_,A⟩:=h;rw [List.length_cons,A.length]
 frame h hA:=by obtain ⟨v,rfl,D,A⟩:=h;exact ⟨v,rfl,D,A.move hA Ij⟩
 mono h hS:=by obtain ⟨v,rfl,D,A⟩:=h;exact ⟨v,rfl,D,A.move (.refl _ _) hS⟩
def Di:Rd Rf where
 k:=2
 R _ _ cs x:=cs=[sv x.column,sv x.table]/\x.column.length<=1000000/\x.table.length<=1000000
 len h:=by rw [h.1];rfl
 frame h _:=h
 mono h _:=h
def Zn:Rd Tbl where
 k:=13
 R S w cs x:=∃ A G rv D,cs=sv x.name::A::G::rv::D/\x.name.length<=1000000/\Sl Xa S w A x.columns/\Sl Zh S w G x.key/\Sl Di S w rv x.refs/\Yx S w D x.check
 len h:=by obtain ⟨_,_,_,_,rfl,_,_,_,_,I⟩:=h;simp only [List.length_cons,I.length]
 frame h hA:=by obtain ⟨A,G,rv,D,rfl,J,I,M,N,O⟩:=h;exact ⟨A,G,rv,D,rfl,J,I.frame hA,M.frame hA,N.frame hA,O.move hA Ij⟩
 mono h hS:=by obtain ⟨A,G,rv,D,rfl,J,I,M,N,O⟩:=h;exact ⟨A,G,rv,D,rfl,J,I.mono hS,M.mono hS,N.mono hS,O.move (.refl _ _) hS⟩
def Bn:Rd Ct where
 k:=7
 R S w cs x:=∃ tc,cs=sv x.name::.bool x.has::tc/\x.name.length<=1000000/\Xl S w tc x.arg
 len h:=by obtain ⟨v,rfl,_,A⟩:=h;simp only [List.length_cons,A.length]
 frame h hA:=by obtain ⟨v,rfl,D,A⟩:=h;exact ⟨v,rfl,D,A.move hA Ij⟩
 mono h hS:=by obtain ⟨v,rfl,D,A⟩:=h;exact ⟨v,rfl,D,A.move (.refl _ _) hS⟩
def J3:Rd Sm where
 k:=2
 R S w cs x:=∃ v,cs=[sv x.name,v]/\x.name.length<=1000000/\Sl Bn S w v x.ctors
 len h:=by obtain ⟨v,rfl,_⟩:=h;rfl
 frame h hA:=by obtain ⟨v,rfl,A,D⟩:=h;exact ⟨v,rfl,A,D.frame hA⟩
 mono h hS:=by obtain ⟨v,rfl,A,D⟩:=h;exact ⟨v,rfl,A,D.mono hS⟩
def Ve (S:Nat->Prop) (w:World) (cs:List Value) (x:Sc):Prop:=∃ uv tv,cs=[uv,tv]/\Sl J3 S w uv x.sums/\Sl Zn S w tv x.tables
theorem Ve.below {S:Nat->Prop} {w w':World} {cs:List Value} {x:Sc} (h:Ve S w cs x) (hb:Below w w w'):Ve S w' cs x:=by
 obtain ⟨uv,tv,rfl,h1,h2⟩:=h;exact ⟨uv,tv,rfl,h1.below hb,h2.below hb⟩
theorem Xd:∀ S w cs x,Zc.R S w cs x->∀ u ∈ cs,u.oneCell'=true:=by
 intro S w cs x h u hu
 obtain ⟨p3,k3,p4,k4,rfl,_⟩:=Z9.cells (show Z9 S w cs x from h)
 simp only [Il,Z3,Z2,or_false] at hu
 rcases hu with rfl | rfl | rfl | rfl | rfl <;> rfl
theorem X5:∀ S w cs x,Zh.R S w cs x->∀ u ∈ cs,u.oneCell'=true:=by
 intro S w cs x h u hu
 obtain ⟨rfl,_⟩:=h
 simp only [Z3,Z2,or_false] at hu
 subst hu;rfl
theorem sl_one {T:Type} {r:Rd T} {S:Nat->Prop} {w:World} {v:Value} {xs:List T} (h:Sl r S w v xs):v.oneCell'=true:=by
 obtain ⟨p,cap,rfl,_⟩:=h.len;rfl
theorem Ao:∀ S w cs x,Yk.R S w cs x->∀ u ∈ cs,u.oneCell'=true:=by
 intro S w cs x h u hu
 obtain ⟨v,rfl,_,h2⟩:=h
 simp only [Z3,Z2,or_false] at hu
 rcases hu with rfl | rfl
 ·rfl
 exact sl_one h2
theorem rf_one:∀ S w cs x,Di.R S w cs x->∀ u ∈ cs,u.oneCell'=true:=by
 intro S w cs x h u hu
 obtain ⟨rfl,_⟩:=h
 simp only [Z3,Z2,or_false] at hu
 rcases hu with rfl | rfl <;> rfl
theorem ty_one {S:Nat->Prop} {w:World} {cs:List Value} {x:Ty} (h:Xl S w cs x):∀ u ∈ cs,u.oneCell'=true:=by
 intro u hu
 cases h with
 | mk k n s names kids nv p cap b off cs hs hn=>
  simp only [Z3,Z2,or_false] at hu
  rcases hu with rfl | rfl | rfl | rfl | rfl
  ·rfl
  ·rfl
  ·rfl
  ·exact sl_one hn
  rfl
theorem Ax:∀ S w cs x,Xa.R S w cs x->∀ u ∈ cs,u.oneCell'=true:=by
 intro S w cs x h u A
 obtain ⟨tc,rfl,_,h2⟩:=h
 rcases Z3.1 A with rfl | A
 ·rfl
 exact ty_one h2 u A
theorem Y8 {P:Program} {t:TypeId} {z:Value} {n b:Nat} (h:(P.info? t).map (λi=>(i.zero,i.size,i.bytes))=some (some z,n,b)):∃ i0,P.info? t=some i0/\i0.zero=some z/\i0.size=n/\i0.bytes=b:=by
 cases hi:P.info? t with
 | none=>rw [hi] at h;cases h
 | some i0=>
  rw [hi] at h
  simp only [Option.map_some,Zv,Prod.mk.injEq] at h
  exact ⟨i0,rfl,h.1,h.2.1,h.2.2⟩
theorem Gp (S:Nat->Prop) (v:Value) (xs:List Val) (w:World) (hs:Sl Zc S w v xs):Calls prog 49 #[v] w (Jn Zc 36 S w xs):=by
 obtain ⟨i0,h1,h2,h3,h4⟩:=Y8 (P:=prog) (t:=36) (z:=.agg zV) (n:=5) (b:=80) Ir
 exact Fa Tryz.clVal Zc Ih 80 i0 _ h1 h2 h3 h4 rfl sizeOf36 Ia Xd S v xs w hs
theorem Lt (S:Nat->Prop) (v:Value) (xs:List Bs) (w:World) (hs:Sl Zh S w v xs):Calls prog 162 #[v] w (Jn Zh 9 S w xs):=by
 obtain ⟨i0,h1,h2,h3,h4⟩:=Y8 (P:=prog) (t:=9) (z:=.string ⟨#[]⟩) (n:=1) (b:=16) Ir
 exact Fa Tryz.clStr Zh Ih 16 i0 _ h1 h2 h3 h4 rfl sizeOf9 Ia X5 S v xs w hs
theorem cloneRel (S:Nat->Prop) (v:Value) (xs:List Rel) (w:World) (hs:Sl Yk S w v xs):Calls prog 100 #[v] w (Jn Yk 70 S w xs):=by
 obtain ⟨i0,h1,h2,h3,h4⟩:=Y8 (P:=prog) (t:=70) (z:=.agg #[Ig,Ie]) (n:=2) (b:=40) Ir
 exact Fa Tryz.clRel Yk Ih 40 i0 _ h1 h2 h3 h4 rfl sizeOf70 Ia Ao S v xs w hs
theorem cloneRef (S:Nat->Prop) (v:Value) (xs:List Rf) (w:World) (hs:Sl Di S w v xs):Calls prog 165 #[v] w (Jn Di 67 S w xs):=by
 obtain ⟨i0,h1,h2,h3,h4⟩:=Y8 (P:=prog) (t:=67) (z:=.agg #[Ig,Ig]) (n:=2) (b:=32) Ir
 exact Fa Tryz.clRef Di Ih 32 i0 _ h1 h2 h3 h4 rfl sizeOf67 Ia rf_one S v xs w hs
theorem Ry (S:Nat->Prop) (v:Value) (xs:List Col) (w:World) (hs:Sl Xa S w v xs):Calls prog 76 #[v] w (Jn Xa 64 S w xs):=by
 obtain ⟨i0,h1,h2,h3,h4⟩:=Y8 (P:=prog) (t:=64) (z:=.agg #[Ig,Ic,Ig,Ic,Ie,Ie]) (n:=6) (b:=96) Ir
 exact Fa Tryz.clCol Xa Ih 96 i0 _ h1 h2 h3 h4 rfl sizeOf64 Ia Ax S v xs w hs
theorem U7 (S:Nat->Prop) (v:Value) (l:List Rel) (t:Bs) (w:World) (hs:Sl Yk S w v l):
  Calls prog 48 #[v,sv t] w λe w'=>e=.returned (.int .i64 (X8 (λr=>decide (r.table=t)) l))/\Below w w w':=by
 have hp:∀ A:World,Below w w A->A.cell? ⟨w,0,none⟩=some (sv t)->Uv prog 99 #[Iv w] Yk S l (λr=>decide (r.table=t)) A:=by
  rintro A M G W x cs hb hx ⟨rv,rfl,_,_⟩
  have I:W.cell? ⟨w,0,none⟩=some (sv t):=kD hb (Qv A _ G) G
  have J:=Qv W _ I
  have N:w.heap.size≠W.heap.size:=by
   intro e;rw [e] at J;simp at J
  have hq:(x.table==t)=decide (x.table=t):=by rw [Bool.eq_iff_iff,beq_iff_eq,decide_eq_true_eq]
  have HQ:=Qq hq
  clear hq G hb M hx
  show Calls prog 99 #[.agg #[sv x.table,rv],Iv w] W _
  unfold sv at I |-
  go_enter func99,ntmps99
  go_wp2_with fail
  go_ret
  exact ⟨by rw [<- HQ.o];rfl,Zg _ _⟩
 have HI:∀ A:World,Below w w A->A.cell? ⟨w,0,none⟩=some (sv t)->Calls prog 98 #[v,.func (.func 99) #[] #[Iv w]] A λe w'=>e=.returned (.int .i64 (X8 (λr=>decide (r.table=t)) l))/\Below A A w':=
  λA hb G=>Fi Tryz.ixRel Yk isAgg70 sizeOf70 _ _ (enters_of func99 Ir rfl) S v l A _ (hs.below hb) (hp A hb G)
 have D:=Qq HI
 clear HI hp hs
 generalize X8 _ l=r at D |-
 unfold sv at D |-
 go_enter func48,ntmps48
 go_wp2_with (go_at_call 98;refine (D.o _ (Zg _ _) Ib).mono ?_;rintro e w' ⟨rfl,hw⟩)
 go_ret
 exact ⟨rfl,(Zg _ _).n hw⟩
theorem Lh {W W1:World} (hb:Below W W W1):(∀ b o,b<W.heap.size->W1.cell? ⟨b,o,none⟩=W.cell? ⟨b,o,none⟩)/\(∀ b o,b<W.heap.size->W1.frozen? ⟨b,o,none⟩=W.frozen? ⟨b,o,none⟩):=
 ⟨λb o h=>hb.cell (p:=⟨b,o,none⟩) h,λb o h=>hb.frozen (p:=⟨b,o,none⟩) h⟩
def CloneIs (w:World) (x:Val) (e:Ending) (w':World):Prop:=∃ cs',e=.returned (.agg cs'.toArray)/\Z9 (λb=>w<=b) w' cs' x/\Below w w w'
def H8 (x:Val):Prop:=∀ (S:Nat->Prop) (cs:List Value) (w:World),Z9 S w cs x->Calls prog 125 #[cs] w (CloneIs w x)
theorem set_flat {n:Nat}:∀ (css:List (List Value)) (i:Nat) (a b c d e:Value),(∀ x ∈ css,x.length=5)->css.length=n->i<n ->
  (((((css.flatten.set (i*5) a).set (i*5+1) b).set (i*5+2) c).set (i*5+3) d).set (i*5+4) e)=(css.set i [a,b,c,d,e]).flatten:=by
 intro css
 induction css generalizing n with
 | nil=>intro i a b c d e _ A hi;simp at A;omega
 | cons x css ih=>
  intro i a b c d e hx A hi
  have h5:=hx x Ib
  cases i with
  | zero=>
   match x,h5 with
   | [x0,x1,x2,x3,x4],_=>simp
  | succ i=>
   have:=ih (n:=css.length) i a b c d e (λy hy=>hx y (by simp [hy])) rfl (by simp at A;omega)
   simp only [List.flatten_cons,List.set_cons_succ]
   rw [<- this]
   have e1:(i+1)*5=x.length+i*5:=by rw [h5];omega
   simp only [e1,Nat.add_assoc]
   simp only [List.set_append_right _ _ (Nat.le_add_right _ _),Nat.add_sub_cancel_left]
theorem store5 {w:World} {B g n cap:Nat} {E:TypeId} {css:List (List Value)} (h:w.ownsRow B E 5 (.slice (some ⟨g,0,none⟩) n cap) n css.flatten) (hl:css.length=n) (h5:∀ x ∈ css,x.length=5) (i:Nat) (hi:i<n) (a b c d e:Value):
  (((((w.setCell ⟨g,i*5,none⟩ a).setCell ⟨g,i*5+1,none⟩ b).setCell ⟨g,i*5+2,none⟩ c).setCell ⟨g,i*5+3,none⟩ d).setCell ⟨g,i*5+4,none⟩ e).ownsRow B E 5 (.slice (some ⟨g,0,none⟩) n cap) n (css.set i [a,b,c,d,e]).flatten:=by
 rw [<- set_flat css i a b c d e h5 hl hi]
 obtain ⟨h1,_⟩:=h.stored (i*5) a
 obtain ⟨h2,_⟩:=h1.stored (i*5+1) b
 obtain ⟨h3,_⟩:=h2.stored (i*5+2) c
 obtain ⟨h4,_⟩:=h3.stored (i*5+3) d
 exact (h4.stored (i*5+4) e).1
structure Kq (w:World) (k n:Int) (s:Bs) (ns:List Bs) (ks:List Val) (np:Option Addr) (ncap:Nat) (kp:Option Addr) (kcap:Nat) (kcs:List (List Value)) (kk:Nat) (wx:World):Prop where
 below:Below w w wx
 box:wx.heap[w.heap.size]?=some (.cells #[k,n,s,.slice np ns.length ncap,.slice kp ks.length kcap] 36 (0,0))
 res:wx.heap[w.heap.size+1]?=some (.cells zV 36 (0,0))
 names:Sl Zh (λb=>w+2<=b/\some b≠(Value.slice kp ks.length kcap).ownBlock) wx (.slice np ns.length ncap) ns
 kids:∃ news:List (List Value),news.length=kk/\wx.ownsRow (w+2) 36 5 (.slice kp ks.length kcap) ks.length (news++kcs.drop kk).flatten /\
  Cs Zc (λb=>w+2<=b/\some b≠(Value.slice kp ks.length kcap).ownBlock) wx news (ks.take kk)
theorem Vb {w w':World} {B B':Nat} {e:TypeId} {sz n:Nat} {v:Value} {xs:List Value} (h:w.ownsRow B e sz v n xs) (hB:B'<=B) (hA:∀ b,B<=b->b<w.heap.size->w'.heap[b]?=w.heap[b]?):w'.ownsRow B' e sz v n xs:=by
 refine ⟨h.1,?_⟩
 rcases h.2 with hn | ⟨g,cap,cur,rfl,hg,hh,rest⟩
 ·exact .inl hn
 exact .inr ⟨g,cap,cur,rfl,Ia,(hA g hg (Array.getElem?_eq_some_iff.1 hh).1).trans hh,rest⟩
theorem Z8 {w:World} {b:Nat} {o:Obj} (h:w.heap[b]?=some o):b<w.heap.size:=(Array.getElem?_eq_some_iff.1 h).1
theorem Za {w:World} {a:Addr} {u:Value} {b:Nat} (h:b≠a.block):(w.setCell a u).heap[b]?=w.heap[b]?:=Below.heap_setCell _ _ _ _ h
theorem sl_str {w:World} {v:Value} {xs:List Bs} {css:List (List Value)} {E:TypeId} {S:Nat->Prop} {B B':Nat} (h:Own Zh E S B w v xs css) (hl:xs.length<=1000000) (hB:B'<=B):Sl Zh (λb=>B'<=b) w v xs:=by
 have:Own Zh E (λ_=>False) B w v xs css:=⟨h.row,⟨h.cs.len,λi c x hc hx=>h.cs.R i c x hc hx⟩⟩
 exact this.sl hl (λb hb=>Ia) (λb _ h=>h.elim)
theorem Vj {w:World} {g i0 i1 i2 i3 i4:Nat} {a b c d e:Value} {k:Nat} (h:k≠g):
  (((((w.setCell ⟨g,i0,none⟩ a).setCell ⟨g,i1,none⟩ b).setCell ⟨g,i2,none⟩ c).setCell ⟨g,i3,none⟩ d).setCell ⟨g,i4,none⟩ e).heap[k]?=w.heap[k]?:=by
 rw [Za h,Za h,Za h,Za h,Za h]
theorem Kq.next {w wr w4:World} {k n:Int} {s:Bs} {ns:List Bs} {ks:List Val} {np:Option Addr} {ncap g kcap kk B:Nat} {kcs:List (List Value)} {x:Val} {a b c d e:Value}
  (hM:Kq w k n s ns ks np ncap (some ⟨g,0,none⟩) kcap kcs kk wr) (hx:ks[kk]?=some x) (hCs:Cs Zc (λb=>b<w) w kcs ks) (hb:Below wr wr w4) (hB:wr<=B)
  (hv:Z9 (λb=>B<=b) w4 [a,b,c,d,e] x):
  Kq w k n s ns ks np ncap (some ⟨g,0,none⟩) kcap kcs (kk+1) (((((w4.setCell ⟨g,kk*5,none⟩ a).setCell ⟨g,kk*5+1,none⟩ b).setCell ⟨g,kk*5+2,none⟩ c).setCell ⟨g,kk*5+3,none⟩ d).setCell ⟨g,kk*5+4,none⟩ e):=by
 have G:kk<ks.length:=(Qj hx).1
 obtain ⟨A,T,J,I⟩:=hM.kids
 have hg:=J.lt g rfl
 have hG:w.heap.size<=g:=Ia
 have Y:(Value.slice (some ⟨g,0,none⟩) ks.length kcap).ownBlock=some g:=rfl
 have N:∀ y ∈ A++kcs.drop kk,y.length=5:=by
  intro y hy
  rcases Z4.1 hy with h | h
  ·exact I.all y h
  exact hCs.all y (Zw h)
 have O:(A++kcs.drop kk).length=ks.length:=by rw [Ql,Zq,hCs.len];omega
 have U:(A++kcs.drop kk).set kk [a,b,c,d,e]=(A++[[a,b,c,d,e]])++kcs.drop (kk+1):=by
  have hd:kcs.drop kk=(kcs[kk]'(by rw [hCs.len];exact G))::kcs.drop (kk+1):=Qp (by rw [hCs.len];exact G)
  rw [hd,List.set_append_right _ _ Ia,T,Nat.sub_self,List.set_cons_zero,List.append_assoc];rfl
 refine ⟨?_,?_,?_,?_,⟨A++[[a,b,c,d,e]],by simp [T],?_,?_⟩⟩
 ·exact (((((hM.below.n hb).setCell (p:=⟨g,_,none⟩) hG _).setCell (p:=⟨g,_,none⟩) hG _).setCell (p:=⟨g,_,none⟩) hG _).setCell (p:=⟨g,_,none⟩) hG _).setCell (p:=⟨g,_,none⟩) hG _
 ·rw [Vj Ia,hb.block _ (Z8 hM.box)];exact hM.box
 ·rw [Vj Ia,hb.block _ (Z8 hM.res)];exact hM.res
 ·refine hM.names.frame (λb M D=>?_)
  rw [Vj (λe=>M.2 (by rw [e];rfl)),hb.block _ D]
 ·rw [<- U]
  exact store5 (Vb J (Q9 _) (λb _ D=>hb.block b D)) O N kk G a b c d e
 rw [Zz G]
 rw [Qx G] at hx
 obtain rfl:=Qb hx
 refine (I.move (λb M D=>?_) Ij).app (Cs.one ?_)
 ·rw [Vj (λe=>M.2 (by rw [e];rfl)),hb.block _ D]
 obtain ⟨Z,aA⟩:=hg
 refine Z9.move hv (λb M D=>?_) (λb D M=>?_)
 ·have V:B<=b:=M
  exact Vj Ia
 have V:B<=b:=M
 refine ⟨Ia,λe=>?_⟩
 have:b=g:=Qb e
 omega
theorem Tq (k n:Int) (s:Bs) (ns:List Bs) (ks:List Val) (ih:∀ x ∈ ks,H8 x):H8 (.mk k n s ns ks):=by
 intro S0 cs w bM
 have hx:Z9 (λb=>b<w) w cs (.mk k n s ns ks):=bM.move (.refl _ _) (λb hb _=>hb)
 clear bM
 obtain ⟨nv,kv,rfl,hs,hn,hk⟩:=Uq.1 hx
 have cO:ns.length<=1000000:=by obtain ⟨_,_,_,h⟩:=hn.len;exact h
 have cN:ks.length<=1000000:=by obtain ⟨_,_,_,h⟩:=hk.len;exact h
 obtain ⟨HN,HK,HI⟩:=Im hn hk ih
 clear hx hn hk ih
 unfold sv
 go_enter func125,ntmps125
 go_upto_region 1 with fail
 go_cut [12] (λ_ wx=>∃ np M kp A U,Kq w k n s ns ks np M kp A U 0 wx/\Cs Zc (λb=>b<w) w U ks)
 case first=>
  go_region_with (first | (go_at_call 162;refine (Lt _ nv ns _ (HN.o.below (by first | exact (Zs _ _ _).drew | exact (Zs _ _ _).drew.n aP.o | exact (Zs _ _ _).drew.n aQ.o))).mono ?_;rintro e w1 ⟨np,M,dY,rfl,bK,aK⟩;obtain ⟨aE,aG⟩:=Lh aK;have cQ:=aK.size;have aP:=Qq aK;have bZ:=Qq bK;clear aK bK;(try simp at cQ);have cK:w.heap.size<w1.heap.size:=Ia;have cM:w.heap.size+1<w1.heap.size:=Ia;have dJ:w1.cell? ⟨w,3,none⟩=some nv:=(by first | (rw [aE _ _ (by simp;omega)];simp) | (rw [aE _ _ AN];assumption));have dO:w1.frozen? ⟨w,3,none⟩=false:=(by first | (rw [aG _ _ (by simp;omega)];simp) | (rw [aG _ _ AN];assumption));have dK:w1.cell? ⟨w,4,none⟩=some kv:=(by first | (rw [aE _ _ (by simp;omega)];simp) | (rw [aE _ _ AN];assumption));have dP:w1.frozen? ⟨w,4,none⟩=false:=(by first | (rw [aG _ _ (by simp;omega)];simp) | (rw [aG _ _ AN];assumption));clear aE aG) | (go_at_call 49;refine (Gp _ kv ks _ (HK.o.below (by first | exact (Zs _ _ _).drew | exact (Zs _ _ _).drew.n aP.o | exact (Zs _ _ _).drew.n aQ.o))).mono ?_;rintro e w2 ⟨kp,A,U,rfl,bL,aL⟩;obtain ⟨aF,aH⟩:=Lh aL;have cR:=aL.size;have aQ:=Qq aL;have aS:=Qq bL;clear aL bL;(try simp only [World.size_drew,World.size_alloc] at cR);have dS:w.heap.size<w2.heap.size:=Ia;have dW:w.heap.size+1<w2.heap.size:=Ia;have dL:w2.cell? ⟨w,3,none⟩=some nv:=(by first | (rw [aF _ _ (by simp;omega)];simp) | (rw [aF _ _ AN];assumption));have dQ:w2.frozen? ⟨w,3,none⟩=false:=(by first | (rw [aH _ _ (by simp;omega)];simp) | (rw [aH _ _ AN];assumption));have dM:w2.cell? ⟨w,4,none⟩=some kv:=(by first | (rw [aF _ _ (by simp;omega)];simp) | (rw [aF _ _ AN];assumption));have dR:w2.frozen? ⟨w,4,none⟩=false:=(by first | (rw [aH _ _ (by simp;omega)];simp) | (rw [aH _ _ AN];assumption));clear aF aH))
  all_goals
   go_wp2_with fail
   go_meet
   have b1:=aP.o
   have b2:=aQ.o
   have bE:=b1.block w (by simp;omega)
   have aN:=b1.block (w+1) Ib
   rw [heap_drew,Q5] at bE
   rw [heap_drew,Q6] at aN
   have cJ:=kE b2 cK bE
   have bF:=kE b2 cM aN
   have bH:Below w w w2:=(Zs _ _ _).drew.n (b1.n b2)
   refine ⟨np,M,kp,A,U,⟨(bH.setCell (p:=⟨w,3,none⟩) (Q9 _) _).setCell (p:=⟨w,4,none⟩) (Q9 _) _,?_,?_,?_,⟨[],rfl,?_,⟨rfl,λi c x hc=>by simp at hc⟩⟩⟩,?_⟩
   ·exact Qi _ _ _ _ _ _ (Qi _ _ _ _ _ _ cJ)
   ·rw [Za Ib,Za Ib];exact bF
   ·refine ((sl_str bZ.o cO Ib).mono (S':=λb=>w+2<=b/\some b≠(Value.slice kp ks.length A).ownBlock) (λb hb h=>⟨h,λe=>?_⟩)).frame (λb hb V=>?_)
    ·have:=(aS.o.row.lt b e.symm).1
     omega
    rw [Za (by show b≠w;omega),Za (by show b≠w;omega)]
    exact b2.block b V
   ·refine Vb aS.o.row Ia (λb hb V=>?_)
    rw [Za (by show b≠w;omega),Za (by show b≠w;omega)]
   exact (aS.o.cs.move (S':=λb=>b<w) (.refl _ _) (λb _ h=>h.1)).move (λb hb _=>(bH.block b hb).symm) (λb _ h=>h)
 obtain ⟨np,M,kp,A,U,T,bD⟩:=hcut
 have HC:=Qq bD;have HM:=Qq T
 obtain ⟨c0,c1,c2,c3,c4⟩:=If T.box
 clear bD T
 go_wp2_with fail
 go_loopw [16] (λi wr=>∃ J:Nat,J<=ks.length/\i=.int .i64 J/\Kq w k n s ns ks np M kp A U J wr) (λi _=>ks.length - (intOf i).toNat)
 case atStart=>exact ⟨0,Q8 _,rfl,HM.o⟩
 obtain ⟨J,dX,rfl,T⟩:=hrel
 have c0:=Qk _ _ 0 _ _ _ T.box;have c1:=Qk _ _ 1 _ _ _ T.box;have c2:=Qk _ _ 2 _ _ _ T.box;have c3:=Qk _ _ 3 _ _ _ T.box;have c4:=Qk _ _ 4 _ _ _ T.box
 have r0:=Qk _ _ 0 _ _ _ T.res;have r1:=Qk _ _ 1 _ _ _ T.res;have r2:=Qk _ _ 2 _ _ _ T.res;have r3:=Qk _ _ 3 _ _ _ T.res;have r4:=Qk _ _ 4 _ _ _ T.res
 have fr:=λj=>Qn _ _ j _ _ T.res
 have dC:=(Array.getElem?_eq_some_iff.1 T.res).1
 simp only [Qf,Qg,Qh] at c0 c1 c2 c3 c4 r0 r1 r2 r3 r4
 have Z:=Qq T
 by_cases V:J<ks.length
 ·obtain ⟨x,hx⟩:∃ x,ks[J]?=some x:=⟨_,Qx V⟩
  obtain ⟨Y,aM,I,G⟩:=T.kids
  obtain ⟨g,cap,bJ,dT,O⟩:=I.form Ia
  simp only [Qr] at bJ
  obtain ⟨rfl,-,rfl⟩:=bJ
  obtain ⟨oc,aW⟩:∃ oc,U[J]?=some oc:=⟨_,Qx (by rw [HC.o.len];exact V)⟩
  have aY:=HC.o.R J oc x aW hx
  obtain ⟨p3,k3,p4,k4,rfl,_⟩:=Z9.cells (show Z9 _ w oc x from aY)
  have aD:∀ y ∈ Y++U.drop J,y.length=5:=by
   intro y hy
   rcases Z4.1 hy with h | h
   ·exact G.all y h
   exact HC.o.all y (Zw h)
  have aU:(Y++U.drop J)[J]?=some (Il x p3 k3 p4 k4):=by
   rw [Zx Ia,List.getElem?_drop,aM,Nat.sub_self,Nat.add_zero];exact aW
  have D:∀ (j:Nat) u,(Il x p3 k3 p4 k4)[j]?=some u->wr.cell? ⟨g,J*5+j,none⟩=some u:=by
   intro j u hu
   have h5:j<5:=(Qj hu).1
   rw [I.cellAt _ Ia]
   exact Vg aD aU hu
  have d0:=D 0 _ rfl;have d1:=D 1 _ rfl;have d2:=D 2 _ rfl;have d3:=D 3 _ rfl;have d4:=D 4 _ rfl
  rw [Nat.add_zero] at d0
  have fz:=λj=>I.frozenAt j
  have dU:(0:Int)<=(J:Int):=Ia
  have dV:(J:Int)<(ks.length:Int):=Ia
  have dD:w.heap.size≠wr.heap.size:=Ia
  have dE:w.heap.size+1≠wr.heap.size:=Ia
  have dF:g≠wr.heap.size:=Ia
  obtain ⟨HX,HV,HA,dG,HR⟩:=AO hx aY aD aU I;obtain ⟨dI,HL,aB,dH⟩:=It G aM fz fr
  clear hx aY aD aU I G aM D aW T fz fr r0 r1 r2 r3 r4 c0 c1 c2 c3
  go_upto_region 5 with fail
  obtain ⟨W5,aJ⟩:=eX (wr.alloc (.cells (Is x p3 k3 p4 k4) 36))
  have aV:=Iq aJ (Zg _ _)
  have bN:=Ik (b:=wr.heap.size) aJ (Qw _ _)
  rw [aJ]
  obtain ⟨x0,x1,x2,x3,x4⟩:=If bN
  have c5:=kD aV Ia c4
  have aR:=Qq aV
  have cD:=c4
  clear aJ aV bN c4
  go_region_with (first | (go_at_call 125;refine (HI.o x (Qy HX.o) _ (Il x p3 k3 p4 k4) _ (Z9.move HV.o (.f (Z.o.below.n aR.o.drew)) Ij)).mono ?_;rintro e w4 ⟨dN,rfl,aX,bG⟩;obtain ⟨q3,l3,q4,l4,bI,_⟩:=Z9.cells aX;simp only [Il] at bI;subst bI;have N:=Qq (aR.o.drew.n bG);have cA:=Qq aX;clear aX bG;have e4:=kD N.o Ia cD;have g0:=kD N.o O d0;have g1:=kD N.o O d1;have g2:=kD N.o O d2;have g3:=kD N.o O d3;have g4:=kD N.o O d4;have f0:=(N.o.frozen (p:=⟨g,J*5,none⟩) O).trans (aB.o (J*5));have f1:=(N.o.frozen (p:=⟨g,J*5+1,none⟩) O).trans (aB.o (J*5+1));have f2:=(N.o.frozen (p:=⟨g,J*5+2,none⟩) O).trans (aB.o (J*5+2));have f3:=(N.o.frozen (p:=⟨g,J*5+3,none⟩) O).trans (aB.o (J*5+3));have f4:=(N.o.frozen (p:=⟨g,J*5+4,none⟩) O).trans (aB.o (J*5+4))))
  all_goals
   go_wp2_with fail
   go_roundw
   case measure=>simp [intOf];omega
   case rel=>exact ⟨J+1,Ia,by go_num,Z.o.next HX.o HC.o N.o (aR.o.size) cA.o⟩
 obtain rfl:J=ks.length:=Ia
 obtain ⟨cE,cF,cG,cH,cI⟩:=Iw fr
 clear fr
 go_wp2_with fail
 have aA:=Qi _ _ 4 _ _ (.slice kp ks.length A) (Qi _ _ 3 _ _ (.slice np ns.length M) (Qi _ _ 2 _ _ (.string ⟨s.toArray⟩) (Qi _ _ 1 _ _ (.int .i64 n) (Qi _ _ 0 _ _ (.int .i64 k) Z.o.res))))
 have q0:=Qk _ _ 0 _ _ _ aA;have q1:=Qk _ _ 1 _ _ _ aA;have q2:=Qk _ _ 2 _ _ _ aA;have q3:=Qk _ _ 3 _ _ _ aA;have q4:=Qk _ _ 4 _ _ _ aA
 simp only [List.setIfInBounds_toArray,List.set_cons_zero,List.set_cons_succ,Qf,Qg,Qh] at q0 q1 q2 q3 q4
 obtain ⟨WF,aC⟩:=eX ((((((wr.setCell ⟨w+1,0,none⟩ (.int .i64 k)).setCell ⟨w+1,1,none⟩ (.int .i64 n)).setCell ⟨w+1,2,none⟩ (.string ⟨s.toArray⟩)).setCell ⟨w+1,3,none⟩ (.slice np ns.length M)).setCell ⟨w+1,4,none⟩ (.slice kp ks.length A)))
 rw [aC] at q0 q1 q2 q3 q4 |-
 have cB:=Qq aC
 clear aA aC c0 c1 c2 c3 c4 r0 r1 r2 r3 r4 cE cF cG cH cI
 refine Q7 (v:=.agg #[k,n,s,.slice np ns.length M,.slice kp ks.length A]) (by simp [results,results125,go_sem,q0,q1,q2,q3,q4]) rfl ⟨_,rfl,?_,?_⟩
 all_goals rw [<- cB.o]
 ·obtain ⟨Y,aM,I,G⟩:=Z.o.kids
  rw [Qu (by rw [HC.o.len];exact Q9 _),List.append_nil] at I
  rw [Zj (Q9 _)] at G
  have hO:Own Zc 36 (λb=>w+2<=b) (w+2) wr (.slice kp ks.length A) ks Y:=⟨I,G⟩
  refine Yb hs ?_ ?_
  ·refine (Z.o.names.frame (λb hS V=>?_)).mono (λb _ hS=>?_)
   ·exact Vj (by have:w.heap.size+2<=b:=hS.1;omega)
   have:w.heap.size+2<=b:=hS.1
   show w<=b
   omega
  refine ((hO.sl cN (S':=λb=>w+2<=b) (λb h=>h) (λb _ h=>h)).frame (λb hS V=>?_)).mono (λb _ hS=>?_)
  ·exact Vj (by have:w.heap.size+2<=b:=hS;omega)
  have:w.heap.size+2<=b:=hS
  show w<=b
  omega
 exact ((((Z.o.below.setCell (p:=⟨w+1,0,none⟩) (Nat.le_succ _) _).setCell (p:=⟨w+1,1,none⟩) (Nat.le_succ _) _).setCell (p:=⟨w+1,2,none⟩) (Nat.le_succ _) _).setCell (p:=⟨w+1,3,none⟩) (Nat.le_succ _) _).setCell (p:=⟨w+1,4,none⟩) (Nat.le_succ _) _
theorem Bw:∀ x:Val,H8 x
 | .mk k n s ns ks=>Tq k n s ns ks λx _=>Bw x
termination_by x=>SizeOf.sizeOf x
decreasing_by
 have:=List.sizeOf_lt_of_mem ‹_ ∈ ks›
 simp only [Val.mk.sizeOf_spec]
 omega
end Go.Proofs.YtdpibdpbgokmoaaGreatDoor
