import Derived.Test.YtlanplhphiikjaaGreatDoorE02
set_option maxRecDepth 100000
set_option maxHeartbeats 400000000
namespace Go.Proofs.YtlanplhphiikjaaGreatDoor
open Go.RowKit
theorem _root_.Go.RowKit.Below.thn {B:Nat} {a b c:World} (h:Below B a b) (k:Below b b c) (hB:B<=a.heap.size:=by exact Q9 _):Below B a c:=h.trans (k.mono (Qc hB h.size))
theorem Ze (w:World) (o:Obj):Below w w (w.alloc o):=(Qz _ _).alloc (Q9 _) _
theorem Zu (w:World) (o p:Obj):Below w w ((w.alloc o).alloc p):=(Ze w o).alloc (Ze w o).size _
def Gr (w w':World):Prop:=∃ q os,w'=Sort.grow (w.drewN q) os
theorem Gr.refl (w:World):Gr w w:=⟨0,#[],by rw [Sort.grow_empty];rfl⟩
theorem Gr.thn {a b c:World} (h:Gr a b) (k:Gr b c):Gr a c:=by
 obtain ⟨q,os,rfl⟩:=h
 obtain ⟨q',A,rfl⟩:=k
 refine ⟨q+q',os++A,?_⟩
 show Sort.grow (Sort.grow ((a.drewN q).drewN q') os) A=_
 rw [Sort.grow_grow,World.drewN_drewN]
theorem Gr.alloc {a b:World} (h:Gr a b) (o:Obj):Gr a (b.alloc o):=h.thn ⟨0,#[o],by rw [Sort.alloc_eq_grow];rfl⟩
theorem gal1 (w:World) (o:Obj):Gr w (w.alloc o):=(Gr.refl w).alloc o
theorem Vs (w:World) (o p:Obj):Gr w ((w.alloc o).alloc p):=(gal1 w o).alloc p
theorem Gr.bl {w w':World} (h:Gr w w'):Below w w w':=by
 obtain ⟨q,os,rfl⟩:=h
 refine ⟨rfl,rfl,rfl,by simp [Sort.grow],fun k hk=>?_⟩
 show (w.heap++os)[k]?=_
 rw [Array.getElem?_append_left hk]
def Cz (x:Val):Prop:=∀ (y:Val) (S:Nat->Prop) (cx cy:List Value) (w:World),Za S w cx x->Za S w cy y ->
 Calls Tryz.prog 99 #[cx,cy] w fun e w'=>e=.returned (.int .i64 (Yk x y))/\Gr w w'
def vcs (x:Val) (p3:Option Addr) (k3:Nat) (p4:Option Addr) (k4:Nat):List Value:=[.int .i64 x.kind,.int .i64 x.n,.string ⟨x.s.toArray⟩,.slice p3 x.names.length k3,.slice p4 x.kids.length k4]
def Qxf (_ : Val) (_ : Option Addr) (_ : Nat) (_ : Option Addr) (_ : Nat) : Qyk := ⟨0⟩
instance Qxf_l {v : Val} {p : Option Addr} {a : Nat} {q : Option Addr} {b : Nat} : CoeDep Qyk (Qxf v p a q b) (List Value) := ⟨[.int .i64 v.kind, .int .i64 v.n, .string ⟨v.s.toArray⟩, .slice p v.names.length a, .slice q v.kids.length b]⟩
instance Qxf_a {v : Val} {p : Option Addr} {a : Nat} {q : Option Addr} {b : Nat} : CoeDep Qyk (Qxf v p a q b) (Array Value) := ⟨#[.int .i64 v.kind, .int .i64 v.n, .string ⟨v.s.toArray⟩, .slice p v.names.length a, .slice q v.kids.length b]⟩
def Qxi (_ _ : Value) (_ : Val) (_ : Option Addr) (_ : Nat) (_ : Option Addr) (_ : Nat) (_ : Val) (_ : Option Addr) (_ : Nat) (_ : Option Addr) (_ : Nat) : Qyk := ⟨0⟩
instance Qxi_l {c f : Value} {v : Val} {p : Option Addr} {a : Nat} {q : Option Addr} {b : Nat} {u : Val} {r : Option Addr} {d : Nat} {t : Option Addr} {e : Nat} : CoeDep Qyk (Qxi c f v p a q b u r d t e) (List Value) := ⟨[c, f, .int .i64 v.kind, .int .i64 v.n, .string ⟨v.s.toArray⟩, .slice p v.names.length a, .slice q v.kids.length b, .int .i64 u.kind, .int .i64 u.n, .string ⟨u.s.toArray⟩, .slice r u.names.length d, .slice t u.kids.length e]⟩
instance Qxi_a {c f : Value} {v : Val} {p : Option Addr} {a : Nat} {q : Option Addr} {b : Nat} {u : Val} {r : Option Addr} {d : Nat} {t : Option Addr} {e : Nat} : CoeDep Qyk (Qxi c f v p a q b u r d t e) (Array Value) := ⟨#[c, f, .int .i64 v.kind, .int .i64 v.n, .string ⟨v.s.toArray⟩, .slice p v.names.length a, .slice q v.kids.length b, .int .i64 u.kind, .int .i64 u.n, .string ⟨u.s.toArray⟩, .slice r u.names.length d, .slice t u.kids.length e]⟩
theorem Za.cells {S:Nat->Prop} {w:World} {cs:List Value} {x:Val} (h:Za S w cs x):∃ p3 k3 p4 k4,cs=vcs x p3 k3 p4 k4/\Sl Zg S w (.slice p3 x.names.length k3) x.names/\Sl Zc S w (.slice p4 x.kids.length k4) x.kids/\x.s.length<=1000000:=by
 obtain ⟨k,n,s,names,kids⟩:=x
 obtain ⟨nv,kv,rfl,hs,hn,hk⟩:=Jf.1 h
 obtain ⟨p3,k3,rfl,_⟩:=hn.len
 obtain ⟨p4,k4,rfl,_⟩:=hk.len
 exact ⟨p3,k3,p4,k4,rfl,hn,hk,hs⟩
theorem Sl.val {S:Nat->Prop} {w:World} {p:Option Addr} {n cap:Nat} {xs:List Val} (h:Sl Zc S w (.slice p n cap) xs) {i:Nat} {x:Val} (hx:xs[i]?=some x):
  ∃ b off p3 k3 p4 k4,p=some ⟨b,off,none⟩/\b<w.heap.size/\Za S w (vcs x p3 k3 p4 k4) x/\Qxw w b (off+i*5) x.kind/\Qxw w b (off+i*5+1) x.n/\Qxw w b (off+i*5+2) x.s /\
   Qxw w b (off+i*5+3) (.slice p3 x.names.length k3)/\Qxw w b (off+i*5+4) (.slice p4 x.kids.length k4):=by
 obtain ⟨p',c',h1,_,h3⟩:=h
 simp only [Qr] at h1
 obtain ⟨rfl,_,_⟩:=h1
 obtain ⟨b,off,e,_,hb,hc⟩:=h3 (by intro e;subst e;simp at hx)
 obtain ⟨cs,A,h5⟩:=hc i x hx
 obtain ⟨p3,k3,p4,k4,rfl,_⟩:=Za.cells h5
 exact ⟨b,off,p3,k3,p4,k4,e,hb,h5,A 0 _ rfl,A 1 _ rfl,A 2 _ rfl,A 3 _ rfl,A 4 _ rfl⟩
theorem cmpVs_of (S:Nat->Prop) (av bv:Value) (a b:List Val) (hC:∀ x ∈ a,Cz x) (w:World) (ha:Sl Zc S w av a) (hb:Sl Zc S w bv b):
  Calls Tryz.prog 146 #[av,bv,.func (.func 99) #[] #[]] w fun e w'=>e=.returned (.int .i64 (Xu a b))/\Gr w w':=by
 obtain ⟨pa,ca,rfl,aN⟩:=ha.len
 obtain ⟨pb,cb,rfl,aO⟩:=hb.len
 obtain ⟨HA,HB,HC⟩:=Qxn ha hb hC
 obtain ⟨r,hr⟩:=eX (Xu a b)
 rw [hr]
 have HR:=Qq hr
 clear ha hb hr hC
 go_enter Tryz.func146,Tryz.ntmps146
 go_wp2_with fail
 go_loopw [13] (fun i wr=>∃ k:Nat,k<=a.length/\k<=b.length/\i=.int .i64 k/\Xu (a.drop k) (b.drop k)=r/\Gr w wr) (fun i _=>a.length - (intOf i).toNat)
 case atStart=>exact ⟨0,Q8 _,Q8 _,rfl,HR.out,Gr.refl _⟩
 obtain ⟨k,aL,aM,rfl,J,V⟩:=hrel
 have I:=Qq V
 clear V
 by_cases hlt:k<a.length
 ·obtain ⟨x,T⟩:∃ x,a[k]?=some x:=⟨_,Qx hlt⟩
  have A:a.drop k=x::a.drop (k+1):=by
   rw [Qp hlt];rw [Qx hlt] at T;cases T;rfl
  obtain ⟨ga,oa,p3,k3,p4,k4,rfl,aI,O,d0,d1,d2,d3,d4⟩:=(HA.out.below I.out.bl).val T
  by_cases hlb2:k<b.length
  ·obtain ⟨y,hy⟩:∃ y,b[k]?=some y:=⟨_,Qx hlb2⟩
   have D:b.drop k=y::b.drop (k+1):=by
    rw [Qp hlb2];rw [Qx hlb2] at hy;cases hy;rfl
   obtain ⟨gb,ob,q3,l3,q4,l4,rfl,aJ,Y,e0,e1,e2,e3,e4⟩:=(HB.out.below I.out.bl).val hy
   rw [A,D] at J
   have M:thn (Yk x y) (Xu (a.drop (k+1)) (b.drop (k+1)))=r:=J
   have HX:=Qq (HC.out x (Qy T) y S)
   have aC:=Qq O;have aD:=Qq Y
   generalize Yk x y=c at HX M
   have aF:(0:Int)<=(k:Int):=Qvu
   have aG:(k:Int)<a.length:=Qvu
   have aK:(k:Int)<b.length:=Qvu
   have hq:decide (b.length<=k)=false:=by simp;omega
   clear O Y J A D T hy
   go_wp2_with fail
   refine (HX.out (vcs x p3 k3 p4 k4) (vcs y q3 l3 q4 l4) _ (aC.out.move (.of_below (Zu _ _ _)) Qyv) (aD.out.move (.of_below (Zu _ _ _)) Qyv)).mono ?_
   rintro e w' ⟨rfl,hw⟩
   have U:=Qq (I.out.thn ((Vs wr _ _).thn hw))
   clear hw
   by_cases hc0:c=0
   ·subst hc0
    have aB:=Qq M
    clear M
    go_wp2_with fail
    go_roundw
    case rel=>exact ⟨k+1,Qvu,Qvu,by go_num,aB.out,U.out⟩
    case measure=>simp [intOf];omega
   have aP:(c != 0)=true:=by rw [bne_iff_ne];exact hc0
   have aE:c=r:=by rw [<- M];unfold thn;rw [if_neg hc0]
   subst aE
   clear M hc0
   go_wp2_with fail
   go_ret
   exact ⟨rfl,U.out⟩
  have D:b.drop k=[]:=Qu Qvu
  rw [A,D] at J
  have N:r=1:=by rw [<- J];rfl
  subst N
  have aF:(0:Int)<=(k:Int):=Qvu
  have aG:(k:Int)<a.length:=Qvu
  have hq:decide (b.length<=k)=true:=by simp;omega
  clear J A D T O
  go_wp2_with fail
  go_ret
  exact ⟨rfl,I.out.thn (gal1 _ _)⟩
 have A:a.drop k=[]:=Qu Qvu
 rw [A] at J
 by_cases hlb2:a.length<b.length
 ·obtain ⟨y,t,Z⟩:∃ y t,b.drop k=y::t:=by
   have:(b.drop k).length≠0:=by rw [Zq];omega
   cases hd:b.drop k with
   | nil=>rw [hd] at this;exact absurd rfl this
   | cons y t=>exact ⟨y,t,rfl⟩
  rw [Z] at J
  have N:r=-1:=by rw [<- J];rfl
  subst N
  clear J A Z
  go_wp2_with fail
  go_ret
  exact ⟨rfl,I.out⟩
 have D:b.drop k=[]:=Qu Qvu
 rw [D] at J
 have N:r=0:=by rw [<- J];rfl
 subst N
 clear J A D
 go_wp2_with fail
 go_ret
 exact ⟨rfl,I.out⟩
theorem cmpAt_of (k n:Int) (s:Bs) (ns:List Bs) (ks:List Val) (ih:∀ x ∈ ks,Cz x):Cz (.mk k n s ns ks):=by
 rintro ⟨k',N,T,D,A⟩ S cx cy w hx hy
 obtain ⟨nv,kv,rfl,hs,hn,hk⟩:=Jf.1 hx
 obtain ⟨aG,aF,rfl,aN,aE,aD⟩:=Jf.1 hy
 have hN:∀ w',Below w w w'->Calls Tryz.prog 145 #[nv,aG] w' fun e V=>e=.returned (.int .i64 (Kl ns D))/\w'=V:=
  fun w' hb=>cmpN_any S nv aG ns D w' (hn.below hb) (aE.below hb)
 have hK:∀ w',Below w w w'->Calls Tryz.prog 146 #[kv,aF,.func (.func 99) #[] #[]] w' fun e V=>e=.returned (.int .i64 (Xu ks A))/\Gr w' V:=
  fun w' hb=>cmpVs_of S kv aF ks A ih w' (hk.below hb) (aD.below hb)
 have hS:∀ w',Calls Tryz.prog 116 #[sv s,sv T] w' fun e V=>e=.returned (.int .i64 (Yg s T))/\w'=V:=fun w'=>Sf _ _ w'
 obtain ⟨HN,HK,HS⟩:=Qxn hN hK hS
 obtain ⟨cb,J⟩:=eX (Yg s T)
 obtain ⟨cn,M⟩:=eX (Kl ns D)
 obtain ⟨cv,I⟩:=eX (Xu ks A)
 rw [J] at HS;rw [M] at HN;rw [I] at HK
 have aM:=Qq (fun o1 o2=>Zu w o1 o2)
 clear hN hK hS hx hy ih hn aE hk aD
 by_cases hkk:k=k'
 ·subst hkk
  by_cases h0:k=0
  ·subst h0
   rw [show Yk (.mk 0 n s ns ks) (.mk 0 N T D A)=ord n N by simp [Yk]]
   have Y:=Qq (fun w=>Lc n N w)
   generalize ord n N=r at Y |-
   clear J M I
   go_enter Tryz.func99,Tryz.ntmps99
   go_wp2_with (go_at_call 144;refine (Y.out _).mono ?_;rintro e w' ⟨rfl,rfl⟩)
   go_ret
   exact ⟨rfl,Vs _ _ _⟩
  by_cases h2:k=2
  ·subst h2
   rw [show Yk (.mk 2 n s ns ks) (.mk 2 N T D A)=ord n N by simp [Yk]]
   have Y:=Qq (fun w=>Lc n N w)
   generalize ord n N=r at Y |-
   clear J M I h0
   go_enter Tryz.func99,Tryz.ntmps99
   go_wp2_with (go_at_call 144;refine (Y.out _).mono ?_;rintro e w' ⟨rfl,rfl⟩)
   go_ret
   exact ⟨rfl,Vs _ _ _⟩
  by_cases h1:k=1
  ·subst h1
   rw [show Yk (.mk 1 n s ns ks) (.mk 1 N T D A)=cb by simp [Yk,J]]
   clear J M I h0 h2
   go_enter Tryz.func99,Tryz.ntmps99
   go_wp2_with (go_at_call 116;refine (HS.out _).mono ?_;rintro e w' ⟨rfl,rfl⟩)
   go_ret
   exact ⟨rfl,Vs _ _ _⟩
  by_cases h3:k=3
  ·subst h3
   have O:Yk (.mk 3 n s ns ks) (.mk 3 N T D A)=thn cb cv:=by simp [Yk,J,I]
   clear J M I h0 h2 h1
   by_cases hz:cb=0
   ·subst hz
    rw [O,Jk]
    clear O
    go_enter Tryz.func99,Tryz.ntmps99
    go_wp2_with (first | (go_at_call 116;refine (HS.out _).mono ?_;rintro e w' ⟨rfl,rfl⟩) | (go_at_call 146;refine (HK.out _ (Zu _ _ _)).mono ?_;rintro e w' ⟨rfl,Z⟩;have HW:=Qq ((Vs w _ _).thn Z);clear Z))
    go_ret
    exact ⟨rfl,HW.out⟩
   have hq:(cb != 0)=true:=by rw [bne_iff_ne];exact hz
   have U:Yk (.mk 3 n s ns ks) (.mk 3 N T D A)=cb:=by rw [O];unfold thn;rw [if_neg hz]
   rw [U]
   clear O U hz
   go_enter Tryz.func99,Tryz.ntmps99
   go_wp2_with (go_at_call 116;refine (HS.out _).mono ?_;rintro e w' ⟨rfl,rfl⟩)
   go_ret
   exact ⟨rfl,Vs _ _ _⟩
  by_cases h4:k=4
  ·subst h4
   have O:Yk (.mk 4 n s ns ks) (.mk 4 N T D A)=thn cn cv:=by simp [Yk,M,I]
   clear J M I h0 h2 h1 h3
   by_cases hz:cn=0
   ·subst hz
    rw [O,Jk]
    clear O
    go_enter Tryz.func99,Tryz.ntmps99
    go_wp2_with (first | (go_at_call 145;refine (HN.out _ (Zu _ _ _)).mono ?_;rintro e w' ⟨rfl,rfl⟩) | (go_at_call 146;refine (HK.out _ (Zu _ _ _)).mono ?_;rintro e w' ⟨rfl,Z⟩;have HW:=Qq ((Vs w _ _).thn Z);clear Z))
    go_ret
    exact ⟨rfl,HW.out⟩
   have hq:(cn != 0)=true:=by rw [bne_iff_ne];exact hz
   have U:Yk (.mk 4 n s ns ks) (.mk 4 N T D A)=cn:=by rw [O];unfold thn;rw [if_neg hz]
   rw [U]
   clear O U hz
   go_enter Tryz.func99,Tryz.ntmps99
   go_wp2_with (go_at_call 145;refine (HN.out _ (Zu _ _ _)).mono ?_;rintro e w' ⟨rfl,rfl⟩)
   go_ret
   exact ⟨rfl,Vs _ _ _⟩
  by_cases h5:k=5
  ·subst h5
   rw [show Yk (.mk 5 n s ns ks) (.mk 5 N T D A)=cv by simp [Yk,I]]
   clear J M I h0 h2 h1 h3 h4
   go_enter Tryz.func99,Tryz.ntmps99
   go_wp2_with (go_at_call 146;refine (HK.out _ (Zu _ _ _)).mono ?_;rintro e w' ⟨rfl,Z⟩;have HW:=Qq ((Vs w _ _).thn Z);clear Z)
   go_ret
   exact ⟨rfl,HW.out⟩
  have O:Yk (.mk k n s ns ks) (.mk k N T D A)=0:=by simp [Yk,h0,h1,h2,h3,h4,h5]
  rw [O]
  have q0:(k==0)=false:=by simpa using h0
  have q1:(k==1)=false:=by simpa using h1
  have q2:(k==2)=false:=by simpa using h2
  have q3:(k==3)=false:=by simpa using h3
  have q4:(k==4)=false:=by simpa using h4
  have q5:(k==5)=false:=by simpa using h5
  clear O J M I h0 h1 h2 h3 h4 h5
  go_enter Tryz.func99,Tryz.ntmps99
  go_wp2_with fail
  go_ret
  exact ⟨rfl,Vs _ _ _⟩
 have O:Yk (.mk k n s ns ks) (.mk k' N T D A)=ord k k':=by simp [Yk,hkk]
 rw [O]
 have hq:(k != k')=true:=by rw [bne_iff_ne];exact hkk
 have Y:=Qq (fun w=>Lc k k' w)
 generalize ord k k'=r at Y |-
 clear O J M I hkk
 go_enter Tryz.func99,Tryz.ntmps99
 go_wp2_with (go_at_call 144;refine (Y.out _).mono ?_;rintro e w' ⟨rfl,rfl⟩)
 go_ret
 exact ⟨rfl,Vs _ _ _⟩
theorem cmpAt:∀ x:Val,Cz x
 | .mk k n s ns ks=>cmpAt_of k n s ns ks fun x _=>cmpAt x
termination_by x=>SizeOf.sizeOf x
decreasing_by
 have:=List.sizeOf_lt_of_mem ‹_ ∈ ks›
 simp only [Val.mk.sizeOf_spec]
 omega
open Go.RowKit Go.Shelf Go.Lib Tryz
def Vi {T:Type} (p:T->Bool) (xs:List T):Int:=match xs.findIdx? p with
 | some i=>i
 | none=>-1
theorem Kh {T:Type} {p:T->Bool} {xs:List T} {k:Nat} {x:T} (hx:xs[k]?=some x) (hp:p x=true) (hne:∀ (j:Nat) (y:T),j<k->xs[j]?=some y->p y=false):Vi p xs=k:=by
 have:xs.findIdx? p=some k:=by
  obtain ⟨hk,rfl⟩:=Qj hx
  rw [List.findIdx?_eq_some_iff_getElem]
  exact ⟨hk,hp,fun j hj=>by simpa using hne j _ hj (Qx Qvu)⟩
 unfold Vi;rw [this]
theorem Ue {T:Type} {p:T->Bool} {xs:List T} (hne:∀ (j:Nat) (y:T),xs[j]?=some y->p y=false):Vi p xs=-1:=by
 have:xs.findIdx? p=none:=by
  rw [List.findIdx?_eq_none_iff]
  intro y hy
  obtain ⟨j,hj⟩:=Zk hy
  exact hne j y hj
 unfold Vi;rw [this]
theorem Et {T:Type} (p:T->Bool) (xs:List T):decide (0<=Vi p xs)=xs.any p:=by
 unfold Vi
 cases h:xs.findIdx? p with
 | none=>
  rw [List.findIdx?_eq_none_iff] at h
  have:xs.any p=false:=by rw [List.any_eq_false];intro x hx;simp [h x hx]
  rw [this];rfl
 | some i=>
  rw [List.findIdx?_eq_some_iff_getElem] at h
  obtain ⟨hi,hp,_⟩:=h
  have:xs.any p=true:=List.any_eq_true.2 ⟨_,Qd hi,hp⟩
  rw [this];simp
def Ui {T:Type} (P:Program) (g:Nat) (lb:Array Value) (r:Rd T) (S:Nat->Prop) (xs:List T) (p:T->Bool) (w:World):Prop:=
 ∀ (W:World) (x:T) (cs:List Value),Below w w W->x ∈ xs->r.R S W cs x ->
  Calls P g (#[.agg cs.toArray]++lb) W fun e w'=>e=.returned (.bool (p x))/\Below W W w'
theorem Sl.elem {T:Type} {r:Rd T} {S:Nat->Prop} {w:World} {p:Option Addr} {n cap:Nat} {xs:List T} (h:Sl r S w (.slice p n cap) xs) {i:Nat} {x:T} (hx:xs[i]?=some x):
  ∃ b off cs,p=some ⟨b,off,none⟩/\b<w.heap.size/\S b/\cs.length=r.k/\r.R S w cs x/\∀ j u,cs[j]?=some u->w.cell? ⟨b,off+i*r.k+j,none⟩=some u:=by
 obtain ⟨p',c',h1,_,h3⟩:=h
 simp only [Qr] at h1
 obtain ⟨rfl,_,_⟩:=h1
 obtain ⟨b,off,e,hS,hb,hc⟩:=h3 (by intro e;subst e;simp at hx)
 obtain ⟨cs,h4,h5⟩:=hc i x hx
 exact ⟨b,off,cs,e,hb,hS,r.len h5,h5,h4⟩
section
variable {P:Program} {ρ:Ren} {T:Type}
theorem Rz (L:SlLaysH0.n6 P ρ) (r:Rd T) (aE:∀ w,(isAgg (ρ.t 23)).run P w=.ok true w) (zE:∀ w,(Go.sizeOf (ρ.t 23)).run P w=.ok r.k w) (g:Nat) (lb:Array Value)
  (eg:∀ args w,(callFunc g args).run P w=.ok (.enter g args) w) (S:Nat->Prop) (v:Value) (xs:List T) (w:World) (p:T->Bool) (hs:Sl r S w v xs) (hp:Ui P g lb r S xs p w):
  Calls P (ρ.f 6) #[v,.func (.func g) #[] lb] w fun e w'=>e=.returned (.int .i64 (Vi p xs))/\Below w w w':=by
 obtain ⟨q,cap,rfl,hl⟩:=hs.len
 have mixed:=L.mixed;have t0:=L.t0;have a0:=L.a0;have z0:=L.z0;have v0:=L.v0;have t3:=L.t3;have a3:=L.a3;have z3:=L.z3;have v3:=L.v3;have t4:=L.t4;have a4:=L.a4;have z4:=L.z4;have v4:=L.v4;have t22:=L.t22;have a22:=L.a22;have z22:=L.z22;have v22:=L.v22;have t25:=L.t25;have a25:=L.a25;have z25:=L.z25;have v25:=L.v25
 obtain ⟨_,_,FG⟩:=L.f6
 have HS:=Qq hs;have HP:=Qq hp
 clear hs hp
 obtain ⟨n,V⟩:=eX (xs.length)
 rw [V] at HS hl
 rw [V]
 have HN:=Qq V
 clear V
 go_enter FG,SlBodyH.n6_ntmps ρ
 go_wp2
 go_loopg [5,8] n (fun gg _ s8 wr=>∃ I:Nat,I<=n/\n - I<=gg/\s8=.int .i64 I/\Aside (Below w w wr)/\Aside (∀ (j:Nat) (y:T),j<I->xs[j]?=some y->p y=false))
 case atStart=>exact ⟨0,Q8 _,Qvu,rfl,Qz _ w,fun j _ hj=>absurd hj (Z6 _)⟩
 obtain ⟨I,Y,hg,rfl,N,A⟩:=hrel
 by_cases hlt:I<n
 ·have O:(I:Int)<(n:Int):=Qvu
  have U:=Qx (l:=xs) (i:=I) (by rw [HN.out];exact hlt)
  generalize xs[I]'_=x at U
  obtain ⟨b,off,cs,rfl,hb,-,hk,hR,hc⟩:=(HS.out.below N.out).elem U
  have l2:Sem.run P (loadCellsFrom ⟨b,off+I*r.k,none⟩ 0 r.k #[]) wr=.ok cs.toArray wr:=
   run_loadCellsFrom_list P _ _ cs r.k hk (fun i u hi=>by rw [Addr.add_lit];exact hc i u hi)
  have D:=HP.out wr x cs N.out (Qy U) hR
  have HX:=Qq U
  clear hc hR U
  cases hq:p x with
  | true=>
   rw [hq] at D
   go_wp2_with (go_at_fn g;refine D.mono ?_;rintro e w' ⟨rfl,J⟩)
   go_ret
   refine ⟨?_,N.out.thn J⟩
   rw [Kh HX.out hq A.out]
   rfl
  | false=>
   rw [hq] at D
   go_wp2_with (go_at_fn g;refine D.mono ?_;rintro e w' ⟨rfl,J⟩)
   go_roundg (n - (I+1))
   case measure=>omega
   case rel=>
    refine ⟨I+1,Qvu,Qvu,by go_num,N.out.thn J,(show Aside _ from fun j y hj M=>?_)⟩
    by_cases e:j=I
    ·subst e
     have:=HX.out
     rw [this] at M
     cases M
     exact hq
    exact A.out j y Qvu M
 have O:¬ (I:Int)<(n:Int):=Qvu
 have:I=n:=Qvu
 subst this
 go_wp2
 go_ret
 refine ⟨?_,N.out⟩
 rw [Ue (fun j y M=>A.out j y (by have:=(Qj M).1;have:=HN.out;omega) M)]
 rfl
theorem Co (L:SlLaysH0.n8 P ρ) (r:Rd T) (aE:∀ w,(isAgg (ρ.t 23)).run P w=.ok true w) (zE:∀ w,(Go.sizeOf (ρ.t 23)).run P w=.ok r.k w) (g:Nat) (lb:Array Value)
  (eg:∀ args w,(callFunc g args).run P w=.ok (.enter g args) w) (S:Nat->Prop) (v:Value) (xs:List T) (w:World) (p:T->Bool) (hs:Sl r S w v xs) (hp:Ui P g lb r S xs p w):
  Calls P (ρ.f 8) #[v,.func (.func g) #[] lb] w fun e w'=>e=.returned (.bool (xs.any p))/\Below w w w':=by
 rw [<- Et]
 have mixed:=L.mixed;have t0:=L.t0;have a0:=L.a0;have z0:=L.z0;have v0:=L.v0;have t3:=L.t3;have a3:=L.a3;have z3:=L.z3;have v3:=L.v3;have t4:=L.t4;have a4:=L.a4;have z4:=L.z4;have v4:=L.v4;have t22:=L.t22;have a22:=L.a22;have z22:=L.z22;have v22:=L.v22;have t25:=L.t25;have a25:=L.a25;have z25:=L.z25;have v25:=L.v25
 have e6:∀ args w,(callFunc (ρ.f 6) args).run P w=.ok (.enter (ρ.f 6) args) w:=L.f6.enters rfl
 have hC:=Qq (Rz { L with } r aE zE g lb eg S v xs w p hs hp)
 obtain ⟨_,_,FG⟩:=L.f8
 generalize Vi p xs=i at hC |-
 clear hs hp
 go_enter FG,SlBodyH.n8_ntmps ρ
 go_wp2_with (go_at_fn (ρ.f 6);refine hC.out.mono ?_;rintro e w' ⟨rfl,A⟩)
 go_ret
 exact ⟨rfl,A⟩
theorem Pm (L:SlLaysE0.n41 P ρ) (i0:TypeInfo) (z:Value) (size bytes:Nat) (hi:P.info? (ρ.t 23)=some i0) (hz0:i0.zero=some z) (hz1:i0.size=size) (hz2:i0.bytes=bytes) (hzs:z.cells.size=size) (hsz:0<size)
  (z23:∀ w,(Go.sizeOf (ρ.t 23)).run P w=.ok size w) (ad:Addr) (c:Nat) (w:World):
  Calls P (ρ.f 41) #[.slice (some ad) 0 c] w fun e w'=>∃ v',e=.returned v'/\w'.ownsRow w (ρ.t 23) size v' 0 []/\Below w w w':=by
 have mixed:=L.mixed;have t4:=L.t4;have a4:=L.a4;have z4:=L.z4;have v4:=L.v4;have t22:=L.t22;have a22:=L.a22;have z22:=L.z22;have v22:=L.v22
 have N:∀ (w:World) (a:Option Addr) (n c J I:Nat),(binOp .eql (ρ.t 22) (.slice a n c) (.slice none J I)).run P w=.ok (.bool a.isNone) w:=fun w a n c J I=>Lib.run_eql_slice_nil w _ _ a n c J I L.t22
 have O:∀ w,Sem.run P (underlying (ρ.t 22)) w=.ok (TypeDesc.slice (ρ.t 23)) w:=run_underlying t22
 obtain ⟨_,_,FG⟩:=L.f41
 go_enter FG,SlBodyN.n41_ntmps ρ
 go_wp2_with (at_builtin;refine wpList_append_own _ rfl _ _ (ρ.t 22) rfl w (ρ.t 23) i0 z size bytes t22 hi hz0 hz1 hz2 hzs hsz _ _ _ rfl (World.ownsRow_made w #[] 0 (Q9 _) (Q8 _) Qxz) ad 0 c [] rfl Qxz Qxz Qxz (by unfold maxLen;omega) Qxz Qxz ?_)
 intro v' w1 D A M
 go_wp2
 go_ret
 refine ⟨v',rfl,by simpa using D,?_⟩
 exact ((Qz _ w).alloc (Q9 _) _).grown A Qxz (by intro k hk;simp [Value.ownBlock] at hk;omega)
def Uv (r:Rd T) (E:TypeId) (S:Nat->Prop) (w:World) (xs:List T) (e:Ending) (w':World):Prop:=
 ∃ p cap css,e=.returned (.slice p xs.length cap)/\Own r E S w w' (.slice p xs.length cap) xs css/\Below w w w'
theorem Own.form {r:Rd T} {E:TypeId} {S:Nat->Prop} {B:Nat} {w:World} {v:Value} {xs:List T} {css:List (List Value)} (h:Own r E S B w v xs css):∃ p cap,v=.slice p xs.length cap:=by
 rcases h.row.2 with ⟨rfl,h0⟩ | ⟨g,cap,A,rfl,_⟩
 ·exact ⟨none,0,by rw [h0]⟩
 exact ⟨_,_,rfl⟩
theorem E8 {r:Rd T} {E:TypeId} {S:Nat->Prop} {w w':World} {v:Value} {xs:List T} {css:List (List Value)} (h:Own r E S w w' v xs css) (hb:Below w w w'):Uv r E S w xs (.returned v) w':=by
 obtain ⟨p,cap,rfl⟩:=h.form
 exact ⟨p,cap,css,rfl,h,hb⟩
theorem Fa (L:SlLaysE0.n41 P ρ) (r:Rd T) (hk:0<r.k) (bytes:Nat) (i0:TypeInfo) (z:Value) (hi:P.info? (ρ.t 23)=some i0) (hz0:i0.zero=some z) (hz1:i0.size=r.k) (hz2:i0.bytes=bytes) (hzs:z.cells.size=r.k)
  (z23:∀ w,(Go.sizeOf (ρ.t 23)).run P w=.ok r.k w) (hby:bytes<=1000) (h1:∀ S w cs x,r.R S w cs x->∀ u ∈ cs,u.oneCell'=true) (S:Nat->Prop) (v:Value) (xs:List T) (w:World) (hs:Sl r S w v xs):
  Calls P (ρ.f 41) #[v] w (Uv r (ρ.t 23) S w xs):=by
 obtain ⟨p,cap,css,rfl,A,U⟩:=hs.css hk
 obtain ⟨_,_,_,hl⟩:=hs.len
 have I:∀ w' v',Below w w w'->w'.ownsRow w (ρ.t 23) r.k v' xs.length css.flatten->Own r (ρ.t 23) S w w' v' xs css:=by
  intro w' v' hb J
  refine ⟨J,A.move (.of_below hb) (fun b hb h=>⟨h,fun e=>?_⟩)⟩
  have:=(J.lt b e.symm).1
  omega
 by_cases hx:xs=[]
 ·subst hx
  have M:css=[]:=Zy A.len
  subst M
  rcases p with _ | ad
  ·refine (AnyE.slices_Clone_nil L 0 cap w).mono ?_
   rintro e w' ⟨rfl,rfl⟩
   exact E8 (I _ _ (Qz _ _) (by simpa using World.ownsRow_nil w' w' (ρ.t 23) r.k)) (Qz _ _)
  refine (Pm L i0 z r.k bytes hi hz0 hz1 hz2 hzs hk z23 ad cap w).mono ?_
  rintro e w' ⟨v',rfl,J,D⟩
  exact E8 (I _ _ D (by simpa using J)) D
 obtain ⟨b,off,rfl,hS,hb,hc⟩:=U hx
 refine (AnyE.slices_Clone L i0 z r.k bytes hi hz0 hz1 hz2 hzs hk z23 b off xs.length cap css.flatten w A.flat (by unfold maxLen;omega) (by
  have:=Nat.mul_le_mul hl hby;omega) hc (fun u hu=>?_)).mono ?_
 ·obtain ⟨c,N,V⟩:=List.mem_flatten.1 hu
  obtain ⟨i,hi⟩:=Zk N
  have O:=(Qj hi).1
  exact h1 S w c _ (A.R i c _ hi (Qx (by rw [<- A.len];exact O))) u V
 rintro e w' ⟨v',rfl,J,_,D⟩
 exact E8 (I _ _ D J) D
end
def Yx:Rd Rel where
 k:=2
 R S w cs x:=∃ v,cs=[sv x.table,v]/\x.table.length<=1000000/\Sl Zc S w v x.rows
 len h:=by obtain ⟨v,rfl,_⟩:=h;rfl
 frame h hA:=by obtain ⟨v,rfl,A,D⟩:=h;exact ⟨v,rfl,A,D.frame hA⟩
 mono h hS:=by obtain ⟨v,rfl,A,D⟩:=h;exact ⟨v,rfl,A,D.mono hS⟩
def Xw:Rd Col where
 k:=6
 R S w cs x:=∃ tc,cs=sv x.name::tc/\x.name.length<=1000000/\Xc S w tc x.type
 len h:=by obtain ⟨v,rfl,_,A⟩:=h;rw [List.length_cons,A.length]
 frame h hA:=by obtain ⟨v,rfl,D,A⟩:=h;exact ⟨v,rfl,D,A.move hA Qyv⟩
 mono h hS:=by obtain ⟨v,rfl,D,A⟩:=h;exact ⟨v,rfl,D,A.move (.refl _ _) hS⟩
def Fw:Rd Rf where
 k:=2
 R _ _ cs x:=cs=[sv x.column,sv x.table]/\x.column.length<=1000000/\x.table.length<=1000000
 len h:=by rw [h.1];rfl
 frame h _:=h
 mono h _:=h
def Zl:Rd Tbl where
 k:=13
 R S w cs x:=∃ A I rv D,cs=sv x.name::A::I::rv::D/\x.name.length<=1000000/\Sl Xw S w A x.columns/\Sl Zg S w I x.key/\Sl Fw S w rv x.refs/\Y1 S w D x.check
 len h:=by obtain ⟨_,_,_,_,rfl,_,_,_,_,J⟩:=h;simp only [List.length_cons,J.length]
 frame h hA:=by obtain ⟨A,I,rv,D,rfl,M,J,N,O,T⟩:=h;exact ⟨A,I,rv,D,rfl,M,J.frame hA,N.frame hA,O.frame hA,T.move hA Qyv⟩
 mono h hS:=by obtain ⟨A,I,rv,D,rfl,M,J,N,O,T⟩:=h;exact ⟨A,I,rv,D,rfl,M,J.mono hS,N.mono hS,O.mono hS,T.move (.refl _ _) hS⟩
def Mp:Rd Ct where
 k:=7
 R S w cs x:=∃ tc,cs=sv x.name::.bool x.has::tc/\x.name.length<=1000000/\Xc S w tc x.arg
 len h:=by obtain ⟨v,rfl,_,A⟩:=h;simp only [List.length_cons,A.length]
 frame h hA:=by obtain ⟨v,rfl,D,A⟩:=h;exact ⟨v,rfl,D,A.move hA Qyv⟩
 mono h hS:=by obtain ⟨v,rfl,D,A⟩:=h;exact ⟨v,rfl,D,A.move (.refl _ _) hS⟩
def Ka:Rd Sm where
 k:=2
 R S w cs x:=∃ v,cs=[sv x.name,v]/\x.name.length<=1000000/\Sl Mp S w v x.ctors
 len h:=by obtain ⟨v,rfl,_⟩:=h;rfl
 frame h hA:=by obtain ⟨v,rfl,A,D⟩:=h;exact ⟨v,rfl,A,D.frame hA⟩
 mono h hS:=by obtain ⟨v,rfl,A,D⟩:=h;exact ⟨v,rfl,A,D.mono hS⟩
def Vj (S:Nat->Prop) (w:World) (cs:List Value) (x:Sc):Prop:=∃ uv tv,cs=[uv,tv]/\Sl Ka S w uv x.sums/\Sl Zl S w tv x.tables
theorem Vj.below {S:Nat->Prop} {w w':World} {cs:List Value} {x:Sc} (h:Vj S w cs x) (hb:Below w w w'):Vj S w' cs x:=by
 obtain ⟨uv,tv,rfl,h1,h2⟩:=h;exact ⟨uv,tv,rfl,h1.below hb,h2.below hb⟩
theorem Xg:∀ S w cs x,Zc.R S w cs x->∀ u ∈ cs,u.oneCell'=true:=by
 intro S w cs x h u hu
 obtain ⟨p3,k3,p4,k4,rfl,_⟩:=Za.cells (show Za S w cs x from h)
 simp only [vcs,Z3,Z2,or_false] at hu
 rcases hu with rfl | rfl | rfl | rfl | rfl <;> rfl
theorem Vq:∀ S w cs x,Zg.R S w cs x->∀ u ∈ cs,u.oneCell'=true:=by
 intro S w cs x h u hu
 obtain ⟨rfl,_⟩:=h
 simp only [Z3,Z2,or_false] at hu
 subst hu;rfl
theorem sl_one {T:Type} {r:Rd T} {S:Nat->Prop} {w:World} {v:Value} {xs:List T} (h:Sl r S w v xs):v.oneCell'=true:=by
 obtain ⟨p,cap,rfl,_⟩:=h.len;rfl
theorem Cy:∀ S w cs x,Yx.R S w cs x->∀ u ∈ cs,u.oneCell'=true:=by
 intro S w cs x h u hu
 obtain ⟨v,rfl,_,h2⟩:=h
 simp only [Z3,Z2,or_false] at hu
 rcases hu with rfl | rfl
 ·rfl
 exact sl_one h2
theorem rf_one:∀ S w cs x,Fw.R S w cs x->∀ u ∈ cs,u.oneCell'=true:=by
 intro S w cs x h u hu
 obtain ⟨rfl,_⟩:=h
 simp only [Z3,Z2,or_false] at hu
 rcases hu with rfl | rfl <;> rfl
theorem ty_one {S:Nat->Prop} {w:World} {cs:List Value} {x:Ty} (h:Xc S w cs x):∀ u ∈ cs,u.oneCell'=true:=by
 intro u hu
 cases h with
 | mk k n s names kids nv p cap b off cs hs hn=>
  simp only [Z3,Z2,or_false] at hu
  rcases hu with rfl | rfl | rfl | rfl | rfl
  ·rfl
  ·rfl
  ·rfl
  ·exact sl_one hn
  rfl
theorem Cl:∀ S w cs x,Xw.R S w cs x->∀ u ∈ cs,u.oneCell'=true:=by
 intro S w cs x h u A
 obtain ⟨tc,rfl,_,h2⟩:=h
 rcases Z3.1 A with rfl | A
 ·rfl
 exact ty_one h2 u A
theorem Y4 {P:Program} {t:TypeId} {z:Value} {n b:Nat} (h:(P.info? t).map (fun i=>(i.zero,i.size,i.bytes))=some (some z,n,b)):∃ i0,P.info? t=some i0/\i0.zero=some z/\i0.size=n/\i0.bytes=b:=by
 cases hi:P.info? t with
 | none=>rw [hi] at h;cases h
 | some i0=>
  rw [hi] at h
  simp only [Option.map_some,Zv,Prod.mk.injEq] at h
  exact ⟨i0,rfl,h.1,h.2.1,h.2.2⟩
theorem T1 (S:Nat->Prop) (v:Value) (xs:List Val) (w:World) (hs:Sl Zc S w v xs):Calls prog 141 #[v] w (Uv Zc 48 S w xs):=by
 obtain ⟨i0,h1,h2,h3,h4⟩:=Y4 (P:=prog) (t:=48) (z:=.agg zV) (n:=5) (b:=80) Qxx
 exact Fa Tryz.clVal Zc Qxv 80 i0 _ h1 h2 h3 h4 rfl sizeOf48 Qvu Xg S v xs w hs
theorem Po (S:Nat->Prop) (v:Value) (xs:List Bs) (w:World) (hs:Sl Zg S w v xs):Calls prog 150 #[v] w (Uv Zg 9 S w xs):=by
 obtain ⟨i0,h1,h2,h3,h4⟩:=Y4 (P:=prog) (t:=9) (z:=.string ⟨#[]⟩) (n:=1) (b:=16) Qxx
 exact Fa Tryz.clStr Zg Qxv 16 i0 _ h1 h2 h3 h4 rfl sizeOf9 Qvu Vq S v xs w hs
theorem cloneRel (S:Nat->Prop) (v:Value) (xs:List Rel) (w:World) (hs:Sl Yx S w v xs):Calls prog 140 #[v] w (Uv Yx 42 S w xs):=by
 obtain ⟨i0,h1,h2,h3,h4⟩:=Y4 (P:=prog) (t:=42) (z:=.agg #[Qxd,Qxe]) (n:=2) (b:=40) Qxx
 exact Fa Tryz.clRel Yx Qxv 40 i0 _ h1 h2 h3 h4 rfl sizeOf42 Qvu Cy S v xs w hs
theorem cloneRef (S:Nat->Prop) (v:Value) (xs:List Rf) (w:World) (hs:Sl Fw S w v xs):Calls prog 235 #[v] w (Uv Fw 82 S w xs):=by
 obtain ⟨i0,h1,h2,h3,h4⟩:=Y4 (P:=prog) (t:=82) (z:=.agg #[Qxd,Qxd]) (n:=2) (b:=32) Qxx
 exact Fa Tryz.clRef Fw Qxv 32 i0 _ h1 h2 h3 h4 rfl sizeOf82 Qvu rf_one S v xs w hs
theorem S9 (S:Nat->Prop) (v:Value) (xs:List Col) (w:World) (hs:Sl Xw S w v xs):Calls prog 113 #[v] w (Uv Xw 79 S w xs):=by
 obtain ⟨i0,h1,h2,h3,h4⟩:=Y4 (P:=prog) (t:=79) (z:=.agg #[Qxd,Qxc,Qxd,Qxc,Qxe,Qxe]) (n:=6) (b:=96) Qxx
 exact Fa Tryz.clCol Xw Qxv 96 i0 _ h1 h2 h3 h4 rfl sizeOf79 Qvu Cl S v xs w hs
theorem N5 (S:Nat->Prop) (v:Value) (l:List Rel) (t:Bs) (w:World) (hs:Sl Yx S w v l):
  Calls prog 93 #[v,sv t] w fun e w'=>e=.returned (.int .i64 (Vi (fun r=>decide (r.table=t)) l))/\Below w w w':=by
 have hp:∀ A:World,Below w w A->A.cell? ⟨w,0,none⟩=some (sv t)->Ui prog 143 #[Qxb w] Yx S l (fun r=>decide (r.table=t)) A:=by
  rintro A N I W x cs hb hx ⟨rv,rfl,_,_⟩
  have J:W.cell? ⟨w,0,none⟩=some (sv t):=kD hb (Qv A _ I) I
  have M:=Qv W _ J
  have O:w.heap.size≠W.heap.size:=by
   intro e;rw [e] at M;simp at M
  have hq:(x.table==t)=decide (x.table=t):=by rw [Bool.eq_iff_iff,beq_iff_eq,decide_eq_true_eq]
  have HQ:=Qq hq
  clear hq I hb N hx
  show Calls prog 143 #[.agg #[sv x.table,rv],Qxb w] W _
  unfold sv at J |-
  go_enter func143,ntmps143
  go_wp2_with fail
  go_ret
  exact ⟨by rw [<- HQ.out];rfl,Ze _ _⟩
 have HI:∀ A:World,Below w w A->A.cell? ⟨w,0,none⟩=some (sv t)->Calls prog 142 #[v,.func (.func 143) #[] #[Qxb w]] A fun e w'=>e=.returned (.int .i64 (Vi (fun r=>decide (r.table=t)) l))/\Below A A w':=
  fun A hb I=>Rz Tryz.ixRel Yx isAgg42 sizeOf42 _ _ (enters_of func143 Qxx rfl) S v l A _ (hs.below hb) (hp A hb I)
 have D:=Qq HI
 clear HI hp hs
 generalize Vi _ l=r at D |-
 unfold sv at D |-
 go_enter func93,ntmps93
 go_wp2_with (go_at_call 142;refine (D.out _ (Ze _ _) Qxz).mono ?_;rintro e w' ⟨rfl,hw⟩)
 go_ret
 exact ⟨rfl,(Ze _ _).thn hw⟩
theorem Rh {W W1:World} (hb:Below W W W1):(∀ b o,b<W.heap.size->W1.cell? ⟨b,o,none⟩=W.cell? ⟨b,o,none⟩)/\(∀ b o,b<W.heap.size->W1.frozen? ⟨b,o,none⟩=W.frozen? ⟨b,o,none⟩):=
 ⟨fun b o h=>hb.cell (p:=⟨b,o,none⟩) h,fun b o h=>hb.frozen (p:=⟨b,o,none⟩) h⟩
def CloneIs (w:World) (x:Val) (e:Ending) (w':World):Prop:=∃ cs',e=.returned (.agg cs'.toArray)/\Za (fun b=>w<=b) w' cs' x/\Below w w w'
def O4 (x:Val):Prop:=∀ (S:Nat->Prop) (cs:List Value) (w:World),Za S w cs x->Calls prog 102 #[cs] w (CloneIs w x)
theorem set_flat {n:Nat}:∀ (css:List (List Value)) (i:Nat) (a b c d e:Value),(∀ x ∈ css,x.length=5)->css.length=n->i<n ->
  (((((css.flatten.set (i*5) a).set (i*5+1) b).set (i*5+2) c).set (i*5+3) d).set (i*5+4) e)=(css.set i [a,b,c,d,e]).flatten:=by
 intro css
 induction css generalizing n with
 | nil=>intro i a b c d e _ A hi;simp at A;omega
 | cons x css ih=>
  intro i a b c d e hx A hi
  have h5:=hx x Qxz
  cases i with
  | zero=>
   match x,h5 with
   | [x0,x1,x2,x3,x4],_=>simp
  | succ i=>
   have:=ih (n:=css.length) i a b c d e (fun y hy=>hx y (by simp [hy])) rfl (by simp at A;omega)
   simp only [List.flatten_cons,List.set_cons_succ]
   rw [<- this]
   have e1:(i+1)*5=x.length+i*5:=by rw [h5];omega
   simp only [e1,Nat.add_assoc]
   simp only [List.set_append_right _ _ (Nat.le_add_right _ _),Nat.add_sub_cancel_left]
theorem store5 {w:World} {B g n cap:Nat} {E:TypeId} {css:List (List Value)} (h:w.ownsRow B E 5 (.slice (some ⟨g,0,none⟩) n cap) n css.flatten) (hl:css.length=n) (h5:∀ x ∈ css,x.length=5) (i:Nat) (hi:i<n) (a b c d e:Value):
  (((((w.setCell ⟨g,i*5,none⟩ a).setCell ⟨g,i*5+1,none⟩ b).setCell ⟨g,i*5+2,none⟩ c).setCell ⟨g,i*5+3,none⟩ d).setCell ⟨g,i*5+4,none⟩ e).ownsRow B E 5 (.slice (some ⟨g,0,none⟩) n cap) n (css.set i [a,b,c,d,e]).flatten:=by
 rw [<- set_flat css i a b c d e h5 hl hi]
 obtain ⟨h1,_⟩:=h.stored (i*5) a
 obtain ⟨h2,_⟩:=h1.stored (i*5+1) b
 obtain ⟨h3,_⟩:=h2.stored (i*5+2) c
 obtain ⟨h4,_⟩:=h3.stored (i*5+3) d
 exact (h4.stored (i*5+4) e).1
structure Dt (w:World) (k n:Int) (s:Bs) (ns:List Bs) (ks:List Val) (np:Option Addr) (ncap:Nat) (kp:Option Addr) (kcap:Nat) (kcs:List (List Value)) (kk:Nat) (wx:World):Prop where
 below:Below w w wx
 box:wx.heap[w.heap.size]?=some (.cells #[k,n,s,.slice np ns.length ncap,.slice kp ks.length kcap] 48 (0,0))
 res:wx.heap[w.heap.size+1]?=some (.cells zV 48 (0,0))
 names:Sl Zg (fun b=>w+2<=b/\some b≠(Value.slice kp ks.length kcap).ownBlock) wx (.slice np ns.length ncap) ns
 kids:∃ news:List (List Value),news.length=kk/\wx.ownsRow (w+2) 48 5 (.slice kp ks.length kcap) ks.length (news++kcs.drop kk).flatten /\
  Cs Zc (fun b=>w+2<=b/\some b≠(Value.slice kp ks.length kcap).ownBlock) wx news (ks.take kk)
theorem Vl {w w':World} {B B':Nat} {e:TypeId} {sz n:Nat} {v:Value} {xs:List Value} (h:w.ownsRow B e sz v n xs) (hB:B'<=B) (hA:∀ b,B<=b->b<w.heap.size->w'.heap[b]?=w.heap[b]?):w'.ownsRow B' e sz v n xs:=by
 refine ⟨h.1,?_⟩
 rcases h.2 with hn | ⟨g,cap,cur,rfl,hg,hh,rest⟩
 ·exact .inl hn
 exact .inr ⟨g,cap,cur,rfl,Qvu,(hA g hg (Array.getElem?_eq_some_iff.1 hh).1).trans hh,rest⟩
theorem Z8 {w:World} {b:Nat} {o:Obj} (h:w.heap[b]?=some o):b<w.heap.size:=(Array.getElem?_eq_some_iff.1 h).1
theorem Z9 {w:World} {a:Addr} {u:Value} {b:Nat} (h:b≠a.block):(w.setCell a u).heap[b]?=w.heap[b]?:=Below.heap_setCell _ _ _ _ h
theorem sl_str {w:World} {v:Value} {xs:List Bs} {css:List (List Value)} {E:TypeId} {S:Nat->Prop} {B B':Nat} (h:Own Zg E S B w v xs css) (hl:xs.length<=1000000) (hB:B'<=B):Sl Zg (fun b=>B'<=b) w v xs:=by
 have:Own Zg E (fun _=>False) B w v xs css:=⟨h.row,⟨h.cs.len,fun i c x hc hx=>h.cs.R i c x hc hx⟩⟩
 exact this.sl hl (fun b hb=>Qvu) (fun b _ h=>h.elim)
theorem Vy {w:World} {g i0 i1 i2 i3 i4:Nat} {a b c d e:Value} {k:Nat} (h:k≠g):
  (((((w.setCell ⟨g,i0,none⟩ a).setCell ⟨g,i1,none⟩ b).setCell ⟨g,i2,none⟩ c).setCell ⟨g,i3,none⟩ d).setCell ⟨g,i4,none⟩ e).heap[k]?=w.heap[k]?:=by
 rw [Z9 h,Z9 h,Z9 h,Z9 h,Z9 h]
theorem Dt.next {w wr w4:World} {k n:Int} {s:Bs} {ns:List Bs} {ks:List Val} {np:Option Addr} {ncap g kcap kk B:Nat} {kcs:List (List Value)} {x:Val} {a b c d e:Value}
  (hM:Dt w k n s ns ks np ncap (some ⟨g,0,none⟩) kcap kcs kk wr) (hx:ks[kk]?=some x) (hCs:Cs Zc (fun b=>b<w) w kcs ks) (hb:Below wr wr w4) (hB:wr<=B)
  (hv:Za (fun b=>B<=b) w4 [a,b,c,d,e] x):
  Dt w k n s ns ks np ncap (some ⟨g,0,none⟩) kcap kcs (kk+1) (((((w4.setCell ⟨g,kk*5,none⟩ a).setCell ⟨g,kk*5+1,none⟩ b).setCell ⟨g,kk*5+2,none⟩ c).setCell ⟨g,kk*5+3,none⟩ d).setCell ⟨g,kk*5+4,none⟩ e):=by
 have I:kk<ks.length:=(Qj hx).1
 obtain ⟨A,U,M,J⟩:=hM.kids
 have hg:=M.lt g rfl
 have hG:w.heap.size<=g:=Qvu
 have Z:(Value.slice (some ⟨g,0,none⟩) ks.length kcap).ownBlock=some g:=rfl
 have O:∀ y ∈ A++kcs.drop kk,y.length=5:=by
  intro y hy
  rcases Z4.1 hy with h | h
  ·exact J.all y h
  exact hCs.all y (Zw h)
 have T:(A++kcs.drop kk).length=ks.length:=by rw [Ql,Zq,hCs.len];omega
 have V:(A++kcs.drop kk).set kk [a,b,c,d,e]=(A++[[a,b,c,d,e]])++kcs.drop (kk+1):=by
  have hd:kcs.drop kk=(kcs[kk]'(by rw [hCs.len];exact I))::kcs.drop (kk+1):=Qp (by rw [hCs.len];exact I)
  rw [hd,List.set_append_right _ _ Qvu,U,Nat.sub_self,List.set_cons_zero,List.append_assoc];rfl
 refine ⟨?_,?_,?_,?_,⟨A++[[a,b,c,d,e]],by simp [U],?_,?_⟩⟩
 ·exact (((((hM.below.thn hb).setCell (p:=⟨g,_,none⟩) hG _).setCell (p:=⟨g,_,none⟩) hG _).setCell (p:=⟨g,_,none⟩) hG _).setCell (p:=⟨g,_,none⟩) hG _).setCell (p:=⟨g,_,none⟩) hG _
 ·rw [Vy Qvu,hb.block _ (Z8 hM.box)];exact hM.box
 ·rw [Vy Qvu,hb.block _ (Z8 hM.res)];exact hM.res
 ·refine hM.names.frame (fun b N D=>?_)
  rw [Vy (fun e=>N.2 (by rw [e];rfl)),hb.block _ D]
 ·rw [<- V]
  exact store5 (Vl M (Q9 _) (fun b _ D=>hb.block b D)) T O kk I a b c d e
 rw [Zz I]
 rw [Qx I] at hx
 obtain rfl:=Qb hx
 refine (J.move (fun b N D=>?_) Qyv).app (Cs.one ?_)
 ·rw [Vy (fun e=>N.2 (by rw [e];rfl)),hb.block _ D]
 obtain ⟨aA,aB⟩:=hg
 refine Za.move hv (fun b N D=>?_) (fun b D N=>?_)
 ·have Y:B<=b:=N
  exact Vy Qvu
 have Y:B<=b:=N
 refine ⟨Qvu,fun e=>?_⟩
 have:b=g:=Qb e
 omega
theorem We (k n:Int) (s:Bs) (ns:List Bs) (ks:List Val) (ih:∀ x ∈ ks,O4 x):O4 (.mk k n s ns ks):=by
 intro S0 cs w bN
 have hx:Za (fun b=>b<w) w cs (.mk k n s ns ks):=bN.move (.refl _ _) (fun b hb _=>hb)
 clear bN
 obtain ⟨nv,kv,rfl,hs,hn,hk⟩:=Jf.1 hx
 have cP:ns.length<=1000000:=by obtain ⟨_,_,_,h⟩:=hn.len;exact h
 have cO:ks.length<=1000000:=by obtain ⟨_,_,_,h⟩:=hk.len;exact h
 obtain ⟨HN,HK,HI⟩:=Qxn hn hk ih
 clear hx hn hk ih
 unfold sv
 go_enter func102,ntmps102
 go_upto_region 1 with fail
 go_cut [12] (fun _ wx=>∃ np N kp A V,Dt w k n s ns ks np N kp A V 0 wx/\Cs Zc (fun b=>b<w) w V ks)
 case first=>
  go_region_with (first | (go_at_call 150;refine (Po _ nv ns _ (HN.out.below (by first | exact (Zu _ _ _).drew | exact (Zu _ _ _).drew.thn aQ.out | exact (Zu _ _ _).drew.thn aR.out))).mono ?_;rintro e w1 ⟨np,N,dZ,rfl,bL,aL⟩;obtain ⟨aF,aH⟩:=Rh aL;have cR:=aL.size;have aQ:=Qq aL;have cA:=Qq bL;clear aL bL;(try simp at cR);have cL:w.heap.size<w1.heap.size:=Qvu;have cN:w.heap.size+1<w1.heap.size:=Qvu;have dK:w1.cell? ⟨w,3,none⟩=some nv:=(by first | (rw [aF _ _ (by simp;omega)];simp) | (rw [aF _ _ Qxy];assumption));have dP:w1.frozen? ⟨w,3,none⟩=false:=(by first | (rw [aH _ _ (by simp;omega)];simp) | (rw [aH _ _ Qxy];assumption));have dL:w1.cell? ⟨w,4,none⟩=some kv:=(by first | (rw [aF _ _ (by simp;omega)];simp) | (rw [aF _ _ Qxy];assumption));have dQ:w1.frozen? ⟨w,4,none⟩=false:=(by first | (rw [aH _ _ (by simp;omega)];simp) | (rw [aH _ _ Qxy];assumption));clear aF aH) | (go_at_call 141;refine (T1 _ kv ks _ (HK.out.below (by first | exact (Zu _ _ _).drew | exact (Zu _ _ _).drew.thn aQ.out | exact (Zu _ _ _).drew.thn aR.out))).mono ?_;rintro e w2 ⟨kp,A,V,rfl,bM,aM⟩;obtain ⟨aG,aI⟩:=Rh aM;have cS:=aM.size;have aR:=Qq aM;have aT:=Qq bM;clear aM bM;(try simp only [World.size_drew,World.size_alloc] at cS);have dT:w.heap.size<w2.heap.size:=Qvu;have dX:w.heap.size+1<w2.heap.size:=Qvu;have dM:w2.cell? ⟨w,3,none⟩=some nv:=(by first | (rw [aG _ _ (by simp;omega)];simp) | (rw [aG _ _ Qxy];assumption));have dR:w2.frozen? ⟨w,3,none⟩=false:=(by first | (rw [aI _ _ (by simp;omega)];simp) | (rw [aI _ _ Qxy];assumption));have dN:w2.cell? ⟨w,4,none⟩=some kv:=(by first | (rw [aG _ _ (by simp;omega)];simp) | (rw [aG _ _ Qxy];assumption));have dS:w2.frozen? ⟨w,4,none⟩=false:=(by first | (rw [aI _ _ (by simp;omega)];simp) | (rw [aI _ _ Qxy];assumption));clear aG aI))
  all_goals
   go_wp2_with fail
   go_meet
   have b1:=aQ.out
   have b2:=aR.out
   have bF:=b1.block w (by simp;omega)
   have aO:=b1.block (w+1) Qxz
   rw [heap_drew,Q5] at bF
   rw [heap_drew,Q6] at aO
   have cK:=kE b2 cL bF
   have bG:=kE b2 cN aO
   have bI:Below w w w2:=(Zu _ _ _).drew.thn (b1.thn b2)
   refine ⟨np,N,kp,A,V,⟨(bI.setCell (p:=⟨w,3,none⟩) (Q9 _) _).setCell (p:=⟨w,4,none⟩) (Q9 _) _,?_,?_,?_,⟨[],rfl,?_,⟨rfl,fun i c x hc=>by simp at hc⟩⟩⟩,?_⟩
   ·exact Qi _ _ _ _ _ _ (Qi _ _ _ _ _ _ cK)
   ·rw [Z9 Qxz,Z9 Qxz];exact bG
   ·refine ((sl_str cA.out cP Qxz).mono (S':=fun b=>w+2<=b/\some b≠(Value.slice kp ks.length A).ownBlock) (fun b hb h=>⟨h,fun e=>?_⟩)).frame (fun b hb Y=>?_)
    ·have:=(aT.out.row.lt b e.symm).1
     omega
    rw [Z9 (by show b≠w;omega),Z9 (by show b≠w;omega)]
    exact b2.block b Y
   ·refine Vl aT.out.row Qvu (fun b hb Y=>?_)
    rw [Z9 (by show b≠w;omega),Z9 (by show b≠w;omega)]
   exact (aT.out.cs.move (S':=fun b=>b<w) (.refl _ _) (fun b _ h=>h.1)).move (fun b hb _=>(bI.block b hb).symm) (fun b _ h=>h)
 obtain ⟨np,N,kp,A,V,U,bE⟩:=hcut
 have HC:=Qq bE;have HM:=Qq U
 obtain ⟨c0,c1,c2,c3,c4⟩:=row5 U.box
 clear bE U
 go_wp2_with fail
 go_loopw [16] (fun i wr=>∃ M:Nat,M<=ks.length/\i=.int .i64 M/\Dt w k n s ns ks np N kp A V M wr) (fun i _=>ks.length - (intOf i).toNat)
 case atStart=>exact ⟨0,Q8 _,rfl,HM.out⟩
 obtain ⟨M,dY,rfl,U⟩:=hrel
 have c0:=Qk _ _ 0 _ _ _ U.box;have c1:=Qk _ _ 1 _ _ _ U.box;have c2:=Qk _ _ 2 _ _ _ U.box;have c3:=Qk _ _ 3 _ _ _ U.box;have c4:=Qk _ _ 4 _ _ _ U.box
 have r0:=Qk _ _ 0 _ _ _ U.res;have r1:=Qk _ _ 1 _ _ _ U.res;have r2:=Qk _ _ 2 _ _ _ U.res;have r3:=Qk _ _ 3 _ _ _ U.res;have r4:=Qk _ _ 4 _ _ _ U.res
 have fr:=fun j=>Qn _ _ j _ _ U.res
 have dD:=(Array.getElem?_eq_some_iff.1 U.res).1
 simp only [Qf,Qg,Qh] at c0 c1 c2 c3 c4 r0 r1 r2 r3 r4
 have aA:=Qq U
 by_cases Y:M<ks.length
 ·obtain ⟨x,hx⟩:∃ x,ks[M]?=some x:=⟨_,Qx Y⟩
  obtain ⟨Z,aN,J,I⟩:=U.kids
  obtain ⟨g,cap,bK,dU,T⟩:=J.form Qvu
  simp only [Qr] at bK
  obtain ⟨rfl,-,rfl⟩:=bK
  obtain ⟨oc,aX⟩:∃ oc,V[M]?=some oc:=⟨_,Qx (by rw [HC.out.len];exact Y)⟩
  have aZ:=HC.out.R M oc x aX hx
  obtain ⟨p3,k3,p4,k4,rfl,_⟩:=Za.cells (show Za _ w oc x from aZ)
  have aE:∀ y ∈ Z++V.drop M,y.length=5:=by
   intro y hy
   rcases Z4.1 hy with h | h
   ·exact I.all y h
   exact HC.out.all y (Zw h)
  have aV:(Z++V.drop M)[M]?=some (vcs x p3 k3 p4 k4):=by
   rw [Zx Qvu,List.getElem?_drop,aN,Nat.sub_self,Nat.add_zero];exact aX
  have D:∀ (j:Nat) u,(vcs x p3 k3 p4 k4)[j]?=some u->wr.cell? ⟨g,M*5+j,none⟩=some u:=by
   intro j u hu
   have h5:j<5:=(Qj hu).1
   rw [J.cellAt _ Qvu]
   exact V9 aE aV hu
  have d0:=D 0 _ rfl;have d1:=D 1 _ rfl;have d2:=D 2 _ rfl;have d3:=D 3 _ rfl;have d4:=D 4 _ rfl
  rw [Nat.add_zero] at d0
  have fz:=fun j=>J.frozenAt j
  have dV:(0:Int)<=(M:Int):=Qvu
  have dW:(M:Int)<(ks.length:Int):=Qvu
  have dE:w.heap.size≠wr.heap.size:=Qvu
  have dF:w.heap.size+1≠wr.heap.size:=Qvu
  have dG:g≠wr.heap.size:=Qvu
  obtain ⟨HX,HV,HA,dH,HR⟩:=Qxp hx aZ aE aV J;obtain ⟨dJ,HL,aC,dI⟩:=Qxo I aN fz fr
  clear hx aZ aE aV J I aN D aX U fz fr r0 r1 r2 r3 r4 c0 c1 c2 c3
  go_upto_region 5 with fail
  obtain ⟨W5,aK⟩:=eX (wr.alloc (.cells (Qxf x p3 k3 p4 k4) 48))
  have aW:=eqB aK (Ze _ _)
  have bO:=eqH (b:=wr.heap.size) aK (Qw _ _)
  rw [aK]
  obtain ⟨x0,x1,x2,x3,x4⟩:=row5 bO
  have c5:=kD aW Qvu c4
  have aS:=Qq aW
  have cE:=c4
  clear aK aW bO c4
  go_region_with (first | (go_at_call 102;refine (HI.out x (Qy HX.out) _ (vcs x p3 k3 p4 k4) _ (Za.move HV.out (.of_below (aA.out.below.thn aS.out.drew)) Qyv)).mono ?_;rintro e w4 ⟨dO,rfl,aY,bH⟩;obtain ⟨q3,l3,q4,l4,bJ,_⟩:=Za.cells aY;simp only [vcs] at bJ;subst bJ;have O:=Qq (aS.out.drew.thn bH);have cB:=Qq aY;clear aY bH;have e4:=kD O.out Qvu cE;have g0:=kD O.out T d0;have g1:=kD O.out T d1;have g2:=kD O.out T d2;have g3:=kD O.out T d3;have g4:=kD O.out T d4;have f0:=(O.out.frozen (p:=⟨g,M*5,none⟩) T).trans (aC.out (M*5));have f1:=(O.out.frozen (p:=⟨g,M*5+1,none⟩) T).trans (aC.out (M*5+1));have f2:=(O.out.frozen (p:=⟨g,M*5+2,none⟩) T).trans (aC.out (M*5+2));have f3:=(O.out.frozen (p:=⟨g,M*5+3,none⟩) T).trans (aC.out (M*5+3));have f4:=(O.out.frozen (p:=⟨g,M*5+4,none⟩) T).trans (aC.out (M*5+4))))
  all_goals
   go_wp2_with fail
   go_roundw
   case measure=>simp [intOf];omega
   case rel=>exact ⟨M+1,Qvu,by go_num,aA.out.next HX.out HC.out O.out (aS.out.size) cB.out⟩
 obtain rfl:M=ks.length:=Qvu
 obtain ⟨cF,cG,cH,cI,cJ⟩:=Qxu fr
 clear fr
 go_wp2_with fail
 have aB:=Qi _ _ 4 _ _ (.slice kp ks.length A) (Qi _ _ 3 _ _ (.slice np ns.length N) (Qi _ _ 2 _ _ (.string ⟨s.toArray⟩) (Qi _ _ 1 _ _ (.int .i64 n) (Qi _ _ 0 _ _ (.int .i64 k) aA.out.res))))
 have q0:=Qk _ _ 0 _ _ _ aB;have q1:=Qk _ _ 1 _ _ _ aB;have q2:=Qk _ _ 2 _ _ _ aB;have q3:=Qk _ _ 3 _ _ _ aB;have q4:=Qk _ _ 4 _ _ _ aB
 simp only [List.setIfInBounds_toArray,List.set_cons_zero,List.set_cons_succ,Qf,Qg,Qh] at q0 q1 q2 q3 q4
 obtain ⟨WF,aD⟩:=eX ((((((wr.setCell ⟨w+1,0,none⟩ (.int .i64 k)).setCell ⟨w+1,1,none⟩ (.int .i64 n)).setCell ⟨w+1,2,none⟩ (.string ⟨s.toArray⟩)).setCell ⟨w+1,3,none⟩ (.slice np ns.length N)).setCell ⟨w+1,4,none⟩ (.slice kp ks.length A)))
 rw [aD] at q0 q1 q2 q3 q4 |-
 have cC:=Qq aD
 clear aB aD c0 c1 c2 c3 c4 r0 r1 r2 r3 r4 cF cG cH cI cJ
 refine Q7 (v:=.agg #[k,n,s,.slice np ns.length N,.slice kp ks.length A]) (by simp [results,results102,go_sem,q0,q1,q2,q3,q4]) rfl ⟨_,rfl,?_,?_⟩
 all_goals rw [<- cC.out]
 ·obtain ⟨Z,aN,J,I⟩:=aA.out.kids
  rw [Qu (by rw [HC.out.len];exact Q9 _),List.append_nil] at J
  rw [Zj (Q9 _)] at I
  have hO:Own Zc 48 (fun b=>w+2<=b) (w+2) wr (.slice kp ks.length A) ks Z:=⟨J,I⟩
  refine Yi hs ?_ ?_
  ·refine (aA.out.names.frame (fun b hS Y=>?_)).mono (fun b _ hS=>?_)
   ·exact Vy (by have:w.heap.size+2<=b:=hS.1;omega)
   have:w.heap.size+2<=b:=hS.1
   show w<=b
   omega
  refine ((hO.sl cO (S':=fun b=>w+2<=b) (fun b h=>h) (fun b _ h=>h)).frame (fun b hS Y=>?_)).mono (fun b _ hS=>?_)
  ·exact Vy (by have:w.heap.size+2<=b:=hS;omega)
  have:w.heap.size+2<=b:=hS
  show w<=b
  omega
 exact ((((aA.out.below.setCell (p:=⟨w+1,0,none⟩) (Nat.le_succ _) _).setCell (p:=⟨w+1,1,none⟩) (Nat.le_succ _) _).setCell (p:=⟨w+1,2,none⟩) (Nat.le_succ _) _).setCell (p:=⟨w+1,3,none⟩) (Nat.le_succ _) _).setCell (p:=⟨w+1,4,none⟩) (Nat.le_succ _) _
theorem C8:∀ x:Val,O4 x
 | .mk k n s ns ks=>We k n s ns ks fun x _=>C8 x
termination_by x=>SizeOf.sizeOf x
decreasing_by
 have:=List.sizeOf_lt_of_mem ‹_ ∈ ks›
 simp only [Val.mk.sizeOf_spec]
 omega
theorem Zm {w:World} {b o:Nat} {v:Value} (hb:b<w) (h:w.cell? ⟨b,o,none⟩=some v):∀ n os,(Sort.grow (w.drewN n) os).cell? ⟨b,o,none⟩=some v:=fun n os=>cell_grown hb h n os
theorem Y7 (w:World) (n:Nat) (os:Array Obj):Gr w (Sort.grow (w.drewN n) os):=⟨n,os,rfl⟩
theorem Np {T:Type} {l:List T} {k:Nat} {x:T} (h:l[k]?=some x):l.take (k+1)=l.take k++[x]:=by
 rw [List.take_add_one,h];rfl
theorem Wq (S S':Nat->Prop) (av bv:Value) (a b:List Bs) (w:World) (ha:Sl Zg S w av a) (hb:Sl Zg S' w bv b):
  Calls prog 241 #[av,bv] w fun e w'=>e=.returned (.bool (decide (a=b)))/\Gr w w':=by
 obtain ⟨pa,ca,rfl,Y⟩:=ha.len
 obtain ⟨pb,cb,rfl,Z⟩:=hb.len
 have HA:=Qq ha;have HB:=Qq hb
 clear ha hb
 obtain ⟨r,hr⟩:=eX (decide (a=b))
 rw [hr]
 have U:=Qq hr
 clear hr
 by_cases hl:a.length=b.length
 ·have D:((a.length:Int) != (b.length:Int))=false:=by simp [hl]
  have HL:=Qq hl
  obtain ⟨n,O⟩:=eX (a.length)
  have N:b.length=n:=Qvu
  rw [O] at HA Y;rw [N] at HB Z
  rw [O,N] at D
  have HN:=Qq O;have HM:=Qq N
  rw [O,N]
  clear hl O N
  go_enter func241,ntmps241
  go_wp2_with fail
  clear D
  go_loopw [5] (fun i wr=>∃ k:Nat,k<=n/\i=.int .i64 k/\Aside (a.take k=b.take k)/\Aside (Gr w wr)) (fun i _=>n - (intOf i).toNat)
  case atStart=>exact ⟨0,Q8 _,rfl,rfl,Gr.refl _⟩
  obtain ⟨k,hk,rfl,ht,M⟩:=hrel
  have A:=Qq (show Gr w wr from M);have HT:=Qq (show a.take k=b.take k from ht)
  clear M ht
  by_cases hlt:k<n
  ·obtain ⟨x,T⟩:∃ x,a[k]?=some x:=⟨_,Qx (by rw [HN.out];exact hlt)⟩
   obtain ⟨y,J⟩:∃ y,b[k]?=some y:=⟨_,Qx (by rw [HM.out];exact hlt)⟩
   obtain ⟨ga,oa,rfl,c1,l1⟩:=(HA.out.below A.out.bl).str T
   obtain ⟨gb,ob,rfl,c2,l2⟩:=(HB.out.below A.out.bl).str J
   have HX:=Qq T;have HY:=Qq J
   have aC:(0:Int)<=(k:Int):=Qvu
   have aD:(k:Int)<n:=Qvu
   by_cases he:x=y
   ·subst he
    clear T J
    go_wp2_with fail
    go_quiet (fail)
    go_wp2_with fail
    go_roundw
    case rel=>exact ⟨k+1,Qvu,by go_num,(show Aside _ from by show _=_;rw [Np HX.out,Np HY.out,HT.out]),A.out.thn ⟨_,#[],by rw [Sort.grow_empty]⟩⟩
    case measure=>simp [intOf];omega
   have hq:(x==y)=false:=by rw [beq_eq_false_iff_ne];exact he
   have aE:(x != y)=true:=by rw [bne_iff_ne];exact he
   have I:r=false:=by
    rw [<- U.out,decide_eq_false_iff_not]
    intro e;subst e;rw [T] at J;exact he (Qb J)
   subst I
   clear T J he
   go_wp2_with fail
   go_quiet (fail)
   go_wp2_with fail
   go_ret
   exact ⟨rfl,A.out.thn ⟨_,#[],by rw [Sort.grow_empty]⟩⟩
  have V:k=n:=Qvu
  subst V
  have aB:r=true:=by
   rw [<- U.out,decide_eq_true_eq]
   have:=HT.out
   rw [Zj (by rw [HN.out];exact Q9 _),Zj (by rw [HM.out];exact Q9 _)] at this
   exact this
  subst aB
  go_wp2_with fail
  go_ret
  exact ⟨rfl,A.out⟩
 have D:((a.length:Int) != (b.length:Int))=true:=by rw [bne_iff_ne];omega
 have I:r=false:=by
  rw [<- U.out,decide_eq_false_iff_not]
  intro e;exact hl (by rw [e])
 subst I
 go_enter func241,ntmps241
 go_wp2_with fail
 go_ret
 exact ⟨rfl,Gr.refl _⟩
end Go.Proofs.YtlanplhphiikjaaGreatDoor
namespace Go.Proofs
open Go.Shelf
def Tryz.lays119_ren:Go.Shelf.Ren:=⟨fun | 119=>335 | n=>n,fun | 21=>21 | 4=>4 | n=>n,fun | n=>n⟩
theorem Tryz.lays119:Go.Proofs.Lays.n119 Tryz.prog Tryz.lays119_ren:={
 mixed:=by kernel_rfl
 f119:=Tryz.func335.trans (congrArg some (by kernel_rfl))
 t4:=Tryz.underlying4
 a4:=Tryz.isAgg4
 z4:=Tryz.sizeOf4
 v4:=Tryz.zeroValue4
 t21:=Tryz.underlying21
 a21:=Tryz.isAgg21
 z21:=Tryz.sizeOf21
 v21:=Tryz.zeroValue21 }
theorem Tryz.utf8_ValidRune (r:Int) (w:World):
  Calls Tryz.prog 335 #[.int .i32 r] w fun e w'=>e=.returned (.bool (Lib.validRune r))∧w'=w:=Any.utf8_ValidRune Tryz.lays119 r w
def Tryz.lays137_ren:Go.Shelf.Ren:=⟨fun | 137=>334 | 217=>341 | 266=>347 | n=>n,fun | 9=>9 | 5=>5 | 3=>3 | n=>n,fun | n=>n⟩
theorem Tryz.lays137:Go.Proofs.Lays.n137 Tryz.prog Tryz.lays137_ren:={
 mixed:=by kernel_rfl
 f137:=Tryz.func334.trans (congrArg some (by kernel_rfl))
 f217:=Tryz.func341.trans (congrArg some (by kernel_rfl))
 f266:=Tryz.func347.trans (congrArg some (by kernel_rfl))
 t3:=Tryz.underlying3
 a3:=Tryz.isAgg3
 z3:=Tryz.sizeOf3
 v3:=Tryz.zeroValue3
 t5:=Tryz.underlying5
 a5:=Tryz.isAgg5
 z5:=Tryz.sizeOf5
 v5:=Tryz.zeroValue5
 t9:=Tryz.underlying9
 a9:=Tryz.isAgg9
 z9:=Tryz.sizeOf9
 v9:=Tryz.zeroValue9 }
open Go.RowKit in
theorem Tryz.strings_IndexByte (s:ByteArray) (c:Int) (w:World):
  Calls Tryz.prog 334 #[.string s,.int .u8 c] w fun e w'=>e=.returned (.int .i64 (Lib.indexByte s.data.toList c.toNat.toUInt8))∧w'=w:=Any.strings_IndexByte Tryz.lays137 s c w
def Tryz.lays99_ren:Go.Shelf.Ren:=⟨fun | 99=>330 | 206=>339 | n=>n,fun | 9=>9 | 4=>4 | 3=>3 | n=>n,fun | n=>n⟩
theorem Tryz.lays99:Go.Proofs.Lays.n99 Tryz.prog Tryz.lays99_ren:={
 mixed:=by kernel_rfl
 f99:=Tryz.func330.trans (congrArg some (by kernel_rfl))
 f206:=Tryz.func339.trans (congrArg some (by kernel_rfl))
 t3:=Tryz.underlying3
 a3:=Tryz.isAgg3
 z3:=Tryz.sizeOf3
 v3:=Tryz.zeroValue3
 t4:=Tryz.underlying4
 a4:=Tryz.isAgg4
 z4:=Tryz.sizeOf4
 v4:=Tryz.zeroValue4
 t9:=Tryz.underlying9
 a9:=Tryz.isAgg9
 z9:=Tryz.sizeOf9
 v9:=Tryz.zeroValue9 }
open Go.RowKit Go.Lib in
theorem Tryz.strings_HasPrefix (s p:ByteArray) (w:World):
  Calls Tryz.prog 330 #[.string s,.string p] w fun e w'=>e=.returned (.bool (Lib.hasPrefix s.data.toList p.data.toList))∧w'=w:=Any.strings_HasPrefix Tryz.lays99 s p w
def Tryz.lays152_ren:Go.Shelf.Ren:=⟨fun | 152=>323 | 137=>334 | 119=>335 | 224=>336 | 225=>337 | 217=>341 | 266=>347 | n=>n,fun | 9=>9 | 21=>21 | 3=>3 | 4=>4 | 5=>5 | 0=>0 | 46=>144 | n=>n,fun | n=>n⟩
theorem Tryz.lays152:Go.Proofs.Lays.n152 Tryz.prog Tryz.lays152_ren:={
 mixed:=by kernel_rfl
 f119:=Tryz.func335.trans (congrArg some (by kernel_rfl))
 f137:=Tryz.func334.trans (congrArg some (by kernel_rfl))
 f152:=Tryz.func323.trans (congrArg some (by kernel_rfl))
 f217:=Tryz.func341.trans (congrArg some (by kernel_rfl))
 f224:=Tryz.func336.trans (congrArg some (by kernel_rfl))
 f225:=Tryz.func337.trans (congrArg some (by kernel_rfl))
 f266:=Tryz.func347.trans (congrArg some (by kernel_rfl))
 t0:=Tryz.underlying0
 a0:=Tryz.isAgg0
 z0:=Tryz.sizeOf0
 v0:=Tryz.zeroValue0
 t3:=Tryz.underlying3
 a3:=Tryz.isAgg3
 z3:=Tryz.sizeOf3
 v3:=Tryz.zeroValue3
 t4:=Tryz.underlying4
 a4:=Tryz.isAgg4
 z4:=Tryz.sizeOf4
 v4:=Tryz.zeroValue4
 t5:=Tryz.underlying5
 a5:=Tryz.isAgg5
 z5:=Tryz.sizeOf5
 v5:=Tryz.zeroValue5
 t9:=Tryz.underlying9
 a9:=Tryz.isAgg9
 z9:=Tryz.sizeOf9
 v9:=Tryz.zeroValue9
 t21:=Tryz.underlying21
 a21:=Tryz.isAgg21
 z21:=Tryz.sizeOf21
 v21:=Tryz.zeroValue21
 t46:=Tryz.underlying144
 a46:=Tryz.isAgg144
 z46:=Tryz.sizeOf144
 v46:=Tryz.zeroValue144 }
open Go.RowKit Go.Lib in
theorem Tryz.strings_IndexRune_ascii (s:ByteArray) (r:Int) (w:World) (h0:0≤r) (h1:r<128):
  Calls Tryz.prog 323 #[.string s,.int .i32 r] w fun e w'=>e=.returned (.int .i64 (Lib.indexByte s.data.toList r.toNat.toUInt8))∧w'=w:=Any.strings_IndexRune_ascii Tryz.lays152 s r w h0 h1
def Tryz.lays226_ren:Go.Shelf.Ren:=⟨fun | 226=>324 | n=>n,fun | 3=>3 | 4=>4 | n=>n,fun | n=>n⟩
theorem Tryz.lays226:Go.Proofs.Lays.n226 Tryz.prog Tryz.lays226_ren:={
 mixed:=by kernel_rfl
 f226:=Tryz.func324.trans (congrArg some (by kernel_rfl))
 t3:=Tryz.underlying3
 a3:=Tryz.isAgg3
 z3:=Tryz.sizeOf3
 v3:=Tryz.zeroValue3
 t4:=Tryz.underlying4
 a4:=Tryz.isAgg4
 z4:=Tryz.sizeOf4
 v4:=Tryz.zeroValue4 }
open Go.RowKit Go.Lib in
theorem Tryz.strings_shouldUseASCIISet (n:Int) (w:World):
  Calls Tryz.prog 324 #[.int .i64 n] w fun e w'=>e=.returned (.bool (decide (8<n)))∧w'=w:=Any.strings_shouldUseASCIISet Tryz.lays226 n w
def Tryz.lays153_ren:Go.Shelf.Ren:=⟨fun | 153=>303 | 152=>323 | 226=>324 | 227=>325 | 228=>326 | 137=>334 | 119=>335 | 224=>336 | 225=>337 | 217=>341 | 266=>347 | n=>n,fun | 9=>9 | 3=>3 | 4=>4 | 5=>5 | 21=>21 | 117=>319 | 116=>318 | 0=>0 | 46=>144 | 124=>334 | n=>n,fun | n=>n⟩
theorem Tryz.lays153:Go.Proofs.Lays.n153 Tryz.prog Tryz.lays153_ren:={
 mixed:=by kernel_rfl
 f119:=Tryz.func335.trans (congrArg some (by kernel_rfl))
 f137:=Tryz.func334.trans (congrArg some (by kernel_rfl))
 f152:=Tryz.func323.trans (congrArg some (by kernel_rfl))
 f153:=Tryz.func303.trans (congrArg some (by kernel_rfl))
 f217:=Tryz.func341.trans (congrArg some (by kernel_rfl))
 f224:=Tryz.func336.trans (congrArg some (by kernel_rfl))
 f225:=Tryz.func337.trans (congrArg some (by kernel_rfl))
 f226:=Tryz.func324.trans (congrArg some (by kernel_rfl))
 f227:=Tryz.func325.trans (congrArg some (by kernel_rfl))
 f228:=Tryz.func326.trans (congrArg some (by kernel_rfl))
 f266:=Tryz.func347.trans (congrArg some (by kernel_rfl))
 t0:=Tryz.underlying0
 a0:=Tryz.isAgg0
 z0:=Tryz.sizeOf0
 v0:=Tryz.zeroValue0
 t3:=Tryz.underlying3
 a3:=Tryz.isAgg3
 z3:=Tryz.sizeOf3
 v3:=Tryz.zeroValue3
 t4:=Tryz.underlying4
 a4:=Tryz.isAgg4
 z4:=Tryz.sizeOf4
 v4:=Tryz.zeroValue4
 t5:=Tryz.underlying5
 a5:=Tryz.isAgg5
 z5:=Tryz.sizeOf5
 v5:=Tryz.zeroValue5
 t9:=Tryz.underlying9
 a9:=Tryz.isAgg9
 z9:=Tryz.sizeOf9
 v9:=Tryz.zeroValue9
 t21:=Tryz.underlying21
 a21:=Tryz.isAgg21
 z21:=Tryz.sizeOf21
 v21:=Tryz.zeroValue21
 t46:=Tryz.underlying144
 a46:=Tryz.isAgg144
 z46:=Tryz.sizeOf144
 v46:=Tryz.zeroValue144
 t116:=Tryz.underlying318
 a116:=Tryz.isAgg318
 z116:=Tryz.sizeOf318
 t117:=Tryz.underlying319
 a117:=Tryz.isAgg319
 z117:=Tryz.sizeOf319
 v117:=Tryz.zeroValue319
 t124:=Tryz.underlying334
 a124:=Tryz.isAgg334
 z124:=Tryz.sizeOf334
 v124:=Tryz.zeroValue334 }
end Go.Proofs

