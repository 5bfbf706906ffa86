import Derived.Test.YtcljcblceodciaaGreatDoorU01
set_option maxRecDepth 100000
set_option maxHeartbeats 400000000
namespace Go.Proofs.YtcljcblceodciaaGreatDoor
open Go.RowKit
theorem Hj (x:ByteArray) (w:World):Calls Tryz.prog 157 #[.string x] w fun e w'=>e=.returned (.bool false)∧w=w':=by
 go_enter Tryz.func157,Tryz.ntmps157
 go_wp2
 go_ret
 exact ⟨Ca,rfl⟩
theorem Vc (a b:Bs):Op.bytesLess a b=decide (Yc a b<0)∧((a==b)=decide (Yc a b=0))∧(Yc a b=-1∨Yc a b=0∨Yc a b=1):=by
 induction a generalizing b with
 | nil=>cases b <;> simp [Op.bytesLess,Yc]
 | cons x s ih=>
  cases b with
  | nil=>simp [Op.bytesLess,Yc]
  | cons y t=>
   obtain ⟨i1,i2,i3⟩:=ih t
   have D:x<y↔(x.toNat:Int)<y.toNat:=by rw [UInt8.lt_iff_toNat_lt];omega
   have G:y<x↔(y.toNat:Int)<x.toNat:=by rw [UInt8.lt_iff_toNat_lt];omega
   have I:x=y↔(x.toNat:Int)=y.toNat:=⟨fun h=>by rw [h],fun h=>UInt8.toNat_inj.1 C7⟩
   simp only [Op.bytesLess,Yc,List.cons_beq_cons]
   by_cases a1:x<y
   ·have e:ord x.toNat y.toNat=-1:=by unfold ord;rw [if_pos (D.1 a1)]
    have A:(x==y)=false:=by rw [← Qt,beq_iff_eq,I];have:=D.1 a1;omega
    simp [e,thn,a1,A]
   by_cases a2:y<x
   ·have e:ord x.toNat y.toNat=1:=by unfold ord;rw [if_neg (fun h=>a1 (D.2 h)),if_pos (G.1 a2)]
    have A:(x==y)=false:=by rw [← Qt,beq_iff_eq,I];have:=G.1 a2;omega
    simp [e,thn,a1,A]
   have n1:¬ ((x.toNat:Int)<y.toNat):=fun h=>a1 (D.2 h)
   have n2:¬ ((y.toNat:Int)<x.toNat):=fun h=>a2 (G.2 h)
   have J:x=y:=by rw [I];omega
   subst J
   simp [U9,thn,i1,i2,i3]
theorem Dz (x:ByteArray):x.toList=bl x:=Lib.toList_data x
theorem Cq (x y:ByteArray) (w:World):Calls Tryz.prog 114 #[.string x,.string y] w fun e w'=>e=.returned (.int .i64 (Yc (bl x) (bl y)))∧w=w':=by
 obtain ⟨A,D,G⟩:=Vc (bl x) (bl y)
 obtain ⟨g1,g2,g3⟩:=Vc (bl y) (bl x)
 have I:Yc (bl x) (bl y)=- Yc (bl y) (bl x):=by
  have:=Vl (bl x) (bl y) [] []
  have h:=Vl (bl y) (bl x) [] []
  simp only [List.append_nil,lex,Jr] at this h
  rw [← this,← h];exact Kp _ _
 rw [← Dz x,← Dz y] at A D G g1 g2 g3 I ⊢
 obtain ⟨c,J⟩:=eX (Yc x.toList y.toList)
 rw [J] at A D G I ⊢
 have HC:=Qq J
 clear J I g1 g2 g3
 rcases G with G | G | G <;> subst G
 ·have k1:Op.bytesLess x.toList y.toList=true:=A.trans Cc
  have k2:(x.toList==y.toList)=false:=D.trans Cc
  clear A D
  go_enter Tryz.func114,Tryz.ntmps114
  go_wp2_with (go_at_call 157;refine (Hj _ _).mono ?_;rintro e w' ⟨rfl,rfl⟩)
  go_ret
  exact ⟨rfl,rfl⟩
 ·have k1:Op.bytesLess x.toList y.toList=false:=A.trans Cc
  have k2:(x.toList==y.toList)=true:=D.trans Cc
  clear A D
  go_enter Tryz.func114,Tryz.ntmps114
  go_wp2_with (go_at_call 157;refine (Hj _ _).mono ?_;rintro e w' ⟨rfl,rfl⟩)
  go_ret
  exact ⟨rfl,rfl⟩
 have k1:Op.bytesLess x.toList y.toList=false:=A.trans Cc
 have k2:(x.toList==y.toList)=false:=D.trans Cc
 clear A D
 go_enter Tryz.func114,Tryz.ntmps114
 go_wp2_with (go_at_call 157;refine (Hj _ _).mono ?_;rintro e w' ⟨rfl,rfl⟩)
 go_ret
 exact ⟨rfl,rfl⟩
theorem Sl.str {S:Nat→Prop} {w:World} {p:Option Addr} {n cap:Nat} {xs:List Bs} (h:Sl Zh S w (.slice p n cap) xs) {i:Nat} {x:Bs} (hx:xs[i]?=some x):
  ∃ b off,p=some ⟨b,off,none⟩∧Cf w b (off+i) x∧x.length≤1000000:=by
 obtain ⟨p',c',h1,_,h3⟩:=h
 simp only [Qr] at h1
 obtain ⟨rfl,_,_⟩:=h1
 obtain ⟨b,off,e,_,_,hc⟩:=h3 (by intro e;subst e;simp at hx)
 obtain ⟨cs,h4,h5,h6⟩:=hc i x hx
 refine ⟨b,off,e,?_,h6⟩
 have:=h4 0 (sv x) (by rw [h5];rfl)
 rwa [Nat.add_zero,show Zh.k=1 from rfl,Nat.mul_one] at this
theorem cmpN_any (S:Nat→Prop) (av bv:Value) (a b:List Bs) (w:World) (ha:Sl Zh S w av a) (hb:Sl Zh S w bv b):
  Calls Tryz.prog 62 #[av,bv] w fun e w'=>e=.returned (.int .i64 (Jg a b))∧w=w':=by
 obtain ⟨pa,ca,rfl,aE⟩:=ha.len
 obtain ⟨pb,cb,rfl,aF⟩:=hb.len
 have HA:=Qq ha;have HB:=Qq hb
 obtain ⟨r,hr⟩:=eX (Jg a b)
 rw [hr]
 have HR:=Qq hr
 clear ha hb hr
 go_enter Tryz.func62,Tryz.ntmps62
 go_wp2_with fail
 go_loop [11] (fun i=>∃ k:Nat,k≤a.length∧k≤b.length∧i=.int .i64 k∧Jg (a.drop k) (b.drop k)=r) (fun i=>a.length - (intOf i).toNat)
 case atStart=>exact ⟨0,Q8 _,Q8 _,rfl,HR.out⟩
 obtain ⟨k,aC,aD,rfl,G⟩:=hrel
 by_cases hlt:k<a.length
 ·obtain ⟨x,N⟩:∃ x,a[k]?=some x:=⟨_,Qx hlt⟩
  have A:a.drop k=x::a.drop (k+1):=by
   rw [Qp hlt];rw [Qx hlt] at N;cases N;rfl
  obtain ⟨ga,oa,rfl,c1,l1⟩:=HA.out.str N
  by_cases hlb2:k<b.length
  ·obtain ⟨y,O⟩:∃ y,b[k]?=some y:=⟨_,Qx hlb2⟩
   have D:b.drop k=y::b.drop (k+1):=by
    rw [Qp hlb2];rw [Qx hlb2] at O;cases O;rfl
   obtain ⟨gb,ob,rfl,c2,l2⟩:=HB.out.str O
   rw [A,D] at G
   have U:=Qq (Cq ⟨x.toArray⟩ ⟨y.toArray⟩)
   have M:Yc (bl ⟨x.toArray⟩) (bl ⟨y.toArray⟩)=Yc x y:=rfl
   rw [M] at U
   have I:thn (Yc x y) (Jg (a.drop (k+1)) (b.drop (k+1)))=r:=G
   generalize Yc x y=c at U I
   have Y:(0:Int)≤(k:Int):=C7
   have Z:(k:Int)<a.length:=C7
   have aB:(k:Int)<b.length:=C7
   have hq:decide (b.length≤k)=false:=by simp;omega
   by_cases hc0:c=0
   ·subst hc0
    have HC:=Qq I
    clear G I A D N O M
    go_wp2_with (go_at_call 114;refine (U.out _).mono ?_;rintro e w' ⟨rfl,rfl⟩)
    go_round
    case rel=>exact ⟨k+1,C7,C7,by go_num,HC.out⟩
    case measure=>simp [intOf];omega
   have aG:(c != 0)=true:=by rw [bne_iff_ne];exact hc0
   have V:c=r:=by rw [← I];unfold thn;rw [if_neg hc0]
   subst V
   clear G I A D N O M hc0
   go_wp2_with (go_at_call 114;refine (U.out _).mono ?_;rintro e w' ⟨rfl,rfl⟩)
   go_ret
   exact ⟨rfl,rfl⟩
  have D:b.drop k=[]:=Qu C7
  rw [A,D] at G
  have J:r=1:=by rw [← G];rfl
  subst J
  have Y:(0:Int)≤(k:Int):=C7
  have Z:(k:Int)<a.length:=C7
  have hq:decide (b.length≤k)=true:=by simp;omega
  clear G A D N
  go_wp2_with fail
  go_ret
  exact ⟨rfl,rfl⟩
 have A:a.drop k=[]:=Qu C7
 rw [A] at G
 by_cases hlb2:a.length<b.length
 ·obtain ⟨y,t,T⟩:∃ y t,b.drop k=y::t:=by
   have:(b.drop k).length≠0:=by rw [Zq];omega
   cases hd:b.drop k with
   | nil=>rw [hd] at this;exact absurd rfl this
   | cons y t=>exact ⟨y,t,rfl⟩
  rw [T] at G
  have J:r=-1:=by rw [← G];rfl
  subst J
  clear G A T
  go_wp2_with fail
  go_ret
  exact ⟨rfl,rfl⟩
 have D:b.drop k=[]:=Qu C7
 rw [D] at G
 have J:r=0:=by rw [← G];rfl
 subst J
 clear G A D
 go_wp2_with fail
 go_ret
 exact ⟨rfl,rfl⟩
theorem _root_.Go.RowKit.Below.thn {B:Nat} {a b c:World} (h:Below B a b) (k:Below b b c) (hB:B≤a.heap.size:=by exact Q9 _):Below B a c:=h.trans (k.mono (Qc hB h.size))
theorem Zg (w:World) (o:Obj):Below w w (w.alloc o):=(Qz _ _).alloc (Q9 _) _
theorem Zu (w:World) (o p:Obj):Below w w ((w.alloc o).alloc p):=(Zg w o).alloc (Zg w o).size _
def Gr (w w':World):Prop:=∃ q os,w'=Sort.grow (w.drewN q) os
theorem Gr.refl (w:World):Gr w w:=⟨0,#[],by rw [Sort.grow_empty];rfl⟩
theorem Gr.thn {a b c:World} (h:Gr a b) (k:Gr b c):Gr a c:=by
 obtain ⟨q,os,rfl⟩:=h
 obtain ⟨q',A,rfl⟩:=k
 refine ⟨q+q',os++A,?_⟩
 show Sort.grow (Sort.grow ((a.drewN q).drewN q') os) A=_
 rw [Sort.grow_grow,World.drewN_drewN]
theorem Gr.alloc {a b:World} (h:Gr a b) (o:Obj):Gr a (b.alloc o):=h.thn ⟨0,#[o],by rw [Sort.alloc_eq_grow];rfl⟩
theorem gal1 (w:World) (o:Obj):Gr w (w.alloc o):=(Gr.refl w).alloc o
theorem Ve (w:World) (o p:Obj):Gr w ((w.alloc o).alloc p):=(gal1 w o).alloc p
theorem Gr.bl {w w':World} (h:Gr w w'):Below w w w':=by
 obtain ⟨q,os,rfl⟩:=h
 refine ⟨rfl,rfl,rfl,by simp [Sort.grow],fun k hk=>?_⟩
 show (w.heap++os)[k]?=_
 rw [Array.getElem?_append_left hk]
def Sy (x:Val):Prop:=∀ (y:Val) (S:Nat→Prop) (cx cy:List Value) (w:World),Z9 S w cx x→Z9 S w cy y →
 Calls Tryz.prog 16 #[cx,cy] w fun e w'=>e=.returned (.int .i64 (Yv x y))∧Gr w w'
def vcs (x:Val) (p3:Option Addr) (k3:Nat) (p4:Option Addr) (k4:Nat):List Value:=[.int .i64 x.kind,.int .i64 x.n,.string ⟨x.s.toArray⟩,.slice p3 x.names.length k3,.slice p4 x.kids.length k4]
def Cn (_ : Val) (_ : Option Addr) (_ : Nat) (_ : Option Addr) (_ : Nat) : Qjd := ⟨0⟩
instance Cn_l {v : Val} {p : Option Addr} {a : Nat} {q : Option Addr} {b : Nat} : CoeDep Qjd (Cn v p a q b) (List Value) := ⟨[.int .i64 v.kind, .int .i64 v.n, .string ⟨v.s.toArray⟩, .slice p v.names.length a, .slice q v.kids.length b]⟩
instance Cn_a {v : Val} {p : Option Addr} {a : Nat} {q : Option Addr} {b : Nat} : CoeDep Qjd (Cn v p a q b) (Array Value) := ⟨#[.int .i64 v.kind, .int .i64 v.n, .string ⟨v.s.toArray⟩, .slice p v.names.length a, .slice q v.kids.length b]⟩
def Cr (_ _ : Value) (_ : Val) (_ : Option Addr) (_ : Nat) (_ : Option Addr) (_ : Nat) (_ : Val) (_ : Option Addr) (_ : Nat) (_ : Option Addr) (_ : Nat) : Qjd := ⟨0⟩
instance Cr_l {c f : Value} {v : Val} {p : Option Addr} {a : Nat} {q : Option Addr} {b : Nat} {u : Val} {r : Option Addr} {d : Nat} {t : Option Addr} {e : Nat} : CoeDep Qjd (Cr c f v p a q b u r d t e) (List Value) := ⟨[c, f, .int .i64 v.kind, .int .i64 v.n, .string ⟨v.s.toArray⟩, .slice p v.names.length a, .slice q v.kids.length b, .int .i64 u.kind, .int .i64 u.n, .string ⟨u.s.toArray⟩, .slice r u.names.length d, .slice t u.kids.length e]⟩
instance Cr_a {c f : Value} {v : Val} {p : Option Addr} {a : Nat} {q : Option Addr} {b : Nat} {u : Val} {r : Option Addr} {d : Nat} {t : Option Addr} {e : Nat} : CoeDep Qjd (Cr c f v p a q b u r d t e) (Array Value) := ⟨#[c, f, .int .i64 v.kind, .int .i64 v.n, .string ⟨v.s.toArray⟩, .slice p v.names.length a, .slice q v.kids.length b, .int .i64 u.kind, .int .i64 u.n, .string ⟨u.s.toArray⟩, .slice r u.names.length d, .slice t u.kids.length e]⟩
theorem Z9.cells {S:Nat→Prop} {w:World} {cs:List Value} {x:Val} (h:Z9 S w cs x):∃ p3 k3 p4 k4,cs=vcs x p3 k3 p4 k4∧Sl Zh S w (.slice p3 x.names.length k3) x.names∧Sl Zd S w (.slice p4 x.kids.length k4) x.kids∧x.s.length≤1000000:=by
 obtain ⟨k,n,s,names,kids⟩:=x
 obtain ⟨nv,kv,rfl,hs,hn,hk⟩:=Vg.1 h
 obtain ⟨p3,k3,rfl,_⟩:=hn.len
 obtain ⟨p4,k4,rfl,_⟩:=hk.len
 exact ⟨p3,k3,p4,k4,rfl,hn,hk,hs⟩
theorem Sl.val {S:Nat→Prop} {w:World} {p:Option Addr} {n cap:Nat} {xs:List Val} (h:Sl Zd S w (.slice p n cap) xs) {i:Nat} {x:Val} (hx:xs[i]?=some x):
  ∃ b off p3 k3 p4 k4,p=some ⟨b,off,none⟩∧b<w.heap.size∧Z9 S w (vcs x p3 k3 p4 k4) x∧Cf w b (off+i*5) x.kind∧Cf w b (off+i*5+1) x.n∧Cf w b (off+i*5+2) x.s ∧
   Cf w b (off+i*5+3) (.slice p3 x.names.length k3)∧Cf w b (off+i*5+4) (.slice p4 x.kids.length k4):=by
 obtain ⟨p',c',h1,_,h3⟩:=h
 simp only [Qr] at h1
 obtain ⟨rfl,_,_⟩:=h1
 obtain ⟨b,off,e,_,hb,hc⟩:=h3 (by intro e;subst e;simp at hx)
 obtain ⟨cs,A,h5⟩:=hc i x hx
 obtain ⟨p3,k3,p4,k4,rfl,_⟩:=Z9.cells h5
 exact ⟨b,off,p3,k3,p4,k4,e,hb,h5,A 0 _ rfl,A 1 _ rfl,A 2 _ rfl,A 3 _ rfl,A 4 _ rfl⟩
theorem cmpVs_of (S:Nat→Prop) (av bv:Value) (a b:List Val) (hC:∀ x ∈ a,Sy x) (w:World) (ha:Sl Zd S w av a) (hb:Sl Zd S w bv b):
  Calls Tryz.prog 63 #[av,bv,.func (.func 16) #[] #[]] w fun e w'=>e=.returned (.int .i64 (Vq a b))∧Gr w w':=by
 obtain ⟨pa,ca,rfl,aM⟩:=ha.len
 obtain ⟨pb,cb,rfl,aN⟩:=hb.len
 obtain ⟨HA,HB,HC⟩:=Qjq ha hb hC
 obtain ⟨r,hr⟩:=eX (Vq a b)
 rw [hr]
 have HR:=Qq hr
 clear ha hb hr hC
 go_enter Tryz.func63,Tryz.ntmps63
 go_wp2_with fail
 go_loopw [13] (fun i wr=>∃ k:Nat,k≤a.length∧k≤b.length∧i=.int .i64 k∧Vq (a.drop k) (b.drop k)=r∧Gr w wr) (fun i _=>a.length - (intOf i).toNat)
 case atStart=>exact ⟨0,Q8 _,Q8 _,rfl,HR.out,Gr.refl _⟩
 obtain ⟨k,aK,aL,rfl,I,U⟩:=hrel
 have G:=Qq U
 clear U
 by_cases hlt:k<a.length
 ·obtain ⟨x,O⟩:∃ x,a[k]?=some x:=⟨_,Qx hlt⟩
  have A:a.drop k=x::a.drop (k+1):=by
   rw [Qp hlt];rw [Qx hlt] at O;cases O;rfl
  obtain ⟨ga,oa,p3,k3,p4,k4,rfl,aH,N,d0,d1,d2,d3,d4⟩:=(HA.out.below G.out.bl).val O
  by_cases hlb2:k<b.length
  ·obtain ⟨y,Z⟩:∃ y,b[k]?=some y:=⟨_,Qx hlb2⟩
   have D:b.drop k=y::b.drop (k+1):=by
    rw [Qp hlb2];rw [Qx hlb2] at Z;cases Z;rfl
   obtain ⟨gb,ob,q3,l3,q4,l4,rfl,aI,V,e0,e1,e2,e3,e4⟩:=(HB.out.below G.out.bl).val Z
   rw [A,D] at I
   have J:thn (Yv x y) (Vq (a.drop (k+1)) (b.drop (k+1)))=r:=I
   have HX:=Qq (HC.out x (Qy O) y S)
   have aB:=Qq N;have aC:=Qq V
   generalize Yv x y=c at HX J
   have aE:(0:Int)≤(k:Int):=C7
   have aF:(k:Int)<a.length:=C7
   have aJ:(k:Int)<b.length:=C7
   have hq:decide (b.length≤k)=false:=by simp;omega
   clear N V I A D O Z
   go_wp2_with fail
   refine (HX.out (vcs x p3 k3 p4 k4) (vcs y q3 l3 q4 l4) _ (aB.out.move (.of_below (Zu _ _ _)) Qje) (aC.out.move (.of_below (Zu _ _ _)) Qje)).mono ?_
   rintro e w' ⟨rfl,hw⟩
   have T:=Qq (G.out.thn ((Ve wr _ _).thn hw))
   clear hw
   by_cases hc0:c=0
   ·subst hc0
    have aA:=Qq J
    clear J
    go_wp2_with fail
    go_roundw
    case rel=>exact ⟨k+1,C7,C7,by go_num,aA.out,T.out⟩
    case measure=>simp [intOf];omega
   have aO:(c != 0)=true:=by rw [bne_iff_ne];exact hc0
   have aD:c=r:=by rw [← J];unfold thn;rw [if_neg hc0]
   subst aD
   clear J hc0
   go_wp2_with fail
   go_ret
   exact ⟨rfl,T.out⟩
  have D:b.drop k=[]:=Qu C7
  rw [A,D] at I
  have M:r=1:=by rw [← I];rfl
  subst M
  have aE:(0:Int)≤(k:Int):=C7
  have aF:(k:Int)<a.length:=C7
  have hq:decide (b.length≤k)=true:=by simp;omega
  clear I A D O N
  go_wp2_with fail
  go_ret
  exact ⟨rfl,G.out.thn (gal1 _ _)⟩
 have A:a.drop k=[]:=Qu C7
 rw [A] at I
 by_cases hlb2:a.length<b.length
 ·obtain ⟨y,t,Y⟩:∃ y t,b.drop k=y::t:=by
   have:(b.drop k).length≠0:=by rw [Zq];omega
   cases hd:b.drop k with
   | nil=>rw [hd] at this;exact absurd rfl this
   | cons y t=>exact ⟨y,t,rfl⟩
  rw [Y] at I
  have M:r=-1:=by rw [← I];rfl
  subst M
  clear I A Y
  go_wp2_with fail
  go_ret
  exact ⟨rfl,G.out⟩
 have D:b.drop k=[]:=Qu C7
 rw [D] at I
 have M:r=0:=by rw [← I];rfl
 subst M
 clear I A D
 go_wp2_with fail
 go_ret
 exact ⟨rfl,G.out⟩
theorem cmpAt_of (k n:Int) (s:Bs) (ns:List Bs) (ks:List Val) (ih:∀ x ∈ ks,Sy x):Sy (.mk k n s ns ks):=by
 rintro ⟨Z,M,O,D,A⟩ S cx cy w hx hy
 obtain ⟨nv,kv,rfl,hs,hn,hk⟩:=Vg.1 hx
 obtain ⟨aF,aE,rfl,aM,aD,aC⟩:=Vg.1 hy
 have hN:∀ w',Below w w w'→Calls Tryz.prog 62 #[nv,aF] w' fun e U=>e=.returned (.int .i64 (Jg ns D))∧w'=U:=
  fun w' hb=>cmpN_any S nv aF ns D w' (hn.below hb) (aD.below hb)
 have hK:∀ w',Below w w w'→Calls Tryz.prog 63 #[kv,aE,.func (.func 16) #[] #[]] w' fun e U=>e=.returned (.int .i64 (Vq ks A))∧Gr w' U:=
  fun w' hb=>cmpVs_of S kv aE ks A ih w' (hk.below hb) (aC.below hb)
 have hS:∀ w',Calls Tryz.prog 61 #[sv s,sv O] w' fun e U=>e=.returned (.int .i64 (Yc s O))∧w'=U:=fun w'=>N5 _ _ w'
 obtain ⟨HN,HK,HS⟩:=Qjq hN hK hS
 obtain ⟨cb,I⟩:=eX (Yc s O)
 obtain ⟨cn,J⟩:=eX (Jg ns D)
 obtain ⟨cv,G⟩:=eX (Vq ks A)
 rw [I] at HS;rw [J] at HN;rw [G] at HK
 have aL:=Qq (fun o1 o2=>Zu w o1 o2)
 clear hN hK hS hx hy ih hn aD hk aC
 by_cases hkk:k=Z
 ·subst hkk
  by_cases h0:k=0
  ·subst h0
   rw [show Yv (.mk 0 n s ns ks) (.mk 0 M O D A)=ord n M by simp [Yv]]
   have V:=Qq (fun w=>Ez n M w)
   generalize ord n M=r at V ⊢
   clear I J G
   go_enter Tryz.func16,Tryz.ntmps16
   go_wp2_with (go_at_call 60;refine (V.out _).mono ?_;rintro e w' ⟨rfl,rfl⟩)
   go_ret
   exact ⟨rfl,Ve _ _ _⟩
  by_cases h2:k=2
  ·subst h2
   rw [show Yv (.mk 2 n s ns ks) (.mk 2 M O D A)=ord n M by simp [Yv]]
   have V:=Qq (fun w=>Ez n M w)
   generalize ord n M=r at V ⊢
   clear I J G h0
   go_enter Tryz.func16,Tryz.ntmps16
   go_wp2_with (go_at_call 60;refine (V.out _).mono ?_;rintro e w' ⟨rfl,rfl⟩)
   go_ret
   exact ⟨rfl,Ve _ _ _⟩
  by_cases h1:k=1
  ·subst h1
   rw [show Yv (.mk 1 n s ns ks) (.mk 1 M O D A)=cb by simp [Yv,I]]
   clear I J G h0 h2
   go_enter Tryz.func16,Tryz.ntmps16
   go_wp2_with (go_at_call 61;refine (HS.out _).mono ?_;rintro e w' ⟨rfl,rfl⟩)
   go_ret
   exact ⟨rfl,Ve _ _ _⟩
  by_cases h3:k=3
  ·subst h3
   have N:Yv (.mk 3 n s ns ks) (.mk 3 M O D A)=thn cb cv:=by simp [Yv,I,G]
   clear I J G h0 h2 h1
   by_cases hz:cb=0
   ·subst hz
    rw [N,Uc]
    clear N
    go_enter Tryz.func16,Tryz.ntmps16
    go_wp2_with (first | (go_at_call 61;refine (HS.out _).mono ?_;rintro e w' ⟨rfl,rfl⟩) | (go_at_call 63;refine (HK.out _ (Zu _ _ _)).mono ?_;rintro e w' ⟨rfl,Y⟩;have HW:=Qq ((Ve w _ _).thn Y);clear Y))
    go_ret
    exact ⟨rfl,HW.out⟩
   have hq:(cb != 0)=true:=by rw [bne_iff_ne];exact hz
   have T:Yv (.mk 3 n s ns ks) (.mk 3 M O D A)=cb:=by rw [N];unfold thn;rw [if_neg hz]
   rw [T]
   clear N T hz
   go_enter Tryz.func16,Tryz.ntmps16
   go_wp2_with (go_at_call 61;refine (HS.out _).mono ?_;rintro e w' ⟨rfl,rfl⟩)
   go_ret
   exact ⟨rfl,Ve _ _ _⟩
  by_cases h4:k=4
  ·subst h4
   have N:Yv (.mk 4 n s ns ks) (.mk 4 M O D A)=thn cn cv:=by simp [Yv,J,G]
   clear I J G h0 h2 h1 h3
   by_cases hz:cn=0
   ·subst hz
    rw [N,Uc]
    clear N
    go_enter Tryz.func16,Tryz.ntmps16
    go_wp2_with (first | (go_at_call 62;refine (HN.out _ (Zu _ _ _)).mono ?_;rintro e w' ⟨rfl,rfl⟩) | (go_at_call 63;refine (HK.out _ (Zu _ _ _)).mono ?_;rintro e w' ⟨rfl,Y⟩;have HW:=Qq ((Ve w _ _).thn Y);clear Y))
    go_ret
    exact ⟨rfl,HW.out⟩
   have hq:(cn != 0)=true:=by rw [bne_iff_ne];exact hz
   have T:Yv (.mk 4 n s ns ks) (.mk 4 M O D A)=cn:=by rw [N];unfold thn;rw [if_neg hz]
   rw [T]
   clear N T hz
   go_enter Tryz.func16,Tryz.ntmps16
   go_wp2_with (go_at_call 62;refine (HN.out _ (Zu _ _ _)).mono ?_;rintro e w' ⟨rfl,rfl⟩)
   go_ret
   exact ⟨rfl,Ve _ _ _⟩
  by_cases h5:k=5
  ·subst h5
   rw [show Yv (.mk 5 n s ns ks) (.mk 5 M O D A)=cv by simp [Yv,G]]
   clear I J G h0 h2 h1 h3 h4
   go_enter Tryz.func16,Tryz.ntmps16
   go_wp2_with (go_at_call 63;refine (HK.out _ (Zu _ _ _)).mono ?_;rintro e w' ⟨rfl,Y⟩;have HW:=Qq ((Ve w _ _).thn Y);clear Y)
   go_ret
   exact ⟨rfl,HW.out⟩
  have N:Yv (.mk k n s ns ks) (.mk k M O D A)=0:=by simp [Yv,h0,h1,h2,h3,h4,h5]
  rw [N]
  have q0:(k==0)=false:=by simpa using h0
  have q1:(k==1)=false:=by simpa using h1
  have q2:(k==2)=false:=by simpa using h2
  have q3:(k==3)=false:=by simpa using h3
  have q4:(k==4)=false:=by simpa using h4
  have q5:(k==5)=false:=by simpa using h5
  clear N I J G h0 h1 h2 h3 h4 h5
  go_enter Tryz.func16,Tryz.ntmps16
  go_wp2_with fail
  go_ret
  exact ⟨rfl,Ve _ _ _⟩
 have N:Yv (.mk k n s ns ks) (.mk Z M O D A)=ord k Z:=by simp [Yv,hkk]
 rw [N]
 have hq:(k != Z)=true:=by rw [bne_iff_ne];exact hkk
 have V:=Qq (fun w=>Ez k Z w)
 generalize ord k Z=r at V ⊢
 clear N I J G hkk
 go_enter Tryz.func16,Tryz.ntmps16
 go_wp2_with (go_at_call 60;refine (V.out _).mono ?_;rintro e w' ⟨rfl,rfl⟩)
 go_ret
 exact ⟨rfl,Ve _ _ _⟩
theorem cmpAt:∀ x:Val,Sy x
 | .mk k n s ns ks=>cmpAt_of k n s ns ks fun x _=>cmpAt x
termination_by x=>SizeOf.sizeOf x
decreasing_by
 have:=List.sizeOf_lt_of_mem ‹_ ∈ ks›
 simp only [Val.mk.sizeOf_spec]
 omega
theorem Gl {α:Type} (n:Nat) (Q:Nat→α→Prop) (h:∀ i,i<n→∃ a,Q i a):∃ l:List α,l.length=n∧∀ i a,l[i]?=some a→Q i a:=by
 induction n with
 | zero=>exact ⟨[],rfl,fun i a h=>by simp at h⟩
 | succ n ih=>
  obtain ⟨l,hl,hq⟩:=ih (fun i hi=>h i C7)
  obtain ⟨a,ha⟩:=h n C7
  refine ⟨l++[a],by simp [hl],fun i b hb=>?_⟩
  by_cases hi:i<l.length
  ·rw [List.getElem?_append_left hi] at hb;exact hq i b hb
  rw [Zx C7] at hb
  have h0:i - l.length=0:=by
   have:=(Qj hb).1
   simp at this;omega
  rw [h0] at hb
  simp at hb
  subst hb
  have:i=n:=C7
  rw [this];exact ha
theorem Vm {k:Nat} {css:List (List Value)} (h:∀ c ∈ css,c.length=k):css.flatten.length=css.length*k:=by
 induction css with
 | nil=>simp
 | cons c css ih=>
  rw [List.flatten_cons,Ql,h c Ca,ih (fun d hd=>h d (by simp [hd])),List.length_cons,Nat.add_mul]
  omega
theorem Vv {k:Nat} {css:List (List Value)} (h:∀ c ∈ css,c.length=k) {i j:Nat} {c:List Value} {u:Value} (hc:css[i]?=some c) (hu:c[j]?=some u):css.flatten[i*k+j]?=some u:=by
 induction css generalizing i with
 | nil=>simp at hc
 | cons d css ih=>
  have hd:=h d Ca
  rw [List.flatten_cons]
  cases i with
  | zero=>
   simp at hc;subst hc
   have hj:j<d.length:=(Qj hu).1
   rw [Nat.zero_mul,Nat.zero_add,List.getElem?_append_left hj];exact hu
  | succ i=>
   have:=ih (fun e he=>h e (by simp [he])) (i:=i) (by simpa using hc)
   rw [Zx (by rw [hd,Nat.add_mul];omega),hd]
   rw [show (i+1)*k+j - k=i*k+j by rw [Nat.add_mul];omega]
   exact this
theorem flat_at {k:Nat} (hk:0<k) {css:List (List Value)} (h:∀ c ∈ css,c.length=k) {m:Nat} {u:Value} (hu:css.flatten[m]?=some u):∃ c,css[m / k]?=some c∧c[m % k]?=some u:=by
 have hm:m<css.length*k:=by rw [← Vm h];exact (Qj hu).1
 have hi:m / k<css.length:=Nat.div_lt_of_lt_mul (by rwa [Nat.mul_comm])
 have hc:=Qx hi
 have hl:=h _ (Qd hi)
 have hj:m % k<(css[m / k]).length:=by rw [hl];exact Nat.mod_lt _ hk
 refine ⟨_,hc,?_⟩
 have:=Vv h hc (Qx hj)
 rw [Nat.div_add_mod' m k] at this
 rw [Qx hj,← hu,this]
structure Cs {T:Type} (r:Rd T) (S:Nat→Prop) (w:World) (css:List (List Value)) (xs:List T):Prop where
 len:css.length=xs.length
 R:∀ (i:Nat) (c:List Value) (x:T),css[i]?=some c→xs[i]?=some x→r.R S w c x
theorem Cs.all {T:Type} {r:Rd T} {S:Nat→Prop} {w:World} {css:List (List Value)} {xs:List T} (h:Cs r S w css xs):∀ c ∈ css,c.length=r.k:=by
 intro c hc
 obtain ⟨i,hi⟩:=Zk hc
 have A:=(Qj hi).1
 exact r.len (h.R i c _ hi (Qx (by rw [← h.len];exact A)))
theorem Cs.flat {T:Type} {r:Rd T} {S:Nat→Prop} {w:World} {css:List (List Value)} {xs:List T} (h:Cs r S w css xs):css.flatten.length=xs.length*r.k:=by rw [Vm h.all,h.len]
theorem Cs.move {T:Type} {r:Rd T} {S S':Nat→Prop} {w w':World} {css:List (List Value)} {xs:List T} (h:Cs r S w css xs) (hA:Uf S w w') (hS:∀ b,b<w.heap.size→S b→S' b):Cs r S' w' css xs:=
 ⟨h.len,fun i c x hc hx=>r.mono (r.frame (r.mono (S':=fun b=>S b∧S' b) (h.R i c x hc hx) (fun b hb h=>⟨h,hS b hb h⟩)) (fun b hb=>hA b hb.1)) (fun _ _ h=>h.2)⟩
theorem Cs.app {T:Type} {r:Rd T} {S:Nat→Prop} {w:World} {css dss:List (List Value)} {xs ys:List T} (h:Cs r S w css xs) (g:Cs r S w dss ys):Cs r S w (css++dss) (xs++ys):=by
 refine ⟨by rw [Ql,Ql,h.len,g.len],fun i c x A D=>?_⟩
 by_cases hi:i<css.length
 ·rw [List.getElem?_append_left hi] at A
  rw [List.getElem?_append_left (by rw [← h.len];exact hi)] at D
  exact h.R i c x A D
 rw [Zx C7] at A
 rw [Zx (by rw [← h.len];omega),← h.len] at D
 exact g.R _ c x A D
theorem Cs.one {T:Type} {r:Rd T} {S:Nat→Prop} {w:World} {c:List Value} {x:T} (h:r.R S w c x):Cs r S w [c] [x]:=by
 refine ⟨rfl,fun i c' x' A hx=>?_⟩
 cases i with
 | zero=>simp at A hx;subst A;subst hx;exact h
 | succ i=>simp at A
theorem Cs.nil {T:Type} (r:Rd T) (S:Nat→Prop) (w:World):Cs r S w [] []:=⟨rfl,fun i c x hc _=>by simp at hc⟩
theorem Sl.css {T:Type} {r:Rd T} (hk:0<r.k) {S:Nat→Prop} {w:World} {v:Value} {xs:List T} (h:Sl r S w v xs):
  ∃ p cap css,v=.slice p xs.length cap∧Cs r S w css xs∧(xs≠[]→∃ b off,p=some ⟨b,off,none⟩∧S b∧b<w.heap.size∧∀ j u,css.flatten[j]?=some u→w.cell? ⟨b,off+j,none⟩=some u):=by
 obtain ⟨p,cap,h1,h2,h3⟩:=h
 by_cases hne:xs=[]
 ·subst hne;exact ⟨p,cap,[],h1,Cs.nil _ _ _,fun h=>absurd rfl h⟩
 obtain ⟨b,off,e,hS,hb,hc⟩:=h3 hne
 obtain ⟨css,hl,hq⟩:=Gl xs.length (fun i cs=>(∀ j u,cs[j]?=some u→w.cell? ⟨b,off+i*r.k+j,none⟩=some u)∧∀ x,xs[i]?=some x→r.R S w cs x) (fun i hi=>by
  obtain ⟨cs,h4,h5⟩:=hc i _ (Qx hi)
  exact ⟨cs,h4,fun x G=>by rw [Qx hi] at G;cases G;exact h5⟩)
 have D:Cs r S w css xs:=⟨hl,fun i c x A G=>(hq i c A).2 x G⟩
 refine ⟨p,cap,css,h1,D,fun _=>⟨b,off,e,hS,hb,fun j u hu=>?_⟩⟩
 obtain ⟨c,A,I⟩:=flat_at hk D.all hu
 have:=(hq _ c A).1 _ u I
 rwa [Nat.add_assoc,Nat.div_add_mod' j r.k] at this
theorem Sl.of_css {T:Type} {r:Rd T} {S:Nat→Prop} {w:World} {xs:List T} {b off cap:Nat} {css:List (List Value)} (hl:xs.length≤1000000) (h:Cs r S w css xs) (hS:S b) (hb:b<w)
  (hc:∀ j u,css.flatten[j]?=some u→w.cell? ⟨b,off+j,none⟩=some u):Sl r S w (.slice (some ⟨b,off,none⟩) xs.length cap) xs:=by
 refine ⟨_,cap,rfl,hl,fun _=>⟨b,off,rfl,hS,hb,fun i x hx=>?_⟩⟩
 have hi:i<css.length:=by rw [h.len];exact (Qj hx).1
 refine ⟨css[i],fun j u hu=>?_,h.R i _ x (Qx hi) hx⟩
 have:=hc _ u (Vv h.all (Qx hi) hu)
 rwa [← Nat.add_assoc] at this
def But (S:Nat→Prop) (v:Value):Nat→Prop:=fun b=>S b∧some b≠v.ownBlock
structure Own {T:Type} (r:Rd T) (E:TypeId) (S:Nat→Prop) (B:Nat) (w:World) (v:Value) (xs:List T) (css:List (List Value)):Prop where
 row:w.ownsRow B E r.k v xs.length css.flatten
 cs:Cs r (But S v) w css xs
theorem Own.nil {T:Type} (r:Rd T) (E:TypeId) (S:Nat→Prop) (B:Nat) (w:World):Own r E S B w (.slice none 0 0) [] []:=⟨by simpa using World.ownsRow_nil w B E r.k,Cs.nil _ _ _⟩
theorem Kx {w w':World} {B:Nat} {e:TypeId} {sz n:Nat} {v:Value} {xs:List Value} (h:w.ownsRow B e sz v n xs) (hb:Below w w w'):w'.ownsRow B e sz v n xs:=by
 refine ⟨h.1,?_⟩
 rcases h.2 with hn | ⟨g,cap,cur,rfl,hB,hg,rest⟩
 ·exact .inl hn
 refine .inr ⟨g,cap,cur,rfl,hB,?_,rest⟩
 rw [hb.block g (Array.getElem?_eq_some_iff.1 hg).1];exact hg
theorem Own.below {T:Type} {r:Rd T} {E:TypeId} {S:Nat→Prop} {B:Nat} {w w':World} {v:Value} {xs:List T} {css:List (List Value)} (h:Own r E S B w v xs css) (hb:Below w w w'):Own r E S B w' v xs css:=
 ⟨Kx h.row hb,h.cs.move (.of_below hb) Qje⟩
theorem Own.append {T:Type} {r:Rd T} {E:TypeId} {S:Nat→Prop} {B:Nat} {W w2:World} {v v':Value} {xs ys:List T} {css dss:List (List Value)} (h:Own r E S B W v xs css) (hd:Cs r (But S v) W dss ys)
  (hown:w2.ownsRow B E r.k v' (xs.length+ys.length) (css.flatten++dss.flatten)) (hgrow:W.grownBy w2 v.ownBlock) (hat:v'.ownBlock=v.ownBlock∨v'.ownBlock=some W.heap.size):Own r E S B w2 v' (xs++ys) (css++dss):=by
 refine ⟨by rw [Ql,List.flatten_append];exact hown,?_⟩
 have hc:=h.cs.app hd
 have h1:Cs r (fun b=>But S v b∧But S v' b) W (css++dss) (xs++ys):=hc.move (.refl _ _) (fun b hb h=>⟨h,h.1,by
  rcases hat with e | e
  ·rw [e];exact h.2
  rw [e];intro e2;have:=Qb e2;omega⟩)
 exact h1.move (fun b hb A=>hgrow.block b A hb.1.2) (fun _ _ h=>h.2)
theorem B5 {w:World} {g:Nat} {cur:Array Value} {E:TypeId} {n:Nat} {ys:List Value} (hg:w.heap[g]?=some (.cells cur E (0,0))) (ht:cur.toList.take n=ys) {j:Nat} {u:Value} (hu:ys[j]?=some u):w.cell? ⟨g,j,none⟩=some u:=by
 rw [Qk w g j cur E (0,0) hg]
 rw [← ht,List.getElem?_take] at hu
 split at hu
 ·simpa using hu
 cases hu
theorem Own.sl {T:Type} {r:Rd T} {E:TypeId} {S S':Nat→Prop} {B:Nat} {w:World} {v:Value} {xs:List T} {css:List (List Value)} (h:Own r E S B w v xs css) (hl:xs.length≤1000000)
  (h1:∀ b,B≤b→S' b) (h2:∀ b,b<w.heap.size→S b→S' b):Sl r S' w v xs:=by
 rcases h.row.2 with ⟨rfl,h0⟩ | ⟨g,cap,A,rfl,hB,hg,_,_,_,ht⟩
 ·rw [Zy h0];exact Sl.nil _ _ _
 refine Sl.of_css (css:=css) hl (h.cs.move (.refl _ _) (fun b hb h=>h2 b hb h.1)) (h1 g hB) (Array.getElem?_eq_some_iff.1 hg).1 (fun j u hu=>?_)
 rw [Nat.zero_add];exact B5 hg ht hu
end Go.Proofs.YtcljcblceodciaaGreatDoor
namespace Go.Proofs
open Go.Shelf
def Tryz.ixRel_ren:Go.Shelf.Ren:=⟨fun | 6=>110 | n=>n,fun | 22=>28 | 23=>80 | 25=>137 | 3=>3 | 0=>0 | 4=>4 | n=>n,fun | n=>n⟩
theorem Tryz.ixRel:Go.Proofs.SlLaysH0.n6 Tryz.prog Tryz.ixRel_ren:={
 mixed:=by kernel_rfl
 f6:=⟨Tryz.f110.name,by decide,Tryz.func110.trans (congrArg some (by kernel_rfl))⟩
 t0:=Tryz.underlying0
 a0:=Tryz.isAgg0
 z0:=Tryz.sizeOf0
 v0:=Tryz.zeroValue0
 t3:=Tryz.underlying3
 a3:=Tryz.isAgg3
 z3:=Tryz.sizeOf3
 v3:=Tryz.zeroValue3
 t4:=Tryz.underlying4
 a4:=Tryz.isAgg4
 z4:=Tryz.sizeOf4
 v4:=Tryz.zeroValue4
 t22:=Tryz.underlying28
 a22:=Tryz.isAgg28
 z22:=Tryz.sizeOf28
 v22:=Tryz.zeroValue28
 t25:=Tryz.underlying137
 a25:=Tryz.isAgg137
 z25:=Tryz.sizeOf137
 v25:=Tryz.zeroValue137 }
def Tryz.ixVal_ren:Go.Shelf.Ren:=⟨fun | 6=>56 | n=>n,fun | 22=>34 | 23=>36 | 25=>86 | 3=>3 | 0=>0 | 4=>4 | n=>n,fun | n=>n⟩
theorem Tryz.ixVal:Go.Proofs.SlLaysH0.n6 Tryz.prog Tryz.ixVal_ren:={
 mixed:=by kernel_rfl
 f6:=⟨Tryz.f56.name,by decide,Tryz.func56.trans (congrArg some (by kernel_rfl))⟩
 t0:=Tryz.underlying0
 a0:=Tryz.isAgg0
 z0:=Tryz.sizeOf0
 v0:=Tryz.zeroValue0
 t3:=Tryz.underlying3
 a3:=Tryz.isAgg3
 z3:=Tryz.sizeOf3
 v3:=Tryz.zeroValue3
 t4:=Tryz.underlying4
 a4:=Tryz.isAgg4
 z4:=Tryz.sizeOf4
 v4:=Tryz.zeroValue4
 t22:=Tryz.underlying34
 a22:=Tryz.isAgg34
 z22:=Tryz.sizeOf34
 v22:=Tryz.zeroValue34
 t25:=Tryz.underlying86
 a25:=Tryz.isAgg86
 z25:=Tryz.sizeOf86
 v25:=Tryz.zeroValue86 }
def Tryz.ixSum_ren:Go.Shelf.Ren:=⟨fun | 6=>122 | n=>n,fun | 22=>23 | 23=>73 | 25=>144 | 3=>3 | 0=>0 | 4=>4 | n=>n,fun | n=>n⟩
theorem Tryz.ixSum:Go.Proofs.SlLaysH0.n6 Tryz.prog Tryz.ixSum_ren:={
 mixed:=by kernel_rfl
 f6:=⟨Tryz.f122.name,by decide,Tryz.func122.trans (congrArg some (by kernel_rfl))⟩
 t0:=Tryz.underlying0
 a0:=Tryz.isAgg0
 z0:=Tryz.sizeOf0
 v0:=Tryz.zeroValue0
 t3:=Tryz.underlying3
 a3:=Tryz.isAgg3
 z3:=Tryz.sizeOf3
 v3:=Tryz.zeroValue3
 t4:=Tryz.underlying4
 a4:=Tryz.isAgg4
 z4:=Tryz.sizeOf4
 v4:=Tryz.zeroValue4
 t22:=Tryz.underlying23
 a22:=Tryz.isAgg23
 z22:=Tryz.sizeOf23
 v22:=Tryz.zeroValue23
 t25:=Tryz.underlying144
 a25:=Tryz.isAgg144
 z25:=Tryz.sizeOf144
 v25:=Tryz.zeroValue144 }
def Tryz.ixCtor_ren:Go.Shelf.Ren:=⟨fun | 6=>124 | n=>n,fun | 22=>71 | 23=>70 | 25=>146 | 3=>3 | 0=>0 | 4=>4 | n=>n,fun | n=>n⟩
theorem Tryz.ixCtor:Go.Proofs.SlLaysH0.n6 Tryz.prog Tryz.ixCtor_ren:={
 mixed:=by kernel_rfl
 f6:=⟨Tryz.f124.name,by decide,Tryz.func124.trans (congrArg some (by kernel_rfl))⟩
 t0:=Tryz.underlying0
 a0:=Tryz.isAgg0
 z0:=Tryz.sizeOf0
 v0:=Tryz.zeroValue0
 t3:=Tryz.underlying3
 a3:=Tryz.isAgg3
 z3:=Tryz.sizeOf3
 v3:=Tryz.zeroValue3
 t4:=Tryz.underlying4
 a4:=Tryz.isAgg4
 z4:=Tryz.sizeOf4
 v4:=Tryz.zeroValue4
 t22:=Tryz.underlying71
 a22:=Tryz.isAgg71
 z22:=Tryz.sizeOf71
 v22:=Tryz.zeroValue71
 t25:=Tryz.underlying146
 a25:=Tryz.isAgg146
 z25:=Tryz.sizeOf146
 v25:=Tryz.zeroValue146 }
def Tryz.cfVal_ren:Go.Shelf.Ren:=⟨fun | 8=>80 | 6=>56 | n=>n,fun | 22=>34 | 23=>36 | 25=>86 | 4=>4 | 3=>3 | 0=>0 | n=>n,fun | n=>n⟩
theorem Tryz.cfVal:Go.Proofs.SlLaysH0.n8 Tryz.prog Tryz.cfVal_ren:={
 mixed:=by kernel_rfl
 f6:=⟨Tryz.f56.name,by decide,Tryz.func56.trans (congrArg some (by kernel_rfl))⟩
 f8:=⟨Tryz.f80.name,by decide,Tryz.func80.trans (congrArg some (by kernel_rfl))⟩
 t0:=Tryz.underlying0
 a0:=Tryz.isAgg0
 z0:=Tryz.sizeOf0
 v0:=Tryz.zeroValue0
 t3:=Tryz.underlying3
 a3:=Tryz.isAgg3
 z3:=Tryz.sizeOf3
 v3:=Tryz.zeroValue3
 t4:=Tryz.underlying4
 a4:=Tryz.isAgg4
 z4:=Tryz.sizeOf4
 v4:=Tryz.zeroValue4
 t22:=Tryz.underlying34
 a22:=Tryz.isAgg34
 z22:=Tryz.sizeOf34
 v22:=Tryz.zeroValue34
 t25:=Tryz.underlying86
 a25:=Tryz.isAgg86
 z25:=Tryz.sizeOf86
 v25:=Tryz.zeroValue86 }
def Tryz.cfExpr_ren:Go.Shelf.Ren:=⟨fun | 8=>137 | 6=>169 | n=>n,fun | 22=>44 | 23=>46 | 25=>126 | 4=>4 | 3=>3 | 0=>0 | n=>n,fun | n=>n⟩
theorem Tryz.cfExpr:Go.Proofs.SlLaysH0.n8 Tryz.prog Tryz.cfExpr_ren:={
 mixed:=by kernel_rfl
 f6:=⟨Tryz.f169.name,by decide,Tryz.func169.trans (congrArg some (by kernel_rfl))⟩
 f8:=⟨Tryz.f137.name,by decide,Tryz.func137.trans (congrArg some (by kernel_rfl))⟩
 t0:=Tryz.underlying0
 a0:=Tryz.isAgg0
 z0:=Tryz.sizeOf0
 v0:=Tryz.zeroValue0
 t3:=Tryz.underlying3
 a3:=Tryz.isAgg3
 z3:=Tryz.sizeOf3
 v3:=Tryz.zeroValue3
 t4:=Tryz.underlying4
 a4:=Tryz.isAgg4
 z4:=Tryz.sizeOf4
 v4:=Tryz.zeroValue4
 t22:=Tryz.underlying44
 a22:=Tryz.isAgg44
 z22:=Tryz.sizeOf44
 v22:=Tryz.zeroValue44
 t25:=Tryz.underlying126
 a25:=Tryz.isAgg126
 z25:=Tryz.sizeOf126
 v25:=Tryz.zeroValue126 }
def Tryz.clVal_ren:Go.Shelf.Ren:=⟨fun | 41=>55 | n=>n,fun | 22=>34 | 23=>36 | 4=>4 | n=>n,fun | n=>n⟩
theorem Tryz.clVal:Go.Proofs.SlLaysE0.n41 Tryz.prog Tryz.clVal_ren:={
 mixed:=by kernel_rfl
 f41:=⟨Tryz.f55.name,by decide,Tryz.func55.trans (congrArg some (by kernel_rfl))⟩
 t4:=Tryz.underlying4
 a4:=Tryz.isAgg4
 z4:=Tryz.sizeOf4
 v4:=Tryz.zeroValue4
 t22:=Tryz.underlying34
 a22:=Tryz.isAgg34
 z22:=Tryz.sizeOf34
 v22:=Tryz.zeroValue34 }
def Tryz.clCol_ren:Go.Shelf.Ren:=⟨fun | 41=>66 | n=>n,fun | 22=>42 | 23=>76 | 4=>4 | n=>n,fun | n=>n⟩
theorem Tryz.clCol:Go.Proofs.SlLaysE0.n41 Tryz.prog Tryz.clCol_ren:={
 mixed:=by kernel_rfl
 f41:=⟨Tryz.f66.name,by decide,Tryz.func66.trans (congrArg some (by kernel_rfl))⟩
 t4:=Tryz.underlying4
 a4:=Tryz.isAgg4
 z4:=Tryz.sizeOf4
 v4:=Tryz.zeroValue4
 t22:=Tryz.underlying42
 a22:=Tryz.isAgg42
 z22:=Tryz.sizeOf42
 v22:=Tryz.zeroValue42 }
def Tryz.clStr_ren:Go.Shelf.Ren:=⟨fun | 41=>73 | n=>n,fun | 22=>33 | 23=>9 | 4=>4 | n=>n,fun | n=>n⟩
theorem Tryz.clStr:Go.Proofs.SlLaysE0.n41 Tryz.prog Tryz.clStr_ren:={
 mixed:=by kernel_rfl
 f41:=⟨Tryz.f73.name,by decide,Tryz.func73.trans (congrArg some (by kernel_rfl))⟩
 t4:=Tryz.underlying4
 a4:=Tryz.isAgg4
 z4:=Tryz.sizeOf4
 v4:=Tryz.zeroValue4
 t22:=Tryz.underlying33
 a22:=Tryz.isAgg33
 z22:=Tryz.sizeOf33
 v22:=Tryz.zeroValue33 }
def Tryz.clRel_ren:Go.Shelf.Ren:=⟨fun | 41=>128 | n=>n,fun | 22=>28 | 23=>80 | 4=>4 | n=>n,fun | n=>n⟩
theorem Tryz.clRel:Go.Proofs.SlLaysE0.n41 Tryz.prog Tryz.clRel_ren:={
 mixed:=by kernel_rfl
 f41:=⟨Tryz.f128.name,by decide,Tryz.func128.trans (congrArg some (by kernel_rfl))⟩
 t4:=Tryz.underlying4
 a4:=Tryz.isAgg4
 z4:=Tryz.sizeOf4
 v4:=Tryz.zeroValue4
 t22:=Tryz.underlying28
 a22:=Tryz.isAgg28
 z22:=Tryz.sizeOf28
 v22:=Tryz.zeroValue28 }
def Tryz.clRef_ren:Go.Shelf.Ren:=⟨fun | 41=>74 | n=>n,fun | 22=>43 | 23=>61 | 4=>4 | n=>n,fun | n=>n⟩
theorem Tryz.clRef:Go.Proofs.SlLaysE0.n41 Tryz.prog Tryz.clRef_ren:={
 mixed:=by kernel_rfl
 f41:=⟨Tryz.f74.name,by decide,Tryz.func74.trans (congrArg some (by kernel_rfl))⟩
 t4:=Tryz.underlying4
 a4:=Tryz.isAgg4
 z4:=Tryz.sizeOf4
 v4:=Tryz.zeroValue4
 t22:=Tryz.underlying43
 a22:=Tryz.isAgg43
 z22:=Tryz.sizeOf43
 v22:=Tryz.zeroValue43 }
def Tryz.clByte_ren:Go.Shelf.Ren:=⟨fun | 41=>167 | n=>n,fun | 22=>124 | 23=>5 | 4=>4 | n=>n,fun | n=>n⟩
theorem Tryz.clByte:Go.Proofs.SlLaysE0.n41 Tryz.prog Tryz.clByte_ren:={
 mixed:=by kernel_rfl
 f41:=⟨Tryz.f167.name,by decide,Tryz.func167.trans (congrArg some (by kernel_rfl))⟩
 t4:=Tryz.underlying4
 a4:=Tryz.isAgg4
 z4:=Tryz.sizeOf4
 v4:=Tryz.zeroValue4
 t22:=Tryz.underlying124
 a22:=Tryz.isAgg124
 z22:=Tryz.sizeOf124
 v22:=Tryz.zeroValue124 }
end Go.Proofs

