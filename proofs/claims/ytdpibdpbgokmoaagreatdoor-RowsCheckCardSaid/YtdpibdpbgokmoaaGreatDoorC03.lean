import Derived.Test.YtdpibdpbgokmoaaGreatDoorC01
import Derived.Test.YtdpibdpbgokmoaaGreatDoorProg
set_option maxRecDepth 100000
set_option maxHeartbeats 400000000
namespace Go.Proofs.YtdpibdpbgokmoaaGreatDoor
open Go.RowKit
theorem Ei (x:Int) (w:World):Calls Tryz.prog 149 #[x] w fun e w'=>e=.returned (.bool false)∧w=w':=by
 go_enter Tryz.func149,Tryz.ntmps149
 go_wp2
 go_ret
 exact ⟨Qqk,rfl⟩
theorem Eh (x y:Int) (w:World):Calls Tryz.prog 101 #[x,y] w fun e w'=>e=.returned (.int .i64 (ord x y))∧w=w':=by
 have key:∀ r,ord x y=r→Calls Tryz.prog 101 #[x,y] w fun e w'=>e=.returned (.int .i64 r)∧w=w':=by
  intro r A
  by_cases h1:x<y
  ·have:r=-1:=by rw [← A];unfold ord;rw [if_pos h1]
   subst this
   clear A
   go_enter Tryz.func101,Tryz.ntmps101
   go_wp2_with (go_at_call 149;refine (Ei _ _).mono ?_;rintro e w' ⟨rfl,rfl⟩)
   go_ret
   exact ⟨rfl,rfl⟩
  by_cases h2:y<x
  ·have:r=1:=by rw [← A];unfold ord;rw [if_neg h1,if_pos h2]
   subst this
   clear A
   go_enter Tryz.func101,Tryz.ntmps101
   go_wp2_with (go_at_call 149;refine (Ei _ _).mono ?_;rintro e w' ⟨rfl,rfl⟩)
   go_ret
   exact ⟨rfl,rfl⟩
  have:r=0:=by rw [← A];unfold ord;rw [if_neg h1,if_neg h2]
  subst this
  clear A
  go_enter Tryz.func101,Tryz.ntmps101
  go_wp2_with (go_at_call 149;refine (Ei _ _).mono ?_;rintro e w' ⟨rfl,rfl⟩)
  go_ret
  exact ⟨rfl,rfl⟩
 exact key _ rfl
end Go.Proofs.YtdpibdpbgokmoaaGreatDoor
namespace Go.Proofs
open Go.Shelf
open Go.RowKit in
def Tryz.lays106_ren:Go.Shelf.Ren:=⟨fun | 106=>79 | 213=>110 | 265=>157 | n=>n,fun | 9=>9 | 3=>3 | n=>n,fun | n=>n⟩
theorem Tryz.lays106:Go.Proofs.Lays.n106 Tryz.prog Tryz.lays106_ren:={
 mixed:=by kernel_rfl
 f106:=Tryz.func79.trans (congrArg some (by kernel_rfl))
 f213:=Tryz.func110.trans (congrArg some (by kernel_rfl))
 f265:=Tryz.func157.trans (congrArg some (by kernel_rfl))
 t3:=Tryz.underlying3
 a3:=Tryz.isAgg3
 z3:=Tryz.sizeOf3
 v3:=Tryz.zeroValue3
 t9:=Tryz.underlying9
 a9:=Tryz.isAgg9
 z9:=Tryz.sizeOf9
 v9:=Tryz.zeroValue9 }
open Go.RowKit in
theorem Tryz.strings_Compare (a b:ByteArray) (w:World):
  Calls Tryz.prog 79 #[.string a,.string b] w fun e w'=>e=.returned (.int .i64 (Lib.compareBytes a.data.toList b.data.toList))∧w'=w:=Any.strings_Compare Tryz.lays106 a b w
end Go.Proofs
namespace Go.Proofs.YtdpibdpbgokmoaaGreatDoor
open Go.RowKit
theorem cmpB_lib (a b:Bs):Lib.compareBytes a b=Yf a b:=by
 induction a generalizing b with
 | nil=>cases b <;> rfl
 | cons x s ih=>
  cases b with
  | nil=>rfl
  | cons y t=>
   have A:x<y↔(x.toNat:Int)<y.toNat:=by rw [UInt8.lt_iff_toNat_lt];omega
   have h2:y<x↔(y.toNat:Int)<x.toNat:=by rw [UInt8.lt_iff_toNat_lt];omega
   show (if x<y then -1 else if y<x then 1 else Lib.compareBytes s t)=thn (ord x.toNat y.toNat) (Yf s t)
   by_cases a1:x<y
   ·have e:ord x.toNat y.toNat=-1:=by unfold ord;rw [if_pos (A.1 a1)]
    rw [if_pos a1,e];rfl
   rw [if_neg a1]
   by_cases a2:y<x
   ·have e:ord x.toNat y.toNat=1:=by unfold ord;rw [if_neg (fun h=>a1 (A.2 h)),if_pos (h2.1 a2)]
    rw [if_pos a2,e];rfl
   have e:ord x.toNat y.toNat=0:=by unfold ord;rw [if_neg (fun h=>a1 (A.2 h)),if_neg (fun h=>a2 (h2.2 h))]
   rw [if_neg a2,e,ih t];rfl
theorem Nt (a b:ByteArray) (w:World):Calls Tryz.prog 79 #[.string a,.string b] w fun e w'=>e=.returned (.int .i64 (Yf (bl a) (bl b)))∧w=w':=by
 refine (Tryz.strings_Compare a b w).mono ?_
 rintro e w' ⟨rfl,rfl⟩
 exact ⟨by rw [cmpB_lib],rfl⟩
theorem Ed (x:ByteArray) (w:World):Calls Tryz.prog 172 #[.string x] w fun e w'=>e=.returned (.bool false)∧w=w':=by
 go_enter Tryz.func172,Tryz.ntmps172
 go_wp2
 go_ret
 exact ⟨Qqk,rfl⟩
theorem Vi (a b:Bs):Op.bytesLess a b=decide (Yf a b<0)∧((a==b)=decide (Yf a b=0))∧(Yf a b=-1∨Yf a b=0∨Yf a b=1):=by
 induction a generalizing b with
 | nil=>cases b <;> simp [Op.bytesLess,Yf]
 | cons x s ih=>
  cases b with
  | nil=>simp [Op.bytesLess,Yf]
  | cons y t=>
   obtain ⟨i1,i2,i3⟩:=ih t
   have D:x<y↔(x.toNat:Int)<y.toNat:=by rw [UInt8.lt_iff_toNat_lt];omega
   have G:y<x↔(y.toNat:Int)<x.toNat:=by rw [UInt8.lt_iff_toNat_lt];omega
   have I:x=y↔(x.toNat:Int)=y.toNat:=⟨fun h=>by rw [h],fun h=>UInt8.toNat_inj.1 Qqj⟩
   simp only [Op.bytesLess,Yf,List.cons_beq_cons]
   by_cases a1:x<y
   ·have e:ord x.toNat y.toNat=-1:=by unfold ord;rw [if_pos (D.1 a1)]
    have A:(x==y)=false:=by rw [← Qt,beq_iff_eq,I];have:=D.1 a1;omega
    simp [e,thn,a1,A]
   by_cases a2:y<x
   ·have e:ord x.toNat y.toNat=1:=by unfold ord;rw [if_neg (fun h=>a1 (D.2 h)),if_pos (G.1 a2)]
    have A:(x==y)=false:=by rw [← Qt,beq_iff_eq,I];have:=G.1 a2;omega
    simp [e,thn,a1,A]
   have n1:¬ ((x.toNat:Int)<y.toNat):=fun h=>a1 (D.2 h)
   have n2:¬ ((y.toNat:Int)<x.toNat):=fun h=>a2 (G.2 h)
   have J:x=y:=by rw [I];omega
   subst J
   simp [Ul,thn,i1,i2,i3]
theorem Dp (x:ByteArray):x.toList=bl x:=Lib.toList_data x
theorem As (x y:ByteArray) (w:World):Calls Tryz.prog 150 #[.string x,.string y] w fun e w'=>e=.returned (.int .i64 (Yf (bl x) (bl y)))∧w=w':=by
 obtain ⟨A,D,G⟩:=Vi (bl x) (bl y)
 obtain ⟨g1,g2,g3⟩:=Vi (bl y) (bl x)
 have I:Yf (bl x) (bl y)=- Yf (bl y) (bl x):=by
  have:=Vs (bl x) (bl y) [] []
  have h:=Vs (bl y) (bl x) [] []
  simp only [List.append_nil,lex,Kw] at this h
  rw [← this,← h];exact D8 _ _
 rw [← Dp x,← Dp y] at A D G g1 g2 g3 I ⊢
 obtain ⟨c,J⟩:=eX (Yf x.toList y.toList)
 rw [J] at A D G I ⊢
 have HC:=Qq J
 clear J I g1 g2 g3
 rcases G with G | G | G <;> subst G
 ·have k1:Op.bytesLess x.toList y.toList=true:=A.trans Qqx
  have k2:(x.toList==y.toList)=false:=D.trans Qqx
  clear A D
  go_enter Tryz.func150,Tryz.ntmps150
  go_wp2_with (go_at_call 172;refine (Ed _ _).mono ?_;rintro e w' ⟨rfl,rfl⟩)
  go_ret
  exact ⟨rfl,rfl⟩
 ·have k1:Op.bytesLess x.toList y.toList=false:=A.trans Qqx
  have k2:(x.toList==y.toList)=true:=D.trans Qqx
  clear A D
  go_enter Tryz.func150,Tryz.ntmps150
  go_wp2_with (go_at_call 172;refine (Ed _ _).mono ?_;rintro e w' ⟨rfl,rfl⟩)
  go_ret
  exact ⟨rfl,rfl⟩
 have k1:Op.bytesLess x.toList y.toList=false:=A.trans Qqx
 have k2:(x.toList==y.toList)=false:=D.trans Qqx
 clear A D
 go_enter Tryz.func150,Tryz.ntmps150
 go_wp2_with (go_at_call 172;refine (Ed _ _).mono ?_;rintro e w' ⟨rfl,rfl⟩)
 go_ret
 exact ⟨rfl,rfl⟩
theorem Sl.str {S:Nat→Prop} {w:World} {p:Option Addr} {n cap:Nat} {xs:List Bs} (h:Sl Zh S w (.slice p n cap) xs) {i:Nat} {x:Bs} (hx:xs[i]?=some x):
  ∃ b off,p=some ⟨b,off,none⟩∧Qqa w b (off+i) x∧x.length≤1000000:=by
 obtain ⟨p',c',h1,_,h3⟩:=h
 simp only [Qr] at h1
 obtain ⟨rfl,_,_⟩:=h1
 obtain ⟨b,off,e,_,_,hc⟩:=h3 (by intro e;subst e;simp at hx)
 obtain ⟨cs,h4,h5,h6⟩:=hc i x hx
 refine ⟨b,off,e,?_,h6⟩
 have:=h4 0 (sv x) (by rw [h5];rfl)
 rwa [Nat.add_zero,show Zh.k=1 from rfl,Nat.mul_one] at this
theorem cmpN_any (S:Nat→Prop) (av bv:Value) (a b:List Bs) (w:World) (ha:Sl Zh S w av a) (hb:Sl Zh S w bv b):
  Calls Tryz.prog 102 #[av,bv] w fun e w'=>e=.returned (.int .i64 (Ky a b))∧w=w':=by
 obtain ⟨pa,ca,rfl,aE⟩:=ha.len
 obtain ⟨pb,cb,rfl,aF⟩:=hb.len
 have HA:=Qq ha;have HB:=Qq hb
 obtain ⟨r,hr⟩:=eX (Ky a b)
 rw [hr]
 have HR:=Qq hr
 clear ha hb hr
 go_enter Tryz.func102,Tryz.ntmps102
 go_wp2_with fail
 go_loop [11] (fun i=>∃ k:Nat,k≤a.length∧k≤b.length∧i=.int .i64 k∧Ky (a.drop k) (b.drop k)=r) (fun i=>a.length - (intOf i).toNat)
 case atStart=>exact ⟨0,Q8 _,Q8 _,rfl,HR.out⟩
 obtain ⟨k,aC,aD,rfl,G⟩:=hrel
 by_cases hlt:k<a.length
 ·obtain ⟨x,N⟩:∃ x,a[k]?=some x:=⟨_,Qx hlt⟩
  have A:a.drop k=x::a.drop (k+1):=by
   rw [Qp hlt];rw [Qx hlt] at N;cases N;rfl
  obtain ⟨ga,oa,rfl,c1,l1⟩:=HA.out.str N
  by_cases hlb2:k<b.length
  ·obtain ⟨y,O⟩:∃ y,b[k]?=some y:=⟨_,Qx hlb2⟩
   have D:b.drop k=y::b.drop (k+1):=by
    rw [Qp hlb2];rw [Qx hlb2] at O;cases O;rfl
   obtain ⟨gb,ob,rfl,c2,l2⟩:=HB.out.str O
   rw [A,D] at G
   have U:=Qq (As ⟨x.toArray⟩ ⟨y.toArray⟩)
   have M:Yf (bl ⟨x.toArray⟩) (bl ⟨y.toArray⟩)=Yf x y:=rfl
   rw [M] at U
   have I:thn (Yf x y) (Ky (a.drop (k+1)) (b.drop (k+1)))=r:=G
   generalize Yf x y=c at U I
   have Y:(0:Int)≤(k:Int):=Qqj
   have Z:(k:Int)<a.length:=Qqj
   have aB:(k:Int)<b.length:=Qqj
   have hq:decide (b.length≤k)=false:=by simp;omega
   by_cases hc0:c=0
   ·subst hc0
    have HC:=Qq I
    clear G I A D N O M
    go_wp2_with (go_at_call 150;refine (U.out _).mono ?_;rintro e w' ⟨rfl,rfl⟩)
    go_round
    case rel=>exact ⟨k+1,Qqj,Qqj,by go_num,HC.out⟩
    case measure=>simp [intOf];omega
   have aG:(c != 0)=true:=by rw [bne_iff_ne];exact hc0
   have V:c=r:=by rw [← I];unfold thn;rw [if_neg hc0]
   subst V
   clear G I A D N O M hc0
   go_wp2_with (go_at_call 150;refine (U.out _).mono ?_;rintro e w' ⟨rfl,rfl⟩)
   go_ret
   exact ⟨rfl,rfl⟩
  have D:b.drop k=[]:=Qu Qqj
  rw [A,D] at G
  have J:r=1:=by rw [← G];rfl
  subst J
  have Y:(0:Int)≤(k:Int):=Qqj
  have Z:(k:Int)<a.length:=Qqj
  have hq:decide (b.length≤k)=true:=by simp;omega
  clear G A D N
  go_wp2_with fail
  go_ret
  exact ⟨rfl,rfl⟩
 have A:a.drop k=[]:=Qu Qqj
 rw [A] at G
 by_cases hlb2:a.length<b.length
 ·obtain ⟨y,t,T⟩:∃ y t,b.drop k=y::t:=by
   have:(b.drop k).length≠0:=by rw [Zq];omega
   cases hd:b.drop k with
   | nil=>rw [hd] at this;exact absurd rfl this
   | cons y t=>exact ⟨y,t,rfl⟩
  rw [T] at G
  have J:r=-1:=by rw [← G];rfl
  subst J
  clear G A T
  go_wp2_with fail
  go_ret
  exact ⟨rfl,rfl⟩
 have D:b.drop k=[]:=Qu Qqj
 rw [D] at G
 have J:r=0:=by rw [← G];rfl
 subst J
 clear G A D
 go_wp2_with fail
 go_ret
 exact ⟨rfl,rfl⟩
theorem _root_.Go.RowKit.Below.thn {B:Nat} {a b c:World} (h:Below B a b) (k:Below b b c) (hB:B≤a.heap.size:=by exact Q9 _):Below B a c:=h.trans (k.mono (Qc hB h.size))
theorem Zg (w:World) (o:Obj):Below w w (w.alloc o):=(Qz _ _).alloc (Q9 _) _
theorem Zt (w:World) (o p:Obj):Below w w ((w.alloc o).alloc p):=(Zg w o).alloc (Zg w o).size _
def Gr (w w':World):Prop:=∃ q os,w'=Sort.grow (w.drewN q) os
theorem Gr.refl (w:World):Gr w w:=⟨0,#[],by rw [Sort.grow_empty];rfl⟩
theorem Gr.thn {a b c:World} (h:Gr a b) (k:Gr b c):Gr a c:=by
 obtain ⟨q,os,rfl⟩:=h
 obtain ⟨q',A,rfl⟩:=k
 refine ⟨q+q',os++A,?_⟩
 show Sort.grow (Sort.grow ((a.drewN q).drewN q') os) A=_
 rw [Sort.grow_grow,World.drewN_drewN]
theorem Gr.alloc {a b:World} (h:Gr a b) (o:Obj):Gr a (b.alloc o):=h.thn ⟨0,#[o],by rw [Sort.alloc_eq_grow];rfl⟩
theorem gal1 (w:World) (o:Obj):Gr w (w.alloc o):=(Gr.refl w).alloc o
theorem Vo (w:World) (o p:Obj):Gr w ((w.alloc o).alloc p):=(gal1 w o).alloc p
theorem Gr.bl {w w':World} (h:Gr w w'):Below w w w':=by
 obtain ⟨q,os,rfl⟩:=h
 refine ⟨rfl,rfl,rfl,by simp [Sort.grow],fun k hk=>?_⟩
 show (w.heap++os)[k]?=_
 rw [Array.getElem?_append_left hk]
def Tc (x:Val):Prop:=∀ (y:Val) (S:Nat→Prop) (cx cy:List Value) (w:World),Z9 S w cx x→Z9 S w cy y →
 Calls Tryz.prog 61 #[cx,cy] w fun e w'=>e=.returned (.int .i64 (Yz x y))∧Gr w w'
def vcs (x:Val) (p3:Option Addr) (k3:Nat) (p4:Option Addr) (k4:Nat):List Value:=[.int .i64 x.kind,.int .i64 x.n,.string ⟨x.s.toArray⟩,.slice p3 x.names.length k3,.slice p4 x.kids.length k4]
def Qqg (_ : Val) (_ : Option Addr) (_ : Nat) (_ : Option Addr) (_ : Nat) : Qzv := ⟨0⟩
instance Qqg_l {v : Val} {p : Option Addr} {a : Nat} {q : Option Addr} {b : Nat} : CoeDep Qzv (Qqg v p a q b) (List Value) := ⟨[.int .i64 v.kind, .int .i64 v.n, .string ⟨v.s.toArray⟩, .slice p v.names.length a, .slice q v.kids.length b]⟩
instance Qqg_a {v : Val} {p : Option Addr} {a : Nat} {q : Option Addr} {b : Nat} : CoeDep Qzv (Qqg v p a q b) (Array Value) := ⟨#[.int .i64 v.kind, .int .i64 v.n, .string ⟨v.s.toArray⟩, .slice p v.names.length a, .slice q v.kids.length b]⟩
def Qql (_ _ : Value) (_ : Val) (_ : Option Addr) (_ : Nat) (_ : Option Addr) (_ : Nat) (_ : Val) (_ : Option Addr) (_ : Nat) (_ : Option Addr) (_ : Nat) : Qzv := ⟨0⟩
instance Qql_l {c f : Value} {v : Val} {p : Option Addr} {a : Nat} {q : Option Addr} {b : Nat} {u : Val} {r : Option Addr} {d : Nat} {t : Option Addr} {e : Nat} : CoeDep Qzv (Qql c f v p a q b u r d t e) (List Value) := ⟨[c, f, .int .i64 v.kind, .int .i64 v.n, .string ⟨v.s.toArray⟩, .slice p v.names.length a, .slice q v.kids.length b, .int .i64 u.kind, .int .i64 u.n, .string ⟨u.s.toArray⟩, .slice r u.names.length d, .slice t u.kids.length e]⟩
instance Qql_a {c f : Value} {v : Val} {p : Option Addr} {a : Nat} {q : Option Addr} {b : Nat} {u : Val} {r : Option Addr} {d : Nat} {t : Option Addr} {e : Nat} : CoeDep Qzv (Qql c f v p a q b u r d t e) (Array Value) := ⟨#[c, f, .int .i64 v.kind, .int .i64 v.n, .string ⟨v.s.toArray⟩, .slice p v.names.length a, .slice q v.kids.length b, .int .i64 u.kind, .int .i64 u.n, .string ⟨u.s.toArray⟩, .slice r u.names.length d, .slice t u.kids.length e]⟩
theorem Z9.cells {S:Nat→Prop} {w:World} {cs:List Value} {x:Val} (h:Z9 S w cs x):∃ p3 k3 p4 k4,cs=vcs x p3 k3 p4 k4∧Sl Zh S w (.slice p3 x.names.length k3) x.names∧Sl Ze S w (.slice p4 x.kids.length k4) x.kids∧x.s.length≤1000000:=by
 obtain ⟨k,n,s,names,kids⟩:=x
 obtain ⟨nv,kv,rfl,hs,hn,hk⟩:=Vn.1 h
 obtain ⟨p3,k3,rfl,_⟩:=hn.len
 obtain ⟨p4,k4,rfl,_⟩:=hk.len
 exact ⟨p3,k3,p4,k4,rfl,hn,hk,hs⟩
theorem Sl.val {S:Nat→Prop} {w:World} {p:Option Addr} {n cap:Nat} {xs:List Val} (h:Sl Ze S w (.slice p n cap) xs) {i:Nat} {x:Val} (hx:xs[i]?=some x):
  ∃ b off p3 k3 p4 k4,p=some ⟨b,off,none⟩∧b<w.heap.size∧Z9 S w (vcs x p3 k3 p4 k4) x∧Qqa w b (off+i*5) x.kind∧Qqa w b (off+i*5+1) x.n∧Qqa w b (off+i*5+2) x.s ∧
   Qqa w b (off+i*5+3) (.slice p3 x.names.length k3)∧Qqa w b (off+i*5+4) (.slice p4 x.kids.length k4):=by
 obtain ⟨p',c',h1,_,h3⟩:=h
 simp only [Qr] at h1
 obtain ⟨rfl,_,_⟩:=h1
 obtain ⟨b,off,e,_,hb,hc⟩:=h3 (by intro e;subst e;simp at hx)
 obtain ⟨cs,A,h5⟩:=hc i x hx
 obtain ⟨p3,k3,p4,k4,rfl,_⟩:=Z9.cells h5
 exact ⟨b,off,p3,k3,p4,k4,e,hb,h5,A 0 _ rfl,A 1 _ rfl,A 2 _ rfl,A 3 _ rfl,A 4 _ rfl⟩
theorem cmpVs_of (S:Nat→Prop) (av bv:Value) (a b:List Val) (hC:∀ x ∈ a,Tc x) (w:World) (ha:Sl Ze S w av a) (hb:Sl Ze S w bv b):
  Calls Tryz.prog 103 #[av,bv,.func (.func 61) #[] #[]] w fun e w'=>e=.returned (.int .i64 (Vy a b))∧Gr w w':=by
 obtain ⟨pa,ca,rfl,aM⟩:=ha.len
 obtain ⟨pb,cb,rfl,aN⟩:=hb.len
 obtain ⟨HA,HB,HC⟩:=Qqo ha hb hC
 obtain ⟨r,hr⟩:=eX (Vy a b)
 rw [hr]
 have HR:=Qq hr
 clear ha hb hr hC
 go_enter Tryz.func103,Tryz.ntmps103
 go_wp2_with fail
 go_loopw [13] (fun i wr=>∃ k:Nat,k≤a.length∧k≤b.length∧i=.int .i64 k∧Vy (a.drop k) (b.drop k)=r∧Gr w wr) (fun i _=>a.length - (intOf i).toNat)
 case atStart=>exact ⟨0,Q8 _,Q8 _,rfl,HR.out,Gr.refl _⟩
 obtain ⟨k,aK,aL,rfl,I,U⟩:=hrel
 have G:=Qq U
 clear U
 by_cases hlt:k<a.length
 ·obtain ⟨x,O⟩:∃ x,a[k]?=some x:=⟨_,Qx hlt⟩
  have A:a.drop k=x::a.drop (k+1):=by
   rw [Qp hlt];rw [Qx hlt] at O;cases O;rfl
  obtain ⟨ga,oa,p3,k3,p4,k4,rfl,aH,N,d0,d1,d2,d3,d4⟩:=(HA.out.below G.out.bl).val O
  by_cases hlb2:k<b.length
  ·obtain ⟨y,Z⟩:∃ y,b[k]?=some y:=⟨_,Qx hlb2⟩
   have D:b.drop k=y::b.drop (k+1):=by
    rw [Qp hlb2];rw [Qx hlb2] at Z;cases Z;rfl
   obtain ⟨gb,ob,q3,l3,q4,l4,rfl,aI,V,e0,e1,e2,e3,e4⟩:=(HB.out.below G.out.bl).val Z
   rw [A,D] at I
   have J:thn (Yz x y) (Vy (a.drop (k+1)) (b.drop (k+1)))=r:=I
   have HX:=Qq (HC.out x (Qy O) y S)
   have aB:=Qq N;have aC:=Qq V
   generalize Yz x y=c at HX J
   have aE:(0:Int)≤(k:Int):=Qqj
   have aF:(k:Int)<a.length:=Qqj
   have aJ:(k:Int)<b.length:=Qqj
   have hq:decide (b.length≤k)=false:=by simp;omega
   clear N V I A D O Z
   go_wp2_with fail
   refine (HX.out (vcs x p3 k3 p4 k4) (vcs y q3 l3 q4 l4) _ (aB.out.move (.of_below (Zt _ _ _)) Qzx) (aC.out.move (.of_below (Zt _ _ _)) Qzx)).mono ?_
   rintro e w' ⟨rfl,hw⟩
   have T:=Qq (G.out.thn ((Vo wr _ _).thn hw))
   clear hw
   by_cases hc0:c=0
   ·subst hc0
    have aA:=Qq J
    clear J
    go_wp2_with fail
    go_roundw
    case rel=>exact ⟨k+1,Qqj,Qqj,by go_num,aA.out,T.out⟩
    case measure=>simp [intOf];omega
   have aO:(c != 0)=true:=by rw [bne_iff_ne];exact hc0
   have aD:c=r:=by rw [← J];unfold thn;rw [if_neg hc0]
   subst aD
   clear J hc0
   go_wp2_with fail
   go_ret
   exact ⟨rfl,T.out⟩
  have D:b.drop k=[]:=Qu Qqj
  rw [A,D] at I
  have M:r=1:=by rw [← I];rfl
  subst M
  have aE:(0:Int)≤(k:Int):=Qqj
  have aF:(k:Int)<a.length:=Qqj
  have hq:decide (b.length≤k)=true:=by simp;omega
  clear I A D O N
  go_wp2_with fail
  go_ret
  exact ⟨rfl,G.out.thn (gal1 _ _)⟩
 have A:a.drop k=[]:=Qu Qqj
 rw [A] at I
 by_cases hlb2:a.length<b.length
 ·obtain ⟨y,t,Y⟩:∃ y t,b.drop k=y::t:=by
   have:(b.drop k).length≠0:=by rw [Zq];omega
   cases hd:b.drop k with
   | nil=>rw [hd] at this;exact absurd rfl this
   | cons y t=>exact ⟨y,t,rfl⟩
  rw [Y] at I
  have M:r=-1:=by rw [← I];rfl
  subst M
  clear I A Y
  go_wp2_with fail
  go_ret
  exact ⟨rfl,G.out⟩
 have D:b.drop k=[]:=Qu Qqj
 rw [D] at I
 have M:r=0:=by rw [← I];rfl
 subst M
 clear I A D
 go_wp2_with fail
 go_ret
 exact ⟨rfl,G.out⟩
theorem cmpAt_of (k n:Int) (s:Bs) (ns:List Bs) (ks:List Val) (ih:∀ x ∈ ks,Tc x):Tc (.mk k n s ns ks):=by
 rintro ⟨Z,M,O,D,A⟩ S cx cy w hx hy
 obtain ⟨nv,kv,rfl,hs,hn,hk⟩:=Vn.1 hx
 obtain ⟨aF,aE,rfl,aM,aD,aC⟩:=Vn.1 hy
 have hN:∀ w',Below w w w'→Calls Tryz.prog 102 #[nv,aF] w' fun e U=>e=.returned (.int .i64 (Ky ns D))∧w'=U:=
  fun w' hb=>cmpN_any S nv aF ns D w' (hn.below hb) (aD.below hb)
 have hK:∀ w',Below w w w'→Calls Tryz.prog 103 #[kv,aE,.func (.func 61) #[] #[]] w' fun e U=>e=.returned (.int .i64 (Vy ks A))∧Gr w' U:=
  fun w' hb=>cmpVs_of S kv aE ks A ih w' (hk.below hb) (aC.below hb)
 have hS:∀ w',Calls Tryz.prog 79 #[sv s,sv O] w' fun e U=>e=.returned (.int .i64 (Yf s O))∧w'=U:=fun w'=>Nt _ _ w'
 obtain ⟨HN,HK,HS⟩:=Qqo hN hK hS
 obtain ⟨cb,I⟩:=eX (Yf s O)
 obtain ⟨cn,J⟩:=eX (Ky ns D)
 obtain ⟨cv,G⟩:=eX (Vy ks A)
 rw [I] at HS;rw [J] at HN;rw [G] at HK
 have aL:=Qq (fun o1 o2=>Zt w o1 o2)
 clear hN hK hS hx hy ih hn aD hk aC
 by_cases hkk:k=Z
 ·subst hkk
  by_cases h0:k=0
  ·subst h0
   rw [show Yz (.mk 0 n s ns ks) (.mk 0 M O D A)=ord n M by simp [Yz]]
   have V:=Qq (fun w=>Eh n M w)
   generalize ord n M=r at V ⊢
   clear I J G
   go_enter Tryz.func61,Tryz.ntmps61
   go_wp2_with (go_at_call 101;refine (V.out _).mono ?_;rintro e w' ⟨rfl,rfl⟩)
   go_ret
   exact ⟨rfl,Vo _ _ _⟩
  by_cases h2:k=2
  ·subst h2
   rw [show Yz (.mk 2 n s ns ks) (.mk 2 M O D A)=ord n M by simp [Yz]]
   have V:=Qq (fun w=>Eh n M w)
   generalize ord n M=r at V ⊢
   clear I J G h0
   go_enter Tryz.func61,Tryz.ntmps61
   go_wp2_with (go_at_call 101;refine (V.out _).mono ?_;rintro e w' ⟨rfl,rfl⟩)
   go_ret
   exact ⟨rfl,Vo _ _ _⟩
  by_cases h1:k=1
  ·subst h1
   rw [show Yz (.mk 1 n s ns ks) (.mk 1 M O D A)=cb by simp [Yz,I]]
   clear I J G h0 h2
   go_enter Tryz.func61,Tryz.ntmps61
   go_wp2_with (go_at_call 79;refine (HS.out _).mono ?_;rintro e w' ⟨rfl,rfl⟩)
   go_ret
   exact ⟨rfl,Vo _ _ _⟩
  by_cases h3:k=3
  ·subst h3
   have N:Yz (.mk 3 n s ns ks) (.mk 3 M O D A)=thn cb cv:=by simp [Yz,I,G]
   clear I J G h0 h2 h1
   by_cases hz:cb=0
   ·subst hz
    rw [N,Us]
    clear N
    go_enter Tryz.func61,Tryz.ntmps61
    go_wp2_with (first | (go_at_call 79;refine (HS.out _).mono ?_;rintro e w' ⟨rfl,rfl⟩) | (go_at_call 103;refine (HK.out _ (Zt _ _ _)).mono ?_;rintro e w' ⟨rfl,Y⟩;have HW:=Qq ((Vo w _ _).thn Y);clear Y))
    go_ret
    exact ⟨rfl,HW.out⟩
   have hq:(cb != 0)=true:=by rw [bne_iff_ne];exact hz
   have T:Yz (.mk 3 n s ns ks) (.mk 3 M O D A)=cb:=by rw [N];unfold thn;rw [if_neg hz]
   rw [T]
   clear N T hz
   go_enter Tryz.func61,Tryz.ntmps61
   go_wp2_with (go_at_call 79;refine (HS.out _).mono ?_;rintro e w' ⟨rfl,rfl⟩)
   go_ret
   exact ⟨rfl,Vo _ _ _⟩
  by_cases h4:k=4
  ·subst h4
   have N:Yz (.mk 4 n s ns ks) (.mk 4 M O D A)=thn cn cv:=by simp [Yz,J,G]
   clear I J G h0 h2 h1 h3
   by_cases hz:cn=0
   ·subst hz
    rw [N,Us]
    clear N
    go_enter Tryz.func61,Tryz.ntmps61
    go_wp2_with (first | (go_at_call 102;refine (HN.out _ (Zt _ _ _)).mono ?_;rintro e w' ⟨rfl,rfl⟩) | (go_at_call 103;refine (HK.out _ (Zt _ _ _)).mono ?_;rintro e w' ⟨rfl,Y⟩;have HW:=Qq ((Vo w _ _).thn Y);clear Y))
    go_ret
    exact ⟨rfl,HW.out⟩
   have hq:(cn != 0)=true:=by rw [bne_iff_ne];exact hz
   have T:Yz (.mk 4 n s ns ks) (.mk 4 M O D A)=cn:=by rw [N];unfold thn;rw [if_neg hz]
   rw [T]
   clear N T hz
   go_enter Tryz.func61,Tryz.ntmps61
   go_wp2_with (go_at_call 102;refine (HN.out _ (Zt _ _ _)).mono ?_;rintro e w' ⟨rfl,rfl⟩)
   go_ret
   exact ⟨rfl,Vo _ _ _⟩
  by_cases h5:k=5
  ·subst h5
   rw [show Yz (.mk 5 n s ns ks) (.mk 5 M O D A)=cv by simp [Yz,G]]
   clear I J G h0 h2 h1 h3 h4
   go_enter Tryz.func61,Tryz.ntmps61
   go_wp2_with (go_at_call 103;refine (HK.out _ (Zt _ _ _)).mono ?_;rintro e w' ⟨rfl,Y⟩;have HW:=Qq ((Vo w _ _).thn Y);clear Y)
   go_ret
   exact ⟨rfl,HW.out⟩
  have N:Yz (.mk k n s ns ks) (.mk k M O D A)=0:=by simp [Yz,h0,h1,h2,h3,h4,h5]
  rw [N]
  have q0:(k==0)=false:=by simpa using h0
  have q1:(k==1)=false:=by simpa using h1
  have q2:(k==2)=false:=by simpa using h2
  have q3:(k==3)=false:=by simpa using h3
  have q4:(k==4)=false:=by simpa using h4
  have q5:(k==5)=false:=by simpa using h5
  clear N I J G h0 h1 h2 h3 h4 h5
  go_enter Tryz.func61,Tryz.ntmps61
  go_wp2_with fail
  go_ret
  exact ⟨rfl,Vo _ _ _⟩
 have N:Yz (.mk k n s ns ks) (.mk Z M O D A)=ord k Z:=by simp [Yz,hkk]
 rw [N]
 have hq:(k != Z)=true:=by rw [bne_iff_ne];exact hkk
 have V:=Qq (fun w=>Eh k Z w)
 generalize ord k Z=r at V ⊢
 clear N I J G hkk
 go_enter Tryz.func61,Tryz.ntmps61
 go_wp2_with (go_at_call 101;refine (V.out _).mono ?_;rintro e w' ⟨rfl,rfl⟩)
 go_ret
 exact ⟨rfl,Vo _ _ _⟩
theorem cmpAt:∀ x:Val,Tc x
 | .mk k n s ns ks=>cmpAt_of k n s ns ks fun x _=>cmpAt x
termination_by x=>SizeOf.sizeOf x
decreasing_by
 have:=List.sizeOf_lt_of_mem ‹_ ∈ ks›
 simp only [Val.mk.sizeOf_spec]
 omega
end Go.Proofs.YtdpibdpbgokmoaaGreatDoor
namespace Go.Proofs
open Go.Shelf
def Tryz.insCol_ren:Go.Shelf.Ren:=⟨fun | 20=>155 | n=>n,fun | 24=>64 | 22=>42 | 3=>3 | 25=>114 | 4=>4 | 0=>0 | n=>n,fun | n=>n⟩
theorem Tryz.insCol:Go.Proofs.SlLaysF0.n20 Tryz.prog Tryz.insCol_ren:={
 mixed:=by kernel_rfl
 f20:=⟨Tryz.f155.name,by decide,Tryz.func155.trans (congrArg some (by kernel_rfl))⟩
 t0:=Tryz.underlying0
 a0:=Tryz.isAgg0
 z0:=Tryz.sizeOf0
 v0:=Tryz.zeroValue0
 t3:=Tryz.underlying3
 a3:=Tryz.isAgg3
 z3:=Tryz.sizeOf3
 v3:=Tryz.zeroValue3
 t4:=Tryz.underlying4
 a4:=Tryz.isAgg4
 z4:=Tryz.sizeOf4
 v4:=Tryz.zeroValue4
 t22:=Tryz.underlying42
 a22:=Tryz.isAgg42
 z22:=Tryz.sizeOf42
 v22:=Tryz.zeroValue42
 t25:=Tryz.underlying114
 a25:=Tryz.isAgg114
 z25:=Tryz.sizeOf114
 v25:=Tryz.zeroValue114 }
def Tryz.laysBS_ren:Go.Shelf.Ren:=⟨fun | 26=>168 | 33=>182 | 34=>183 | 38=>172 | n=>n,fun | 24=>33 | 9=>9 | 3=>3 | 4=>4 | 40=>190 | 0=>0 | n=>n,fun | n=>n⟩
theorem Tryz.laysBS:Go.Proofs.Lays2.n26 Tryz.prog Tryz.laysBS_ren:={
 mixed:=by kernel_rfl
 f26:=Tryz.func168.trans (congrArg some (by kernel_rfl))
 f33:=Tryz.func182.trans (congrArg some (by kernel_rfl))
 f34:=Tryz.func183.trans (congrArg some (by kernel_rfl))
 f38:=Tryz.func172.trans (congrArg some (by kernel_rfl))
 t0:=Tryz.underlying0
 a0:=Tryz.isAgg0
 z0:=Tryz.sizeOf0
 v0:=Tryz.zeroValue0
 t3:=Tryz.underlying3
 a3:=Tryz.isAgg3
 z3:=Tryz.sizeOf3
 v3:=Tryz.zeroValue3
 t4:=Tryz.underlying4
 a4:=Tryz.isAgg4
 z4:=Tryz.sizeOf4
 v4:=Tryz.zeroValue4
 t9:=Tryz.underlying9
 a9:=Tryz.isAgg9
 z9:=Tryz.sizeOf9
 v9:=Tryz.zeroValue9
 t24:=Tryz.underlying33
 a24:=Tryz.isAgg33
 z24:=Tryz.sizeOf33
 v24:=Tryz.zeroValue33
 t40:=Tryz.underlying190
 a40:=Tryz.isAgg190
 z40:=Tryz.sizeOf190
 v40:=Tryz.zeroValue190 }
end Go.Proofs

