import Derived.Test.YtdpibdpbgokmoaaGreatDoorA02
import Derived.Test.YtdpibdpbgokmoaaGreatDoorProg
set_option maxRecDepth 100000
set_option maxHeartbeats 400000000
namespace Go.Proofs.YtdpibdpbgokmoaaGreatDoor
def Y5 (n:Int):Val:=.mk 0 n [] [] []
def Er (s:Bs):Val:=.mk 1 0 s [] []
def V6 (b:Bool):Val:=.mk 2 (if b then 1 else 0) [] [] []
def vMake (s:Bs) (l:List Val):Val:=.mk 3 0 s [] l
def Vf (l:List Bs) (m:List Val):Val:=.mk 4 0 [] l m
def vList (l:List Val):Val:=.mk 5 0 [] [] l
def wordB (s:Bs):Bool:=decide (s≠[]/\(nxt s).2=s.length/\(nxt s).1=2/\s.length<=16)
def below (l:List Bs) (x:Bs):Nat:=(l.takeWhile (λy=>decide (Yi y x<0))).length
def Xp {T:Type} (l:List T) (i:Nat) (x:T):List T:=l.take i++x::l.drop i
def Dr (v:Val) (name:Bs) (x:Val):Option Val:=if v.kind=4 then (match Vh v.names name with
 | some i=>if i<v.kids.length then some (.mk v.kind v.n v.s v.names (v.kids.set i x)) else none
 | none=>none) else none
def two (o:Bs) (a b:Val):Option Val:=
 if o=[43] then (if a.kind=0/\b.kind=0 then some (Y5 (IntKind.i64.wrap (a.n+b.n))) else none)
 else if o=[45] then (if a.kind=0/\b.kind=0 then some (Y5 (IntKind.i64.wrap (a.n - b.n))) else none)
 else if o=[42] then (if a.kind=0/\b.kind=0 then some (Y5 (IntKind.i64.wrap (a.n*b.n))) else none)
 else if o=[43,43] then (if a.kind=1/\b.kind=1/\a.s.length+b.s.length<=4096 then some (Er (a.s++b.s)) else none)
 else if o=[61,61] then some (V6 (decide (Zu a b=0)))
 else if o=[33,61] then some (V6 (decide (Zu a b≠0)))
 else if o=[60] then some (V6 (decide (Zu a b<0)))
 else if o=[60,61] then some (V6 (decide (Zu a b<=0)))
 else none
def Ld (x:Bs):List (Bs × Val)->Option Val
 | []=>none
 | (y,v)::env=>if y=x then some v else Ld x env
def Ex.depth:Ex->Nat
 | .mk _ _ _ _ _ _ kids _ _=>go kids+1
where go:List Ex->Nat
 | []=>0
 | e::l=>max e.depth (go l)
def Ex.kids:Ex->List Ex | .mk _ _ _ _ _ _ kids _ _=>kids
def Ex.kind:Ex->Int | .mk k _ _ _ _ _ _ _ _=>k
open Go.RowKit
theorem Mw (x:Int) (w:World):Calls Tryz.prog 149 #[x] w λe w'=>e=.returned (.bool false)/\w=w':=by
 go_enter Tryz.func149,Tryz.ntmps149
 go_wp2
 go_ret
 exact ⟨Ib,rfl⟩
theorem Lr (x y:Int) (w:World):Calls Tryz.prog 101 #[x,y] w λe w'=>e=.returned (.int .i64 (ord x y))/\w=w':=by
 have key:∀ r,ord x y=r->Calls Tryz.prog 101 #[x,y] w λe w'=>e=.returned (.int .i64 r)/\w=w':=by
  intro r A
  by_cases h1:x<y
  ·have:r=-1:=by rw [<- A];unfold ord;rw [if_pos h1]
   subst this
   clear A
   go_enter Tryz.func101,Tryz.ntmps101
   go_wp2_with (go_at_call 149;refine (Mw _ _).mono ?_;rintro e w' ⟨rfl,rfl⟩)
   go_ret
   exact ⟨rfl,rfl⟩
  by_cases h2:y<x
  ·have:r=1:=by rw [<- A];unfold ord;rw [if_neg h1,if_pos h2]
   subst this
   clear A
   go_enter Tryz.func101,Tryz.ntmps101
   go_wp2_with (go_at_call 149;refine (Mw _ _).mono ?_;rintro e w' ⟨rfl,rfl⟩)
   go_ret
   exact ⟨rfl,rfl⟩
  have:r=0:=by rw [<- A];unfold ord;rw [if_neg h1,if_neg h2]
  subst this
  clear A
  go_enter Tryz.func101,Tryz.ntmps101
  go_wp2_with (go_at_call 149;refine (Mw _ _).mono ?_;rintro e w' ⟨rfl,rfl⟩)
  go_ret
  exact ⟨rfl,rfl⟩
 exact key _ rfl
end Go.Proofs.YtdpibdpbgokmoaaGreatDoor
namespace Go.Proofs
open Go.Shelf
open Go.RowKit in
def Tryz.lays106_ren:Go.Shelf.Ren:=⟨λ| 106=>79 | 213=>110 | 265=>157 | n=>n,λ| 9=>9 | 3=>3 | n=>n,λ| n=>n⟩
theorem Tryz.lays106:Go.Proofs.Lays.n106 Tryz.prog Tryz.lays106_ren:={
 mixed:=by kernel_rfl
 f106:=Tryz.func79.trans (congrArg some (by kernel_rfl))
 f213:=Tryz.func110.trans (congrArg some (by kernel_rfl))
 f265:=Tryz.func157.trans (congrArg some (by kernel_rfl))
 t3:=Tryz.underlying3
 a3:=Tryz.isAgg3
 z3:=Tryz.sizeOf3
 v3:=Tryz.zeroValue3
 t9:=Tryz.underlying9
 a9:=Tryz.isAgg9
 z9:=Tryz.sizeOf9
 v9:=Tryz.zeroValue9 }
open Go.RowKit in
theorem Tryz.strings_Compare (a b:ByteArray) (w:World):
  Calls Tryz.prog 79 #[.string a,.string b] w λe w'=>e=.returned (.int .i64 (Lib.compareBytes a.data.toList b.data.toList))∧w'=w:=Any.strings_Compare Tryz.lays106 a b w
end Go.Proofs
namespace Go.Proofs.YtdpibdpbgokmoaaGreatDoor
open Go.RowKit
theorem cmpB_lib (a b:Bs):Lib.compareBytes a b=Yi a b:=by
 induction a generalizing b with
 | nil=>cases b <;> rfl
 | cons x s ih=>
  cases b with
  | nil=>rfl
  | cons y t=>
   have A:x<y↔(x.toNat:Int)<y.toNat:=by rw [UInt8.lt_iff_toNat_lt];omega
   have h2:y<x↔(y.toNat:Int)<x.toNat:=by rw [UInt8.lt_iff_toNat_lt];omega
   show (if x<y then -1 else if y<x then 1 else Lib.compareBytes s t)=thn (ord x.toNat y.toNat) (Yi s t)
   by_cases a1:x<y
   ·have e:ord x.toNat y.toNat=-1:=by unfold ord;rw [if_pos (A.1 a1)]
    rw [if_pos a1,e];rfl
   rw [if_neg a1]
   by_cases a2:y<x
   ·have e:ord x.toNat y.toNat=1:=by unfold ord;rw [if_neg (λh=>a1 (A.2 h)),if_pos (h2.1 a2)]
    rw [if_pos a2,e];rfl
   have e:ord x.toNat y.toNat=0:=by unfold ord;rw [if_neg (λh=>a1 (A.2 h)),if_neg (λh=>a2 (h2.2 h))]
   rw [if_neg a2,e,ih t];rfl
theorem Sj (a b:ByteArray) (w:World):Calls Tryz.prog 79 #[.string a,.string b] w λe w'=>e=.returned (.int .i64 (Yi (bl a) (bl b)))/\w=w':=by
 refine (Tryz.strings_Compare a b w).mono ?_
 rintro e w' ⟨rfl,rfl⟩
 exact ⟨by rw [cmpB_lib],rfl⟩
theorem Ly (x:ByteArray) (w:World):Calls Tryz.prog 172 #[.string x] w λe w'=>e=.returned (.bool false)/\w=w':=by
 go_enter Tryz.func172,Tryz.ntmps172
 go_wp2
 go_ret
 exact ⟨Ib,rfl⟩
theorem Vn (a b:Bs):Op.bytesLess a b=decide (Yi a b<0)/\((a==b)=decide (Yi a b=0))/\(Yi a b=-1\/Yi a b=0\/Yi a b=1):=by
 induction a generalizing b with
 | nil=>cases b <;> simp [Op.bytesLess,Yi]
 | cons x s ih=>
  cases b with
  | nil=>simp [Op.bytesLess,Yi]
  | cons y t=>
   obtain ⟨i1,i2,i3⟩:=ih t
   have D:x<y↔(x.toNat:Int)<y.toNat:=by rw [UInt8.lt_iff_toNat_lt];omega
   have G:y<x↔(y.toNat:Int)<x.toNat:=by rw [UInt8.lt_iff_toNat_lt];omega
   have I:x=y↔(x.toNat:Int)=y.toNat:=⟨λh=>by rw [h],λh=>UInt8.toNat_inj.1 Ia⟩
   simp only [Op.bytesLess,Yi,List.cons_beq_cons]
   by_cases a1:x<y
   ·have e:ord x.toNat y.toNat=-1:=by unfold ord;rw [if_pos (D.1 a1)]
    have A:(x==y)=false:=by rw [<- Qt,beq_iff_eq,I];have:=D.1 a1;omega
    simp [e,thn,a1,A]
   by_cases a2:y<x
   ·have e:ord x.toNat y.toNat=1:=by unfold ord;rw [if_neg (λh=>a1 (D.2 h)),if_pos (G.1 a2)]
    have A:(x==y)=false:=by rw [<- Qt,beq_iff_eq,I];have:=G.1 a2;omega
    simp [e,thn,a1,A]
   have n1:¬ ((x.toNat:Int)<y.toNat):=λh=>a1 (D.2 h)
   have n2:¬ ((y.toNat:Int)<x.toNat):=λh=>a2 (G.2 h)
   have J:x=y:=by rw [I];omega
   subst J
   simp [J0,thn,i1,i2,i3]
theorem Fb (x:ByteArray):x.toList=bl x:=Lib.toList_data x
theorem Qzz (x y:ByteArray) (w:World):Calls Tryz.prog 150 #[.string x,.string y] w λe w'=>e=.returned (.int .i64 (Yi (bl x) (bl y)))/\w=w':=by
 obtain ⟨A,D,G⟩:=Vn (bl x) (bl y)
 obtain ⟨g1,g2,g3⟩:=Vn (bl y) (bl x)
 have I:Yi (bl x) (bl y)=- Yi (bl y) (bl x):=by
  have:=Ux (bl x) (bl y) [] []
  have h:=Ux (bl y) (bl x) [] []
  simp only [List.append_nil,lex,Km] at this h
  rw [<- this,<- h];exact Kp _ _
 rw [<- Fb x,<- Fb y] at A D G g1 g2 g3 I |-
 obtain ⟨c,J⟩:=eX (Yi x.toList y.toList)
 rw [J] at A D G I |-
 have HC:=Qq J
 clear J I g1 g2 g3
 rcases G with G | G | G <;> subst G
 ·have k1:Op.bytesLess x.toList y.toList=true:=A.trans Ih
  have k2:(x.toList==y.toList)=false:=D.trans Ih
  clear A D
  go_enter Tryz.func150,Tryz.ntmps150
  go_wp2_with (go_at_call 172;refine (Ly _ _).mono ?_;rintro e w' ⟨rfl,rfl⟩)
  go_ret
  exact ⟨rfl,rfl⟩
 ·have k1:Op.bytesLess x.toList y.toList=false:=A.trans Ih
  have k2:(x.toList==y.toList)=true:=D.trans Ih
  clear A D
  go_enter Tryz.func150,Tryz.ntmps150
  go_wp2_with (go_at_call 172;refine (Ly _ _).mono ?_;rintro e w' ⟨rfl,rfl⟩)
  go_ret
  exact ⟨rfl,rfl⟩
 have k1:Op.bytesLess x.toList y.toList=false:=A.trans Ih
 have k2:(x.toList==y.toList)=false:=D.trans Ih
 clear A D
 go_enter Tryz.func150,Tryz.ntmps150
 go_wp2_with (go_at_call 172;refine (Ly _ _).mono ?_;rintro e w' ⟨rfl,rfl⟩)
 go_ret
 exact ⟨rfl,rfl⟩
theorem Sl.str {S:Nat->Prop} {w:World} {p:Option Addr} {n cap:Nat} {xs:List Bs} (h:Sl Zh S w (.slice p n cap) xs) {i:Nat} {x:Bs} (hx:xs[i]?=some x):
  ∃ b off,p=some ⟨b,off,none⟩/\Ii w b (off+i) x/\x.length<=1000000:=by
 obtain ⟨p',c',h1,_,h3⟩:=h
 simp only [Qr] at h1
 obtain ⟨rfl,_,_⟩:=h1
 obtain ⟨b,off,e,_,_,hc⟩:=h3 (by intro e;subst e;simp at hx)
 obtain ⟨cs,h4,h5,h6⟩:=hc i x hx
 refine ⟨b,off,e,?_,h6⟩
 have:=h4 0 (sv x) (by rw [h5];rfl)
 rwa [Nat.add_zero,show Zh.k=1 from rfl,Nat.mul_one] at this
theorem cmpN_any (S:Nat->Prop) (av bv:Value) (a b:List Bs) (w:World) (ha:Sl Zh S w av a) (hb:Sl Zh S w bv b):
  Calls Tryz.prog 102 #[av,bv] w λe w'=>e=.returned (.int .i64 (Ks a b))/\w=w':=by
 obtain ⟨pa,ca,rfl,aE⟩:=ha.len
 obtain ⟨pb,cb,rfl,aF⟩:=hb.len
 have HA:=Qq ha;have HB:=Qq hb
 obtain ⟨r,hr⟩:=eX (Ks a b)
 rw [hr]
 have HR:=Qq hr
 clear ha hb hr
 go_enter Tryz.func102,Tryz.ntmps102
 go_wp2_with fail
 go_loop [11] (λi=>∃ k:Nat,k<=a.length/\k<=b.length/\i=.int .i64 k/\Ks (a.drop k) (b.drop k)=r) (λi=>a.length - (intOf i).toNat)
 case atStart=>exact ⟨0,Q8 _,Q8 _,rfl,HR.o⟩
 obtain ⟨k,aC,aD,rfl,G⟩:=hrel
 by_cases hlt:k<a.length
 ·obtain ⟨x,N⟩:∃ x,a[k]?=some x:=⟨_,Qx hlt⟩
  have A:a.drop k=x::a.drop (k+1):=by
   rw [Qp hlt];rw [Qx hlt] at N;cases N;rfl
  obtain ⟨ga,oa,rfl,c1,l1⟩:=HA.o.str N
  by_cases hlb2:k<b.length
  ·obtain ⟨y,O⟩:∃ y,b[k]?=some y:=⟨_,Qx hlb2⟩
   have D:b.drop k=y::b.drop (k+1):=by
    rw [Qp hlb2];rw [Qx hlb2] at O;cases O;rfl
   obtain ⟨gb,ob,rfl,c2,l2⟩:=HB.o.str O
   rw [A,D] at G
   have U:=Qq (Qzz ⟨x.toArray⟩ ⟨y.toArray⟩)
   have M:Yi (bl ⟨x.toArray⟩) (bl ⟨y.toArray⟩)=Yi x y:=rfl
   rw [M] at U
   have I:thn (Yi x y) (Ks (a.drop (k+1)) (b.drop (k+1)))=r:=G
   generalize Yi x y=c at U I
   have Y:(0:Int)<=(k:Int):=Ia
   have Z:(k:Int)<a.length:=Ia
   have aB:(k:Int)<b.length:=Ia
   have hq:decide (b.length<=k)=false:=by simp;omega
   by_cases hc0:c=0
   ·subst hc0
    have HC:=Qq I
    clear G I A D N O M
    go_wp2_with (go_at_call 150;refine (U.o _).mono ?_;rintro e w' ⟨rfl,rfl⟩)
    go_round
    case rel=>exact ⟨k+1,Ia,Ia,by go_num,HC.o⟩
    case measure=>simp [intOf];omega
   have aG:(c != 0)=true:=by rw [bne_iff_ne];exact hc0
   have V:c=r:=by rw [<- I];unfold thn;rw [if_neg hc0]
   subst V
   clear G I A D N O M hc0
   go_wp2_with (go_at_call 150;refine (U.o _).mono ?_;rintro e w' ⟨rfl,rfl⟩)
   go_ret
   exact ⟨rfl,rfl⟩
  have D:b.drop k=[]:=Qu Ia
  rw [A,D] at G
  have J:r=1:=by rw [<- G];rfl
  subst J
  have Y:(0:Int)<=(k:Int):=Ia
  have Z:(k:Int)<a.length:=Ia
  have hq:decide (b.length<=k)=true:=by simp;omega
  clear G A D N
  go_wp2_with fail
  go_ret
  exact ⟨rfl,rfl⟩
 have A:a.drop k=[]:=Qu Ia
 rw [A] at G
 by_cases hlb2:a.length<b.length
 ·obtain ⟨y,t,T⟩:∃ y t,b.drop k=y::t:=by
   have:(b.drop k).length≠0:=by rw [Zq];omega
   cases hd:b.drop k with
   | nil=>rw [hd] at this;exact absurd rfl this
   | cons y t=>exact ⟨y,t,rfl⟩
  rw [T] at G
  have J:r=-1:=by rw [<- G];rfl
  subst J
  clear G A T
  go_wp2_with fail
  go_ret
  exact ⟨rfl,rfl⟩
 have D:b.drop k=[]:=Qu Ia
 rw [D] at G
 have J:r=0:=by rw [<- G];rfl
 subst J
 clear G A D
 go_wp2_with fail
 go_ret
 exact ⟨rfl,rfl⟩
theorem Et {α:Type} (n:Nat) (Q:Nat->α->Prop) (h:∀ i,i<n->∃ a,Q i a):∃ l:List α,l.length=n/\∀ i a,l[i]?=some a->Q i a:=by
 induction n with
 | zero=>exact ⟨[],rfl,λi a h=>by simp at h⟩
 | succ n ih=>
  obtain ⟨l,hl,hq⟩:=ih (λi hi=>h i Ia)
  obtain ⟨a,ha⟩:=h n Ia
  refine ⟨l++[a],by simp [hl],λi b hb=>?_⟩
  by_cases hi:i<l.length
  ·rw [List.getElem?_append_left hi] at hb;exact hq i b hb
  rw [Zx Ia] at hb
  have h0:i - l.length=0:=by
   have:=(Qj hb).1
   simp at this;omega
  rw [h0] at hb
  simp at hb
  subst hb
  have:i=n:=Ia
  rw [this];exact ha
theorem V0 {k:Nat} {css:List (List Value)} (h:∀ c ∈ css,c.length=k):css.flatten.length=css.length*k:=by
 induction css with
 | nil=>simp
 | cons c css ih=>
  rw [List.flatten_cons,Ql,h c Ib,ih (λd hd=>h d (by simp [hd])),List.length_cons,Nat.add_mul]
  omega
theorem Vg {k:Nat} {css:List (List Value)} (h:∀ c ∈ css,c.length=k) {i j:Nat} {c:List Value} {u:Value} (hc:css[i]?=some c) (hu:c[j]?=some u):css.flatten[i*k+j]?=some u:=by
 induction css generalizing i with
 | nil=>simp at hc
 | cons d css ih=>
  have hd:=h d Ib
  rw [List.flatten_cons]
  cases i with
  | zero=>
   simp at hc;subst hc
   have hj:j<d.length:=(Qj hu).1
   rw [Nat.zero_mul,Nat.zero_add,List.getElem?_append_left hj];exact hu
  | succ i=>
   have:=ih (λe he=>h e (by simp [he])) (i:=i) (by simpa using hc)
   rw [Zx (by rw [hd,Nat.add_mul];omega),hd]
   rw [show (i+1)*k+j - k=i*k+j by rw [Nat.add_mul];omega]
   exact this
theorem flat_at {k:Nat} (hk:0<k) {css:List (List Value)} (h:∀ c ∈ css,c.length=k) {m:Nat} {u:Value} (hu:css.flatten[m]?=some u):∃ c,css[m / k]?=some c/\c[m % k]?=some u:=by
 have hm:m<css.length*k:=by rw [<- V0 h];exact (Qj hu).1
 have hi:m / k<css.length:=Nat.div_lt_of_lt_mul (by rwa [Nat.mul_comm])
 have hc:=Qx hi
 have hl:=h _ (Qd hi)
 have hj:m % k<(css[m / k]).length:=by rw [hl];exact Nat.mod_lt _ hk
 refine ⟨_,hc,?_⟩
 have:=Vg h hc (Qx hj)
 rw [Nat.div_add_mod' m k] at this
 rw [Qx hj,<- hu,this]
structure Cs {T:Type} (r:Rd T) (S:Nat->Prop) (w:World) (css:List (List Value)) (xs:List T):Prop where
 len:css.length=xs.length
 R:∀ (i:Nat) (c:List Value) (x:T),css[i]?=some c->xs[i]?=some x->r.R S w c x
theorem Cs.all {T:Type} {r:Rd T} {S:Nat->Prop} {w:World} {css:List (List Value)} {xs:List T} (h:Cs r S w css xs):∀ c ∈ css,c.length=r.k:=by
 intro c hc
 obtain ⟨i,hi⟩:=Zk hc
 have A:=(Qj hi).1
 exact r.len (h.R i c _ hi (Qx (by rw [<- h.len];exact A)))
theorem Cs.flat {T:Type} {r:Rd T} {S:Nat->Prop} {w:World} {css:List (List Value)} {xs:List T} (h:Cs r S w css xs):css.flatten.length=xs.length*r.k:=by rw [V0 h.all,h.len]
theorem Cs.move {T:Type} {r:Rd T} {S S':Nat->Prop} {w w':World} {css:List (List Value)} {xs:List T} (h:Cs r S w css xs) (hA:Jy S w w') (hS:∀ b,b<w.heap.size->S b->S' b):Cs r S' w' css xs:=
 ⟨h.len,λi c x hc hx=>r.mono (r.frame (r.mono (S':=λb=>S b/\S' b) (h.R i c x hc hx) (λb hb h=>⟨h,hS b hb h⟩)) (λb hb=>hA b hb.1)) (λ_ _ h=>h.2)⟩
theorem Cs.app {T:Type} {r:Rd T} {S:Nat->Prop} {w:World} {css dss:List (List Value)} {xs ys:List T} (h:Cs r S w css xs) (g:Cs r S w dss ys):Cs r S w (css++dss) (xs++ys):=by
 refine ⟨by rw [Ql,Ql,h.len,g.len],λi c x A D=>?_⟩
 by_cases hi:i<css.length
 ·rw [List.getElem?_append_left hi] at A
  rw [List.getElem?_append_left (by rw [<- h.len];exact hi)] at D
  exact h.R i c x A D
 rw [Zx Ia] at A
 rw [Zx (by rw [<- h.len];omega),<- h.len] at D
 exact g.R _ c x A D
theorem Cs.one {T:Type} {r:Rd T} {S:Nat->Prop} {w:World} {c:List Value} {x:T} (h:r.R S w c x):Cs r S w [c] [x]:=by
 refine ⟨rfl,λi c' x' A hx=>?_⟩
 cases i with
 | zero=>simp at A hx;subst A;subst hx;exact h
 | succ i=>simp at A
theorem Cs.nil {T:Type} (r:Rd T) (S:Nat->Prop) (w:World):Cs r S w [] []:=⟨rfl,λi c x hc _=>by simp at hc⟩
theorem Sl.css {T:Type} {r:Rd T} (hk:0<r.k) {S:Nat->Prop} {w:World} {v:Value} {xs:List T} (h:Sl r S w v xs):
  ∃ p cap css,v=.slice p xs.length cap/\Cs r S w css xs/\(xs≠[]->∃ b off,p=some ⟨b,off,none⟩/\S b/\b<w.heap.size/\∀ j u,css.flatten[j]?=some u->w.cell? ⟨b,off+j,none⟩=some u):=by
 obtain ⟨p,cap,h1,h2,h3⟩:=h
 by_cases hne:xs=[]
 ·subst hne;exact ⟨p,cap,[],h1,Cs.nil _ _ _,λh=>absurd rfl h⟩
 obtain ⟨b,off,e,hS,hb,hc⟩:=h3 hne
 obtain ⟨css,hl,hq⟩:=Et xs.length (λi cs=>(∀ j u,cs[j]?=some u->w.cell? ⟨b,off+i*r.k+j,none⟩=some u)/\∀ x,xs[i]?=some x->r.R S w cs x) (λi hi=>by
  obtain ⟨cs,h4,h5⟩:=hc i _ (Qx hi)
  exact ⟨cs,h4,λx G=>by rw [Qx hi] at G;cases G;exact h5⟩)
 have D:Cs r S w css xs:=⟨hl,λi c x A G=>(hq i c A).2 x G⟩
 refine ⟨p,cap,css,h1,D,λ_=>⟨b,off,e,hS,hb,λj u hu=>?_⟩⟩
 obtain ⟨c,A,I⟩:=flat_at hk D.all hu
 have:=(hq _ c A).1 _ u I
 rwa [Nat.add_assoc,Nat.div_add_mod' j r.k] at this
theorem Sl.of_css {T:Type} {r:Rd T} {S:Nat->Prop} {w:World} {xs:List T} {b off cap:Nat} {css:List (List Value)} (hl:xs.length<=1000000) (h:Cs r S w css xs) (hS:S b) (hb:b<w)
  (hc:∀ j u,css.flatten[j]?=some u->w.cell? ⟨b,off+j,none⟩=some u):Sl r S w (.slice (some ⟨b,off,none⟩) xs.length cap) xs:=by
 refine ⟨_,cap,rfl,hl,λ_=>⟨b,off,rfl,hS,hb,λi x hx=>?_⟩⟩
 have hi:i<css.length:=by rw [h.len];exact (Qj hx).1
 refine ⟨css[i],λj u hu=>?_,h.R i _ x (Qx hi) hx⟩
 have:=hc _ u (Vg h.all (Qx hi) hu)
 rwa [<- Nat.add_assoc] at this
def But (S:Nat->Prop) (v:Value):Nat->Prop:=λb=>S b/\some b≠v.ownBlock
structure Own {T:Type} (r:Rd T) (E:TypeId) (S:Nat->Prop) (B:Nat) (w:World) (v:Value) (xs:List T) (css:List (List Value)):Prop where
 row:w.ownsRow B E r.k v xs.length css.flatten
 cs:Cs r (But S v) w css xs
theorem Own.nil {T:Type} (r:Rd T) (E:TypeId) (S:Nat->Prop) (B:Nat) (w:World):Own r E S B w (.slice none 0 0) [] []:=⟨by simpa using World.ownsRow_nil w B E r.k,Cs.nil _ _ _⟩
theorem Dk {w w':World} {B:Nat} {e:TypeId} {sz n:Nat} {v:Value} {xs:List Value} (h:w.ownsRow B e sz v n xs) (hb:Below w w w'):w'.ownsRow B e sz v n xs:=by
 refine ⟨h.1,?_⟩
 rcases h.2 with hn | ⟨g,cap,cur,rfl,hB,hg,rest⟩
 ·exact .inl hn
 refine .inr ⟨g,cap,cur,rfl,hB,?_,rest⟩
 rw [hb.block g (Array.getElem?_eq_some_iff.1 hg).1];exact hg
theorem Own.below {T:Type} {r:Rd T} {E:TypeId} {S:Nat->Prop} {B:Nat} {w w':World} {v:Value} {xs:List T} {css:List (List Value)} (h:Own r E S B w v xs css) (hb:Below w w w'):Own r E S B w' v xs css:=
 ⟨Dk h.row hb,h.cs.move (.f hb) Ij⟩
theorem Own.append {T:Type} {r:Rd T} {E:TypeId} {S:Nat->Prop} {B:Nat} {W w2:World} {v v':Value} {xs ys:List T} {css dss:List (List Value)} (h:Own r E S B W v xs css) (hd:Cs r (But S v) W dss ys)
  (hown:w2.ownsRow B E r.k v' (xs.length+ys.length) (css.flatten++dss.flatten)) (hgrow:W.grownBy w2 v.ownBlock) (hat:v'.ownBlock=v.ownBlock\/v'.ownBlock=some W.heap.size):Own r E S B w2 v' (xs++ys) (css++dss):=by
 refine ⟨by rw [Ql,List.flatten_append];exact hown,?_⟩
 have hc:=h.cs.app hd
 have h1:Cs r (λb=>But S v b/\But S v' b) W (css++dss) (xs++ys):=hc.move (.refl _ _) (λb hb h=>⟨h,h.1,by
  rcases hat with e | e
  ·rw [e];exact h.2
  rw [e];intro e2;have:=Qb e2;omega⟩)
 exact h1.move (λb hb A=>hgrow.block b A hb.1.2) (λ_ _ h=>h.2)
theorem Hw {w:World} {g:Nat} {cur:Array Value} {E:TypeId} {n:Nat} {ys:List Value} (hg:w.heap[g]?=some (.cells cur E (0,0))) (ht:cur.toList.take n=ys) {j:Nat} {u:Value} (hu:ys[j]?=some u):w.cell? ⟨g,j,none⟩=some u:=by
 rw [Qk w g j cur E (0,0) hg]
 rw [<- ht,List.getElem?_take] at hu
 split at hu
 ·simpa using hu
 cases hu
theorem Own.sl {T:Type} {r:Rd T} {E:TypeId} {S S':Nat->Prop} {B:Nat} {w:World} {v:Value} {xs:List T} {css:List (List Value)} (h:Own r E S B w v xs css) (hl:xs.length<=1000000)
  (h1:∀ b,B<=b->S' b) (h2:∀ b,b<w.heap.size->S b->S' b):Sl r S' w v xs:=by
 rcases h.row.2 with ⟨rfl,h0⟩ | ⟨g,cap,A,rfl,hB,hg,_,_,_,ht⟩
 ·rw [Zy h0];exact Sl.nil _ _ _
 refine Sl.of_css (css:=css) hl (h.cs.move (.refl _ _) (λb hb h=>h2 b hb h.1)) (h1 g hB) (Array.getElem?_eq_some_iff.1 hg).1 (λj u hu=>?_)
 rw [Nat.zero_add];exact Hw hg ht hu
structure M8 (B:Nat) (w w1:World) (v v1:Value):Prop where
 below:Below B w w1
 size:w<=w1.heap.size
 other:∀ b,b<w.heap.size->some b≠v.ownBlock->w1.heap[b]?=w.heap[b]?
 at':v1.ownBlock=v.ownBlock\/∃ g,v1.ownBlock=some g/\w.heap.size<=g
theorem Cc {B:Nat} {w w1:World} {o:Obj} {v v1:Value} (hg:(w.alloc o).grownBy w1 v.ownBlock) (hv:∀ g,v.ownBlock=some g->B<=g) (hB:B<=w) (hat:v1.ownBlock=v.ownBlock\/v1.ownBlock=some (w.alloc o).heap.size):M8 B w w1 v v1:=by
 have hb:Below B w w1:=((Qz B w).alloc hB o).grown hg (by simp;omega) hv
 refine ⟨hb,hb.size,λb A D=>?_,?_⟩
 ·rw [hg.block b (by simp;omega) (λe=>D e),Below.heap_alloc w o b A]
 rcases hat with h | h
 ·exact .inl h
 exact .inr ⟨_,h,Ib⟩
theorem Own.move {T:Type} {r:Rd T} {E:TypeId} {S:Nat->Prop} {B B':Nat} {w w':World} {v:Value} {xs:List T} {css:List (List Value)} (h:Own r E S B w v xs css) (hB:B'<=B) (hA:∀ b,b<w.heap.size->(S b\/v.ownBlock=some b)->w'.heap[b]?=w.heap[b]?):Own r E S B' w' v xs css:=by
 refine ⟨⟨h.row.1,?_⟩,h.cs.move (λb hS A=>hA b A (.inl hS.1)) Ij⟩
 rcases h.row.2 with hn | ⟨g,cap,cur,rfl,hg,hh,rest⟩
 ·exact .inl hn
 exact .inr ⟨g,cap,cur,rfl,Ia,(hA g (Array.getElem?_eq_some_iff.1 hh).1 (.inr rfl)).trans hh,rest⟩
theorem Yl {w:World} {B B':Nat} {e e':TypeId} {k k' n n':Nat} {v v':Value} {xs ys:List Value} (h:w.ownsRow B e k v n xs) (h':w.ownsRow B' e' k' v' n' ys) (hne:e≠e') {g:Nat} (hg:v.ownBlock=some g):v'.ownBlock≠some g:=by
 intro A
 rcases h.2 with ⟨rfl,_⟩ | ⟨a,cap,J,rfl,_,hh,_⟩
 ·cases hg
 rcases h'.2 with ⟨rfl,_⟩ | ⟨a',G,I,rfl,_,D,_⟩
 ·cases A
 have e1:a=g:=Qb hg
 have e2:a'=g:=Qb A
 subst e1;subst e2
 rw [hh] at D
 injection D with h1
 injection h1 with _ h2
 exact hne h2
section
variable {P:Program} {T:Type}
theorem Yo {r:Rd T} (hk:0<r.k) {ops:Array Oper} {rest:List Oper} {o:Oper} {a:Act} {Q:Exit->Act->World->Prop} (hgd:o.guard=none) (s x:Operand) (t:TypeId)
  (ho:o.op=.call { callee:=.builtin .append,args:=#[s,x],argTypes:=#[t,t] }) (E:TypeId) (i:TypeInfo) (z:Value) (bytes:Nat) (ht:P.underlying t=some (.slice E)) (hi:P.info? E=some i) (hz:i.zero=some z)
  (hsize:i.size=r.k) (hby:i.bytes=bytes) (hzs:z.cells.size=r.k) (hb1:bytes<=1000) (S:Nat->Prop) (B:Nat) (w:World) (v:Value) (xs:List T) (css:List (List Value)) (cs:List Value) (y:T) (hs:a.eval s=v)
  (hO:Own r E S B w v xs css) (hx:a.eval x=.slice (some ⟨w,0,none⟩) 1 1) (hR:r.R (But S v) w cs y) (h1:∀ u ∈ cs,u.oneCell'=true) (n:Nat) (hn:xs.length=n) (hl:n<1000000) (hB:B<=w)
  (h:∀ p cap css' N,Own r E S B N (.slice p (n+1) cap) (xs++[y]) css'->M8 B w N v (.slice p (n+1) cap)->wpList P ops Q rest (a.put o.dst (.slice p (n+1) cap)) N):
  wpList P ops Q (o::rest) a (w.alloc (.cells cs.toArray E)):=by
 subst hn
 have M:=r.len hR
 have J:Below w w (w.alloc (.cells cs.toArray E)):=(Qz _ _).alloc (Q9 _) _
 have G:Own r E S B (w.alloc (.cells cs.toArray E)) v xs css:=hO.below J
 refine wpList_append_own_at (P:=P) (w:=w.alloc (.cells cs.toArray E)) hgd s x t ho B E i z r.k bytes ht hi hz hsize hby hzs hk v xs.length css.flatten hs G.row ⟨w,0,none⟩ 1 1 cs hx (by rw [M,Nat.one_mul]) (λj u hu=>?_) h1 (by unfold maxLen;omega) (by
   have:=Nat.mul_le_mul (show xs.length+1<=1000000 by omega) hb1
   omega) (by simp;omega) (λv1 N D A _ I=>?_)
 ·rw [show (⟨w,0,none⟩:Addr).add j=⟨w,j,none⟩ by unfold Addr.add;split <;> simp_all]
  rw [Qk _ _ _ _ _ _ (Qw w _)]
  simpa using hu
 have O:=G.append (Cs.one (r.mono (r.frame hR (.f J)) Ij)) (ys:=[y]) (dss:=[cs]) (v':=v1) (w2:=N) (by simpa using D) A I
 rcases D.2 with ⟨_,hn⟩ | ⟨g,cap,U,rfl,_⟩
 ·omega
 exact h _ _ _ _ O (Cc A (λg hg=>(hO.row.lt g hg).1) hB I)
end
end Go.Proofs.YtdpibdpbgokmoaaGreatDoor
