import Derived.Test.YtlanplhphiikjaaGreatDoorF01
set_option maxRecDepth 100000
set_option maxHeartbeats 400000000
namespace Go.Proofs.YtlanplhphiikjaaGreatDoor
def Yx (n:Int):Val:=.mk 0 n [] [] []
def Vr (s:Bs):Val:=.mk 1 0 s [] []
def J3 (b:Bool):Val:=.mk 2 (if b then 1 else 0) [] [] []
def vMake (s:Bs) (l:List Val):Val:=.mk 3 0 s [] l
def Dq (l:List Bs) (m:List Val):Val:=.mk 4 0 [] l m
def Zm (l:List Val):Val:=.mk 5 0 [] [] l
def wordB (s:Bs):Bool:=decide (s≠[]/\(nxt s).2=s.length/\(nxt s).1=2/\s.length<=16)
def below (l:List Bs) (x:Bs):Nat:=(l.takeWhile (fun y=>decide (Y7 y x<0))).length
def Yt {T:Type} (l:List T) (i:Nat) (x:T):List T:=l.take i++x::l.drop i
def recGo:List Bs->List Val->List Bs->List Val->Option Val
 | l,m,[],[]=>some (Dq l m)
 | l,m,x::ns,v::vs=>if wordB x=false then none else if x ∈ l then none else recGo (Yt l (below l x) x) (Yt m (below l x) v) ns vs
 | _,_,_,_=>none
def recV (names:List Bs) (vals:List Val):Option Val:=recGo [] [] names vals
def withF (v:Val) (name:Bs) (x:Val):Option Val:=if v.kind=4 then (match Uk v.names name with
 | some i=>if i<v.kids.length then some (.mk v.kind v.n v.s v.names (v.kids.set i x)) else none
 | none=>none) else none
def withGo:List Bs->Val->List Bs->List Val->Option Val
 | _,v,_,[]=>some v
 | seen,v,x::ns,y::ys=>if x ∈ seen then none else match withF v x y with
  | some u=>withGo (seen++[x]) u ns ys
  | none=>none
 | _,_,[],_::_=>none
def isB (v:Val):Bool:=decide (v.kind=2)
def two (o:Bs) (a b:Val):Option Val:=
 if o=[43] then (if a.kind=0/\b.kind=0 then some (Yx (IntKind.i64.wrap (a.n+b.n))) else none)
 else if o=[45] then (if a.kind=0/\b.kind=0 then some (Yx (IntKind.i64.wrap (a.n - b.n))) else none)
 else if o=[42] then (if a.kind=0/\b.kind=0 then some (Yx (IntKind.i64.wrap (a.n*b.n))) else none)
 else if o=[43,43] then (if a.kind=1/\b.kind=1/\a.s.length+b.s.length<=4096 then some (Vr (a.s++b.s)) else none)
 else if o=[61,61] then some (J3 (decide (Zt a b=0)))
 else if o=[33,61] then some (J3 (decide (Zt a b≠0)))
 else if o=[60] then some (J3 (decide (Zt a b<0)))
 else if o=[60,61] then some (J3 (decide (Zt a b<=0)))
 else none
def Xq (x:Bs):List (Bs × Val)->Option Val
 | []=>none
 | (y,v)::env=>if y=x then some v else Xq x env
def ev:Nat->Ex->List (Bs × Val)->Option Val
 | 0,_,_=>none
 | f+1,.mk k nm n s names binds kids _ _,env=>
  let kid:Nat->List (Bs × Val)->Option Val:=fun i env=>match kids[i]? with
   | some e=>ev f e env
   | none=>none
  let all:Option (List Val):=kids.mapM (fun e=>ev f e env)
  if k=0 then some (Yx n)
  else if k=1 then (if s.length<=4096 then some (Vr s) else none)
  else if k=2 then some (J3 (decide (n=1)))
  else if k=3 then Xq nm env
  else if k=5 then all.map (vMake nm)
  else if k=6 then all.bind (recV names)
  else if k=7 then (match all with
   | some (v::vs)=>if v.kind=4 then withGo [] v names vs else none
   | _=>none)
  else if k=8 then (kid 0 env).bind (fun v=>Yn v nm)
  else if k=9 then (if kids.length<=4096 then all.map Zm else none)
  else if k=11 then (kid 0 env).bind (fun v=>kid 1 ((nm,v)::env))
  else if k=12 then (kid 0 env).bind (fun v=>if isB v then (if v.n=1 then kid 1 env else kid 2 env) else none)
  else if k=13 then (kid 0 env).bind (fun v=>if v.kind=3 then (match Uk names v.s with
   | some i=>if binds.getD i []=[] then kid (i+1) env else (match v.kids with
    | [x]=>kid (i+1) ((binds.getD i [],x)::env)
    | _=>none)
   | none=>none) else none)
  else if k=14 then
   (
    if nm=[110,111,116] then (if kids.length=1 then (kid 0 env).bind (fun v=>if isB v then some (J3 (decide (v.n≠1))) else none) else none)
    else if kids.length=2 then
     (
     if nm=[97,110,100] then (kid 0 env).bind (fun v=>if isB v then (if v.n=1 then (kid 1 env).bind (fun u=>if isB u then some (J3 (decide (u.n=1))) else none) else some (J3 false)) else none)
     else if nm=[111,114] then (kid 0 env).bind (fun v=>if isB v then (if v.n=1 then some (J3 true) else (kid 1 env).bind (fun u=>if isB u then some (J3 (decide (u.n=1))) else none)) else none)
     else (kid 0 env).bind (fun a=>(kid 1 env).bind (fun b=>two nm a b)))
    else none)
  else none
def Ex.depth:Ex->Nat
 | .mk _ _ _ _ _ _ kids _ _=>go kids+1
where go:List Ex->Nat
 | []=>0
 | e::l=>max e.depth (go l)
def Ex.kids:Ex->List Ex | .mk _ _ _ _ _ _ kids _ _=>kids
def Ex.kind:Ex->Int | .mk k _ _ _ _ _ _ _ _=>k
open Go.RowKit
theorem Sl.str {S:Nat->Prop} {w:World} {p:Option Addr} {n cap:Nat} {xs:List Bs} (h:Sl Zi S w (.slice p n cap) xs) {i:Nat} {x:Bs} (hx:xs[i]?=some x):
  ∃ b off,p=some ⟨b,off,none⟩/\Oi w b (off+i) x/\x.length<=1000000:=by
 obtain ⟨p',c',h1,_,h3⟩:=h
 simp only [Ql] at h1
 obtain ⟨rfl,_,_⟩:=h1
 obtain ⟨b,off,e,_,_,hc⟩:=h3 (by intro e;subst e;simp at hx)
 obtain ⟨cs,h4,h5,h6⟩:=hc i x hx
 refine ⟨b,off,e,?_,h6⟩
 have:=h4 0 (sv x) (by rw [h5];rfl)
 rwa [Nat.add_zero,show Zi.k=1 from rfl,Nat.mul_one] at this
theorem cmpN_any (S:Nat->Prop) (av bv:Value) (a b:List Bs) (w:World) (ha:Sl Zi S w av a) (hb:Sl Zi S w bv b):
  Calls Tryz.prog 145 #[av,bv] w fun e w'=>e=.returned (.int .i64 (U5 a b))/\w=w':=by
 obtain ⟨pa,ca,rfl,aE⟩:=ha.len
 obtain ⟨pb,cb,rfl,aF⟩:=hb.len
 have HA:=Qq ha;have HB:=Qq hb
 obtain ⟨r,hr⟩:=eX (U5 a b)
 rw [hr]
 have HR:=Qq hr
 clear ha hb hr
 go_enter Tryz.func145,Tryz.ntmps145
 go_wp2_with fail
 go_loop [11] (fun i=>∃ k:Nat,k<=a.length/\k<=b.length/\i=.int .i64 k/\U5 (a.drop k) (b.drop k)=r) (fun i=>a.length - (intOf i).toNat)
 case atStart=>exact ⟨0,Q3 _,Q3 _,rfl,HR.out⟩
 obtain ⟨k,aC,aD,rfl,I⟩:=hrel
 by_cases hlt:k<a.length
 ·obtain ⟨x,N⟩:∃ x,a[k]?=some x:=⟨_,Qx hlt⟩
  have D:a.drop k=x::a.drop (k+1):=by
   rw [Qi hlt];rw [Qx hlt] at N;cases N;rfl
  obtain ⟨ga,oa,rfl,c1,l1⟩:=HA.out.str N
  by_cases hlb2:k<b.length
  ·obtain ⟨y,O⟩:∃ y,b[k]?=some y:=⟨_,Qx hlb2⟩
   have G:b.drop k=y::b.drop (k+1):=by
    rw [Qi hlb2];rw [Qx hlb2] at O;cases O;rfl
   obtain ⟨gb,ob,rfl,c2,l2⟩:=HB.out.str O
   rw [D,G] at I
   have U:=Qq (O2 ⟨x.toArray⟩ ⟨y.toArray⟩)
   have M:Y7 (bl ⟨x.toArray⟩) (bl ⟨y.toArray⟩)=Y7 x y:=rfl
   rw [M] at U
   have J:thn (Y7 x y) (U5 (a.drop (k+1)) (b.drop (k+1)))=r:=I
   generalize Y7 x y=c at U J
   have Y:(0:Int)<=(k:Int):=Oa
   have Z:(k:Int)<a.length:=Oa
   have aB:(k:Int)<b.length:=Oa
   have hq:decide (b.length<=k)=false:=by simp;omega
   by_cases hc0:c=0
   ·subst hc0
    have HC:=Qq J
    clear I J D G N O M
    go_wp2_with (go_at_call 206;refine (U.out _).mono ?_;rintro e w' ⟨rfl,rfl⟩)
    go_round
    case rel=>exact ⟨k+1,Oa,Oa,by go_num,HC.out⟩
    case measure=>simp [intOf];omega
   have aG:(c != 0)=true:=by rw [bne_iff_ne];exact hc0
   have V:c=r:=by rw [<- J];unfold thn;rw [if_neg hc0]
   subst V
   clear I J D G N O M hc0
   go_wp2_with (go_at_call 206;refine (U.out _).mono ?_;rintro e w' ⟨rfl,rfl⟩)
   go_ret
   exact ⟨rfl,rfl⟩
  have G:b.drop k=[]:=Qo Oa
  rw [D,G] at I
  have L:r=1:=by rw [<- I];rfl
  subst L
  have Y:(0:Int)<=(k:Int):=Oa
  have Z:(k:Int)<a.length:=Oa
  have hq:decide (b.length<=k)=true:=by simp;omega
  clear I D G N
  go_wp2_with fail
  go_ret
  exact ⟨rfl,rfl⟩
 have D:a.drop k=[]:=Qo Oa
 rw [D] at I
 by_cases hlb2:a.length<b.length
 ·obtain ⟨y,t,T⟩:∃ y t,b.drop k=y::t:=by
   have:(b.drop k).length≠0:=by rw [Qr];omega
   cases hd:b.drop k with
   | nil=>rw [hd] at this;exact absurd rfl this
   | cons y t=>exact ⟨y,t,rfl⟩
  rw [T] at I
  have L:r=-1:=by rw [<- I];rfl
  subst L
  clear I D T
  go_wp2_with fail
  go_ret
  exact ⟨rfl,rfl⟩
 have G:b.drop k=[]:=Qo Oa
 rw [G] at I
 have L:r=0:=by rw [<- I];rfl
 subst L
 clear I D G
 go_wp2_with fail
 go_ret
 exact ⟨rfl,rfl⟩
theorem _root_.Go.RowKit.Below.thn {B:Nat} {a b c:World} (h:Below B a b) (k:Below b b c) (hB:B<=a.heap.size:=by exact Q4 _):Below B a c:=h.trans (k.mono (Q7 hB h.size))
theorem Zb (w:World) (o:Obj):Below w w (w.alloc o):=(Qz _ _).alloc (Q4 _) _
theorem Zl (w:World) (o p:Obj):Below w w ((w.alloc o).alloc p):=(Zb w o).alloc (Zb w o).size _
def Gr (w w':World):Prop:=∃ q os,w'=Sort.grow (w.drewN q) os
theorem Gr.refl (w:World):Gr w w:=⟨0,#[],by rw [Sort.grow_empty];rfl⟩
theorem Gr.thn {a b c:World} (h:Gr a b) (k:Gr b c):Gr a c:=by
 obtain ⟨q,os,rfl⟩:=h
 obtain ⟨q',D,rfl⟩:=k
 refine ⟨q+q',os++D,?_⟩
 show Sort.grow (Sort.grow ((a.drewN q).drewN q') os) D=_
 rw [Sort.grow_grow,World.drewN_drewN]
theorem Gr.alloc {a b:World} (h:Gr a b) (o:Obj):Gr a (b.alloc o):=h.thn ⟨0,#[o],by rw [Sort.alloc_eq_grow];rfl⟩
theorem gal1 (w:World) (o:Obj):Gr w (w.alloc o):=(Gr.refl w).alloc o
theorem Vw (w:World) (o p:Obj):Gr w ((w.alloc o).alloc p):=(gal1 w o).alloc p
theorem Gr.bl {w w':World} (h:Gr w w'):Below w w w':=by
 obtain ⟨q,os,rfl⟩:=h
 refine ⟨rfl,rfl,rfl,by simp [Sort.grow],fun k hk=>?_⟩
 show (w.heap++os)[k]?=_
 rw [Array.getElem?_append_left hk]
def Mi (x:Val):Prop:=∀ (y:Val) (S:Nat->Prop) (cx cy:List Value) (w:World),Z5 S w cx x->Z5 S w cy y ->
 Calls Tryz.prog 99 #[cx,cy] w fun e w'=>e=.returned (.int .i64 (Zt x y))/\Gr w w'
def vcs (x:Val) (p3:Option Addr) (k3:Nat) (p4:Option Addr) (k4:Nat):List Value:=[.int .i64 x.kind,.int .i64 x.n,.string ⟨x.s.toArray⟩,.slice p3 x.names.length k3,.slice p4 x.kids.length k4]
def Ou (_ : Val) (_ : Option Addr) (_ : Nat) (_ : Option Addr) (_ : Nat) : P7 := ⟨0⟩
instance Ou_l {v : Val} {p : Option Addr} {a : Nat} {q : Option Addr} {b : Nat} : CoeDep P7 (Ou v p a q b) (List Value) := ⟨[.int .i64 v.kind, .int .i64 v.n, .string ⟨v.s.toArray⟩, .slice p v.names.length a, .slice q v.kids.length b]⟩
instance Ou_a {v : Val} {p : Option Addr} {a : Nat} {q : Option Addr} {b : Nat} : CoeDep P7 (Ou v p a q b) (Array Value) := ⟨#[.int .i64 v.kind, .int .i64 v.n, .string ⟨v.s.toArray⟩, .slice p v.names.length a, .slice q v.kids.length b]⟩
def Pz (_ _ : Value) (_ : Val) (_ : Option Addr) (_ : Nat) (_ : Option Addr) (_ : Nat) (_ : Val) (_ : Option Addr) (_ : Nat) (_ : Option Addr) (_ : Nat) : P7 := ⟨0⟩
instance Pz_l {c f : Value} {v : Val} {p : Option Addr} {a : Nat} {q : Option Addr} {b : Nat} {u : Val} {r : Option Addr} {d : Nat} {t : Option Addr} {e : Nat} : CoeDep P7 (Pz c f v p a q b u r d t e) (List Value) := ⟨[c, f, .int .i64 v.kind, .int .i64 v.n, .string ⟨v.s.toArray⟩, .slice p v.names.length a, .slice q v.kids.length b, .int .i64 u.kind, .int .i64 u.n, .string ⟨u.s.toArray⟩, .slice r u.names.length d, .slice t u.kids.length e]⟩
instance Pz_a {c f : Value} {v : Val} {p : Option Addr} {a : Nat} {q : Option Addr} {b : Nat} {u : Val} {r : Option Addr} {d : Nat} {t : Option Addr} {e : Nat} : CoeDep P7 (Pz c f v p a q b u r d t e) (Array Value) := ⟨#[c, f, .int .i64 v.kind, .int .i64 v.n, .string ⟨v.s.toArray⟩, .slice p v.names.length a, .slice q v.kids.length b, .int .i64 u.kind, .int .i64 u.n, .string ⟨u.s.toArray⟩, .slice r u.names.length d, .slice t u.kids.length e]⟩
theorem Z5.cells {S:Nat->Prop} {w:World} {cs:List Value} {x:Val} (h:Z5 S w cs x):∃ p3 k3 p4 k4,cs=vcs x p3 k3 p4 k4/\Sl Zi S w (.slice p3 x.names.length k3) x.names/\Sl Zc S w (.slice p4 x.kids.length k4) x.kids/\x.s.length<=1000000:=by
 obtain ⟨k,n,s,names,kids⟩:=x
 obtain ⟨nv,kv,rfl,hs,hn,hk⟩:=Xs.1 h
 obtain ⟨p3,k3,rfl,_⟩:=hn.len
 obtain ⟨p4,k4,rfl,_⟩:=hk.len
 exact ⟨p3,k3,p4,k4,rfl,hn,hk,hs⟩
theorem Sl.val {S:Nat->Prop} {w:World} {p:Option Addr} {n cap:Nat} {xs:List Val} (h:Sl Zc S w (.slice p n cap) xs) {i:Nat} {x:Val} (hx:xs[i]?=some x):
  ∃ b off p3 k3 p4 k4,p=some ⟨b,off,none⟩/\b<w.heap.size/\Z5 S w (vcs x p3 k3 p4 k4) x/\Oi w b (off+i*5) x.kind/\Oi w b (off+i*5+1) x.n/\Oi w b (off+i*5+2) x.s /\
   Oi w b (off+i*5+3) (.slice p3 x.names.length k3)/\Oi w b (off+i*5+4) (.slice p4 x.kids.length k4):=by
 obtain ⟨p',c',h1,_,h3⟩:=h
 simp only [Ql] at h1
 obtain ⟨rfl,_,_⟩:=h1
 obtain ⟨b,off,e,_,hb,hc⟩:=h3 (by intro e;subst e;simp at hx)
 obtain ⟨cs,D,h5⟩:=hc i x hx
 obtain ⟨p3,k3,p4,k4,rfl,_⟩:=Z5.cells h5
 exact ⟨b,off,p3,k3,p4,k4,e,hb,h5,D 0 _ rfl,D 1 _ rfl,D 2 _ rfl,D 3 _ rfl,D 4 _ rfl⟩
theorem cmpVs_of (S:Nat->Prop) (av bv:Value) (a b:List Val) (hC:∀ x ∈ a,Mi x) (w:World) (ha:Sl Zc S w av a) (hb:Sl Zc S w bv b):
  Calls Tryz.prog 146 #[av,bv,.func (.func 99) #[] #[]] w fun e w'=>e=.returned (.int .i64 (Xz a b))/\Gr w w':=by
 obtain ⟨pa,ca,rfl,aM⟩:=ha.len
 obtain ⟨pb,cb,rfl,aN⟩:=hb.len
 obtain ⟨HA,HB,HC⟩:=Px ha hb hC
 obtain ⟨r,hr⟩:=eX (Xz a b)
 rw [hr]
 have HR:=Qq hr
 clear ha hb hr hC
 go_enter Tryz.func146,Tryz.ntmps146
 go_wp2_with fail
 go_loopw [13] (fun i wr=>∃ k:Nat,k<=a.length/\k<=b.length/\i=.int .i64 k/\Xz (a.drop k) (b.drop k)=r/\Gr w wr) (fun i _=>a.length - (intOf i).toNat)
 case atStart=>exact ⟨0,Q3 _,Q3 _,rfl,HR.out,Gr.refl _⟩
 obtain ⟨k,aK,aL,rfl,J,U⟩:=hrel
 have I:=Qq U
 clear U
 by_cases hlt:k<a.length
 ·obtain ⟨x,O⟩:∃ x,a[k]?=some x:=⟨_,Qx hlt⟩
  have D:a.drop k=x::a.drop (k+1):=by
   rw [Qi hlt];rw [Qx hlt] at O;cases O;rfl
  obtain ⟨ga,oa,p3,k3,p4,k4,rfl,aH,N,d0,d1,d2,d3,d4⟩:=(HA.out.below I.out.bl).val O
  by_cases hlb2:k<b.length
  ·obtain ⟨y,Z⟩:∃ y,b[k]?=some y:=⟨_,Qx hlb2⟩
   have G:b.drop k=y::b.drop (k+1):=by
    rw [Qi hlb2];rw [Qx hlb2] at Z;cases Z;rfl
   obtain ⟨gb,ob,q3,l3,q4,l4,rfl,aI,V,e0,e1,e2,e3,e4⟩:=(HB.out.below I.out.bl).val Z
   rw [D,G] at J
   have L:thn (Zt x y) (Xz (a.drop (k+1)) (b.drop (k+1)))=r:=J
   have HX:=Qq (HC.out x (Qy O) y S)
   have aB:=Qq N;have aC:=Qq V
   generalize Zt x y=c at HX L
   have aE:(0:Int)<=(k:Int):=Oa
   have aF:(k:Int)<a.length:=Oa
   have aJ:(k:Int)<b.length:=Oa
   have hq:decide (b.length<=k)=false:=by simp;omega
   clear N V J D G O Z
   go_wp2_with fail
   refine (HX.out (vcs x p3 k3 p4 k4) (vcs y q3 l3 q4 l4) _ (aB.out.move (.of_below (Zl _ _ _)) P8) (aC.out.move (.of_below (Zl _ _ _)) P8)).mono ?_
   rintro e w' ⟨rfl,hw⟩
   have T:=Qq (I.out.thn ((Vw wr _ _).thn hw))
   clear hw
   by_cases hc0:c=0
   ·subst hc0
    have aA:=Qq L
    clear L
    go_wp2_with fail
    go_roundw
    case rel=>exact ⟨k+1,Oa,Oa,by go_num,aA.out,T.out⟩
    case measure=>simp [intOf];omega
   have aO:(c != 0)=true:=by rw [bne_iff_ne];exact hc0
   have aD:c=r:=by rw [<- L];unfold thn;rw [if_neg hc0]
   subst aD
   clear L hc0
   go_wp2_with fail
   go_ret
   exact ⟨rfl,T.out⟩
  have G:b.drop k=[]:=Qo Oa
  rw [D,G] at J
  have M:r=1:=by rw [<- J];rfl
  subst M
  have aE:(0:Int)<=(k:Int):=Oa
  have aF:(k:Int)<a.length:=Oa
  have hq:decide (b.length<=k)=true:=by simp;omega
  clear J D G O N
  go_wp2_with fail
  go_ret
  exact ⟨rfl,I.out.thn (gal1 _ _)⟩
 have D:a.drop k=[]:=Qo Oa
 rw [D] at J
 by_cases hlb2:a.length<b.length
 ·obtain ⟨y,t,Y⟩:∃ y t,b.drop k=y::t:=by
   have:(b.drop k).length≠0:=by rw [Qr];omega
   cases hd:b.drop k with
   | nil=>rw [hd] at this;exact absurd rfl this
   | cons y t=>exact ⟨y,t,rfl⟩
  rw [Y] at J
  have M:r=-1:=by rw [<- J];rfl
  subst M
  clear J D Y
  go_wp2_with fail
  go_ret
  exact ⟨rfl,I.out⟩
 have G:b.drop k=[]:=Qo Oa
 rw [G] at J
 have M:r=0:=by rw [<- J];rfl
 subst M
 clear J D G
 go_wp2_with fail
 go_ret
 exact ⟨rfl,I.out⟩
theorem cmpAt_of (k n:Int) (s:Bs) (ns:List Bs) (ks:List Val) (ih:∀ x ∈ ks,Mi x):Mi (.mk k n s ns ks):=by
 rintro ⟨Z,M,O,G,D⟩ S cx cy w hx hy
 obtain ⟨nv,kv,rfl,hs,hn,hk⟩:=Xs.1 hx
 obtain ⟨aF,aE,rfl,aM,aD,aC⟩:=Xs.1 hy
 have hN:∀ w',Below w w w'->Calls Tryz.prog 145 #[nv,aF] w' fun e U=>e=.returned (.int .i64 (U5 ns G))/\w'=U:=
  fun w' hb=>cmpN_any S nv aF ns G w' (hn.below hb) (aD.below hb)
 have hK:∀ w',Below w w w'->Calls Tryz.prog 146 #[kv,aE,.func (.func 99) #[] #[]] w' fun e U=>e=.returned (.int .i64 (Xz ks D))/\Gr w' U:=
  fun w' hb=>cmpVs_of S kv aE ks D ih w' (hk.below hb) (aC.below hb)
 have hS:∀ w',Calls Tryz.prog 116 #[sv s,sv O] w' fun e U=>e=.returned (.int .i64 (Y7 s O))/\w'=U:=fun w'=>Ea _ _ w'
 obtain ⟨HN,HK,HS⟩:=Px hN hK hS
 obtain ⟨cb,J⟩:=eX (Y7 s O)
 obtain ⟨cn,L⟩:=eX (U5 ns G)
 obtain ⟨cv,I⟩:=eX (Xz ks D)
 rw [J] at HS;rw [L] at HN;rw [I] at HK
 have aL:=Qq (fun o1 o2=>Zl w o1 o2)
 clear hN hK hS hx hy ih hn aD hk aC
 by_cases hkk:k=Z
 ·subst hkk
  by_cases h0:k=0
  ·subst h0
   rw [show Zt (.mk 0 n s ns ks) (.mk 0 M O G D)=ord n M by simp [Zt]]
   have V:=Qq (fun w=>Dg n M w)
   generalize ord n M=r at V |-
   clear J L I
   go_enter Tryz.func99,Tryz.ntmps99
   go_wp2_with (go_at_call 144;refine (V.out _).mono ?_;rintro e w' ⟨rfl,rfl⟩)
   go_ret
   exact ⟨rfl,Vw _ _ _⟩
  by_cases h2:k=2
  ·subst h2
   rw [show Zt (.mk 2 n s ns ks) (.mk 2 M O G D)=ord n M by simp [Zt]]
   have V:=Qq (fun w=>Dg n M w)
   generalize ord n M=r at V |-
   clear J L I h0
   go_enter Tryz.func99,Tryz.ntmps99
   go_wp2_with (go_at_call 144;refine (V.out _).mono ?_;rintro e w' ⟨rfl,rfl⟩)
   go_ret
   exact ⟨rfl,Vw _ _ _⟩
  by_cases h1:k=1
  ·subst h1
   rw [show Zt (.mk 1 n s ns ks) (.mk 1 M O G D)=cb by simp [Zt,J]]
   clear J L I h0 h2
   go_enter Tryz.func99,Tryz.ntmps99
   go_wp2_with (go_at_call 116;refine (HS.out _).mono ?_;rintro e w' ⟨rfl,rfl⟩)
   go_ret
   exact ⟨rfl,Vw _ _ _⟩
  by_cases h3:k=3
  ·subst h3
   have N:Zt (.mk 3 n s ns ks) (.mk 3 M O G D)=thn cb cv:=by simp [Zt,J,I]
   clear J L I h0 h2 h1
   by_cases hz:cb=0
   ·subst hz
    rw [N,Vb]
    clear N
    go_enter Tryz.func99,Tryz.ntmps99
    go_wp2_with (first | (go_at_call 116;refine (HS.out _).mono ?_;rintro e w' ⟨rfl,rfl⟩) | (go_at_call 146;refine (HK.out _ (Zl _ _ _)).mono ?_;rintro e w' ⟨rfl,Y⟩;have HW:=Qq ((Vw w _ _).thn Y);clear Y))
    go_ret
    exact ⟨rfl,HW.out⟩
   have hq:(cb != 0)=true:=by rw [bne_iff_ne];exact hz
   have T:Zt (.mk 3 n s ns ks) (.mk 3 M O G D)=cb:=by rw [N];unfold thn;rw [if_neg hz]
   rw [T]
   clear N T hz
   go_enter Tryz.func99,Tryz.ntmps99
   go_wp2_with (go_at_call 116;refine (HS.out _).mono ?_;rintro e w' ⟨rfl,rfl⟩)
   go_ret
   exact ⟨rfl,Vw _ _ _⟩
  by_cases h4:k=4
  ·subst h4
   have N:Zt (.mk 4 n s ns ks) (.mk 4 M O G D)=thn cn cv:=by simp [Zt,L,I]
   clear J L I h0 h2 h1 h3
   by_cases hz:cn=0
   ·subst hz
    rw [N,Vb]
    clear N
    go_enter Tryz.func99,Tryz.ntmps99
    go_wp2_with (first | (go_at_call 145;refine (HN.out _ (Zl _ _ _)).mono ?_;rintro e w' ⟨rfl,rfl⟩) | (go_at_call 146;refine (HK.out _ (Zl _ _ _)).mono ?_;rintro e w' ⟨rfl,Y⟩;have HW:=Qq ((Vw w _ _).thn Y);clear Y))
    go_ret
    exact ⟨rfl,HW.out⟩
   have hq:(cn != 0)=true:=by rw [bne_iff_ne];exact hz
   have T:Zt (.mk 4 n s ns ks) (.mk 4 M O G D)=cn:=by rw [N];unfold thn;rw [if_neg hz]
   rw [T]
   clear N T hz
   go_enter Tryz.func99,Tryz.ntmps99
   go_wp2_with (go_at_call 145;refine (HN.out _ (Zl _ _ _)).mono ?_;rintro e w' ⟨rfl,rfl⟩)
   go_ret
   exact ⟨rfl,Vw _ _ _⟩
  by_cases h5:k=5
  ·subst h5
   rw [show Zt (.mk 5 n s ns ks) (.mk 5 M O G D)=cv by simp [Zt,I]]
   clear J L I h0 h2 h1 h3 h4
   go_enter Tryz.func99,Tryz.ntmps99
   go_wp2_with (go_at_call 146;refine (HK.out _ (Zl _ _ _)).mono ?_;rintro e w' ⟨rfl,Y⟩;have HW:=Qq ((Vw w _ _).thn Y);clear Y)
   go_ret
   exact ⟨rfl,HW.out⟩
  have N:Zt (.mk k n s ns ks) (.mk k M O G D)=0:=by simp [Zt,h0,h1,h2,h3,h4,h5]
  rw [N]
  have q0:(k==0)=false:=by simpa using h0
  have q1:(k==1)=false:=by simpa using h1
  have q2:(k==2)=false:=by simpa using h2
  have q3:(k==3)=false:=by simpa using h3
  have q4:(k==4)=false:=by simpa using h4
  have q5:(k==5)=false:=by simpa using h5
  clear N J L I h0 h1 h2 h3 h4 h5
  go_enter Tryz.func99,Tryz.ntmps99
  go_wp2_with fail
  go_ret
  exact ⟨rfl,Vw _ _ _⟩
 have N:Zt (.mk k n s ns ks) (.mk Z M O G D)=ord k Z:=by simp [Zt,hkk]
 rw [N]
 have hq:(k != Z)=true:=by rw [bne_iff_ne];exact hkk
 have V:=Qq (fun w=>Dg k Z w)
 generalize ord k Z=r at V |-
 clear N J L I hkk
 go_enter Tryz.func99,Tryz.ntmps99
 go_wp2_with (go_at_call 144;refine (V.out _).mono ?_;rintro e w' ⟨rfl,rfl⟩)
 go_ret
 exact ⟨rfl,Vw _ _ _⟩
theorem cmpAt:∀ x:Val,Mi x
 | .mk k n s ns ks=>cmpAt_of k n s ns ks fun x _=>cmpAt x
termination_by x=>SizeOf.sizeOf x
decreasing_by
 have:=List.sizeOf_lt_of_mem ‹_ ∈ ks›
 simp only [Val.mk.sizeOf_spec]
 omega
end Go.Proofs.YtlanplhphiikjaaGreatDoor
namespace Go.Proofs
open Go.Shelf
def Tryz.ixRel_ren:Go.Shelf.Ren:=⟨fun | 6=>142 | n=>n,fun | 22=>29 | 23=>42 | 25=>194 | 3=>3 | 0=>0 | 4=>4 | n=>n,fun | n=>n⟩
theorem Tryz.ixRel:Go.Proofs.SlLaysH0.n6 Tryz.prog Tryz.ixRel_ren:={
 mixed:=by kernel_rfl
 f6:=⟨Tryz.f142.name,by decide,Tryz.func142.trans (congrArg some (by kernel_rfl))⟩
 t0:=Tryz.underlying0
 a0:=Tryz.isAgg0
 z0:=Tryz.sizeOf0
 v0:=Tryz.zeroValue0
 t3:=Tryz.underlying3
 a3:=Tryz.isAgg3
 z3:=Tryz.sizeOf3
 v3:=Tryz.zeroValue3
 t4:=Tryz.underlying4
 a4:=Tryz.isAgg4
 z4:=Tryz.sizeOf4
 v4:=Tryz.zeroValue4
 t22:=Tryz.underlying29
 a22:=Tryz.isAgg29
 z22:=Tryz.sizeOf29
 v22:=Tryz.zeroValue29
 t25:=Tryz.underlying194
 a25:=Tryz.isAgg194
 z25:=Tryz.sizeOf194
 v25:=Tryz.zeroValue194 }
def Tryz.ixVal_ren:Go.Shelf.Ren:=⟨fun | 6=>97 | n=>n,fun | 22=>40 | 23=>48 | 25=>126 | 3=>3 | 0=>0 | 4=>4 | n=>n,fun | n=>n⟩
theorem Tryz.ixVal:Go.Proofs.SlLaysH0.n6 Tryz.prog Tryz.ixVal_ren:={
 mixed:=by kernel_rfl
 f6:=⟨Tryz.f97.name,by decide,Tryz.func97.trans (congrArg some (by kernel_rfl))⟩
 t0:=Tryz.underlying0
 a0:=Tryz.isAgg0
 z0:=Tryz.sizeOf0
 v0:=Tryz.zeroValue0
 t3:=Tryz.underlying3
 a3:=Tryz.isAgg3
 z3:=Tryz.sizeOf3
 v3:=Tryz.zeroValue3
 t4:=Tryz.underlying4
 a4:=Tryz.isAgg4
 z4:=Tryz.sizeOf4
 v4:=Tryz.zeroValue4
 t22:=Tryz.underlying40
 a22:=Tryz.isAgg40
 z22:=Tryz.sizeOf40
 v22:=Tryz.zeroValue40
 t25:=Tryz.underlying126
 a25:=Tryz.isAgg126
 z25:=Tryz.sizeOf126
 v25:=Tryz.zeroValue126 }
def Tryz.ixSum_ren:Go.Shelf.Ren:=⟨fun | 6=>178 | n=>n,fun | 22=>24 | 23=>76 | 25=>223 | 3=>3 | 0=>0 | 4=>4 | n=>n,fun | n=>n⟩
theorem Tryz.ixSum:Go.Proofs.SlLaysH0.n6 Tryz.prog Tryz.ixSum_ren:={
 mixed:=by kernel_rfl
 f6:=⟨Tryz.f178.name,by decide,Tryz.func178.trans (congrArg some (by kernel_rfl))⟩
 t0:=Tryz.underlying0
 a0:=Tryz.isAgg0
 z0:=Tryz.sizeOf0
 v0:=Tryz.zeroValue0
 t3:=Tryz.underlying3
 a3:=Tryz.isAgg3
 z3:=Tryz.sizeOf3
 v3:=Tryz.zeroValue3
 t4:=Tryz.underlying4
 a4:=Tryz.isAgg4
 z4:=Tryz.sizeOf4
 v4:=Tryz.zeroValue4
 t22:=Tryz.underlying24
 a22:=Tryz.isAgg24
 z22:=Tryz.sizeOf24
 v22:=Tryz.zeroValue24
 t25:=Tryz.underlying223
 a25:=Tryz.isAgg223
 z25:=Tryz.sizeOf223
 v25:=Tryz.zeroValue223 }
def Tryz.ixCtor_ren:Go.Shelf.Ren:=⟨fun | 6=>180 | n=>n,fun | 22=>74 | 23=>73 | 25=>225 | 3=>3 | 0=>0 | 4=>4 | n=>n,fun | n=>n⟩
theorem Tryz.ixCtor:Go.Proofs.SlLaysH0.n6 Tryz.prog Tryz.ixCtor_ren:={
 mixed:=by kernel_rfl
 f6:=⟨Tryz.f180.name,by decide,Tryz.func180.trans (congrArg some (by kernel_rfl))⟩
 t0:=Tryz.underlying0
 a0:=Tryz.isAgg0
 z0:=Tryz.sizeOf0
 v0:=Tryz.zeroValue0
 t3:=Tryz.underlying3
 a3:=Tryz.isAgg3
 z3:=Tryz.sizeOf3
 v3:=Tryz.zeroValue3
 t4:=Tryz.underlying4
 a4:=Tryz.isAgg4
 z4:=Tryz.sizeOf4
 v4:=Tryz.zeroValue4
 t22:=Tryz.underlying74
 a22:=Tryz.isAgg74
 z22:=Tryz.sizeOf74
 v22:=Tryz.zeroValue74
 t25:=Tryz.underlying225
 a25:=Tryz.isAgg225
 z25:=Tryz.sizeOf225
 v25:=Tryz.zeroValue225 }
def Tryz.cfVal_ren:Go.Shelf.Ren:=⟨fun | 8=>94 | 6=>97 | n=>n,fun | 22=>40 | 23=>48 | 25=>126 | 4=>4 | 3=>3 | 0=>0 | n=>n,fun | n=>n⟩
theorem Tryz.cfVal:Go.Proofs.SlLaysH0.n8 Tryz.prog Tryz.cfVal_ren:={
 mixed:=by kernel_rfl
 f6:=⟨Tryz.f97.name,by decide,Tryz.func97.trans (congrArg some (by kernel_rfl))⟩
 f8:=⟨Tryz.f94.name,by decide,Tryz.func94.trans (congrArg some (by kernel_rfl))⟩
 t0:=Tryz.underlying0
 a0:=Tryz.isAgg0
 z0:=Tryz.sizeOf0
 v0:=Tryz.zeroValue0
 t3:=Tryz.underlying3
 a3:=Tryz.isAgg3
 z3:=Tryz.sizeOf3
 v3:=Tryz.zeroValue3
 t4:=Tryz.underlying4
 a4:=Tryz.isAgg4
 z4:=Tryz.sizeOf4
 v4:=Tryz.zeroValue4
 t22:=Tryz.underlying40
 a22:=Tryz.isAgg40
 z22:=Tryz.sizeOf40
 v22:=Tryz.zeroValue40
 t25:=Tryz.underlying126
 a25:=Tryz.isAgg126
 z25:=Tryz.sizeOf126
 v25:=Tryz.zeroValue126 }
def Tryz.cfExpr_ren:Go.Shelf.Ren:=⟨fun | 8=>186 | 6=>237 | n=>n,fun | 22=>57 | 23=>59 | 25=>177 | 4=>4 | 3=>3 | 0=>0 | n=>n,fun | n=>n⟩
theorem Tryz.cfExpr:Go.Proofs.SlLaysH0.n8 Tryz.prog Tryz.cfExpr_ren:={
 mixed:=by kernel_rfl
 f6:=⟨Tryz.f237.name,by decide,Tryz.func237.trans (congrArg some (by kernel_rfl))⟩
 f8:=⟨Tryz.f186.name,by decide,Tryz.func186.trans (congrArg some (by kernel_rfl))⟩
 t0:=Tryz.underlying0
 a0:=Tryz.isAgg0
 z0:=Tryz.sizeOf0
 v0:=Tryz.zeroValue0
 t3:=Tryz.underlying3
 a3:=Tryz.isAgg3
 z3:=Tryz.sizeOf3
 v3:=Tryz.zeroValue3
 t4:=Tryz.underlying4
 a4:=Tryz.isAgg4
 z4:=Tryz.sizeOf4
 v4:=Tryz.zeroValue4
 t22:=Tryz.underlying57
 a22:=Tryz.isAgg57
 z22:=Tryz.sizeOf57
 v22:=Tryz.zeroValue57
 t25:=Tryz.underlying177
 a25:=Tryz.isAgg177
 z25:=Tryz.sizeOf177
 v25:=Tryz.zeroValue177 }
def Tryz.clVal_ren:Go.Shelf.Ren:=⟨fun | 41=>141 | n=>n,fun | 22=>40 | 23=>48 | 4=>4 | n=>n,fun | n=>n⟩
theorem Tryz.clVal:Go.Proofs.SlLaysE0.n41 Tryz.prog Tryz.clVal_ren:={
 mixed:=by kernel_rfl
 f41:=⟨Tryz.f141.name,by decide,Tryz.func141.trans (congrArg some (by kernel_rfl))⟩
 t4:=Tryz.underlying4
 a4:=Tryz.isAgg4
 z4:=Tryz.sizeOf4
 v4:=Tryz.zeroValue4
 t22:=Tryz.underlying40
 a22:=Tryz.isAgg40
 z22:=Tryz.sizeOf40
 v22:=Tryz.zeroValue40 }
def Tryz.clCol_ren:Go.Shelf.Ren:=⟨fun | 41=>113 | n=>n,fun | 22=>55 | 23=>79 | 4=>4 | n=>n,fun | n=>n⟩
theorem Tryz.clCol:Go.Proofs.SlLaysE0.n41 Tryz.prog Tryz.clCol_ren:={
 mixed:=by kernel_rfl
 f41:=⟨Tryz.f113.name,by decide,Tryz.func113.trans (congrArg some (by kernel_rfl))⟩
 t4:=Tryz.underlying4
 a4:=Tryz.isAgg4
 z4:=Tryz.sizeOf4
 v4:=Tryz.zeroValue4
 t22:=Tryz.underlying55
 a22:=Tryz.isAgg55
 z22:=Tryz.sizeOf55
 v22:=Tryz.zeroValue55 }
def Tryz.clStr_ren:Go.Shelf.Ren:=⟨fun | 41=>150 | n=>n,fun | 22=>46 | 23=>9 | 4=>4 | n=>n,fun | n=>n⟩
theorem Tryz.clStr:Go.Proofs.SlLaysE0.n41 Tryz.prog Tryz.clStr_ren:={
 mixed:=by kernel_rfl
 f41:=⟨Tryz.f150.name,by decide,Tryz.func150.trans (congrArg some (by kernel_rfl))⟩
 t4:=Tryz.underlying4
 a4:=Tryz.isAgg4
 z4:=Tryz.sizeOf4
 v4:=Tryz.zeroValue4
 t22:=Tryz.underlying46
 a22:=Tryz.isAgg46
 z22:=Tryz.sizeOf46
 v22:=Tryz.zeroValue46 }
def Tryz.clRef_ren:Go.Shelf.Ren:=⟨fun | 41=>235 | n=>n,fun | 22=>56 | 23=>82 | 4=>4 | n=>n,fun | n=>n⟩
theorem Tryz.clRef:Go.Proofs.SlLaysE0.n41 Tryz.prog Tryz.clRef_ren:={
 mixed:=by kernel_rfl
 f41:=⟨Tryz.f235.name,by decide,Tryz.func235.trans (congrArg some (by kernel_rfl))⟩
 t4:=Tryz.underlying4
 a4:=Tryz.isAgg4
 z4:=Tryz.sizeOf4
 v4:=Tryz.zeroValue4
 t22:=Tryz.underlying56
 a22:=Tryz.isAgg56
 z22:=Tryz.sizeOf56
 v22:=Tryz.zeroValue56 }
def Tryz.clByte_ren:Go.Shelf.Ren:=⟨fun | 41=>39 | n=>n,fun | 22=>23 | 23=>5 | 4=>4 | n=>n,fun | n=>n⟩
theorem Tryz.clByte:Go.Proofs.SlLaysE0.n41 Tryz.prog Tryz.clByte_ren:={
 mixed:=by kernel_rfl
 f41:=⟨Tryz.f39.name,by decide,Tryz.func39.trans (congrArg some (by kernel_rfl))⟩
 t4:=Tryz.underlying4
 a4:=Tryz.isAgg4
 z4:=Tryz.sizeOf4
 v4:=Tryz.zeroValue4
 t22:=Tryz.underlying23
 a22:=Tryz.isAgg23
 z22:=Tryz.sizeOf23
 v22:=Tryz.zeroValue23 }
end Go.Proofs
namespace Go.Proofs.YtlanplhphiikjaaGreatDoor
open Go.RowKit Go.Shelf Go.Lib Tryz
def V5 {T:Type} (p:T->Bool) (xs:List T):Int:=match xs.findIdx? p with
 | some i=>i
 | none=>-1
theorem Js {T:Type} {p:T->Bool} {xs:List T} {k:Nat} {x:T} (hx:xs[k]?=some x) (hp:p x=true) (hne:∀ (j:Nat) (y:T),j<k->xs[j]?=some y->p y=false):V5 p xs=k:=by
 have:xs.findIdx? p=some k:=by
  obtain ⟨hk,rfl⟩:=Qj hx
  rw [List.findIdx?_eq_some_iff_getElem]
  exact ⟨hk,hp,fun j hj=>by simpa using hne j _ hj (Qx Oa)⟩
 unfold V5;rw [this]
theorem J0 {T:Type} {p:T->Bool} {xs:List T} (hne:∀ (j:Nat) (y:T),xs[j]?=some y->p y=false):V5 p xs=-1:=by
 have:xs.findIdx? p=none:=by
  rw [List.findIdx?_eq_none_iff]
  intro y hy
  obtain ⟨j,hj⟩:=Qt hy
  exact hne j y hj
 unfold V5;rw [this]
theorem Kp {T:Type} (p:T->Bool) (xs:List T):decide (0<=V5 p xs)=xs.any p:=by
 unfold V5
 cases h:xs.findIdx? p with
 | none=>
  rw [List.findIdx?_eq_none_iff] at h
  have:xs.any p=false:=by rw [List.any_eq_false];intro x hx;simp [h x hx]
  rw [this];rfl
 | some i=>
  rw [List.findIdx?_eq_some_iff_getElem] at h
  obtain ⟨hi,hp,_⟩:=h
  have:xs.any p=true:=List.any_eq_true.2 ⟨_,Q8 hi,hp⟩
  rw [this];simp
def Xo {T:Type} (P:Program) (g:Nat) (lb:Array Value) (r:Rd T) (S:Nat->Prop) (xs:List T) (p:T->Bool) (w:World):Prop:=
 ∀ (W:World) (x:T) (cs:List Value),Below w w W->x ∈ xs->r.R S W cs x ->
  Calls P g (#[.agg cs.toArray]++lb) W fun e w'=>e=.returned (.bool (p x))/\Below W W w'
theorem Sl.elem {T:Type} {r:Rd T} {S:Nat->Prop} {w:World} {p:Option Addr} {n cap:Nat} {xs:List T} (h:Sl r S w (.slice p n cap) xs) {i:Nat} {x:T} (hx:xs[i]?=some x):
  ∃ b off cs,p=some ⟨b,off,none⟩/\b<w.heap.size/\S b/\cs.length=r.k/\r.R S w cs x/\∀ j u,cs[j]?=some u->w.cell? ⟨b,off+i*r.k+j,none⟩=some u:=by
 obtain ⟨p',c',h1,_,h3⟩:=h
 simp only [Ql] at h1
 obtain ⟨rfl,_,_⟩:=h1
 obtain ⟨b,off,e,hS,hb,hc⟩:=h3 (by intro e;subst e;simp at hx)
 obtain ⟨cs,h4,h5⟩:=hc i x hx
 exact ⟨b,off,cs,e,hb,hS,r.len h5,h5,h4⟩
section
variable {P:Program} {ρ:Ren} {T:Type}
theorem G5 (L:SlLaysH0.n6 P ρ) (r:Rd T) (aE:∀ w,(isAgg (ρ.t 23)).run P w=.ok true w) (zE:∀ w,(Go.sizeOf (ρ.t 23)).run P w=.ok r.k w) (g:Nat) (lb:Array Value)
  (eg:∀ args w,(callFunc g args).run P w=.ok (.enter g args) w) (S:Nat->Prop) (v:Value) (xs:List T) (w:World) (p:T->Bool) (hs:Sl r S w v xs) (hp:Xo P g lb r S xs p w):
  Calls P (ρ.f 6) #[v,.func (.func g) #[] lb] w fun e w'=>e=.returned (.int .i64 (V5 p xs))/\Below w w w':=by
 obtain ⟨q,cap,rfl,hl⟩:=hs.len
 have mixed:=L.mixed;have t0:=L.t0;have a0:=L.a0;have z0:=L.z0;have v0:=L.v0;have t3:=L.t3;have a3:=L.a3;have z3:=L.z3;have v3:=L.v3;have t4:=L.t4;have a4:=L.a4;have z4:=L.z4;have v4:=L.v4;have t22:=L.t22;have a22:=L.a22;have z22:=L.z22;have v22:=L.v22;have t25:=L.t25;have a25:=L.a25;have z25:=L.z25;have v25:=L.v25
 obtain ⟨_,_,FG⟩:=L.f6
 have HS:=Qq hs;have HP:=Qq hp
 clear hs hp
 obtain ⟨n,U⟩:=eX (xs.length)
 rw [U] at HS hl
 rw [U]
 have HN:=Qq U
 clear U
 go_enter FG,SlBodyH.n6_ntmps ρ
 go_wp2
 go_loopg [5,8] n (fun gg _ s8 wr=>∃ G:Nat,G<=n/\n - G<=gg/\s8=.int .i64 G/\Aside (Below w w wr)/\Aside (∀ (j:Nat) (y:T),j<G->xs[j]?=some y->p y=false))
 case atStart=>exact ⟨0,Q3 _,Oa,rfl,Qz _ w,fun j _ hj=>absurd hj (Z1 _)⟩
 obtain ⟨G,Y,hg,rfl,M,A⟩:=hrel
 by_cases hlt:G<n
 ·have N:(G:Int)<(n:Int):=Oa
  have O:=Qx (l:=xs) (i:=G) (by rw [HN.out];exact hlt)
  generalize xs[G]'_=x at O
  obtain ⟨b,V,cs,rfl,hb,-,hk,hR,hc⟩:=(HS.out.below M.out).elem O
  have l2:Sem.run P (loadCellsFrom ⟨b,V+G*r.k,none⟩ 0 r.k #[]) wr=.ok cs.toArray wr:=
   run_loadCellsFrom_list P _ _ cs r.k hk (fun i u hi=>by rw [Addr.add_lit];exact hc i u hi)
  have D:=HP.out wr x cs M.out (Qy O) hR
  have HX:=Qq O
  clear hc hR O
  cases hq:p x with
  | true=>
   rw [hq] at D
   go_wp2_with (go_at_fn g;refine D.mono ?_;rintro e w' ⟨rfl,I⟩)
   go_ret
   refine ⟨?_,M.out.thn I⟩
   rw [Js HX.out hq A.out]
   rfl
  | false=>
   rw [hq] at D
   go_wp2_with (go_at_fn g;refine D.mono ?_;rintro e w' ⟨rfl,I⟩)
   go_roundg (n - (G+1))
   case measure=>omega
   case rel=>
    refine ⟨G+1,Oa,Oa,by go_num,M.out.thn I,(show Aside _ from fun j y hj J=>?_)⟩
    by_cases e:j=G
    ·subst e
     have:=HX.out
     rw [this] at J
     cases J
     exact hq
    exact A.out j y Oa J
 have N:¬ (G:Int)<(n:Int):=Oa
 have:G=n:=Oa
 subst this
 go_wp2
 go_ret
 refine ⟨?_,M.out⟩
 rw [J0 (fun j y J=>A.out j y (by have:=(Qj J).1;have:=HN.out;omega) J)]
 rfl
theorem conFn (L:SlLaysH0.n8 P ρ) (r:Rd T) (aE:∀ w,(isAgg (ρ.t 23)).run P w=.ok true w) (zE:∀ w,(Go.sizeOf (ρ.t 23)).run P w=.ok r.k w) (g:Nat) (lb:Array Value)
  (eg:∀ args w,(callFunc g args).run P w=.ok (.enter g args) w) (S:Nat->Prop) (v:Value) (xs:List T) (w:World) (p:T->Bool) (hs:Sl r S w v xs) (hp:Xo P g lb r S xs p w):
  Calls P (ρ.f 8) #[v,.func (.func g) #[] lb] w fun e w'=>e=.returned (.bool (xs.any p))/\Below w w w':=by
 rw [<- Kp]
 have mixed:=L.mixed;have t0:=L.t0;have a0:=L.a0;have z0:=L.z0;have v0:=L.v0;have t3:=L.t3;have a3:=L.a3;have z3:=L.z3;have v3:=L.v3;have t4:=L.t4;have a4:=L.a4;have z4:=L.z4;have v4:=L.v4;have t22:=L.t22;have a22:=L.a22;have z22:=L.z22;have v22:=L.v22;have t25:=L.t25;have a25:=L.a25;have z25:=L.z25;have v25:=L.v25
 have e6:∀ args w,(callFunc (ρ.f 6) args).run P w=.ok (.enter (ρ.f 6) args) w:=L.f6.enters rfl
 have hC:=Qq (G5 { L with } r aE zE g lb eg S v xs w p hs hp)
 obtain ⟨_,_,FG⟩:=L.f8
 generalize V5 p xs=i at hC |-
 clear hs hp
 go_enter FG,SlBodyH.n8_ntmps ρ
 go_wp2_with (go_at_fn (ρ.f 6);refine hC.out.mono ?_;rintro e w' ⟨rfl,D⟩)
 go_ret
 exact ⟨rfl,D⟩
theorem Ep (L:SlLaysE0.n41 P ρ) (i0:TypeInfo) (z:Value) (size bytes:Nat) (hi:P.info? (ρ.t 23)=some i0) (hz0:i0.zero=some z) (hz1:i0.size=size) (hz2:i0.bytes=bytes) (hzs:z.cells.size=size) (hsz:0<size)
  (z23:∀ w,(Go.sizeOf (ρ.t 23)).run P w=.ok size w) (ad:Addr) (c:Nat) (w:World):
  Calls P (ρ.f 41) #[.slice (some ad) 0 c] w fun e w'=>∃ v',e=.returned v'/\w'.ownsRow w (ρ.t 23) size v' 0 []/\Below w w w':=by
 have mixed:=L.mixed;have t4:=L.t4;have a4:=L.a4;have z4:=L.z4;have v4:=L.v4;have t22:=L.t22;have a22:=L.a22;have z22:=L.z22;have v22:=L.v22
 have N:∀ (w:World) (a:Option Addr) (n c J I:Nat),(binOp .eql (ρ.t 22) (.slice a n c) (.slice none J I)).run P w=.ok (.bool a.isNone) w:=fun w a n c J I=>Lib.run_eql_slice_nil w _ _ a n c J I L.t22
 have O:∀ w,Sem.run P (underlying (ρ.t 22)) w=.ok (TypeDesc.slice (ρ.t 23)) w:=run_underlying t22
 obtain ⟨_,_,FG⟩:=L.f41
 go_enter FG,SlBodyN.n41_ntmps ρ
 go_wp2_with (at_builtin;refine wpList_append_own _ rfl _ _ (ρ.t 22) rfl w (ρ.t 23) i0 z size bytes t22 hi hz0 hz1 hz2 hzs hsz _ _ _ rfl (World.ownsRow_made w #[] 0 (Q4 _) (Q3 _) Od) ad 0 c [] rfl Od Od Od (by unfold maxLen;omega) Od Od ?_)
 intro v' w1 G D M
 go_wp2
 go_ret
 refine ⟨v',rfl,by simpa using G,?_⟩
 exact ((Qz _ w).alloc (Q4 _) _).grown D Od (by intro k hk;simp [Value.ownBlock] at hk;omega)
def U4 (r:Rd T) (E:TypeId) (S:Nat->Prop) (w:World) (xs:List T) (e:Ending) (w':World):Prop:=
 ∃ p cap css,e=.returned (.slice p xs.length cap)/\Own r E S w w' (.slice p xs.length cap) xs css/\Below w w w'
theorem Own.form {r:Rd T} {E:TypeId} {S:Nat->Prop} {B:Nat} {w:World} {v:Value} {xs:List T} {css:List (List Value)} (h:Own r E S B w v xs css):∃ p cap,v=.slice p xs.length cap:=by
 rcases h.row.2 with ⟨rfl,h0⟩ | ⟨g,cap,D,rfl,_⟩
 ·exact ⟨none,0,by rw [h0]⟩
 exact ⟨_,_,rfl⟩
theorem Kh {r:Rd T} {E:TypeId} {S:Nat->Prop} {w w':World} {v:Value} {xs:List T} {css:List (List Value)} (h:Own r E S w w' v xs css) (hb:Below w w w'):U4 r E S w xs (.returned v) w':=by
 obtain ⟨p,cap,rfl⟩:=h.form
 exact ⟨p,cap,css,rfl,h,hb⟩
theorem Kj (L:SlLaysE0.n41 P ρ) (r:Rd T) (hk:0<r.k) (bytes:Nat) (i0:TypeInfo) (z:Value) (hi:P.info? (ρ.t 23)=some i0) (hz0:i0.zero=some z) (hz1:i0.size=r.k) (hz2:i0.bytes=bytes) (hzs:z.cells.size=r.k)
  (z23:∀ w,(Go.sizeOf (ρ.t 23)).run P w=.ok r.k w) (hby:bytes<=1000) (h1:∀ S w cs x,r.R S w cs x->∀ u ∈ cs,u.oneCell'=true) (S:Nat->Prop) (v:Value) (xs:List T) (w:World) (hs:Sl r S w v xs):
  Calls P (ρ.f 41) #[v] w (U4 r (ρ.t 23) S w xs):=by
 obtain ⟨p,cap,css,rfl,D,U⟩:=hs.css hk
 obtain ⟨_,_,_,hl⟩:=hs.len
 have I:∀ w' v',Below w w w'->w'.ownsRow w (ρ.t 23) r.k v' xs.length css.flatten->Own r (ρ.t 23) S w w' v' xs css:=by
  intro w' v' hb J
  refine ⟨J,D.move (.of_below hb) (fun b hb h=>⟨h,fun e=>?_⟩)⟩
  have:=(J.lt b e.symm).1
  omega
 by_cases hx:xs=[]
 ·subst hx
  have M:css=[]:=Zq D.len
  subst M
  rcases p with _ | ad
  ·refine (AnyE.slices_Clone_nil L 0 cap w).mono ?_
   rintro e w' ⟨rfl,rfl⟩
   exact Kh (I _ _ (Qz _ _) (by simpa using World.ownsRow_nil w' w' (ρ.t 23) r.k)) (Qz _ _)
  refine (Ep L i0 z r.k bytes hi hz0 hz1 hz2 hzs hk z23 ad cap w).mono ?_
  rintro e w' ⟨v',rfl,J,G⟩
  exact Kh (I _ _ G (by simpa using J)) G
 obtain ⟨b,Y,rfl,hS,hb,hc⟩:=U hx
 refine (AnyE.slices_Clone L i0 z r.k bytes hi hz0 hz1 hz2 hzs hk z23 b Y xs.length cap css.flatten w D.flat (by unfold maxLen;omega) (by
  have:=Nat.mul_le_mul hl hby;omega) hc (fun u hu=>?_)).mono ?_
 ·obtain ⟨c,N,V⟩:=List.mem_flatten.1 hu
  obtain ⟨i,hi⟩:=Qt N
  have O:=(Qj hi).1
  exact h1 S w c _ (D.R i c _ hi (Qx (by rw [<- D.len];exact O))) u V
 rintro e w' ⟨v',rfl,J,_,G⟩
 exact Kh (I _ _ G J) G
end
end Go.Proofs.YtlanplhphiikjaaGreatDoor
