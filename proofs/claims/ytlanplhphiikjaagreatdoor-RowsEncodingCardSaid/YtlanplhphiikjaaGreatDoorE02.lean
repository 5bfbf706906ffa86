import Derived.Test.YtlanplhphiikjaaGreatDoorE01
set_option maxRecDepth 100000
set_option maxHeartbeats 400000000
namespace Go.Proofs.YtlanplhphiikjaaGreatDoor
open Go.RowKit
inductive Ty where
 | mk (kind:Int) (name:Bs) (n:Int) (names:List Bs) (kids:List Ty)
inductive Ex where
 | mk (kind:Int) (name:Bs) (n:Int) (s:Bs) (names binds:List Bs) (kids:List Ex) (a z:Int)
inductive Xc (S:Nat->Prop) (w:World):List Value->Ty->Prop
 | mk (k n:Int) (s:Bs) (names:List Bs) (kids:List Ty) (nv:Value) (p:Option Addr) (cap b off:Nat) (cs:Nat->List Value) (hs:s.length<=1000000) (hn:Sl Zg S w nv names) (hl:kids.length<=1000000)
   (hp:kids≠[]->p=some ⟨b,off,none⟩/\S b/\b<w) (hc:∀ i x,kids[i]?=some x->∀ j u,(cs i)[j]?=some u->w.cell? ⟨b,off+i*5+j,none⟩=some u)
   (hr:∀ i x,kids[i]?=some x->Xc S w (cs i) x):Xc S w [k,sv s,n,nv,.slice p kids.length cap] (.mk k s n names kids)
theorem Xc.length {S:Nat->Prop} {w:World} {cs:List Value} {x:Ty} (h:Xc S w cs x):cs.length=5:=by cases h;rfl
theorem Xc.move {S S':Nat->Prop} {w w':World} {cs:List Value} {x:Ty} (h:Xc S w cs x) (hA:Vz S w w') (hS:∀ b,b<w.heap.size->S b->S' b):Xc S' w' cs x:=by
 induction h with
 | mk k n s names kids nv p cap b off cs hs hn hl hp hc hr ih=>
  refine .mk k n s names kids nv p cap b off cs hs ((hn.mono (S':=fun b=>S b/\S' b) (fun b hb h=>⟨h,hS b hb h⟩)).frame (fun b hb=>hA b hb.1) |>.mono (fun b _ h=>h.2)) hl ?_ ?_ ih
  ·intro A
   obtain ⟨e,h1,D⟩:=hp A
   refine ⟨e,hS b D h1,?_⟩
   have:=hA b h1 D
   rw [Array.getElem?_eq_getElem D] at this
   exact (Array.getElem?_eq_some_iff.1 this).1
  intro i x I j u hu
  have A:kids≠[]:=by intro e;rw [e] at I;simp at I
  exact hA.cell (a:=⟨b,_,none⟩) (hp A).2.1 (hc i x I j u hu)
def Jo:Rd Ty where
 k:=5
 R:=Xc
 len h:=h.length
 frame h hA:=h.move hA Qyv
 mono h hS:=h.move (.refl _ _) hS
theorem Dy {S:Nat->Prop} {w:World} {k n:Int} {s:Bs} {names:List Bs} {kids:List Ty} {nv kv:Value} (hs:s.length<=1000000) (hn:Sl Zg S w nv names) (hk:Sl Jo S w kv kids):
  Xc S w [k,sv s,n,nv,kv] (.mk k s n names kids):=by
 obtain ⟨p,cap,rfl,hl,h⟩:=hk
 by_cases hne:kids=[]
 ·subst hne
  exact .mk k n s names [] nv p cap 0 0 (fun _=>[]) hs hn hl (fun h=>absurd rfl h) (fun i x A=>by simp at A) (fun i x A=>by simp at A)
 obtain ⟨b,off,e,hS,hb,hc⟩:=h hne
 obtain ⟨cs,D⟩:∃ cs:Nat->List Value,∀ i x,kids[i]?=some x->(∀ j u,(cs i)[j]?=some u->w.cell? ⟨b,off+i*5+j,none⟩=some u)/\Xc S w (cs i) x:=by
  refine ⟨fun i=>if h:i<kids.length then Classical.choose (hc i kids[i] (Qx h)) else [],fun i x A=>?_⟩
  obtain ⟨hi,rfl⟩:=Qj A
  simp only [dif_pos hi]
  exact Classical.choose_spec (hc i kids[i] (Qx hi))
 exact .mk k n s names kids nv p cap b off cs hs hn hl (fun _=>⟨e,hS,hb⟩) (fun i x A=>(D i x A).1) (fun i x A=>(D i x A).2)
theorem Rn {S:Nat->Prop} {w:World} {cs:List Value} {k n:Int} {s:Bs} {names:List Bs} {kids:List Ty}:
  Xc S w cs (.mk k s n names kids)↔∃ nv kv,cs=[.int .i64 k,sv s,.int .i64 n,nv,kv]/\s.length<=1000000/\Sl Zg S w nv names/\Sl Jo S w kv kids:=by
 constructor
 ·intro h
  cases h with
  | mk _ _ _ _ _ nv p cap b off cs I D hl hp hc hr=>
   exact ⟨nv,_,rfl,I,D,p,cap,rfl,hl,fun A=>⟨b,off,(hp A).1,(hp A).2.1,(hp A).2.2,fun i x hx=>⟨cs i,hc i x hx,hr i x hx⟩⟩⟩
 rintro ⟨nv,kv,rfl,I,D,hk⟩
 exact Dy I D hk
inductive Y1 (S:Nat->Prop) (w:World):List Value->Ex->Prop
 | mk (k:Int) (nm:Bs) (n:Int) (s:Bs) (names binds:List Bs) (kids:List Ex) (a z:Int) (nv bv:Value) (p:Option Addr) (cap b off:Nat) (cs:Nat->List Value) (hm:nm.length<=1000000) (hs:s.length<=1000000) (hn:Sl Zg S w nv names) (hb:Sl Zg S w bv binds) (hl:kids.length<=1000000) (hroom:kids.length<=cap)
   (hp:kids≠[]->p=some ⟨b,off,none⟩/\S b/\b<w) (hc:∀ i x,kids[i]?=some x->∀ j u,(cs i)[j]?=some u->w.cell? ⟨b,off+i*9+j,none⟩=some u)
   (hr:∀ i x,kids[i]?=some x->Y1 S w (cs i) x):Y1 S w [k,sv nm,n,sv s,nv,bv,.slice p kids.length cap,a,z] (.mk k nm n s names binds kids a z)
theorem Y1.length {S:Nat->Prop} {w:World} {cs:List Value} {x:Ex} (h:Y1 S w cs x):cs.length=9:=by cases h;rfl
theorem Y1.move {S S':Nat->Prop} {w w':World} {cs:List Value} {x:Ex} (h:Y1 S w cs x) (hA:Vz S w w') (hS:∀ b,b<w.heap.size->S b->S' b):Y1 S' w' cs x:=by
 induction h with
 | mk k nm n s names binds kids a z nv bv p cap b off cs hm hs hn hb hl hroom hp hc hr ih=>
  refine .mk k nm n s names binds kids a z nv bv p cap b off cs hm hs ((hn.mono (S':=fun b=>S b/\S' b) (fun b hb h=>⟨h,hS b hb h⟩)).frame (fun b hb=>hA b hb.1) |>.mono (fun b _ h=>h.2)) ((hb.mono (S':=fun b=>S b/\S' b) (fun b A h=>⟨h,hS b A h⟩)).frame (fun b A=>hA b A.1) |>.mono (fun b _ h=>h.2)) hl hroom ?_ ?_ ih
  ·intro D
   obtain ⟨e,h1,I⟩:=hp D
   refine ⟨e,hS b I h1,?_⟩
   have:=hA b h1 I
   rw [Array.getElem?_eq_getElem I] at this
   exact (Array.getElem?_eq_some_iff.1 this).1
  intro i x J j u hu
  have D:kids≠[]:=by intro e;rw [e] at J;simp at J
  exact hA.cell (a:=⟨b,_,none⟩) (hp D).2.1 (hc i x J j u hu)
def Vw:Rd Ex where
 k:=9
 R:=Y1
 len h:=h.length
 frame h hA:=h.move hA Qyv
 mono h hS:=h.move (.refl _ _) hS
def Room (v:Value) (n:Nat):Prop:=∃ p cap,v=.slice p n cap/\n<=cap
theorem Xv {S:Nat->Prop} {w:World} {k:Int} {nm:Bs} {n:Int} {s:Bs} {names binds:List Bs} {kids:List Ex} {a z:Int} {nv bv kv:Value} (hm:nm.length<=1000000) (hs:s.length<=1000000) (hn:Sl Zg S w nv names) (hb:Sl Zg S w bv binds) (hk:Sl Vw S w kv kids) (hr:Room kv kids.length:=by first | exact ⟨_,_,rfl,Qxz⟩ | exact ⟨_,_,rfl,Qxv⟩):
  Y1 S w [k,sv nm,n,sv s,nv,bv,kv,a,z] (.mk k nm n s names binds kids a z):=by
 obtain ⟨p,cap,rfl,hl,h⟩:=hk
 have I:kids.length<=cap:=by
  obtain ⟨_,_,e,hr⟩:=hr
  cases e;exact hr
 by_cases hne:kids=[]
 ·subst hne
  exact .mk k nm n s names binds [] a z nv bv p cap 0 0 (fun _=>[]) hm hs hn hb hl I (fun h=>absurd rfl h) (fun i x A=>by simp at A) (fun i x A=>by simp at A)
 obtain ⟨b,off,e,hS,J,hc⟩:=h hne
 obtain ⟨cs,D⟩:∃ cs:Nat->List Value,∀ i x,kids[i]?=some x->(∀ j u,(cs i)[j]?=some u->w.cell? ⟨b,off+i*9+j,none⟩=some u)/\Y1 S w (cs i) x:=by
  refine ⟨fun i=>if h:i<kids.length then Classical.choose (hc i kids[i] (Qx h)) else [],fun i x A=>?_⟩
  obtain ⟨hi,rfl⟩:=Qj A
  simp only [dif_pos hi]
  exact Classical.choose_spec (hc i kids[i] (Qx hi))
 exact .mk k nm n s names binds kids a z nv bv p cap b off cs hm hs hn hb hl I (fun _=>⟨e,hS,J⟩) (fun i x A=>(D i x A).1) (fun i x A=>(D i x A).2)
theorem Yd {S:Nat->Prop} {w:World} {cs:List Value} {k:Int} {nm:Bs} {n:Int} {s:Bs} {names binds:List Bs} {kids:List Ex} {a z:Int}:
  (Y1 S w cs (.mk k nm n s names binds kids a z)->∃ nv bv kv,cs=[.int .i64 k,sv nm,.int .i64 n,sv s,nv,bv,kv,.int .i64 a,.int .i64 z]/\nm.length<=1000000/\s.length<=1000000/\Sl Zg S w nv names/\Sl Zg S w bv binds/\Sl Vw S w kv kids)/\True:=by
 constructor
 ·intro h
  cases h with
  | mk _ _ _ _ _ _ _ _ _ nv bv p cap b off cs hm hs hn hb hl hroom hp hc hr=>
   exact ⟨nv,bv,_,rfl,hm,hs,hn,hb,p,cap,rfl,hl,fun A=>⟨b,off,(hp A).1,(hp A).2.1,(hp A).2.2,fun i x hx=>⟨cs i,hc i x hx,hr i x hx⟩⟩⟩
 trivial
def eqv (a b:Val):Bool:=decide (key a=key b)
theorem Cn {a b:Val}:eqv a b=true↔key a=key b:=by unfold eqv;exact decide_eq_true_iff
theorem eqv_cmp (a b:Val):decide (Yk a b=0)=eqv a b:=by unfold eqv;rw [decide_eq_decide];exact N1
structure Rel where
 table:Bs
 rows:List Val
def Vt (l:List Rel) (t:Bs):Option Nat:=l.findIdx? (fun r=>decide (r.table=t))
def V0 (l:List Rel) (t:Bs):List Val:=match Vt l t with
 | some i=>(l.getD i ⟨[],[]⟩).rows
 | none=>[]
def Nv (l:List Val) (x:Val):Bool:=l.any (fun y=>eqv y x)
def Ua (l:List Val) (x:Val):Nat:=(l.takeWhile (fun y=>decide (Yk y x<=0))).length
def J3 (l:List Val) (x:Val):List Val:=if Nv l x then l else l.take (Ua l x)++x::l.drop (Ua l x)
def Js (l:List Rel) (t:Bs) (x:Val):List Rel:=match Vt l t with
 | some i=>l.set i ⟨(l.getD i ⟨[],[]⟩).table,J3 (l.getD i ⟨[],[]⟩).rows x⟩
 | none=>l
def V5 (l:List Bs) (x:Bs):Option Nat:=l.findIdx? (fun y=>decide (y=x))
def Xj (v:Val) (name:Bs):Option Val:=if v.kind=4 then (match V5 v.names name with
 | some i=>v.kids[i]?
 | none=>none) else none
def keyOf:List Bs->Val->Option (List Val)
 | [],_=>some []
 | k::ks,row=>match Xj row k,keyOf ks row with
  | some v,some l=>some (v::l)
  | _,_=>none
theorem Qzn (l:List Val) (x:Val) (h:Nv l x=false):J3 l x=l.take (Ua l x)++x::l.drop (Ua l x):=by unfold J3;rw [if_neg (by simp [h])]
structure Ct where
 name:Bs
 has:Bool
 arg:Ty
structure Sm where
 name:Bs
 ctors:List Ct
structure Col where
 name:Bs
 type:Ty
structure Rf where
 column:Bs
 table:Bs
structure Tbl where
 name:Bs
 columns:List Col
 key:List Bs
 refs:List Rf
 check:Ex
structure Sc where
 sums:List Sm
 tables:List Tbl
namespace Gen
def ty (k:Int):Ty:=.mk k [] 0 [] []
def whole:Ty:=ty 0
def text:Ty:=ty 1
def yesno:Ty:=ty 2
def hueT:Ty:=.mk 3 [72,117,101] 0 [] []
def hue:Sm:=⟨[72,117,101],[⟨[82,101,100],false,ty 0⟩,⟨[68,97,114,107],true,whole⟩]⟩
def var (x:Bs):Ex:=.mk 3 x 0 [] [] [] [] 0 0
def int (n:Int):Ex:=.mk 0 [] n [] [] [] [] 0 0
def bool (n:Int):Ex:=.mk 2 [] n [] [] [] [] 0 0
def str (s:Bs):Ex:=.mk 1 [] 0 s [] [] [] 0 0
def op (o:Bs) (l:List Ex):Ex:=.mk 14 o 0 [] [] [] l 0 0
def a:Ex:=var [97]
def b:Ex:=var [98]
def c:Ex:=var [99]
def d:Ex:=var [100]
def e:Ex:=var [101]
def one:Ex:=int 1
def yes:Ex:=bool 1
def rec:Ex:=.mk 6 [] 0 [] [[121],[120]] [] [a,b] 0 0
def wth:Ex:=.mk 7 [] 0 [] [[120]] [] [rec,one] 0 0
def check:Nat->Ex
 | 0=>yes
 | 1=>yes
 | 2=>yes
 | 3=>op [60,61] [a,op [43] [b,op [42] [one,one]]]
 | 4=>op [111,114] [d,op [33,61] [c,str [97,98]]]
 | 5=>.mk 12 [] 0 [] [] [] [d,op [60] [a,b],op [61,61] [c,c]] 0 0
 | 6=>.mk 13 [] 0 [] [[82,101,100],[68,97,114,107]] [[],[110]] [e,yes,op [60] [var [110],b]] 0 0
 | 7=>op [60] [.mk 8 [120] 0 [] [] [] [wth] 0 0,.mk 8 [121] 0 [] [] [] [rec] 0 0]
 | 8=>.mk 11 [97] 0 [] [] [] [op [45] [a,b],op [97,110,100] [op [60] [a,one],op [110,111,116] [d]]] 0 0
 | 9=>op [61,61] [op [43,43] [c,c],str []]
 | 10=>op [97,110,100] [d,op [43] [a,c]]
 | 11=>op [33,61] [.mk 9 [] 0 [] [] [] [a,b] 0 0,.mk 9 [] 0 [] [] [] [one,a] 0 0]
 | _=>.mk 4 [97,110,121] 0 [] [] [] [.mk 9 [] 0 [] [] [] [] 0 0] 0 0
def schema (k:Nat) (two ref third:Bool):Sc:=
 ⟨[hue],[⟨[116],[⟨[97],whole⟩,⟨[98],whole⟩,⟨[99],text⟩,⟨[100],yesno⟩,⟨[101],hueT⟩],if two then [[98],[97]] else [[97]],if ref then [⟨[98],[117]⟩] else [],check k⟩,
  ⟨[117],[⟨[107],whole⟩,⟨[110],text⟩],[[107]],[],yes⟩]++if third then [⟨[118],[⟨[120],whole⟩,⟨[121],whole⟩],[[120]],[⟨[121],[118]⟩,⟨[120],[117]⟩],yes⟩] else []⟩
end Gen
def Vr (n:Int):Val:=.mk 0 n [] [] []
def Cc (s:Bs):Val:=.mk 1 0 s [] []
def Jy (b:Bool):Val:=.mk 2 (if b then 1 else 0) [] [] []
def vMake (s:Bs) (l:List Val):Val:=.mk 3 0 s [] l
def Jj (l:List Bs) (m:List Val):Val:=.mk 4 0 [] l m
def vList (l:List Val):Val:=.mk 5 0 [] [] l
def wordB (s:Bs):Bool:=decide (s≠[]/\(nxt s).2=s.length/\(nxt s).1=2/\s.length<=16)
def below (l:List Bs) (x:Bs):Nat:=(l.takeWhile (fun y=>decide (Yg y x<0))).length
def X5 {T:Type} (l:List T) (i:Nat) (x:T):List T:=l.take i++x::l.drop i
def recGo:List Bs->List Val->List Bs->List Val->Option Val
 | l,m,[],[]=>some (Jj l m)
 | l,m,x::ns,v::vs=>if wordB x=false then none else if x ∈ l then none else recGo (X5 l (below l x) x) (X5 m (below l x) v) ns vs
 | _,_,_,_=>none
def recV (names:List Bs) (vals:List Val):Option Val:=recGo [] [] names vals
def Dh (v:Val) (name:Bs) (x:Val):Option Val:=if v.kind=4 then (match V5 v.names name with
 | some i=>if i<v.kids.length then some (.mk v.kind v.n v.s v.names (v.kids.set i x)) else none
 | none=>none) else none
def withGo:List Bs->Val->List Bs->List Val->Option Val
 | _,v,_,[]=>some v
 | seen,v,x::ns,y::ys=>if x ∈ seen then none else match Dh v x y with
  | some u=>withGo (seen++[x]) u ns ys
  | none=>none
 | _,_,[],_::_=>none
def isB (v:Val):Bool:=decide (v.kind=2)
def two (o:Bs) (a b:Val):Option Val:=
 if o=[43] then (if a.kind=0/\b.kind=0 then some (Vr (IntKind.i64.wrap (a.n+b.n))) else none)
 else if o=[45] then (if a.kind=0/\b.kind=0 then some (Vr (IntKind.i64.wrap (a.n - b.n))) else none)
 else if o=[42] then (if a.kind=0/\b.kind=0 then some (Vr (IntKind.i64.wrap (a.n*b.n))) else none)
 else if o=[43,43] then (if a.kind=1/\b.kind=1/\a.s.length+b.s.length<=4096 then some (Cc (a.s++b.s)) else none)
 else if o=[61,61] then some (Jy (decide (Yk a b=0)))
 else if o=[33,61] then some (Jy (decide (Yk a b≠0)))
 else if o=[60] then some (Jy (decide (Yk a b<0)))
 else if o=[60,61] then some (Jy (decide (Yk a b<=0)))
 else none
def Ly (x:Bs):List (Bs × Val)->Option Val
 | []=>none
 | (y,v)::env=>if y=x then some v else Ly x env
def ev:Nat->Ex->List (Bs × Val)->Option Val
 | 0,_,_=>none
 | f+1,.mk k nm n s names binds kids _ _,env=>
  let kid:Nat->List (Bs × Val)->Option Val:=fun i env=>match kids[i]? with
   | some e=>ev f e env
   | none=>none
  let all:Option (List Val):=kids.mapM (fun e=>ev f e env)
  if k=0 then some (Vr n)
  else if k=1 then (if s.length<=4096 then some (Cc s) else none)
  else if k=2 then some (Jy (decide (n=1)))
  else if k=3 then Ly nm env
  else if k=5 then all.map (vMake nm)
  else if k=6 then all.bind (recV names)
  else if k=7 then (match all with
   | some (v::vs)=>if v.kind=4 then withGo [] v names vs else none
   | _=>none)
  else if k=8 then (kid 0 env).bind (fun v=>Xj v nm)
  else if k=9 then (if kids.length<=4096 then all.map vList else none)
  else if k=11 then (kid 0 env).bind (fun v=>kid 1 ((nm,v)::env))
  else if k=12 then (kid 0 env).bind (fun v=>if isB v then (if v.n=1 then kid 1 env else kid 2 env) else none)
  else if k=13 then (kid 0 env).bind (fun v=>if v.kind=3 then (match V5 names v.s with
   | some i=>if binds.getD i []=[] then kid (i+1) env else (match v.kids with
    | [x]=>kid (i+1) ((binds.getD i [],x)::env)
    | _=>none)
   | none=>none) else none)
  else if k=14 then
   (
    if nm=[110,111,116] then (if kids.length=1 then (kid 0 env).bind (fun v=>if isB v then some (Jy (decide (v.n≠1))) else none) else none)
    else if kids.length=2 then
     (
     if nm=[97,110,100] then (kid 0 env).bind (fun v=>if isB v then (if v.n=1 then (kid 1 env).bind (fun u=>if isB u then some (Jy (decide (u.n=1))) else none) else some (Jy false)) else none)
     else if nm=[111,114] then (kid 0 env).bind (fun v=>if isB v then (if v.n=1 then some (Jy true) else (kid 1 env).bind (fun u=>if isB u then some (Jy (decide (u.n=1))) else none)) else none)
     else (kid 0 env).bind (fun a=>(kid 1 env).bind (fun b=>two nm a b)))
    else none)
  else none
def Ex.depth:Ex->Nat
 | .mk _ _ _ _ _ _ kids _ _=>go kids+1
where go:List Ex->Nat
 | []=>0
 | e::l=>max e.depth (go l)
def Ex.kids:Ex->List Ex | .mk _ _ _ _ _ _ kids _ _=>kids
def Ex.kind:Ex->Int | .mk k _ _ _ _ _ _ _ _=>k
theorem Lu (x:Int) (w:World):Calls Tryz.prog 205 #[x] w fun e w'=>e=.returned (.bool false)/\w=w':=by
 go_enter Tryz.func205,Tryz.ntmps205
 go_wp2
 go_ret
 exact ⟨Qxz,rfl⟩
theorem Lc (x y:Int) (w:World):Calls Tryz.prog 144 #[x,y] w fun e w'=>e=.returned (.int .i64 (ord x y))/\w=w':=by
 have key:∀ r,ord x y=r->Calls Tryz.prog 144 #[x,y] w fun e w'=>e=.returned (.int .i64 r)/\w=w':=by
  intro r A
  by_cases h1:x<y
  ·have:r=-1:=by rw [<- A];unfold ord;rw [if_pos h1]
   subst this
   clear A
   go_enter Tryz.func144,Tryz.ntmps144
   go_wp2_with (go_at_call 205;refine (Lu _ _).mono ?_;rintro e w' ⟨rfl,rfl⟩)
   go_ret
   exact ⟨rfl,rfl⟩
  by_cases h2:y<x
  ·have:r=1:=by rw [<- A];unfold ord;rw [if_neg h1,if_pos h2]
   subst this
   clear A
   go_enter Tryz.func144,Tryz.ntmps144
   go_wp2_with (go_at_call 205;refine (Lu _ _).mono ?_;rintro e w' ⟨rfl,rfl⟩)
   go_ret
   exact ⟨rfl,rfl⟩
  have:r=0:=by rw [<- A];unfold ord;rw [if_neg h1,if_neg h2]
  subst this
  clear A
  go_enter Tryz.func144,Tryz.ntmps144
  go_wp2_with (go_at_call 205;refine (Lu _ _).mono ?_;rintro e w' ⟨rfl,rfl⟩)
  go_ret
  exact ⟨rfl,rfl⟩
 exact key _ rfl
end Go.Proofs.YtlanplhphiikjaaGreatDoor
namespace Go.Proofs
open Go.Shelf
def Tryz.lays106_ren:Go.Shelf.Ren:=⟨fun | 106=>116 | 213=>173 | 265=>232 | n=>n,fun | 9=>9 | 3=>3 | n=>n,fun | n=>n⟩
theorem Tryz.lays106:Go.Proofs.Lays.n106 Tryz.prog Tryz.lays106_ren:={
 mixed:=by kernel_rfl
 f106:=Tryz.func116.trans (congrArg some (by kernel_rfl))
 f213:=Tryz.func173.trans (congrArg some (by kernel_rfl))
 f265:=Tryz.func232.trans (congrArg some (by kernel_rfl))
 t3:=Tryz.underlying3
 a3:=Tryz.isAgg3
 z3:=Tryz.sizeOf3
 v3:=Tryz.zeroValue3
 t9:=Tryz.underlying9
 a9:=Tryz.isAgg9
 z9:=Tryz.sizeOf9
 v9:=Tryz.zeroValue9 }
open Go.RowKit in
theorem Tryz.strings_Compare (a b:ByteArray) (w:World):
  Calls Tryz.prog 116 #[.string a,.string b] w fun e w'=>e=.returned (.int .i64 (Lib.compareBytes a.data.toList b.data.toList))∧w'=w:=Any.strings_Compare Tryz.lays106 a b w
end Go.Proofs
namespace Go.Proofs.YtlanplhphiikjaaGreatDoor
open Go.RowKit
theorem cmpB_lib (a b:Bs):Lib.compareBytes a b=Yg a b:=by
 induction a generalizing b with
 | nil=>cases b <;> rfl
 | cons x s ih=>
  cases b with
  | nil=>rfl
  | cons y t=>
   have A:x<y↔(x.toNat:Int)<y.toNat:=by rw [UInt8.lt_iff_toNat_lt];omega
   have h2:y<x↔(y.toNat:Int)<x.toNat:=by rw [UInt8.lt_iff_toNat_lt];omega
   show (if x<y then -1 else if y<x then 1 else Lib.compareBytes s t)=thn (ord x.toNat y.toNat) (Yg s t)
   by_cases a1:x<y
   ·have e:ord x.toNat y.toNat=-1:=by unfold ord;rw [if_pos (A.1 a1)]
    rw [if_pos a1,e];rfl
   rw [if_neg a1]
   by_cases a2:y<x
   ·have e:ord x.toNat y.toNat=1:=by unfold ord;rw [if_neg (fun h=>a1 (A.2 h)),if_pos (h2.1 a2)]
    rw [if_pos a2,e];rfl
   have e:ord x.toNat y.toNat=0:=by unfold ord;rw [if_neg (fun h=>a1 (A.2 h)),if_neg (fun h=>a2 (h2.2 h))]
   rw [if_neg a2,e,ih t];rfl
theorem Sf (a b:ByteArray) (w:World):Calls Tryz.prog 116 #[.string a,.string b] w fun e w'=>e=.returned (.int .i64 (Yg (bl a) (bl b)))/\w=w':=by
 refine (Tryz.strings_Compare a b w).mono ?_
 rintro e w' ⟨rfl,rfl⟩
 exact ⟨by rw [cmpB_lib],rfl⟩
theorem Lo (x:ByteArray) (w:World):Calls Tryz.prog 254 #[.string x] w fun e w'=>e=.returned (.bool false)/\w=w':=by
 go_enter Tryz.func254,Tryz.ntmps254
 go_wp2
 go_ret
 exact ⟨Qxz,rfl⟩
theorem Vc (a b:Bs):Op.bytesLess a b=decide (Yg a b<0)/\((a==b)=decide (Yg a b=0))/\(Yg a b=-1\/Yg a b=0\/Yg a b=1):=by
 induction a generalizing b with
 | nil=>cases b <;> simp [Op.bytesLess,Yg]
 | cons x s ih=>
  cases b with
  | nil=>simp [Op.bytesLess,Yg]
  | cons y t=>
   obtain ⟨i1,i2,i3⟩:=ih t
   have D:x<y↔(x.toNat:Int)<y.toNat:=by rw [UInt8.lt_iff_toNat_lt];omega
   have I:y<x↔(y.toNat:Int)<x.toNat:=by rw [UInt8.lt_iff_toNat_lt];omega
   have J:x=y↔(x.toNat:Int)=y.toNat:=⟨fun h=>by rw [h],fun h=>UInt8.toNat_inj.1 Qvu⟩
   simp only [Op.bytesLess,Yg,List.cons_beq_cons]
   by_cases a1:x<y
   ·have e:ord x.toNat y.toNat=-1:=by unfold ord;rw [if_pos (D.1 a1)]
    have A:(x==y)=false:=by rw [<- Qt,beq_iff_eq,J];have:=D.1 a1;omega
    simp [e,thn,a1,A]
   by_cases a2:y<x
   ·have e:ord x.toNat y.toNat=1:=by unfold ord;rw [if_neg (fun h=>a1 (D.2 h)),if_pos (I.1 a2)]
    have A:(x==y)=false:=by rw [<- Qt,beq_iff_eq,J];have:=I.1 a2;omega
    simp [e,thn,a1,A]
   have n1:¬ ((x.toNat:Int)<y.toNat):=fun h=>a1 (D.2 h)
   have n2:¬ ((y.toNat:Int)<x.toNat):=fun h=>a2 (I.2 h)
   have M:x=y:=by rw [J];omega
   subst M
   simp [Jv,thn,i1,i2,i3]
theorem F8 (x:ByteArray):x.toList=bl x:=Lib.toList_data x
theorem Qku (x y:ByteArray) (w:World):Calls Tryz.prog 206 #[.string x,.string y] w fun e w'=>e=.returned (.int .i64 (Yg (bl x) (bl y)))/\w=w':=by
 obtain ⟨A,D,I⟩:=Vc (bl x) (bl y)
 obtain ⟨g1,g2,g3⟩:=Vc (bl y) (bl x)
 have J:Yg (bl x) (bl y)=- Yg (bl y) (bl x):=by
  have:=Uj (bl x) (bl y) [] []
  have h:=Uj (bl y) (bl x) [] []
  simp only [List.append_nil,lex,Ko] at this h
  rw [<- this,<- h];exact Du _ _
 rw [<- F8 x,<- F8 y] at A D I g1 g2 g3 J |-
 obtain ⟨c,M⟩:=eX (Yg x.toList y.toList)
 rw [M] at A D I J |-
 have HC:=Qq M
 clear M J g1 g2 g3
 rcases I with I | I | I <;> subst I
 ·have k1:Op.bytesLess x.toList y.toList=true:=A.trans Qxv
  have k2:(x.toList==y.toList)=false:=D.trans Qxv
  clear A D
  go_enter Tryz.func206,Tryz.ntmps206
  go_wp2_with (go_at_call 254;refine (Lo _ _).mono ?_;rintro e w' ⟨rfl,rfl⟩)
  go_ret
  exact ⟨rfl,rfl⟩
 ·have k1:Op.bytesLess x.toList y.toList=false:=A.trans Qxv
  have k2:(x.toList==y.toList)=true:=D.trans Qxv
  clear A D
  go_enter Tryz.func206,Tryz.ntmps206
  go_wp2_with (go_at_call 254;refine (Lo _ _).mono ?_;rintro e w' ⟨rfl,rfl⟩)
  go_ret
  exact ⟨rfl,rfl⟩
 have k1:Op.bytesLess x.toList y.toList=false:=A.trans Qxv
 have k2:(x.toList==y.toList)=false:=D.trans Qxv
 clear A D
 go_enter Tryz.func206,Tryz.ntmps206
 go_wp2_with (go_at_call 254;refine (Lo _ _).mono ?_;rintro e w' ⟨rfl,rfl⟩)
 go_ret
 exact ⟨rfl,rfl⟩
theorem Sl.str {S:Nat->Prop} {w:World} {p:Option Addr} {n cap:Nat} {xs:List Bs} (h:Sl Zg S w (.slice p n cap) xs) {i:Nat} {x:Bs} (hx:xs[i]?=some x):
  ∃ b off,p=some ⟨b,off,none⟩/\Qxw w b (off+i) x/\x.length<=1000000:=by
 obtain ⟨p',c',h1,_,h3⟩:=h
 simp only [Qr] at h1
 obtain ⟨rfl,_,_⟩:=h1
 obtain ⟨b,off,e,_,_,hc⟩:=h3 (by intro e;subst e;simp at hx)
 obtain ⟨cs,h4,h5,h6⟩:=hc i x hx
 refine ⟨b,off,e,?_,h6⟩
 have:=h4 0 (sv x) (by rw [h5];rfl)
 rwa [Nat.add_zero,show Zg.k=1 from rfl,Nat.mul_one] at this
theorem cmpN_any (S:Nat->Prop) (av bv:Value) (a b:List Bs) (w:World) (ha:Sl Zg S w av a) (hb:Sl Zg S w bv b):
  Calls Tryz.prog 145 #[av,bv] w fun e w'=>e=.returned (.int .i64 (Kl a b))/\w=w':=by
 obtain ⟨pa,ca,rfl,aF⟩:=ha.len
 obtain ⟨pb,cb,rfl,aG⟩:=hb.len
 have HA:=Qq ha;have HB:=Qq hb
 obtain ⟨r,hr⟩:=eX (Kl a b)
 rw [hr]
 have HR:=Qq hr
 clear ha hb hr
 go_enter Tryz.func145,Tryz.ntmps145
 go_wp2_with fail
 go_loop [11] (fun i=>∃ k:Nat,k<=a.length/\k<=b.length/\i=.int .i64 k/\Kl (a.drop k) (b.drop k)=r) (fun i=>a.length - (intOf i).toNat)
 case atStart=>exact ⟨0,Q8 _,Q8 _,rfl,HR.out⟩
 obtain ⟨k,aD,aE,rfl,I⟩:=hrel
 by_cases hlt:k<a.length
 ·obtain ⟨x,O⟩:∃ x,a[k]?=some x:=⟨_,Qx hlt⟩
  have A:a.drop k=x::a.drop (k+1):=by
   rw [Qp hlt];rw [Qx hlt] at O;cases O;rfl
  obtain ⟨ga,oa,rfl,c1,l1⟩:=HA.out.str O
  by_cases hlb2:k<b.length
  ·obtain ⟨y,T⟩:∃ y,b[k]?=some y:=⟨_,Qx hlb2⟩
   have D:b.drop k=y::b.drop (k+1):=by
    rw [Qp hlb2];rw [Qx hlb2] at T;cases T;rfl
   obtain ⟨gb,ob,rfl,c2,l2⟩:=HB.out.str T
   rw [A,D] at I
   have V:=Qq (Qku ⟨x.toArray⟩ ⟨y.toArray⟩)
   have N:Yg (bl ⟨x.toArray⟩) (bl ⟨y.toArray⟩)=Yg x y:=rfl
   rw [N] at V
   have J:thn (Yg x y) (Kl (a.drop (k+1)) (b.drop (k+1)))=r:=I
   generalize Yg x y=c at V J
   have Z:(0:Int)<=(k:Int):=Qvu
   have aA:(k:Int)<a.length:=Qvu
   have aC:(k:Int)<b.length:=Qvu
   have hq:decide (b.length<=k)=false:=by simp;omega
   by_cases hc0:c=0
   ·subst hc0
    have HC:=Qq J
    clear I J A D O T N
    go_wp2_with (go_at_call 206;refine (V.out _).mono ?_;rintro e w' ⟨rfl,rfl⟩)
    go_round
    case rel=>exact ⟨k+1,Qvu,Qvu,by go_num,HC.out⟩
    case measure=>simp [intOf];omega
   have aH:(c != 0)=true:=by rw [bne_iff_ne];exact hc0
   have Y:c=r:=by rw [<- J];unfold thn;rw [if_neg hc0]
   subst Y
   clear I J A D O T N hc0
   go_wp2_with (go_at_call 206;refine (V.out _).mono ?_;rintro e w' ⟨rfl,rfl⟩)
   go_ret
   exact ⟨rfl,rfl⟩
  have D:b.drop k=[]:=Qu Qvu
  rw [A,D] at I
  have M:r=1:=by rw [<- I];rfl
  subst M
  have Z:(0:Int)<=(k:Int):=Qvu
  have aA:(k:Int)<a.length:=Qvu
  have hq:decide (b.length<=k)=true:=by simp;omega
  clear I A D O
  go_wp2_with fail
  go_ret
  exact ⟨rfl,rfl⟩
 have A:a.drop k=[]:=Qu Qvu
 rw [A] at I
 by_cases hlb2:a.length<b.length
 ·obtain ⟨y,t,U⟩:∃ y t,b.drop k=y::t:=by
   have:(b.drop k).length≠0:=by rw [Zq];omega
   cases hd:b.drop k with
   | nil=>rw [hd] at this;exact absurd rfl this
   | cons y t=>exact ⟨y,t,rfl⟩
  rw [U] at I
  have M:r=-1:=by rw [<- I];rfl
  subst M
  clear I A U
  go_wp2_with fail
  go_ret
  exact ⟨rfl,rfl⟩
 have D:b.drop k=[]:=Qu Qvu
 rw [D] at I
 have M:r=0:=by rw [<- I];rfl
 subst M
 clear I A D
 go_wp2_with fail
 go_ret
 exact ⟨rfl,rfl⟩
theorem Hj {α:Type} (n:Nat) (Q:Nat->α->Prop) (h:∀ i,i<n->∃ a,Q i a):∃ l:List α,l.length=n/\∀ i a,l[i]?=some a->Q i a:=by
 induction n with
 | zero=>exact ⟨[],rfl,fun i a h=>by simp at h⟩
 | succ n ih=>
  obtain ⟨l,hl,hq⟩:=ih (fun i hi=>h i Qvu)
  obtain ⟨a,ha⟩:=h n Qvu
  refine ⟨l++[a],by simp [hl],fun i b hb=>?_⟩
  by_cases hi:i<l.length
  ·rw [List.getElem?_append_left hi] at hb;exact hq i b hb
  rw [Zx Qvu] at hb
  have h0:i - l.length=0:=by
   have:=(Qj hb).1
   simp at this;omega
  rw [h0] at hb
  simp at hb
  subst hb
  have:i=n:=Qvu
  rw [this];exact ha
theorem R1 {k:Nat} {css:List (List Value)} (h:∀ c ∈ css,c.length=k):css.flatten.length=css.length*k:=by
 induction css with
 | nil=>simp
 | cons c css ih=>
  rw [List.flatten_cons,Ql,h c Qxz,ih (fun d hd=>h d (by simp [hd])),List.length_cons,Nat.add_mul]
  omega
theorem V9 {k:Nat} {css:List (List Value)} (h:∀ c ∈ css,c.length=k) {i j:Nat} {c:List Value} {u:Value} (hc:css[i]?=some c) (hu:c[j]?=some u):css.flatten[i*k+j]?=some u:=by
 induction css generalizing i with
 | nil=>simp at hc
 | cons d css ih=>
  have hd:=h d Qxz
  rw [List.flatten_cons]
  cases i with
  | zero=>
   simp at hc;subst hc
   have hj:j<d.length:=(Qj hu).1
   rw [Nat.zero_mul,Nat.zero_add,List.getElem?_append_left hj];exact hu
  | succ i=>
   have:=ih (fun e he=>h e (by simp [he])) (i:=i) (by simpa using hc)
   rw [Zx (by rw [hd,Nat.add_mul];omega),hd]
   rw [show (i+1)*k+j - k=i*k+j by rw [Nat.add_mul];omega]
   exact this
theorem flat_at {k:Nat} (hk:0<k) {css:List (List Value)} (h:∀ c ∈ css,c.length=k) {m:Nat} {u:Value} (hu:css.flatten[m]?=some u):∃ c,css[m / k]?=some c/\c[m % k]?=some u:=by
 have hm:m<css.length*k:=by rw [<- R1 h];exact (Qj hu).1
 have hi:m / k<css.length:=Nat.div_lt_of_lt_mul (by rwa [Nat.mul_comm])
 have hc:=Qx hi
 have hl:=h _ (Qd hi)
 have hj:m % k<(css[m / k]).length:=by rw [hl];exact Nat.mod_lt _ hk
 refine ⟨_,hc,?_⟩
 have:=V9 h hc (Qx hj)
 rw [Nat.div_add_mod' m k] at this
 rw [Qx hj,<- hu,this]
structure Cs {T:Type} (r:Rd T) (S:Nat->Prop) (w:World) (css:List (List Value)) (xs:List T):Prop where
 len:css.length=xs.length
 R:∀ (i:Nat) (c:List Value) (x:T),css[i]?=some c->xs[i]?=some x->r.R S w c x
theorem Cs.all {T:Type} {r:Rd T} {S:Nat->Prop} {w:World} {css:List (List Value)} {xs:List T} (h:Cs r S w css xs):∀ c ∈ css,c.length=r.k:=by
 intro c hc
 obtain ⟨i,hi⟩:=Zk hc
 have A:=(Qj hi).1
 exact r.len (h.R i c _ hi (Qx (by rw [<- h.len];exact A)))
theorem Cs.flat {T:Type} {r:Rd T} {S:Nat->Prop} {w:World} {css:List (List Value)} {xs:List T} (h:Cs r S w css xs):css.flatten.length=xs.length*r.k:=by rw [R1 h.all,h.len]
theorem Cs.move {T:Type} {r:Rd T} {S S':Nat->Prop} {w w':World} {css:List (List Value)} {xs:List T} (h:Cs r S w css xs) (hA:Vz S w w') (hS:∀ b,b<w.heap.size->S b->S' b):Cs r S' w' css xs:=
 ⟨h.len,fun i c x hc hx=>r.mono (r.frame (r.mono (S':=fun b=>S b/\S' b) (h.R i c x hc hx) (fun b hb h=>⟨h,hS b hb h⟩)) (fun b hb=>hA b hb.1)) (fun _ _ h=>h.2)⟩
theorem Cs.app {T:Type} {r:Rd T} {S:Nat->Prop} {w:World} {css dss:List (List Value)} {xs ys:List T} (h:Cs r S w css xs) (g:Cs r S w dss ys):Cs r S w (css++dss) (xs++ys):=by
 refine ⟨by rw [Ql,Ql,h.len,g.len],fun i c x A D=>?_⟩
 by_cases hi:i<css.length
 ·rw [List.getElem?_append_left hi] at A
  rw [List.getElem?_append_left (by rw [<- h.len];exact hi)] at D
  exact h.R i c x A D
 rw [Zx Qvu] at A
 rw [Zx (by rw [<- h.len];omega),<- h.len] at D
 exact g.R _ c x A D
theorem Cs.one {T:Type} {r:Rd T} {S:Nat->Prop} {w:World} {c:List Value} {x:T} (h:r.R S w c x):Cs r S w [c] [x]:=by
 refine ⟨rfl,fun i c' x' A hx=>?_⟩
 cases i with
 | zero=>simp at A hx;subst A;subst hx;exact h
 | succ i=>simp at A
theorem Cs.nil {T:Type} (r:Rd T) (S:Nat->Prop) (w:World):Cs r S w [] []:=⟨rfl,fun i c x hc _=>by simp at hc⟩
theorem Sl.css {T:Type} {r:Rd T} (hk:0<r.k) {S:Nat->Prop} {w:World} {v:Value} {xs:List T} (h:Sl r S w v xs):
  ∃ p cap css,v=.slice p xs.length cap/\Cs r S w css xs/\(xs≠[]->∃ b off,p=some ⟨b,off,none⟩/\S b/\b<w.heap.size/\∀ j u,css.flatten[j]?=some u->w.cell? ⟨b,off+j,none⟩=some u):=by
 obtain ⟨p,cap,h1,h2,h3⟩:=h
 by_cases hne:xs=[]
 ·subst hne;exact ⟨p,cap,[],h1,Cs.nil _ _ _,fun h=>absurd rfl h⟩
 obtain ⟨b,off,e,hS,hb,hc⟩:=h3 hne
 obtain ⟨css,hl,hq⟩:=Hj xs.length (fun i cs=>(∀ j u,cs[j]?=some u->w.cell? ⟨b,off+i*r.k+j,none⟩=some u)/\∀ x,xs[i]?=some x->r.R S w cs x) (fun i hi=>by
  obtain ⟨cs,h4,h5⟩:=hc i _ (Qx hi)
  exact ⟨cs,h4,fun x I=>by rw [Qx hi] at I;cases I;exact h5⟩)
 have D:Cs r S w css xs:=⟨hl,fun i c x A I=>(hq i c A).2 x I⟩
 refine ⟨p,cap,css,h1,D,fun _=>⟨b,off,e,hS,hb,fun j u hu=>?_⟩⟩
 obtain ⟨c,A,J⟩:=flat_at hk D.all hu
 have:=(hq _ c A).1 _ u J
 rwa [Nat.add_assoc,Nat.div_add_mod' j r.k] at this
theorem Sl.of_css {T:Type} {r:Rd T} {S:Nat->Prop} {w:World} {xs:List T} {b off cap:Nat} {css:List (List Value)} (hl:xs.length<=1000000) (h:Cs r S w css xs) (hS:S b) (hb:b<w)
  (hc:∀ j u,css.flatten[j]?=some u->w.cell? ⟨b,off+j,none⟩=some u):Sl r S w (.slice (some ⟨b,off,none⟩) xs.length cap) xs:=by
 refine ⟨_,cap,rfl,hl,fun _=>⟨b,off,rfl,hS,hb,fun i x hx=>?_⟩⟩
 have hi:i<css.length:=by rw [h.len];exact (Qj hx).1
 refine ⟨css[i],fun j u hu=>?_,h.R i _ x (Qx hi) hx⟩
 have:=hc _ u (V9 h.all (Qx hi) hu)
 rwa [<- Nat.add_assoc] at this
def But (S:Nat->Prop) (v:Value):Nat->Prop:=fun b=>S b/\some b≠v.ownBlock
structure Own {T:Type} (r:Rd T) (E:TypeId) (S:Nat->Prop) (B:Nat) (w:World) (v:Value) (xs:List T) (css:List (List Value)):Prop where
 row:w.ownsRow B E r.k v xs.length css.flatten
 cs:Cs r (But S v) w css xs
theorem Own.nil {T:Type} (r:Rd T) (E:TypeId) (S:Nat->Prop) (B:Nat) (w:World):Own r E S B w (.slice none 0 0) [] []:=⟨by simpa using World.ownsRow_nil w B E r.k,Cs.nil _ _ _⟩
theorem Dd {w w':World} {B:Nat} {e:TypeId} {sz n:Nat} {v:Value} {xs:List Value} (h:w.ownsRow B e sz v n xs) (hb:Below w w w'):w'.ownsRow B e sz v n xs:=by
 refine ⟨h.1,?_⟩
 rcases h.2 with hn | ⟨g,cap,cur,rfl,hB,hg,rest⟩
 ·exact .inl hn
 refine .inr ⟨g,cap,cur,rfl,hB,?_,rest⟩
 rw [hb.block g (Array.getElem?_eq_some_iff.1 hg).1];exact hg
theorem Own.below {T:Type} {r:Rd T} {E:TypeId} {S:Nat->Prop} {B:Nat} {w w':World} {v:Value} {xs:List T} {css:List (List Value)} (h:Own r E S B w v xs css) (hb:Below w w w'):Own r E S B w' v xs css:=
 ⟨Dd h.row hb,h.cs.move (.of_below hb) Qyv⟩
theorem Own.append {T:Type} {r:Rd T} {E:TypeId} {S:Nat->Prop} {B:Nat} {W w2:World} {v v':Value} {xs ys:List T} {css dss:List (List Value)} (h:Own r E S B W v xs css) (hd:Cs r (But S v) W dss ys)
  (hown:w2.ownsRow B E r.k v' (xs.length+ys.length) (css.flatten++dss.flatten)) (hgrow:W.grownBy w2 v.ownBlock) (hat:v'.ownBlock=v.ownBlock\/v'.ownBlock=some W.heap.size):Own r E S B w2 v' (xs++ys) (css++dss):=by
 refine ⟨by rw [Ql,List.flatten_append];exact hown,?_⟩
 have hc:=h.cs.app hd
 have h1:Cs r (fun b=>But S v b/\But S v' b) W (css++dss) (xs++ys):=hc.move (.refl _ _) (fun b hb h=>⟨h,h.1,by
  rcases hat with e | e
  ·rw [e];exact h.2
  rw [e];intro e2;have:=Qb e2;omega⟩)
 exact h1.move (fun b hb A=>hgrow.block b A hb.1.2) (fun _ _ h=>h.2)
theorem Hd {w:World} {g:Nat} {cur:Array Value} {E:TypeId} {n:Nat} {ys:List Value} (hg:w.heap[g]?=some (.cells cur E (0,0))) (ht:cur.toList.take n=ys) {j:Nat} {u:Value} (hu:ys[j]?=some u):w.cell? ⟨g,j,none⟩=some u:=by
 rw [Qk w g j cur E (0,0) hg]
 rw [<- ht,List.getElem?_take] at hu
 split at hu
 ·simpa using hu
 cases hu
theorem Own.sl {T:Type} {r:Rd T} {E:TypeId} {S S':Nat->Prop} {B:Nat} {w:World} {v:Value} {xs:List T} {css:List (List Value)} (h:Own r E S B w v xs css) (hl:xs.length<=1000000)
  (h1:∀ b,B<=b->S' b) (h2:∀ b,b<w.heap.size->S b->S' b):Sl r S' w v xs:=by
 rcases h.row.2 with ⟨rfl,h0⟩ | ⟨g,cap,A,rfl,hB,hg,_,_,_,ht⟩
 ·rw [Zy h0];exact Sl.nil _ _ _
 refine Sl.of_css (css:=css) hl (h.cs.move (.refl _ _) (fun b hb h=>h2 b hb h.1)) (h1 g hB) (Array.getElem?_eq_some_iff.1 hg).1 (fun j u hu=>?_)
 rw [Nat.zero_add];exact Hd hg ht hu
end Go.Proofs.YtlanplhphiikjaaGreatDoor
namespace Go.Proofs
open Go.Shelf
def Tryz.insCol_ren:Go.Shelf.Ren:=⟨fun | 20=>230 | n=>n,fun | 24=>79 | 22=>55 | 3=>3 | 25=>174 | 4=>4 | 0=>0 | n=>n,fun | n=>n⟩
theorem Tryz.insCol:Go.Proofs.SlLaysF0.n20 Tryz.prog Tryz.insCol_ren:={
 mixed:=by kernel_rfl
 f20:=⟨Tryz.f230.name,by decide,Tryz.func230.trans (congrArg some (by kernel_rfl))⟩
 t0:=Tryz.underlying0
 a0:=Tryz.isAgg0
 z0:=Tryz.sizeOf0
 v0:=Tryz.zeroValue0
 t3:=Tryz.underlying3
 a3:=Tryz.isAgg3
 z3:=Tryz.sizeOf3
 v3:=Tryz.zeroValue3
 t4:=Tryz.underlying4
 a4:=Tryz.isAgg4
 z4:=Tryz.sizeOf4
 v4:=Tryz.zeroValue4
 t22:=Tryz.underlying55
 a22:=Tryz.isAgg55
 z22:=Tryz.sizeOf55
 v22:=Tryz.zeroValue55
 t25:=Tryz.underlying174
 a25:=Tryz.isAgg174
 z25:=Tryz.sizeOf174
 v25:=Tryz.zeroValue174 }
def Tryz.laysBS_ren:Go.Shelf.Ren:=⟨fun | 26=>238 | 33=>272 | 34=>273 | 38=>254 | n=>n,fun | 24=>46 | 9=>9 | 3=>3 | 4=>4 | 40=>144 | 0=>0 | n=>n,fun | n=>n⟩
theorem Tryz.laysBS:Go.Proofs.Lays2.n26 Tryz.prog Tryz.laysBS_ren:={
 mixed:=by kernel_rfl
 f26:=Tryz.func238.trans (congrArg some (by kernel_rfl))
 f33:=Tryz.func272.trans (congrArg some (by kernel_rfl))
 f34:=Tryz.func273.trans (congrArg some (by kernel_rfl))
 f38:=Tryz.func254.trans (congrArg some (by kernel_rfl))
 t0:=Tryz.underlying0
 a0:=Tryz.isAgg0
 z0:=Tryz.sizeOf0
 v0:=Tryz.zeroValue0
 t3:=Tryz.underlying3
 a3:=Tryz.isAgg3
 z3:=Tryz.sizeOf3
 v3:=Tryz.zeroValue3
 t4:=Tryz.underlying4
 a4:=Tryz.isAgg4
 z4:=Tryz.sizeOf4
 v4:=Tryz.zeroValue4
 t9:=Tryz.underlying9
 a9:=Tryz.isAgg9
 z9:=Tryz.sizeOf9
 v9:=Tryz.zeroValue9
 t24:=Tryz.underlying46
 a24:=Tryz.isAgg46
 z24:=Tryz.sizeOf46
 v24:=Tryz.zeroValue46
 t40:=Tryz.underlying144
 a40:=Tryz.isAgg144
 z40:=Tryz.sizeOf144
 v40:=Tryz.zeroValue144 }
end Go.Proofs

