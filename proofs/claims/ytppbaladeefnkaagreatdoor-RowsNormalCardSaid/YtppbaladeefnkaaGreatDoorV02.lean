import Derived.Test.YtppbaladeefnkaaGreatDoorV00
import Derived.Test.YtppbaladeefnkaaGreatDoorProg
set_option maxRecDepth 100000
set_option maxHeartbeats 400000000
namespace Go.Proofs.YtppbaladeefnkaaGreatDoor
abbrev Bs:=List UInt8
def Md (c:UInt8):Bool:=c==9||c==10||c==13||c==32
def Hh (c:UInt8):Bool:=48≤c&&c≤57
def Kc (c:UInt8):Bool:=97≤c&&c≤122
def B9 (c:UInt8):Bool:=65≤c&&c≤90
def Kb (c:UInt8):Bool:=Kc c||Hh c||c==95
def Fd (c:UInt8):Bool:=Kc c||B9 c||Hh c
def isLn (c:UInt8):Bool:=c != 10
def tk (p:UInt8→Bool):Bs→Nat
 | []=>0
 | c::t=>if p c then tk p t+1 else 0
def syms:List Bs:=[[61,61],[33,61],[60,61],[60,45],[45,62],[43,43],[60],[62],[61],[43],[45],[42],[40],[41],[123],[125],[91],[93],[44],[46],[58],[124],[59],[63]]
def sym (l:Bs):Nat:=match syms.find? (fun x=>x.isPrefixOf l) with
 | some x=>x.length
 | none=>0
def notQ (c:UInt8):Bool:=c != 34&&c != 10
def quo (t:Bs):Nat:=if t[tk notQ t]?=some 34 then tk notQ t+2 else 0
def kws:List Bs:=[[97,110,100],[97,115],[99,104,101,99,107],[100,101,108,101,116,101],[101,108,115,101],[102,97,108,115,101],[102,117,110],[105,102],[105,110],[105,110,115,101,114,116],[107,101,121],[108,101,116],[109,97,116,99,104],[110,111,116],[111,114],[112,114,111,99],[114,101,102],[115,101,116],[116,97,98,108,101],[116,104,101,110],[116,111],[116,114,117,101],[116,121,112,101],[117,112,100,97,116,101],[119,104,101,114,101],[119,105,116,104]]
def Fb (l:Bs):Bool:=kws.contains l
def good:Bs→Nat × Nat
 | []=>(6,0)
 | c::t=>
  if Md c then (0,tk Md (c::t))
  else if c==35 then (1,tk isLn (c::t))
  else if Kc c then (if Fb ((c::t).take (tk Kb (c::t))) then 7 else 2,tk Kb (c::t))
  else if B9 c then (3,tk Fd (c::t))
  else if Hh c then (4,tk Hh (c::t))
  else if c==34 then (5,quo t)
  else (6,sym (c::t))
def badLen:Bs→Nat
 | []=>0
 | c::t=>if c==34||decide (0<(good (c::t)).2) then 0 else badLen t+1
def nxt:Bs→Nat × Nat
 | []=>(0,0)
 | c::t=>
  if 0<(good (c::t)).2 then good (c::t)
  else if c==34 then (8,tk isLn (c::t))
  else (8,badLen t+1)
theorem tk_le (p:UInt8→Bool):∀ l,tk p l≤l.length
 | []=>Q9 _
 | c::t=>by
  have:=tk_le p t
  unfold tk;split <;> simp <;> omega
theorem tk_pos {p:UInt8→Bool} {c:UInt8} {t:Bs} (h:p c=true):tk p (c::t)=tk p t+1:=by simp [tk,h]
theorem Pb {p:UInt8→Bool}:∀ {l:Bs} {c:UInt8},l[tk p l]?=some c→p c=false
 | [],c,h=>by simp at h
 | d::t,c,h=>by
  by_cases hd:p d
  ·rw [tk_pos hd] at h
   exact Pb (l:=t) (by simpa using h)
  simp [tk,hd] at h
  subst h;simpa using hd
theorem Lk {p:UInt8→Bool}:∀ {l:Bs} {i:Nat} {c:UInt8},i<tk p l→l[i]?=some c→p c=true
 | [],i,c,h,_=>by simp [tk] at h
 | d::t,i,c,h,hc=>by
  by_cases hd:p d
  ·rw [tk_pos hd] at h
   cases i with
   | zero=>simp at hc;subst hc;exact hd
   | succ i=>exact Lk (l:=t) (i:=i) (by omega) (by simpa using hc)
  simp [tk,hd] at h
inductive Val where
 | mk (kind n:Int) (s:Bs) (names:List Bs) (kids:List Val)
namespace Val
def kind:Val→Int | mk k _ _ _ _=>k
def n:Val→Int | mk _ n _ _ _=>n
def s:Val→Bs | mk _ _ s _ _=>s
def names:Val→List Bs | mk _ _ _ l _=>l
def kids:Val→List Val | mk _ _ _ _ l=>l
def zero:Val:=mk 0 0 [] [] []
end Val
def ord (a b:Int):Int:=if a<b then -1 else if b<a then 1 else 0
def thn (c d:Int):Int:=if c=0 then d else c
theorem Vg (d:Int):thn 0 d=d:=rfl
theorem Ur (a b c:Int):thn (thn a b) c=thn a (thn b c):=by
 unfold thn;by_cases h:a=0 <;> simp [h]
theorem Uf (a:Int):thn a 0=a:=by unfold thn;split <;> simp_all
theorem Vd (a:Int):ord a a=0:=by unfold ord;split <;> omega
theorem Dl {a b:Int} (h:a≠b):ord a b≠0:=by unfold ord;split <;> (try split) <;> omega
def Zg:Bs→Bs→Int
 | [],[]=>0
 | [],_::_=>-1
 | _::_,[]=>1
 | a::s,b::t=>thn (ord a.toNat b.toNat) (Zg s t)
def Ul:List Bs→List Bs→Int
 | [],[]=>0
 | [],_::_=>-1
 | _::_,[]=>1
 | a::s,b::t=>thn (Zg a b) (Ul s t)
mutual
def Z1:Val→Val→Int
 | .mk k n s ns ks,.mk k' n' s' ns' ks'=>
  if k≠k' then ord k k'
  else if k=0∨k=2 then ord n n'
  else if k=1 then Zg s s'
  else if k=3 then thn (Zg s s') (Yl ks ks')
  else if k=4 then thn (Ul ns ns') (Yl ks ks')
  else if k=5 then Yl ks ks'
  else 0
def Yl:List Val→List Val→Int
 | [],[]=>0
 | [],_::_=>-1
 | _::_,[]=>1
 | a::s,b::t=>thn (Z1 a b) (Yl s t)
end
def lex:List Int→List Int→Int
 | [],[]=>0
 | [],_::_=>-1
 | _::_,[]=>1
 | a::s,b::t=>thn (ord a b) (lex s t)
def Bg (s:Bs):List Int:=s.map (fun c=>(c.toNat:Int)+1)++[0]
def keyN:List Bs→List Int
 | []=>[0]
 | s::l=>1::(Bg s++keyN l)
mutual
def key:Val→List Int
 | .mk k n s ns ks=>k::(if k=0∨k=2 then [n] else if k=1 then Bg s else if k=3 then Bg s++keys ks else if k=4 then keyN ns++keys ks else if k=5 then keys ks else [])
def keys:List Val→List Int
 | []=>[0]
 | v::l=>1::(key v++keys l)
end
theorem ord_succ (a b:Int):ord (a+1) (b+1)=ord a b:=by unfold ord;repeat' split <;> omega
theorem Xb (s t:Bs) (x y:List Int):lex (Bg s++x) (Bg t++y)=thn (Zg s t) (lex x y):=by
 induction s generalizing t with
 | nil=>
  cases t with
  | nil=>rfl
  | cons b t=>
   have h:ord 0 ((b.toNat:Int)+1)=-1:=by unfold ord;rw [if_pos (by omega)]
   simp [Bg,lex,Zg,h,thn]
 | cons a s ih=>
  cases t with
  | nil=>
   have h:ord ((a.toNat:Int)+1) 0=1:=by unfold ord;rw [if_neg (by omega),if_pos (by omega)]
   simp [Bg,lex,Zg,h,thn]
  | cons b t=>
   have:=ih t
   simp only [Bg,List.map_cons,List.cons_append,lex,Zg,Ur,ord_succ] at this ⊢
   rw [this]
theorem lex_keyN (s t:List Bs) (x y:List Int):lex (keyN s++x) (keyN t++y)=thn (Ul s t) (lex x y):=by
 induction s generalizing t with
 | nil=>
  cases t with
  | nil=>rfl
  | cons b t=>rfl
 | cons a s ih=>
  cases t with
  | nil=>rfl
  | cons b t=>
   simp only [keyN,List.cons_append,List.append_assoc,lex,Ul,Ur,Vd,Vg,Xb]
   rw [ih t]
mutual
theorem Pq (a b:Val) (x y:List Int):lex (key a++x) (key b++y)=thn (Z1 a b) (lex x y):=by
 match a,b with
 | .mk k n s ns ks,.mk k' n' s' ns' ks'=>
  by_cases hk:k=k'
  ·subst hk
   simp only [key,Z1,List.cons_append,lex,Vd,Vg,ne_eq,not_true,if_false]
   split
   ·simp [lex,thn]
   split
   ·exact Xb _ _ _ _
   split
   ·rw [List.append_assoc,List.append_assoc,Xb,Kr ks ks',Ur]
   split
   ·rw [List.append_assoc,List.append_assoc,lex_keyN,Kr ks ks',Ur]
   split
   ·exact Kr ks ks' x y
   rfl
  simp only [key,Z1,List.cons_append,lex,ne_eq,hk,not_false_eq_true,if_true]
  unfold thn
  rw [if_neg (Dl hk),if_neg (Dl hk)]
theorem Kr (a b:List Val) (x y:List Int):lex (keys a++x) (keys b++y)=thn (Yl a b) (lex x y):=by
 match a,b with
 | [],[]=>rfl
 | [],_::_=>rfl
 | _::_,[]=>rfl
 | v::l,w::m=>
  simp only [keys,List.cons_append,List.append_assoc,lex,Yl,Ur,Vd,Vg]
  rw [Pq v w,Kr l m]
end
theorem Kp (a b:Val):Z1 a b=lex (key a) (key b):=by
 have:=Pq a b [] []
 rw [List.append_nil,List.append_nil] at this
 rw [this];exact (Uf _).symm
theorem lex_self (a:List Int):lex a a=0:=by
 induction a with
 | nil=>rfl
 | cons a s ih=>simp [lex,Vd,thn,ih]
theorem lex_zero {a b:List Int} (h:lex a b=0):a=b:=by
 induction a generalizing b with
 | nil=>cases b with | nil=>rfl | cons b t=>simp [lex] at h
 | cons a s ih=>
  cases b with
  | nil=>simp [lex] at h
  | cons b t=>
   simp only [lex,thn] at h
   split at h
   ·rename_i he
    have hab:a=b:=Decidable.byContradiction fun hn=>Dl hn he
    rw [hab,ih h]
   contradiction
theorem ord_anti (a b:Int):ord a b=- ord b a:=by unfold ord;repeat' split <;> omega
theorem Jd (a b:List Int):lex a b=- lex b a:=by
 induction a generalizing b with
 | nil=>cases b <;> rfl
 | cons a s ih=>
  cases b with
  | nil=>rfl
  | cons b t=>
   simp only [lex,thn]
   rw [ord_anti a b,ih t]
   by_cases h:ord b a=0
   ·rw [if_pos (by omega),if_pos h]
   rw [if_neg (by omega),if_neg h]
theorem Hk {a b:Int}:ord a b<0↔a<b:=by unfold ord;split <;> (try split) <;> omega
theorem Ev {a b c:List Int} (h1:lex a b<0) (h2:lex b c<0):lex a c<0:=by
 induction a generalizing b c with
 | nil=>
  cases c with
  | nil=>cases b <;> simp [lex] at h1 h2
  | cons c u=>simp [lex]
 | cons a s ih=>
  cases b with
  | nil=>simp [lex] at h1
  | cons b t=>
   cases c with
   | nil=>simp [lex] at h2
   | cons c u=>
    simp only [lex,thn] at h1 h2 ⊢
    have e1:=Hk (a:=a) (b:=b)
    have e2:=Hk (a:=b) (b:=c)
    have e3:=Hk (a:=a) (b:=c)
    have z1:ord a b=0→a=b:=fun h=>Decidable.byContradiction fun hn=>Dl hn h
    have z2:ord b c=0→b=c:=fun h=>Decidable.byContradiction fun hn=>Dl hn h
    split at h1
    ·rename_i ha
     have:=z1 ha;subst this
     split at h2
     ·rename_i hb
      have:=z2 hb;subst this
      rw [if_pos (Vd _)]
      exact ih h1 h2
     rename_i hb
     rw [if_neg hb];exact h2
    rename_i ha
    have hlt:=e1.1 h1
    split at h2
    ·rename_i hb
     have:=z2 hb;subst this
     rw [if_neg ha];exact h1
    have:=e2.1 h2
    have h3:=e3.2 (by omega)
    rw [if_neg (by omega)];exact h3
theorem Bu {a b:Val}:Z1 a b=0↔key a=key b:=by
 rw [Kp]
 exact ⟨lex_zero,fun h=>by rw [h];exact lex_self _⟩
open Go.RowKit
abbrev bl (s:ByteArray):Bs:=s.data.toList
def Vm (S:Nat→Prop) (w w':World):Prop:=∀ b,S b→b<w.heap.size→w'.heap[b]?=w.heap[b]?
theorem Vm.refl (S:Nat→Prop) (w:World):Vm S w w:=fun _ _ _=>rfl
theorem Vm.of_below {S:Nat→Prop} {w w':World} (h:Below w.heap.size w w'):Vm S w w':=fun b _ hb=>h.block b hb
theorem Vm.cell {S:Nat→Prop} {w w':World} (h:Vm S w w') {a:Addr} {v:Value} (hS:S a.block) (hc:w.cell? a=some v):w'.cell? a=some v:=
 (World.cell?_of_block (h a.block hS (Qv w a hc))).trans hc
structure Rd (T:Type) where
 k:Nat
 R:(Nat→Prop)→World→List Value→T→Prop
 len:∀ {S w cs x},R S w cs x→cs.length=k
 frame:∀ {S w w' cs x},R S w cs x→Vm S w w'→R S w' cs x
 mono:∀ {S S':Nat→Prop} {w cs x},R S w cs x→(∀ b,b<w.heap.size→S b→S' b)→R S' w cs x
def Sl {T:Type} (r:Rd T) (S:Nat→Prop) (w:World) (v:Value) (xs:List T):Prop:=
 ∃ p cap,v=.slice p xs.length cap∧xs.length≤1000000∧(xs≠[]→∃ b off,p=some ⟨b,off,none⟩∧S b∧b<w.heap.size ∧
  ∀ i x,xs[i]?=some x→∃ cs,(∀ j u,cs[j]?=some u→w.cell? ⟨b,off+i*r.k+j,none⟩=some u)∧r.R S w cs x)
theorem Sl.len {T:Type} {r:Rd T} {S:Nat→Prop} {w:World} {v:Value} {xs:List T} (h:Sl r S w v xs):∃ p cap,v=.slice p xs.length cap∧xs.length≤1000000:=by
 obtain ⟨p,cap,h1,h2,_⟩:=h;exact ⟨p,cap,h1,h2⟩
theorem Sl.nil {T:Type} (r:Rd T) (S:Nat→Prop) (w:World):Sl r S w (.slice none 0 0) []:=⟨none,0,rfl,by simp,fun h=>absurd rfl h⟩
theorem Sl.frame {T:Type} {r:Rd T} {S:Nat→Prop} {w w':World} {v:Value} {xs:List T} (h:Sl r S w v xs) (hA:Vm S w w'):Sl r S w' v xs:=by
 obtain ⟨p,cap,h1,h2,h3⟩:=h
 refine ⟨p,cap,h1,h2,fun hne=>?_⟩
 obtain ⟨b,off,e,hS,hb,hc⟩:=h3 hne
 have hb':b<w'.heap.size:=by
  have:=hA b hS hb
  rw [Array.getElem?_eq_getElem hb] at this
  exact (Array.getElem?_eq_some_iff.1 this).1
 refine ⟨b,off,e,hS,hb',fun i x hx=>?_⟩
 obtain ⟨cs,hcs,hr⟩:=hc i x hx
 exact ⟨cs,fun j u hu=>hA.cell (a:=⟨b,_,none⟩) hS (hcs j u hu),r.frame hr hA⟩
theorem Sl.mono {T:Type} {r:Rd T} {S S':Nat→Prop} {w:World} {v:Value} {xs:List T} (h:Sl r S w v xs) (hS:∀ b,b<w.heap.size→S b→S' b):Sl r S' w v xs:=by
 obtain ⟨p,cap,h1,h2,h3⟩:=h
 refine ⟨p,cap,h1,h2,fun hne=>?_⟩
 obtain ⟨b,off,e,hb,hlt,hc⟩:=h3 hne
 refine ⟨b,off,e,hS b hlt hb,hlt,fun i x hx=>?_⟩
 obtain ⟨cs,hcs,hr⟩:=hc i x hx
 exact ⟨cs,hcs,r.mono hr hS⟩
theorem Sl.up {T:Type} {r:Rd T} {S:Nat→Prop} {w:World} {v:Value} {xs:List T} (h:Sl r S w v xs):Sl r (fun b=>S b∧b<w.heap.size) w v xs:=h.mono (fun _ hb h=>⟨h,hb⟩)
theorem Sl.below {T:Type} {r:Rd T} {S:Nat→Prop} {w w':World} {v:Value} {xs:List T} (h:Sl r S w v xs) (hb:Below w.heap.size w w'):Sl r S w' v xs:=h.frame (.of_below hb)
theorem Sl.sub {T:Type} {r:Rd T} {S:Nat→Prop} {w:World} {b off n cap:Nat} {xs:List T} (h:Sl r S w (.slice (some ⟨b,off,none⟩) n cap) xs) (lo m cap':Nat) (hm:lo+m≤xs.length):
  Sl r S w (.slice (some ⟨b,off+lo*r.k,none⟩) m cap') ((xs.drop lo).take m):=by
 obtain ⟨p,c,h1,h2,h3⟩:=h
 have hl:((xs.drop lo).take m).length=m:=by rw [List.length_take,List.length_drop];omega
 refine ⟨_,cap',by rw [hl],by rw [hl];omega,fun hne=>?_⟩
 have hne':xs≠[]:=by intro e;subst e;simp at hne
 obtain ⟨b',off',e,hS,hb,hc⟩:=h3 hne'
 simp only [Value.slice.injEq] at h1
 rw [e] at h1
 simp only [Option.some.injEq,Addr.mk.injEq] at h1
 obtain ⟨⟨rfl,rfl,_⟩,_⟩:=h1
 refine ⟨_,_,rfl,hS,hb,fun i x hx=>?_⟩
 have hi:i<m:=by have:=(Qj hx).1;omega
 rw [List.getElem?_take_of_lt hi,List.getElem?_drop] at hx
 obtain ⟨cs,hcs,hr⟩:=hc _ x hx
 refine ⟨cs,fun j u hu=>?_,hr⟩
 have:=hcs j u hu
 rwa [Nat.add_mul,← Nat.add_assoc] at this
def sv (l:Bs):Value:=.string ⟨l.toArray⟩
def Qp:Rd Bs where
 k:=1
 R _ _ cs x:=cs=[sv x]∧x.length≤1000000
 len h:=by rw [h.1];rfl
 frame h _:=h
 mono h _:=h
def Kz:Rd Int where
 k:=1
 R _ _ cs x:=cs=[.int .i64 x]
 len h:=by rw [h];rfl
 frame h _:=h
 mono h _:=h
inductive Qh (S:Nat→Prop) (w:World):List Value→Val→Prop
 | mk (k n:Int) (s:Bs) (names:List Bs) (kids:List Val) (nv:Value) (p:Option Addr) (cap b off:Nat) (cs:Nat→List Value) (hs:s.length≤1000000) (hn:Sl Qp S w nv names) (hl:kids.length≤1000000)
   (hp:kids≠[]→p=some ⟨b,off,none⟩∧S b∧b<w.heap.size) (hc:∀ i x,kids[i]?=some x→∀ j u,(cs i)[j]?=some u→w.cell? ⟨b,off+i*5+j,none⟩=some u)
   (hr:∀ i x,kids[i]?=some x→Qh S w (cs i) x):Qh S w [.int .i64 k,.int .i64 n,sv s,nv,.slice p kids.length cap] (.mk k n s names kids)
theorem Qh.length {S:Nat→Prop} {w:World} {cs:List Value} {x:Val} (h:Qh S w cs x):cs.length=5:=by cases h;rfl
theorem Qh.move {S S':Nat→Prop} {w w':World} {cs:List Value} {x:Val} (h:Qh S w cs x) (hA:Vm S w w') (hS:∀ b,b<w.heap.size→S b→S' b):Qh S' w' cs x:=by
 induction h with
 | mk k n s names kids nv p cap b off cs hs hn hl hp hc hr ih=>
  refine .mk k n s names kids nv p cap b off cs hs ((hn.mono (S':=fun b=>S b∧S' b) (fun b hb h=>⟨h,hS b hb h⟩)).frame (fun b hb=>hA b hb.1) |>.mono (fun b _ h=>h.2)) hl ?_ ?_ ih
  ·intro hne
   obtain ⟨e,h1,h2⟩:=hp hne
   refine ⟨e,hS b h2 h1,?_⟩
   have:=hA b h1 h2
   rw [Array.getElem?_eq_getElem h2] at this
   exact (Array.getElem?_eq_some_iff.1 this).1
  intro i x hx j u hu
  have hne:kids≠[]:=by intro e;rw [e] at hx;simp at hx
  exact hA.cell (a:=⟨b,_,none⟩) (hp hne).2.1 (hc i x hx j u hu)
def Ql:Rd Val where
 k:=5
 R:=Qh
 len h:=h.length
 frame h hA:=h.move hA (fun _ _ h=>h)
 mono h hS:=h.move (.refl _ _) hS
theorem Zn {S:Nat→Prop} {w:World} {k n:Int} {s:Bs} {names:List Bs} {kids:List Val} {nv kv:Value} (hs:s.length≤1000000) (hn:Sl Qp S w nv names) (hk:Sl Ql S w kv kids):
  Qh S w [.int .i64 k,.int .i64 n,sv s,nv,kv] (.mk k n s names kids):=by
 obtain ⟨p,cap,rfl,hl,h⟩:=hk
 by_cases hne:kids=[]
 ·subst hne
  exact .mk k n s names [] nv p cap 0 0 (fun _=>[]) hs hn hl (fun h=>absurd rfl h) (fun i x hx=>by simp at hx) (fun i x hx=>by simp at hx)
 obtain ⟨b,off,e,hS,hb,hc⟩:=h hne
 obtain ⟨cs,hcs⟩:∃ cs:Nat→List Value,∀ i x,kids[i]?=some x→(∀ j u,(cs i)[j]?=some u→w.cell? ⟨b,off+i*5+j,none⟩=some u)∧Qh S w (cs i) x:=by
  refine ⟨fun i=>if h:i<kids.length then Classical.choose (hc i kids[i] (Qx h)) else [],fun i x hx=>?_⟩
  obtain ⟨hi,rfl⟩:=Qj hx
  simp only [dif_pos hi]
  exact Classical.choose_spec (hc i kids[i] (Qx hi))
 exact .mk k n s names kids nv p cap b off cs hs hn hl (fun _=>⟨e,hS,hb⟩) (fun i x hx=>(hcs i x hx).1) (fun i x hx=>(hcs i x hx).2)
theorem Vt {S:Nat→Prop} {w:World} {cs:List Value} {k n:Int} {s:Bs} {names:List Bs} {kids:List Val}:
  Qh S w cs (.mk k n s names kids)↔∃ nv kv,cs=[.int .i64 k,.int .i64 n,sv s,nv,kv]∧s.length≤1000000∧Sl Qp S w nv names∧Sl Ql S w kv kids:=by
 constructor
 ·intro h
  cases h with
  | mk _ _ _ _ _ nv p cap b off cs hs hn hl hp hc hr=>
   exact ⟨nv,_,rfl,hs,hn,p,cap,rfl,hl,fun hne=>⟨b,off,(hp hne).1,(hp hne).2.1,(hp hne).2.2,fun i x hx=>⟨cs i,hc i x hx,hr i x hx⟩⟩⟩
 rintro ⟨nv,kv,rfl,hs,hn,hk⟩
 exact Zn hs hn hk
inductive Ty where
 | mk (kind:Int) (name:Bs) (n:Int) (names:List Bs) (kids:List Ty)
inductive Ex where
 | mk (kind:Int) (name:Bs) (n:Int) (s:Bs) (names binds:List Bs) (kids:List Ex) (a z:Int)
inductive Y7 (S:Nat→Prop) (w:World):List Value→Ty→Prop
 | mk (k n:Int) (s:Bs) (names:List Bs) (kids:List Ty) (nv:Value) (p:Option Addr) (cap b off:Nat) (cs:Nat→List Value) (hs:s.length≤1000000) (hn:Sl Qp S w nv names) (hl:kids.length≤1000000)
   (hp:kids≠[]→p=some ⟨b,off,none⟩∧S b∧b<w.heap.size) (hc:∀ i x,kids[i]?=some x→∀ j u,(cs i)[j]?=some u→w.cell? ⟨b,off+i*5+j,none⟩=some u)
   (hr:∀ i x,kids[i]?=some x→Y7 S w (cs i) x):Y7 S w [.int .i64 k,sv s,.int .i64 n,nv,.slice p kids.length cap] (.mk k s n names kids)
theorem Y7.length {S:Nat→Prop} {w:World} {cs:List Value} {x:Ty} (h:Y7 S w cs x):cs.length=5:=by cases h;rfl
theorem Y7.move {S S':Nat→Prop} {w w':World} {cs:List Value} {x:Ty} (h:Y7 S w cs x) (hA:Vm S w w') (hS:∀ b,b<w.heap.size→S b→S' b):Y7 S' w' cs x:=by
 induction h with
 | mk k n s names kids nv p cap b off cs hs hn hl hp hc hr ih=>
  refine .mk k n s names kids nv p cap b off cs hs ((hn.mono (S':=fun b=>S b∧S' b) (fun b hb h=>⟨h,hS b hb h⟩)).frame (fun b hb=>hA b hb.1) |>.mono (fun b _ h=>h.2)) hl ?_ ?_ ih
  ·intro hne
   obtain ⟨e,h1,h2⟩:=hp hne
   refine ⟨e,hS b h2 h1,?_⟩
   have:=hA b h1 h2
   rw [Array.getElem?_eq_getElem h2] at this
   exact (Array.getElem?_eq_some_iff.1 this).1
  intro i x hx j u hu
  have hne:kids≠[]:=by intro e;rw [e] at hx;simp at hx
  exact hA.cell (a:=⟨b,_,none⟩) (hp hne).2.1 (hc i x hx j u hu)
def Uq:Rd Ty where
 k:=5
 R:=Y7
 len h:=h.length
 frame h hA:=h.move hA (fun _ _ h=>h)
 mono h hS:=h.move (.refl _ _) hS
theorem Jj {S:Nat→Prop} {w:World} {k n:Int} {s:Bs} {names:List Bs} {kids:List Ty} {nv kv:Value} (hs:s.length≤1000000) (hn:Sl Qp S w nv names) (hk:Sl Uq S w kv kids):
  Y7 S w [.int .i64 k,sv s,.int .i64 n,nv,kv] (.mk k s n names kids):=by
 obtain ⟨p,cap,rfl,hl,h⟩:=hk
 by_cases hne:kids=[]
 ·subst hne
  exact .mk k n s names [] nv p cap 0 0 (fun _=>[]) hs hn hl (fun h=>absurd rfl h) (fun i x hx=>by simp at hx) (fun i x hx=>by simp at hx)
 obtain ⟨b,off,e,hS,hb,hc⟩:=h hne
 obtain ⟨cs,hcs⟩:∃ cs:Nat→List Value,∀ i x,kids[i]?=some x→(∀ j u,(cs i)[j]?=some u→w.cell? ⟨b,off+i*5+j,none⟩=some u)∧Y7 S w (cs i) x:=by
  refine ⟨fun i=>if h:i<kids.length then Classical.choose (hc i kids[i] (Qx h)) else [],fun i x hx=>?_⟩
  obtain ⟨hi,rfl⟩:=Qj hx
  simp only [dif_pos hi]
  exact Classical.choose_spec (hc i kids[i] (Qx hi))
 exact .mk k n s names kids nv p cap b off cs hs hn hl (fun _=>⟨e,hS,hb⟩) (fun i x hx=>(hcs i x hx).1) (fun i x hx=>(hcs i x hx).2)
theorem L1 {S:Nat→Prop} {w:World} {cs:List Value} {k n:Int} {s:Bs} {names:List Bs} {kids:List Ty}:
  Y7 S w cs (.mk k s n names kids)↔∃ nv kv,cs=[.int .i64 k,sv s,.int .i64 n,nv,kv]∧s.length≤1000000∧Sl Qp S w nv names∧Sl Uq S w kv kids:=by
 constructor
 ·intro h
  cases h with
  | mk _ _ _ _ _ nv p cap b off cs hs hn hl hp hc hr=>
   exact ⟨nv,_,rfl,hs,hn,p,cap,rfl,hl,fun hne=>⟨b,off,(hp hne).1,(hp hne).2.1,(hp hne).2.2,fun i x hx=>⟨cs i,hc i x hx,hr i x hx⟩⟩⟩
 rintro ⟨nv,kv,rfl,hs,hn,hk⟩
 exact Jj hs hn hk
inductive Z6 (S:Nat→Prop) (w:World):List Value→Ex→Prop
 | mk (k:Int) (nm:Bs) (n:Int) (s:Bs) (names binds:List Bs) (kids:List Ex) (a z:Int) (nv bv:Value) (p:Option Addr) (cap b off:Nat) (cs:Nat→List Value) (hm:nm.length≤1000000) (hs:s.length≤1000000) (hn:Sl Qp S w nv names) (hb:Sl Qp S w bv binds) (hl:kids.length≤1000000)
   (hp:kids≠[]→p=some ⟨b,off,none⟩∧S b∧b<w.heap.size) (hc:∀ i x,kids[i]?=some x→∀ j u,(cs i)[j]?=some u→w.cell? ⟨b,off+i*9+j,none⟩=some u)
   (hr:∀ i x,kids[i]?=some x→Z6 S w (cs i) x):Z6 S w [.int .i64 k,sv nm,.int .i64 n,sv s,nv,bv,.slice p kids.length cap,.int .i64 a,.int .i64 z] (.mk k nm n s names binds kids a z)
theorem Z6.length {S:Nat→Prop} {w:World} {cs:List Value} {x:Ex} (h:Z6 S w cs x):cs.length=9:=by cases h;rfl
theorem Z6.move {S S':Nat→Prop} {w w':World} {cs:List Value} {x:Ex} (h:Z6 S w cs x) (hA:Vm S w w') (hS:∀ b,b<w.heap.size→S b→S' b):Z6 S' w' cs x:=by
 induction h with
 | mk k nm n s names binds kids a z nv bv p cap b off cs hm hs hn hb hl hp hc hr ih=>
  refine .mk k nm n s names binds kids a z nv bv p cap b off cs hm hs ((hn.mono (S':=fun b=>S b∧S' b) (fun b hb h=>⟨h,hS b hb h⟩)).frame (fun b hb=>hA b hb.1) |>.mono (fun b _ h=>h.2)) ((hb.mono (S':=fun b=>S b∧S' b) (fun b hb' h=>⟨h,hS b hb' h⟩)).frame (fun b hb'=>hA b hb'.1) |>.mono (fun b _ h=>h.2)) hl ?_ ?_ ih
  ·intro hne
   obtain ⟨e,h1,h2⟩:=hp hne
   refine ⟨e,hS b h2 h1,?_⟩
   have:=hA b h1 h2
   rw [Array.getElem?_eq_getElem h2] at this
   exact (Array.getElem?_eq_some_iff.1 this).1
  intro i x hx j u hu
  have hne:kids≠[]:=by intro e;rw [e] at hx;simp at hx
  exact hA.cell (a:=⟨b,_,none⟩) (hp hne).2.1 (hc i x hx j u hu)
def Ys:Rd Ex where
 k:=9
 R:=Z6
 len h:=h.length
 frame h hA:=h.move hA (fun _ _ h=>h)
 mono h hS:=h.move (.refl _ _) hS
theorem Yk {S:Nat→Prop} {w:World} {k:Int} {nm:Bs} {n:Int} {s:Bs} {names binds:List Bs} {kids:List Ex} {a z:Int} {nv bv kv:Value} (hm:nm.length≤1000000) (hs:s.length≤1000000) (hn:Sl Qp S w nv names) (hb:Sl Qp S w bv binds) (hk:Sl Ys S w kv kids):
  Z6 S w [.int .i64 k,sv nm,.int .i64 n,sv s,nv,bv,kv,.int .i64 a,.int .i64 z] (.mk k nm n s names binds kids a z):=by
 obtain ⟨p,cap,rfl,hl,h⟩:=hk
 by_cases hne:kids=[]
 ·subst hne
  exact .mk k nm n s names binds [] a z nv bv p cap 0 0 (fun _=>[]) hm hs hn hb hl (fun h=>absurd rfl h) (fun i x hx=>by simp at hx) (fun i x hx=>by simp at hx)
 obtain ⟨b,off,e,hS,hbb,hc⟩:=h hne
 obtain ⟨cs,hcs⟩:∃ cs:Nat→List Value,∀ i x,kids[i]?=some x→(∀ j u,(cs i)[j]?=some u→w.cell? ⟨b,off+i*9+j,none⟩=some u)∧Z6 S w (cs i) x:=by
  refine ⟨fun i=>if h:i<kids.length then Classical.choose (hc i kids[i] (Qx h)) else [],fun i x hx=>?_⟩
  obtain ⟨hi,rfl⟩:=Qj hx
  simp only [dif_pos hi]
  exact Classical.choose_spec (hc i kids[i] (Qx hi))
 exact .mk k nm n s names binds kids a z nv bv p cap b off cs hm hs hn hb hl (fun _=>⟨e,hS,hbb⟩) (fun i x hx=>(hcs i x hx).1) (fun i x hx=>(hcs i x hx).2)
theorem Zf {S:Nat→Prop} {w:World} {cs:List Value} {k:Int} {nm:Bs} {n:Int} {s:Bs} {names binds:List Bs} {kids:List Ex} {a z:Int}:
  Z6 S w cs (.mk k nm n s names binds kids a z)↔∃ nv bv kv,cs=[.int .i64 k,sv nm,.int .i64 n,sv s,nv,bv,kv,.int .i64 a,.int .i64 z]∧nm.length≤1000000∧s.length≤1000000∧Sl Qp S w nv names∧Sl Qp S w bv binds∧Sl Ys S w kv kids:=by
 constructor
 ·intro h
  cases h with
  | mk _ _ _ _ _ _ _ _ _ nv bv p cap b off cs hm hs hn hb hl hp hc hr=>
   exact ⟨nv,bv,_,rfl,hm,hs,hn,hb,p,cap,rfl,hl,fun hne=>⟨b,off,(hp hne).1,(hp hne).2.1,(hp hne).2.2,fun i x hx=>⟨cs i,hc i x hx,hr i x hx⟩⟩⟩
 rintro ⟨nv,bv,kv,rfl,hm,hs,hn,hb,hk⟩
 exact Yk hm hs hn hb hk
def eqv (a b:Val):Bool:=decide (key a=key b)
theorem Pd {a b:Val}:eqv a b=true↔key a=key b:=by unfold eqv;exact decide_eq_true_iff
theorem eqv_cmp (a b:Val):decide (Z1 a b=0)=eqv a b:=by unfold eqv;rw [decide_eq_decide];exact Bu
theorem eqv_comm (a b:Val):eqv a b=eqv b a:=by unfold eqv;rw [decide_eq_decide];exact eq_comm
structure Rel where
 table:Bs
 rows:List Val
def Ym (l:List Rel) (t:Bs):Option Nat:=l.findIdx? (fun r=>decide (r.table=t))
def Yv (l:List Rel) (t:Bs):List Val:=match Ym l t with
 | some i=>(l.getD i ⟨[],[]⟩).rows
 | none=>[]
def Kx (l:List Val) (x:Val):Bool:=l.any (fun y=>eqv y x)
def Yy (l:List Val) (x:Val):Nat:=(l.takeWhile (fun y=>decide (Z1 y x≤0))).length
def Vc (l:List Val) (x:Val):List Val:=if Kx l x then l else l.take (Yy l x)++x::l.drop (Yy l x)
def Uv (l:List Rel) (t:Bs) (x:Val):List Rel:=match Ym l t with
 | some i=>l.set i ⟨(l.getD i ⟨[],[]⟩).table,Vc (l.getD i ⟨[],[]⟩).rows x⟩
 | none=>l
def U6 (l:List Val) (x:Val):List Val:=l.filter (fun y=>!eqv y x)
def Kt (l:List Rel) (t:Bs) (x:Val):List Rel:=match Ym l t with
 | some i=>l.set i ⟨(l.getD i ⟨[],[]⟩).table,U6 (l.getD i ⟨[],[]⟩).rows x⟩
 | none=>l
def D8 (l:List Bs) (x:Bs):Option Nat:=l.findIdx? (fun y=>decide (y=x))
def Y1 (v:Val) (name:Bs):Option Val:=if v.kind=4 then (match D8 v.names name with
 | some i=>v.kids[i]?
 | none=>none) else none
def keyOf:List Bs→Val→Option (List Val)
 | [],_=>some []
 | k::ks,row=>match Y1 row k,keyOf ks row with
  | some v,some l=>some (v::l)
  | _,_=>none
theorem T8 (l:List Val) (x:Val) (h:Kx l x=false):Vc l x=l.take (Yy l x)++x::l.drop (Yy l x):=by unfold Vc;rw [if_neg (by simp [h])]
structure Ct where
 name:Bs
 has:Bool
 arg:Ty
structure Sm where
 name:Bs
 ctors:List Ct
structure Col where
 name:Bs
 type:Ty
structure Rf where
 column:Bs
 table:Bs
structure Tbl where
 name:Bs
 columns:List Col
 key:List Bs
 refs:List Rf
 check:Ex
structure Sc where
 sums:List Sm
 tables:List Tbl
namespace Gen
def ty (k:Int):Ty:=.mk k [] 0 [] []
def whole:Ty:=ty 0
def text:Ty:=ty 1
def yesno:Ty:=ty 2
def hueT:Ty:=.mk 3 [72,117,101] 0 [] []
def hue:Sm:=⟨[72,117,101],[⟨[82,101,100],false,ty 0⟩,⟨[68,97,114,107],true,whole⟩]⟩
def var (x:Bs):Ex:=.mk 3 x 0 [] [] [] [] 0 0
def int (n:Int):Ex:=.mk 0 [] n [] [] [] [] 0 0
def bool (n:Int):Ex:=.mk 2 [] n [] [] [] [] 0 0
def str (s:Bs):Ex:=.mk 1 [] 0 s [] [] [] 0 0
def op (o:Bs) (l:List Ex):Ex:=.mk 14 o 0 [] [] [] l 0 0
def a:Ex:=var [97]
def b:Ex:=var [98]
def c:Ex:=var [99]
def d:Ex:=var [100]
def e:Ex:=var [101]
def one:Ex:=int 1
def yes:Ex:=bool 1
def rec:Ex:=.mk 6 [] 0 [] [[121],[120]] [] [a,b] 0 0
def wth:Ex:=.mk 7 [] 0 [] [[120]] [] [rec,one] 0 0
def check:Nat→Ex
 | 0=>yes
 | 1=>yes
 | 2=>yes
 | 3=>op [60,61] [a,op [43] [b,op [42] [one,one]]]
 | 4=>op [111,114] [d,op [33,61] [c,str [97,98]]]
 | 5=>.mk 12 [] 0 [] [] [] [d,op [60] [a,b],op [61,61] [c,c]] 0 0
 | 6=>.mk 13 [] 0 [] [[82,101,100],[68,97,114,107]] [[],[110]] [e,yes,op [60] [var [110],b]] 0 0
 | 7=>op [60] [.mk 8 [120] 0 [] [] [] [wth] 0 0,.mk 8 [121] 0 [] [] [] [rec] 0 0]
 | 8=>.mk 11 [97] 0 [] [] [] [op [45] [a,b],op [97,110,100] [op [60] [a,one],op [110,111,116] [d]]] 0 0
 | 9=>op [61,61] [op [43,43] [c,c],str []]
 | 10=>op [97,110,100] [d,op [43] [a,c]]
 | 11=>op [33,61] [.mk 9 [] 0 [] [] [] [a,b] 0 0,.mk 9 [] 0 [] [] [] [one,a] 0 0]
 | _=>.mk 4 [97,110,121] 0 [] [] [] [.mk 9 [] 0 [] [] [] [] 0 0] 0 0
def schema (k:Nat) (two ref third:Bool):Sc:=
 ⟨[hue],[⟨[116],[⟨[97],whole⟩,⟨[98],whole⟩,⟨[99],text⟩,⟨[100],yesno⟩,⟨[101],hueT⟩],if two then [[98],[97]] else [[97]],if ref then [⟨[98],[117]⟩] else [],check k⟩,
  ⟨[117],[⟨[107],whole⟩,⟨[110],text⟩],[[107]],[],yes⟩]++if third then [⟨[118],[⟨[120],whole⟩,⟨[121],whole⟩],[[120]],[⟨[121],[118]⟩,⟨[120],[117]⟩],yes⟩] else []⟩
end Gen
def Xi (n:Int):Val:=.mk 0 n [] [] []
def vText (s:Bs):Val:=.mk 1 0 s [] []
def P7 (b:Bool):Val:=.mk 2 (if b then 1 else 0) [] [] []
def U0 (l:List Bs) (m:List Val):Val:=.mk 4 0 [] l m
def wordB (s:Bs):Bool:=decide (s≠[]∧(nxt s).2=s.length∧(nxt s).1=2∧s.length≤16)
def below (l:List Bs) (x:Bs):Nat:=(l.takeWhile (fun y=>decide (Zg y x<0))).length
def Y8 {T:Type} (l:List T) (i:Nat) (x:T):List T:=l.take i++x::l.drop i
def two (o:Bs) (a b:Val):Option Val:=
 if o=[43] then (if a.kind=0∧b.kind=0 then some (Xi (IntKind.i64.wrap (a.n+b.n))) else none)
 else if o=[45] then (if a.kind=0∧b.kind=0 then some (Xi (IntKind.i64.wrap (a.n - b.n))) else none)
 else if o=[42] then (if a.kind=0∧b.kind=0 then some (Xi (IntKind.i64.wrap (a.n*b.n))) else none)
 else if o=[43,43] then (if a.kind=1∧b.kind=1∧a.s.length+b.s.length≤4096 then some (vText (a.s++b.s)) else none)
 else if o=[61,61] then some (P7 (decide (Z1 a b=0)))
 else if o=[33,61] then some (P7 (decide (Z1 a b≠0)))
 else if o=[60] then some (P7 (decide (Z1 a b<0)))
 else if o=[60,61] then some (P7 (decide (Z1 a b≤0)))
 else none
def Eo (x:Bs):List (Bs × Val)→Option Val
 | []=>none
 | (y,v)::env=>if y=x then some v else Eo x env
def Ex.depth:Ex→Nat
 | .mk _ _ _ _ _ _ kids _ _=>go kids+1
where go:List Ex→Nat
 | []=>0
 | e::l=>max e.depth (go l)
def Ex.kids:Ex→List Ex | .mk _ _ _ _ _ _ kids _ _=>kids
def Ex.kind:Ex→Int | .mk k _ _ _ _ _ _ _ _=>k
theorem Ga (x:Int) (w:World):Calls Tryz.prog 131 #[.int .i64 x] w fun e w'=>e=.returned (.bool false)∧w=w':=by
 go_enter Tryz.func131,Tryz.ntmps131
 go_wp2
 go_ret
 exact ⟨by simp,rfl⟩
theorem B3 (x y:Int) (w:World):Calls Tryz.prog 98 #[.int .i64 x,.int .i64 y] w fun e w'=>e=.returned (.int .i64 (ord x y))∧w=w':=by
 have key:∀ r,ord x y=r→Calls Tryz.prog 98 #[.int .i64 x,.int .i64 y] w fun e w'=>e=.returned (.int .i64 r)∧w=w':=by
  intro r hr
  by_cases h1:x<y
  ·have:r=-1:=by rw [← hr];unfold ord;rw [if_pos h1]
   subst this
   clear hr
   go_enter Tryz.func98,Tryz.ntmps98
   go_wp2_with (go_at_call 131;refine (Ga _ _).mono ?_;rintro e w' ⟨rfl,rfl⟩)
   go_ret
   exact ⟨rfl,rfl⟩
  by_cases h2:y<x
  ·have:r=1:=by rw [← hr];unfold ord;rw [if_neg h1,if_pos h2]
   subst this
   clear hr
   go_enter Tryz.func98,Tryz.ntmps98
   go_wp2_with (go_at_call 131;refine (Ga _ _).mono ?_;rintro e w' ⟨rfl,rfl⟩)
   go_ret
   exact ⟨rfl,rfl⟩
  have:r=0:=by rw [← hr];unfold ord;rw [if_neg h1,if_neg h2]
  subst this
  clear hr
  go_enter Tryz.func98,Tryz.ntmps98
  go_wp2_with (go_at_call 131;refine (Ga _ _).mono ?_;rintro e w' ⟨rfl,rfl⟩)
  go_ret
  exact ⟨rfl,rfl⟩
 exact key _ rfl
theorem F8 {α:Type} (n:Nat) (Q:Nat→α→Prop) (h:∀ i,i<n→∃ a,Q i a):∃ l:List α,l.length=n∧∀ i a,l[i]?=some a→Q i a:=by
 induction n with
 | zero=>exact ⟨[],rfl,fun i a h=>by simp at h⟩
 | succ n ih=>
  obtain ⟨l,hl,hq⟩:=ih (fun i hi=>h i (by omega))
  obtain ⟨a,ha⟩:=h n (by omega)
  refine ⟨l++[a],by simp [hl],fun i b hb=>?_⟩
  by_cases hi:i<l.length
  ·rw [List.getElem?_append_left hi] at hb;exact hq i b hb
  rw [List.getElem?_append_right (by omega)] at hb
  have h0:i - l.length=0:=by
   have:=(Qj hb).1
   simp at this;omega
  rw [h0] at hb
  simp at hb
  subst hb
  have:i=n:=by omega
  rw [this];exact ha
theorem Xn {k:Nat} {css:List (List Value)} (h:∀ c ∈ css,c.length=k):css.flatten.length=css.length*k:=by
 induction css with
 | nil=>simp
 | cons c css ih=>
  rw [List.flatten_cons,List.length_append,h c (by simp),ih (fun d hd=>h d (by simp [hd])),List.length_cons,Nat.add_mul]
  omega
theorem Yg {k:Nat} {css:List (List Value)} (h:∀ c ∈ css,c.length=k) {i j:Nat} {c:List Value} {u:Value} (hc:css[i]?=some c) (hu:c[j]?=some u):css.flatten[i*k+j]?=some u:=by
 induction css generalizing i with
 | nil=>simp at hc
 | cons d css ih=>
  have hd:=h d (by simp)
  rw [List.flatten_cons]
  cases i with
  | zero=>
   simp at hc;subst hc
   have hj:j<d.length:=(Qj hu).1
   rw [Nat.zero_mul,Nat.zero_add,List.getElem?_append_left hj];exact hu
  | succ i=>
   have:=ih (fun e he=>h e (by simp [he])) (i:=i) (by simpa using hc)
   rw [List.getElem?_append_right (by rw [hd,Nat.add_mul];omega),hd]
   rw [show (i+1)*k+j - k=i*k+j by rw [Nat.add_mul];omega]
   exact this
theorem flat_at {k:Nat} (hk:0<k) {css:List (List Value)} (h:∀ c ∈ css,c.length=k) {m:Nat} {u:Value} (hu:css.flatten[m]?=some u):∃ c,css[m / k]?=some c∧c[m % k]?=some u:=by
 have hm:m<css.length*k:=by rw [← Xn h];exact (Qj hu).1
 have hi:m / k<css.length:=Nat.div_lt_of_lt_mul (by rwa [Nat.mul_comm])
 have hc:=Qx hi
 have hl:=h _ (Qd hi)
 have hj:m % k<(css[m / k]).length:=by rw [hl];exact Nat.mod_lt _ hk
 refine ⟨_,hc,?_⟩
 have:=Yg h hc (Qx hj)
 rw [Nat.div_add_mod' m k] at this
 rw [Qx hj,← hu,this]
structure Cs {T:Type} (r:Rd T) (S:Nat→Prop) (w:World) (css:List (List Value)) (xs:List T):Prop where
 len:css.length=xs.length
 R:∀ (i:Nat) (c:List Value) (x:T),css[i]?=some c→xs[i]?=some x→r.R S w c x
theorem Cs.all {T:Type} {r:Rd T} {S:Nat→Prop} {w:World} {css:List (List Value)} {xs:List T} (h:Cs r S w css xs):∀ c ∈ css,c.length=r.k:=by
 intro c hc
 obtain ⟨i,hi⟩:=List.getElem?_of_mem hc
 have hil:=(Qj hi).1
 exact r.len (h.R i c _ hi (Qx (by rw [← h.len];exact hil)))
theorem Cs.flat {T:Type} {r:Rd T} {S:Nat→Prop} {w:World} {css:List (List Value)} {xs:List T} (h:Cs r S w css xs):css.flatten.length=xs.length*r.k:=by rw [Xn h.all,h.len]
theorem Cs.move {T:Type} {r:Rd T} {S S':Nat→Prop} {w w':World} {css:List (List Value)} {xs:List T} (h:Cs r S w css xs) (hA:Vm S w w') (hS:∀ b,b<w.heap.size→S b→S' b):Cs r S' w' css xs:=
 ⟨h.len,fun i c x hc hx=>r.mono (r.frame (r.mono (S':=fun b=>S b∧S' b) (h.R i c x hc hx) (fun b hb h=>⟨h,hS b hb h⟩)) (fun b hb=>hA b hb.1)) (fun _ _ h=>h.2)⟩
theorem Cs.app {T:Type} {r:Rd T} {S:Nat→Prop} {w:World} {css dss:List (List Value)} {xs ys:List T} (h:Cs r S w css xs) (g:Cs r S w dss ys):Cs r S w (css++dss) (xs++ys):=by
 refine ⟨by rw [List.length_append,List.length_append,h.len,g.len],fun i c x hc hx=>?_⟩
 by_cases hi:i<css.length
 ·rw [List.getElem?_append_left hi] at hc
  rw [List.getElem?_append_left (by rw [← h.len];exact hi)] at hx
  exact h.R i c x hc hx
 rw [List.getElem?_append_right (by omega)] at hc
 rw [List.getElem?_append_right (by rw [← h.len];omega),← h.len] at hx
 exact g.R _ c x hc hx
theorem Cs.one {T:Type} {r:Rd T} {S:Nat→Prop} {w:World} {c:List Value} {x:T} (h:r.R S w c x):Cs r S w [c] [x]:=by
 refine ⟨rfl,fun i c' x' hc hx=>?_⟩
 cases i with
 | zero=>simp at hc hx;subst hc;subst hx;exact h
 | succ i=>simp at hc
theorem Cs.nil {T:Type} (r:Rd T) (S:Nat→Prop) (w:World):Cs r S w [] []:=⟨rfl,fun i c x hc _=>by simp at hc⟩
theorem Sl.css {T:Type} {r:Rd T} (hk:0<r.k) {S:Nat→Prop} {w:World} {v:Value} {xs:List T} (h:Sl r S w v xs):
  ∃ p cap css,v=.slice p xs.length cap∧Cs r S w css xs∧(xs≠[]→∃ b off,p=some ⟨b,off,none⟩∧S b∧b<w.heap.size∧∀ j u,css.flatten[j]?=some u→w.cell? ⟨b,off+j,none⟩=some u):=by
 obtain ⟨p,cap,h1,h2,h3⟩:=h
 by_cases hne:xs=[]
 ·subst hne;exact ⟨p,cap,[],h1,Cs.nil _ _ _,fun h=>absurd rfl h⟩
 obtain ⟨b,off,e,hS,hb,hc⟩:=h3 hne
 obtain ⟨css,hl,hq⟩:=F8 xs.length (fun i cs=>(∀ j u,cs[j]?=some u→w.cell? ⟨b,off+i*r.k+j,none⟩=some u)∧∀ x,xs[i]?=some x→r.R S w cs x) (fun i hi=>by
  obtain ⟨cs,h4,h5⟩:=hc i _ (Qx hi)
  exact ⟨cs,h4,fun x hx=>by rw [Qx hi] at hx;cases hx;exact h5⟩)
 have hCs:Cs r S w css xs:=⟨hl,fun i c x hci hx=>(hq i c hci).2 x hx⟩
 refine ⟨p,cap,css,h1,hCs,fun _=>⟨b,off,e,hS,hb,fun j u hu=>?_⟩⟩
 obtain ⟨c,hci,hcu⟩:=flat_at hk hCs.all hu
 have:=(hq _ c hci).1 _ u hcu
 rwa [Nat.add_assoc,Nat.div_add_mod' j r.k] at this
theorem Sl.of_css {T:Type} {r:Rd T} {S:Nat→Prop} {w:World} {xs:List T} {b off cap:Nat} {css:List (List Value)} (hl:xs.length≤1000000) (h:Cs r S w css xs) (hS:S b) (hb:b<w.heap.size)
  (hc:∀ j u,css.flatten[j]?=some u→w.cell? ⟨b,off+j,none⟩=some u):Sl r S w (.slice (some ⟨b,off,none⟩) xs.length cap) xs:=by
 refine ⟨_,cap,rfl,hl,fun _=>⟨b,off,rfl,hS,hb,fun i x hx=>?_⟩⟩
 have hi:i<css.length:=by rw [h.len];exact (Qj hx).1
 refine ⟨css[i],fun j u hu=>?_,h.R i _ x (Qx hi) hx⟩
 have:=hc _ u (Yg h.all (Qx hi) hu)
 rwa [← Nat.add_assoc] at this
def But (S:Nat→Prop) (v:Value):Nat→Prop:=fun b=>S b∧some b≠v.ownBlock
structure Own {T:Type} (r:Rd T) (E:TypeId) (S:Nat→Prop) (B:Nat) (w:World) (v:Value) (xs:List T) (css:List (List Value)):Prop where
 row:w.ownsRow B E r.k v xs.length css.flatten
 cs:Cs r (But S v) w css xs
theorem Own.nil {T:Type} (r:Rd T) (E:TypeId) (S:Nat→Prop) (B:Nat) (w:World):Own r E S B w (.slice none 0 0) [] []:=⟨by simpa using World.ownsRow_nil w B E r.k,Cs.nil _ _ _⟩
theorem Jz {w w':World} {B:Nat} {e:TypeId} {sz n:Nat} {v:Value} {xs:List Value} (h:w.ownsRow B e sz v n xs) (hb:Below w.heap.size w w'):w'.ownsRow B e sz v n xs:=by
 refine ⟨h.1,?_⟩
 rcases h.2 with hn | ⟨g,cap,cur,rfl,hB,hg,rest⟩
 ·exact .inl hn
 refine .inr ⟨g,cap,cur,rfl,hB,?_,rest⟩
 rw [hb.block g (Array.getElem?_eq_some_iff.1 hg).1];exact hg
theorem Own.below {T:Type} {r:Rd T} {E:TypeId} {S:Nat→Prop} {B:Nat} {w w':World} {v:Value} {xs:List T} {css:List (List Value)} (h:Own r E S B w v xs css) (hb:Below w.heap.size w w'):Own r E S B w' v xs css:=
 ⟨Jz h.row hb,h.cs.move (.of_below hb) (fun _ _ h=>h)⟩
theorem Own.append {T:Type} {r:Rd T} {E:TypeId} {S:Nat→Prop} {B:Nat} {W w2:World} {v v':Value} {xs ys:List T} {css dss:List (List Value)} (h:Own r E S B W v xs css) (hd:Cs r (But S v) W dss ys)
  (hown:w2.ownsRow B E r.k v' (xs.length+ys.length) (css.flatten++dss.flatten)) (hgrow:W.grownBy w2 v.ownBlock) (hat:v'.ownBlock=v.ownBlock∨v'.ownBlock=some W.heap.size):Own r E S B w2 v' (xs++ys) (css++dss):=by
 refine ⟨by rw [List.length_append,List.flatten_append];exact hown,?_⟩
 have hc:=h.cs.app hd
 have h1:Cs r (fun b=>But S v b∧But S v' b) W (css++dss) (xs++ys):=hc.move (.refl _ _) (fun b hb h=>⟨h,h.1,by
  rcases hat with e | e
  ·rw [e];exact h.2
  rw [e];intro e2;have:=Qb e2;omega⟩)
 exact h1.move (fun b hb hlt=>hgrow.block b hlt hb.1.2) (fun _ _ h=>h.2)
theorem Fg {w:World} {g:Nat} {cur:Array Value} {E:TypeId} {n:Nat} {ys:List Value} (hg:w.heap[g]?=some (.cells cur E (0,0))) (ht:cur.toList.take n=ys) {j:Nat} {u:Value} (hu:ys[j]?=some u):w.cell? ⟨g,j,none⟩=some u:=by
 rw [Qk w g j cur E (0,0) hg]
 rw [← ht,List.getElem?_take] at hu
 split at hu
 ·simpa using hu
 cases hu
theorem Own.sl {T:Type} {r:Rd T} {E:TypeId} {S S':Nat→Prop} {B:Nat} {w:World} {v:Value} {xs:List T} {css:List (List Value)} (h:Own r E S B w v xs css) (hl:xs.length≤1000000)
  (h1:∀ b,B≤b→S' b) (h2:∀ b,b<w.heap.size→S b→S' b):Sl r S' w v xs:=by
 rcases h.row.2 with ⟨rfl,h0⟩ | ⟨g,cap,cur,rfl,hB,hg,_,_,_,ht⟩
 ·rw [List.eq_nil_of_length_eq_zero h0];exact Sl.nil _ _ _
 refine Sl.of_css (css:=css) hl (h.cs.move (.refl _ _) (fun b hb h=>h2 b hb h.1)) (h1 g hB) (Array.getElem?_eq_some_iff.1 hg).1 (fun j u hu=>?_)
 rw [Nat.zero_add];exact Fg hg ht hu
end Go.Proofs.YtppbaladeefnkaaGreatDoor
