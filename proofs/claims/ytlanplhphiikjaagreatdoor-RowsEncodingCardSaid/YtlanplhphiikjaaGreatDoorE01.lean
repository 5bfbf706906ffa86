import Derived.Test.YtlanplhphiikjaaGreatDoorE00
import Derived.Test.YtlanplhphiikjaaGreatDoorProg
set_option maxRecDepth 100000
set_option maxHeartbeats 400000000
namespace Go.Proofs.YtlanplhphiikjaaGreatDoor
abbrev Bs:=List UInt8
def Fe (c:UInt8):Bool:=c==9||c==10||c==13||c==32
def Fv (c:UInt8):Bool:=48<=c&&c<=57
def Dl (c:UInt8):Bool:=97<=c&&c<=122
def Bx (c:UInt8):Bool:=65<=c&&c<=90
def Jw (c:UInt8):Bool:=Dl c||Fv c||c==95
def Bl (c:UInt8):Bool:=Dl c||Bx c||Fv c
def Hb (c:UInt8):Bool:=c != 10
def tk (p:UInt8->Bool):Bs->Nat
 | []=>0
 | c::t=>if p c then tk p t+1 else 0
def syms:List Bs:=[[61,61],[33,61],[60,61],[60,45],[45,62],[43,43],[60],[62],[61],[43],[45],[42],[40],[41],[123],[125],[91],[93],[44],[46],[58],[124],[59],[63]]
def sym (l:Bs):Nat:=match syms.find? (fun x=>x.isPrefixOf l) with
 | some x=>x.length
 | none=>0
def U5 (c:UInt8):Bool:=c != 34&&c != 10
def quo (t:Bs):Nat:=if t[tk U5 t]?=some 34 then tk U5 t+2 else 0
def kws:List Bs:=[[97,110,100],[97,115],[99,104,101,99,107],[100,101,108,101,116,101],[101,108,115,101],[102,97,108,115,101],[102,117,110],[105,102],[105,110],[105,110,115,101,114,116],[107,101,121],[108,101,116],[109,97,116,99,104],[110,111,116],[111,114],[112,114,111,99],[114,101,102],[115,101,116],[116,97,98,108,101],[116,104,101,110],[116,111],[116,114,117,101],[116,121,112,101],[117,112,100,97,116,101],[119,104,101,114,101],[119,105,116,104]]
def Ff (l:Bs):Bool:=kws.contains l
def good:Bs->Nat × Nat
 | []=>(6,0)
 | c::t=>
  if Fe c then (0,tk Fe (c::t))
  else if c==35 then (1,tk Hb (c::t))
  else if Dl c then (if Ff ((c::t).take (tk Jw (c::t))) then 7 else 2,tk Jw (c::t))
  else if Bx c then (3,tk Bl (c::t))
  else if Fv c then (4,tk Fv (c::t))
  else if c==34 then (5,quo t)
  else (6,sym (c::t))
def Uk:Bs->Nat
 | []=>0
 | c::t=>if c==34||decide (0<(good (c::t)).2) then 0 else Uk t+1
def nxt:Bs->Nat × Nat
 | []=>(0,0)
 | c::t=>
  if 0<(good (c::t)).2 then good (c::t)
  else if c==34 then (8,tk Hb (c::t))
  else (8,Uk t+1)
theorem Rs (p:UInt8->Bool):∀ l,tk p l<=l.length
 | []=>Q9 _
 | c::t=>by
  have:=Rs p t
  unfold tk;split <;> simp <;> omega
theorem tk_pos {p:UInt8->Bool} {c:UInt8} {t:Bs} (h:p c=true):tk p (c::t)=tk p t+1:=by simp [tk,h]
theorem Hg {p:UInt8->Bool}:∀ {l:Bs} {c:UInt8},l[tk p l]?=some c->p c=false
 | [],c,h=>by simp at h
 | d::t,c,h=>by
  by_cases hd:p d
  ·rw [tk_pos hd] at h
   exact Hg (l:=t) (by simpa using h)
  simp [tk,hd] at h
  subst h;simpa using hd
theorem Ec {p:UInt8->Bool}:∀ {l:Bs} {i:Nat} {c:UInt8},i<tk p l->l[i]?=some c->p c=true
 | [],i,c,h,_=>by simp [tk] at h
 | d::t,i,c,h,hc=>by
  by_cases hd:p d
  ·rw [tk_pos hd] at h
   cases i with
   | zero=>simp at hc;subst hc;exact hd
   | succ i=>exact Ec (l:=t) (i:=i) Qvu (by simpa using hc)
  simp [tk,hd] at h
theorem quo_eq (t:Bs) (h:t[tk U5 t]?=some 34):quo t=tk U5 t+2:=by simp [quo,h]
theorem Sq (t:Bs) (h:t[tk U5 t]?≠some 34):quo t=0:=by simp [quo,h]
theorem Qvx (c:UInt8) (t:Bs):good (c::t)=
  if Fe c then (0,tk Fe (c::t))
  else if c==35 then (1,tk Hb (c::t))
  else if Dl c then (if Ff ((c::t).take (tk Jw (c::t))) then 7 else 2,tk Jw (c::t))
  else if Bx c then (3,tk Bl (c::t))
  else if Fv c then (4,tk Fv (c::t))
  else if c==34 then (5,quo t)
  else (6,sym (c::t)):=rfl
theorem nxt_cons (c:UInt8) (t:Bs):nxt (c::t)=
  if 0<(good (c::t)).2 then good (c::t)
  else if c==34 then (8,tk Hb (c::t))
  else (8,Uk t+1):=rfl
theorem N3:∀ l,Uk l<=l.length
 | []=>by simp [Uk]
 | c::t=>by have:=N3 t;unfold Uk;split <;> simp;omega
inductive Val where
 | mk (kind n:Int) (s:Bs) (names:List Bs) (kids:List Val)
namespace Val
def kind:Val->Int | mk k _ _ _ _=>k
def n:Val->Int | mk _ n _ _ _=>n
def s:Val->Bs | mk _ _ s _ _=>s
def names:Val->List Bs | mk _ _ _ l _=>l
def kids:Val->List Val | mk _ _ _ _ l=>l
def zero:Val:=mk 0 0 [] [] []
end Val
def ord (a b:Int):Int:=if a<b then -1 else if b<a then 1 else 0
def thn (c d:Int):Int:=if c=0 then d else c
theorem Jk (d:Int):thn 0 d=d:=rfl
theorem Kp (a b c:Int):thn (thn a b) c=thn a (thn b c):=by
 unfold thn;by_cases h:a=0 <;> simp [h]
theorem Ko (a:Int):thn a 0=a:=by unfold thn;split <;> simp_all
theorem Jv (a:Int):ord a a=0:=by unfold ord;split <;> omega
theorem Eg {a b:Int} (h:a≠b):ord a b≠0:=by unfold ord;split <;> (try split) <;> omega
def Yg:Bs->Bs->Int
 | [],[]=>0
 | [],_::_=>-1
 | _::_,[]=>1
 | a::s,b::t=>thn (ord a.toNat b.toNat) (Yg s t)
def Kl:List Bs->List Bs->Int
 | [],[]=>0
 | [],_::_=>-1
 | _::_,[]=>1
 | a::s,b::t=>thn (Yg a b) (Kl s t)
mutual
def Yk:Val->Val->Int
 | .mk k n s ns ks,.mk k' n' s' ns' ks'=>
  if k≠k' then ord k k'
  else if k=0\/k=2 then ord n n'
  else if k=1 then Yg s s'
  else if k=3 then thn (Yg s s') (Xu ks ks')
  else if k=4 then thn (Kl ns ns') (Xu ks ks')
  else if k=5 then Xu ks ks'
  else 0
def Xu:List Val->List Val->Int
 | [],[]=>0
 | [],_::_=>-1
 | _::_,[]=>1
 | a::s,b::t=>thn (Yk a b) (Xu s t)
end
def lex:List Int->List Int->Int
 | [],[]=>0
 | [],_::_=>-1
 | _::_,[]=>1
 | a::s,b::t=>thn (ord a b) (lex s t)
def Nk (s:Bs):List Int:=s.map (fun c=>(c.toNat:Int)+1)++[0]
def keyN:List Bs->List Int
 | []=>[0]
 | s::l=>1::(Nk s++keyN l)
mutual
def key:Val->List Int
 | .mk k n s ns ks=>k::(if k=0\/k=2 then [n] else if k=1 then Nk s else if k=3 then Nk s++keys ks else if k=4 then keyN ns++keys ks else if k=5 then keys ks else [])
def keys:List Val->List Int
 | []=>[0]
 | v::l=>1::(key v++keys l)
end
theorem ord_succ (a b:Int):ord (a+1) (b+1)=ord a b:=by unfold ord;repeat' split <;> omega
theorem Uj (s t:Bs) (x y:List Int):lex (Nk s++x) (Nk t++y)=thn (Yg s t) (lex x y):=by
 induction s generalizing t with
 | nil=>
  cases t with
  | nil=>rfl
  | cons b t=>
   have h:ord 0 ((b.toNat:Int)+1)=-1:=by unfold ord;rw [if_pos Qvu]
   simp [Nk,lex,Yg,h,thn]
 | cons a s ih=>
  cases t with
  | nil=>
   have h:ord ((a.toNat:Int)+1) 0=1:=by unfold ord;rw [if_neg Qvu,if_pos Qvu]
   simp [Nk,lex,Yg,h,thn]
  | cons b t=>
   have:=ih t
   simp only [Nk,List.map_cons,List.cons_append,lex,Yg,Kp,ord_succ] at this |-
   rw [this]
theorem lex_keyN (s t:List Bs) (x y:List Int):lex (keyN s++x) (keyN t++y)=thn (Kl s t) (lex x y):=by
 induction s generalizing t with
 | nil=>
  cases t with
  | nil=>rfl
  | cons b t=>rfl
 | cons a s ih=>
  cases t with
  | nil=>rfl
  | cons b t=>
   simp only [keyN,List.cons_append,List.append_assoc,lex,Kl,Kp,Jv,Jk,Uj]
   rw [ih t]
mutual
theorem C5 (a b:Val) (x y:List Int):lex (key a++x) (key b++y)=thn (Yk a b) (lex x y):=by
 match a,b with
 | .mk k n s ns ks,.mk k' n' s' ns' ks'=>
  by_cases hk:k=k'
  ·subst hk
   simp only [key,Yk,List.cons_append,lex,Jv,Jk,ne_eq,not_true,if_false]
   split
   ·simp [lex,thn]
   split
   ·exact Uj _ _ _ _
   split
   ·rw [List.append_assoc,List.append_assoc,Uj,Gc ks ks',Kp]
   split
   ·rw [List.append_assoc,List.append_assoc,lex_keyN,Gc ks ks',Kp]
   split
   ·exact Gc ks ks' x y
   rfl
  simp only [key,Yk,List.cons_append,lex,ne_eq,hk,not_false_eq_true,if_true]
  unfold thn
  rw [if_neg (Eg hk),if_neg (Eg hk)]
theorem Gc (a b:List Val) (x y:List Int):lex (keys a++x) (keys b++y)=thn (Xu a b) (lex x y):=by
 match a,b with
 | [],[]=>rfl
 | [],_::_=>rfl
 | _::_,[]=>rfl
 | v::l,w::m=>
  simp only [keys,List.cons_append,List.append_assoc,lex,Xu,Kp,Jv,Jk]
  rw [C5 v w,Gc l m]
end
theorem Gd (a b:Val):Yk a b=lex (key a) (key b):=by
 have:=C5 a b [] []
 rw [List.append_nil,List.append_nil] at this
 rw [this];exact (Ko _).symm
theorem lex_self (a:List Int):lex a a=0:=by
 induction a with
 | nil=>rfl
 | cons a s ih=>simp [lex,Jv,thn,ih]
theorem lex_zero {a b:List Int} (h:lex a b=0):a=b:=by
 induction a generalizing b with
 | nil=>cases b with | nil=>rfl | cons b t=>simp [lex] at h
 | cons a s ih=>
  cases b with
  | nil=>simp [lex] at h
  | cons b t=>
   simp only [lex,thn] at h
   split at h
   ·rename_i he
    have A:a=b:=Decidable.byContradiction fun hn=>Eg hn he
    rw [A,ih h]
   contradiction
theorem ord_anti (a b:Int):ord a b=- ord b a:=by unfold ord;repeat' split <;> omega
theorem Du (a b:List Int):lex a b=- lex b a:=by
 induction a generalizing b with
 | nil=>cases b <;> rfl
 | cons a s ih=>
  cases b with
  | nil=>rfl
  | cons b t=>
   simp only [lex,thn]
   rw [ord_anti a b,ih t]
   by_cases h:ord b a=0
   ·rw [if_pos Qvu,if_pos h]
   rw [if_neg Qvu,if_neg h]
theorem Pe {a b:Int}:ord a b<0↔a<b:=by unfold ord;split <;> (try split) <;> omega
theorem Nt {a b c:List Int} (h1:lex a b<0) (h2:lex b c<0):lex a c<0:=by
 induction a generalizing b c with
 | nil=>
  cases c with
  | nil=>cases b <;> simp [lex] at h1 h2
  | cons c u=>simp [lex]
 | cons a s ih=>
  cases b with
  | nil=>simp [lex] at h1
  | cons b t=>
   cases c with
   | nil=>simp [lex] at h2
   | cons c u=>
    simp only [lex,thn] at h1 h2 |-
    have e1:=Pe (a:=a) (b:=b)
    have e2:=Pe (a:=b) (b:=c)
    have e3:=Pe (a:=a) (b:=c)
    have z1:ord a b=0->a=b:=fun h=>Decidable.byContradiction fun A=>Eg A h
    have z2:ord b c=0->b=c:=fun h=>Decidable.byContradiction fun A=>Eg A h
    split at h1
    ·rename_i ha
     have:=z1 ha;subst this
     split at h2
     ·rename_i hb
      have:=z2 hb;subst this
      rw [if_pos (Jv _)]
      exact ih h1 h2
     rename_i hb
     rw [if_neg hb];exact h2
    rename_i ha
    have D:=e1.1 h1
    split at h2
    ·rename_i hb
     have:=z2 hb;subst this
     rw [if_neg ha];exact h1
    have:=e2.1 h2
    have h3:=e3.2 Qvu
    rw [if_neg Qvu];exact h3
theorem N1 {a b:Val}:Yk a b=0↔key a=key b:=by
 rw [Gd]
 exact ⟨lex_zero,fun h=>by rw [h];exact lex_self _⟩
open Go.RowKit
abbrev bl (s:ByteArray):Bs:=s.data.toList
def Vz (S:Nat->Prop) (w w':World):Prop:=∀ b,S b->b<w.heap.size->w'.heap[b]?=w.heap[b]?
theorem Vz.refl (S:Nat->Prop) (w:World):Vz S w w:=fun _ _ _=>rfl
theorem Vz.of_below {S:Nat->Prop} {w w':World} (h:Below w w w'):Vz S w w':=fun b _ hb=>h.block b hb
theorem Vz.cell {S:Nat->Prop} {w w':World} (h:Vz S w w') {a:Addr} {v:Value} (hS:S a.block) (hc:w.cell? a=some v):w'.cell? a=some v:=
 (World.cell?_of_block (h a.block hS (Qv w a hc))).trans hc
structure Rd (T:Type) where
 k:Nat
 R:(Nat->Prop)->World->List Value->T->Prop
 len:∀ {S w cs x},R S w cs x->cs.length=k
 frame:∀ {S w w' cs x},R S w cs x->Vz S w w'->R S w' cs x
 mono:∀ {S S':Nat->Prop} {w cs x},R S w cs x->(∀ b,b<w.heap.size->S b->S' b)->R S' w cs x
def Sl {T:Type} (r:Rd T) (S:Nat->Prop) (w:World) (v:Value) (xs:List T):Prop:=
 ∃ p cap,v=.slice p xs.length cap/\xs.length<=1000000/\(xs≠[]->∃ b off,p=some ⟨b,off,none⟩/\S b/\b<w.heap.size /\
  ∀ i x,xs[i]?=some x->∃ cs,(∀ j u,cs[j]?=some u->w.cell? ⟨b,off+i*r.k+j,none⟩=some u)/\r.R S w cs x)
theorem Sl.len {T:Type} {r:Rd T} {S:Nat->Prop} {w:World} {v:Value} {xs:List T} (h:Sl r S w v xs):∃ p cap,v=.slice p xs.length cap/\xs.length<=1000000:=by
 obtain ⟨p,cap,h1,h2,_⟩:=h;exact ⟨p,cap,h1,h2⟩
theorem Sl.nil {T:Type} (r:Rd T) (S:Nat->Prop) (w:World):Sl r S w (.slice none 0 0) []:=⟨none,0,rfl,Qxz,fun h=>absurd rfl h⟩
theorem Sl.frame {T:Type} {r:Rd T} {S:Nat->Prop} {w w':World} {v:Value} {xs:List T} (h:Sl r S w v xs) (hA:Vz S w w'):Sl r S w' v xs:=by
 obtain ⟨p,cap,h1,h2,h3⟩:=h
 refine ⟨p,cap,h1,h2,fun J=>?_⟩
 obtain ⟨b,off,e,A,hb,hc⟩:=h3 J
 have D:b<w'.heap.size:=by
  have:=hA b A hb
  rw [Array.getElem?_eq_getElem hb] at this
  exact (Array.getElem?_eq_some_iff.1 this).1
 refine ⟨b,off,e,A,D,fun i x hx=>?_⟩
 obtain ⟨cs,I,hr⟩:=hc i x hx
 exact ⟨cs,fun j u hu=>hA.cell (a:=⟨b,_,none⟩) A (I j u hu),r.frame hr hA⟩
theorem Sl.mono {T:Type} {r:Rd T} {S S':Nat->Prop} {w:World} {v:Value} {xs:List T} (h:Sl r S w v xs) (hS:∀ b,b<w.heap.size->S b->S' b):Sl r S' w v xs:=by
 obtain ⟨p,cap,h1,h2,h3⟩:=h
 refine ⟨p,cap,h1,h2,fun I=>?_⟩
 obtain ⟨b,off,e,hb,A,hc⟩:=h3 I
 refine ⟨b,off,e,hS b A hb,A,fun i x hx=>?_⟩
 obtain ⟨cs,D,hr⟩:=hc i x hx
 exact ⟨cs,D,r.mono hr hS⟩
theorem Sl.up {T:Type} {r:Rd T} {S:Nat->Prop} {w:World} {v:Value} {xs:List T} (h:Sl r S w v xs):Sl r (fun b=>S b/\b<w.heap.size) w v xs:=h.mono (fun _ hb h=>⟨h,hb⟩)
theorem Sl.below {T:Type} {r:Rd T} {S:Nat->Prop} {w w':World} {v:Value} {xs:List T} (h:Sl r S w v xs) (hb:Below w w w'):Sl r S w' v xs:=h.frame (.of_below hb)
theorem Sl.sub {T:Type} {r:Rd T} {S:Nat->Prop} {w:World} {b off n cap:Nat} {xs:List T} (h:Sl r S w (.slice (some ⟨b,off,none⟩) n cap) xs) (lo m cap':Nat) (hm:lo+m<=xs.length):
  Sl r S w (.slice (some ⟨b,off+lo*r.k,none⟩) m cap') ((xs.drop lo).take m):=by
 obtain ⟨p,c,D,h2,h3⟩:=h
 have hl:((xs.drop lo).take m).length=m:=by rw [Qm,Zq];omega
 refine ⟨_,cap',by rw [hl],by rw [hl];omega,fun J=>?_⟩
 have A:xs≠[]:=by intro e;subst e;simp at J
 obtain ⟨b',N,e,hS,hb,hc⟩:=h3 A
 simp only [Qr] at D
 rw [e] at D
 simp only [Zv,Addr.mk.injEq] at D
 obtain ⟨⟨rfl,rfl,_⟩,_⟩:=D
 refine ⟨_,_,rfl,hS,hb,fun i x M=>?_⟩
 have hi:i<m:=by have:=(Qj M).1;omega
 rw [List.getElem?_take_of_lt hi,List.getElem?_drop] at M
 obtain ⟨cs,I,hr⟩:=hc _ x M
 refine ⟨cs,fun j u hu=>?_,hr⟩
 have:=I j u hu
 rwa [Nat.add_mul,<- Nat.add_assoc] at this
def sv (l:Bs):Value:=.string ⟨l.toArray⟩
def Zg:Rd Bs where
 k:=1
 R _ _ cs x:=cs=[sv x]/\x.length<=1000000
 len h:=by rw [h.1];rfl
 frame h _:=h
 mono h _:=h
def Fl:Rd Int where
 k:=1
 R _ _ cs x:=cs=[.int .i64 x]
 len h:=by rw [h];rfl
 frame h _:=h
 mono h _:=h
inductive Za (S:Nat->Prop) (w:World):List Value->Val->Prop
 | mk (k n:Int) (s:Bs) (names:List Bs) (kids:List Val) (nv:Value) (p:Option Addr) (cap b off:Nat) (cs:Nat->List Value) (hs:s.length<=1000000) (hn:Sl Zg S w nv names) (hl:kids.length<=1000000)
   (hp:kids≠[]->p=some ⟨b,off,none⟩/\S b/\b<w) (hc:∀ i x,kids[i]?=some x->∀ j u,(cs i)[j]?=some u->w.cell? ⟨b,off+i*5+j,none⟩=some u)
   (hr:∀ i x,kids[i]?=some x->Za S w (cs i) x):Za S w [k,n,sv s,nv,.slice p kids.length cap] (.mk k n s names kids)
theorem Za.length {S:Nat->Prop} {w:World} {cs:List Value} {x:Val} (h:Za S w cs x):cs.length=5:=by cases h;rfl
theorem Za.move {S S':Nat->Prop} {w w':World} {cs:List Value} {x:Val} (h:Za S w cs x) (hA:Vz S w w') (hS:∀ b,b<w.heap.size->S b->S' b):Za S' w' cs x:=by
 induction h with
 | mk k n s names kids nv p cap b off cs hs hn hl hp hc hr ih=>
  refine .mk k n s names kids nv p cap b off cs hs ((hn.mono (S':=fun b=>S b/\S' b) (fun b hb h=>⟨h,hS b hb h⟩)).frame (fun b hb=>hA b hb.1) |>.mono (fun b _ h=>h.2)) hl ?_ ?_ ih
  ·intro A
   obtain ⟨e,h1,D⟩:=hp A
   refine ⟨e,hS b D h1,?_⟩
   have:=hA b h1 D
   rw [Array.getElem?_eq_getElem D] at this
   exact (Array.getElem?_eq_some_iff.1 this).1
  intro i x I j u hu
  have A:kids≠[]:=by intro e;rw [e] at I;simp at I
  exact hA.cell (a:=⟨b,_,none⟩) (hp A).2.1 (hc i x I j u hu)
def Zc:Rd Val where
 k:=5
 R:=Za
 len h:=h.length
 frame h hA:=h.move hA Qyv
 mono h hS:=h.move (.refl _ _) hS
theorem Yi {S:Nat->Prop} {w:World} {k n:Int} {s:Bs} {names:List Bs} {kids:List Val} {nv kv:Value} (hs:s.length<=1000000) (hn:Sl Zg S w nv names) (hk:Sl Zc S w kv kids):
  Za S w [k,n,sv s,nv,kv] (.mk k n s names kids):=by
 obtain ⟨p,cap,rfl,hl,h⟩:=hk
 by_cases hne:kids=[]
 ·subst hne
  exact .mk k n s names [] nv p cap 0 0 (fun _=>[]) hs hn hl (fun h=>absurd rfl h) (fun i x A=>by simp at A) (fun i x A=>by simp at A)
 obtain ⟨b,off,e,hS,hb,hc⟩:=h hne
 obtain ⟨cs,D⟩:∃ cs:Nat->List Value,∀ i x,kids[i]?=some x->(∀ j u,(cs i)[j]?=some u->w.cell? ⟨b,off+i*5+j,none⟩=some u)/\Za S w (cs i) x:=by
  refine ⟨fun i=>if h:i<kids.length then Classical.choose (hc i kids[i] (Qx h)) else [],fun i x A=>?_⟩
  obtain ⟨hi,rfl⟩:=Qj A
  simp only [dif_pos hi]
  exact Classical.choose_spec (hc i kids[i] (Qx hi))
 exact .mk k n s names kids nv p cap b off cs hs hn hl (fun _=>⟨e,hS,hb⟩) (fun i x A=>(D i x A).1) (fun i x A=>(D i x A).2)
theorem Jf {S:Nat->Prop} {w:World} {cs:List Value} {k n:Int} {s:Bs} {names:List Bs} {kids:List Val}:
  Za S w cs (.mk k n s names kids)↔∃ nv kv,cs=[.int .i64 k,.int .i64 n,sv s,nv,kv]/\s.length<=1000000/\Sl Zg S w nv names/\Sl Zc S w kv kids:=by
 constructor
 ·intro h
  cases h with
  | mk _ _ _ _ _ nv p cap b off cs I D hl hp hc hr=>
   exact ⟨nv,_,rfl,I,D,p,cap,rfl,hl,fun A=>⟨b,off,(hp A).1,(hp A).2.1,(hp A).2.2,fun i x hx=>⟨cs i,hc i x hx,hr i x hx⟩⟩⟩
 rintro ⟨nv,kv,rfl,I,D,hk⟩
 exact Yi I D hk
end Go.Proofs.YtlanplhphiikjaaGreatDoor
namespace Go.Proofs
open Go.Shelf
def Tryz.ixRel_ren:Go.Shelf.Ren:=⟨fun | 6=>142 | n=>n,fun | 22=>29 | 23=>42 | 25=>194 | 3=>3 | 0=>0 | 4=>4 | n=>n,fun | n=>n⟩
theorem Tryz.ixRel:Go.Proofs.SlLaysH0.n6 Tryz.prog Tryz.ixRel_ren:={
 mixed:=by kernel_rfl
 f6:=⟨Tryz.f142.name,by decide,Tryz.func142.trans (congrArg some (by kernel_rfl))⟩
 t0:=Tryz.underlying0
 a0:=Tryz.isAgg0
 z0:=Tryz.sizeOf0
 v0:=Tryz.zeroValue0
 t3:=Tryz.underlying3
 a3:=Tryz.isAgg3
 z3:=Tryz.sizeOf3
 v3:=Tryz.zeroValue3
 t4:=Tryz.underlying4
 a4:=Tryz.isAgg4
 z4:=Tryz.sizeOf4
 v4:=Tryz.zeroValue4
 t22:=Tryz.underlying29
 a22:=Tryz.isAgg29
 z22:=Tryz.sizeOf29
 v22:=Tryz.zeroValue29
 t25:=Tryz.underlying194
 a25:=Tryz.isAgg194
 z25:=Tryz.sizeOf194
 v25:=Tryz.zeroValue194 }
def Tryz.ixVal_ren:Go.Shelf.Ren:=⟨fun | 6=>97 | n=>n,fun | 22=>40 | 23=>48 | 25=>126 | 3=>3 | 0=>0 | 4=>4 | n=>n,fun | n=>n⟩
theorem Tryz.ixVal:Go.Proofs.SlLaysH0.n6 Tryz.prog Tryz.ixVal_ren:={
 mixed:=by kernel_rfl
 f6:=⟨Tryz.f97.name,by decide,Tryz.func97.trans (congrArg some (by kernel_rfl))⟩
 t0:=Tryz.underlying0
 a0:=Tryz.isAgg0
 z0:=Tryz.sizeOf0
 v0:=Tryz.zeroValue0
 t3:=Tryz.underlying3
 a3:=Tryz.isAgg3
 z3:=Tryz.sizeOf3
 v3:=Tryz.zeroValue3
 t4:=Tryz.underlying4
 a4:=Tryz.isAgg4
 z4:=Tryz.sizeOf4
 v4:=Tryz.zeroValue4
 t22:=Tryz.underlying40
 a22:=Tryz.isAgg40
 z22:=Tryz.sizeOf40
 v22:=Tryz.zeroValue40
 t25:=Tryz.underlying126
 a25:=Tryz.isAgg126
 z25:=Tryz.sizeOf126
 v25:=Tryz.zeroValue126 }
def Tryz.cfVal_ren:Go.Shelf.Ren:=⟨fun | 8=>94 | 6=>97 | n=>n,fun | 22=>40 | 23=>48 | 25=>126 | 4=>4 | 3=>3 | 0=>0 | n=>n,fun | n=>n⟩
theorem Tryz.cfVal:Go.Proofs.SlLaysH0.n8 Tryz.prog Tryz.cfVal_ren:={
 mixed:=by kernel_rfl
 f6:=⟨Tryz.f97.name,by decide,Tryz.func97.trans (congrArg some (by kernel_rfl))⟩
 f8:=⟨Tryz.f94.name,by decide,Tryz.func94.trans (congrArg some (by kernel_rfl))⟩
 t0:=Tryz.underlying0
 a0:=Tryz.isAgg0
 z0:=Tryz.sizeOf0
 v0:=Tryz.zeroValue0
 t3:=Tryz.underlying3
 a3:=Tryz.isAgg3
 z3:=Tryz.sizeOf3
 v3:=Tryz.zeroValue3
 t4:=Tryz.underlying4
 a4:=Tryz.isAgg4
 z4:=Tryz.sizeOf4
 v4:=Tryz.zeroValue4
 t22:=Tryz.underlying40
 a22:=Tryz.isAgg40
 z22:=Tryz.sizeOf40
 v22:=Tryz.zeroValue40
 t25:=Tryz.underlying126
 a25:=Tryz.isAgg126
 z25:=Tryz.sizeOf126
 v25:=Tryz.zeroValue126 }
def Tryz.cfExpr_ren:Go.Shelf.Ren:=⟨fun | 8=>186 | 6=>237 | n=>n,fun | 22=>57 | 23=>59 | 25=>177 | 4=>4 | 3=>3 | 0=>0 | n=>n,fun | n=>n⟩
theorem Tryz.cfExpr:Go.Proofs.SlLaysH0.n8 Tryz.prog Tryz.cfExpr_ren:={
 mixed:=by kernel_rfl
 f6:=⟨Tryz.f237.name,by decide,Tryz.func237.trans (congrArg some (by kernel_rfl))⟩
 f8:=⟨Tryz.f186.name,by decide,Tryz.func186.trans (congrArg some (by kernel_rfl))⟩
 t0:=Tryz.underlying0
 a0:=Tryz.isAgg0
 z0:=Tryz.sizeOf0
 v0:=Tryz.zeroValue0
 t3:=Tryz.underlying3
 a3:=Tryz.isAgg3
 z3:=Tryz.sizeOf3
 v3:=Tryz.zeroValue3
 t4:=Tryz.underlying4
 a4:=Tryz.isAgg4
 z4:=Tryz.sizeOf4
 v4:=Tryz.zeroValue4
 t22:=Tryz.underlying57
 a22:=Tryz.isAgg57
 z22:=Tryz.sizeOf57
 v22:=Tryz.zeroValue57
 t25:=Tryz.underlying177
 a25:=Tryz.isAgg177
 z25:=Tryz.sizeOf177
 v25:=Tryz.zeroValue177 }
def Tryz.clVal_ren:Go.Shelf.Ren:=⟨fun | 41=>141 | n=>n,fun | 22=>40 | 23=>48 | 4=>4 | n=>n,fun | n=>n⟩
theorem Tryz.clVal:Go.Proofs.SlLaysE0.n41 Tryz.prog Tryz.clVal_ren:={
 mixed:=by kernel_rfl
 f41:=⟨Tryz.f141.name,by decide,Tryz.func141.trans (congrArg some (by kernel_rfl))⟩
 t4:=Tryz.underlying4
 a4:=Tryz.isAgg4
 z4:=Tryz.sizeOf4
 v4:=Tryz.zeroValue4
 t22:=Tryz.underlying40
 a22:=Tryz.isAgg40
 z22:=Tryz.sizeOf40
 v22:=Tryz.zeroValue40 }
def Tryz.clCol_ren:Go.Shelf.Ren:=⟨fun | 41=>113 | n=>n,fun | 22=>55 | 23=>79 | 4=>4 | n=>n,fun | n=>n⟩
theorem Tryz.clCol:Go.Proofs.SlLaysE0.n41 Tryz.prog Tryz.clCol_ren:={
 mixed:=by kernel_rfl
 f41:=⟨Tryz.f113.name,by decide,Tryz.func113.trans (congrArg some (by kernel_rfl))⟩
 t4:=Tryz.underlying4
 a4:=Tryz.isAgg4
 z4:=Tryz.sizeOf4
 v4:=Tryz.zeroValue4
 t22:=Tryz.underlying55
 a22:=Tryz.isAgg55
 z22:=Tryz.sizeOf55
 v22:=Tryz.zeroValue55 }
def Tryz.clStr_ren:Go.Shelf.Ren:=⟨fun | 41=>150 | n=>n,fun | 22=>46 | 23=>9 | 4=>4 | n=>n,fun | n=>n⟩
theorem Tryz.clStr:Go.Proofs.SlLaysE0.n41 Tryz.prog Tryz.clStr_ren:={
 mixed:=by kernel_rfl
 f41:=⟨Tryz.f150.name,by decide,Tryz.func150.trans (congrArg some (by kernel_rfl))⟩
 t4:=Tryz.underlying4
 a4:=Tryz.isAgg4
 z4:=Tryz.sizeOf4
 v4:=Tryz.zeroValue4
 t22:=Tryz.underlying46
 a22:=Tryz.isAgg46
 z22:=Tryz.sizeOf46
 v22:=Tryz.zeroValue46 }
def Tryz.clRel_ren:Go.Shelf.Ren:=⟨fun | 41=>140 | n=>n,fun | 22=>29 | 23=>42 | 4=>4 | n=>n,fun | n=>n⟩
theorem Tryz.clRel:Go.Proofs.SlLaysE0.n41 Tryz.prog Tryz.clRel_ren:={
 mixed:=by kernel_rfl
 f41:=⟨Tryz.f140.name,by decide,Tryz.func140.trans (congrArg some (by kernel_rfl))⟩
 t4:=Tryz.underlying4
 a4:=Tryz.isAgg4
 z4:=Tryz.sizeOf4
 v4:=Tryz.zeroValue4
 t22:=Tryz.underlying29
 a22:=Tryz.isAgg29
 z22:=Tryz.sizeOf29
 v22:=Tryz.zeroValue29 }
def Tryz.clRef_ren:Go.Shelf.Ren:=⟨fun | 41=>235 | n=>n,fun | 22=>56 | 23=>82 | 4=>4 | n=>n,fun | n=>n⟩
theorem Tryz.clRef:Go.Proofs.SlLaysE0.n41 Tryz.prog Tryz.clRef_ren:={
 mixed:=by kernel_rfl
 f41:=⟨Tryz.f235.name,by decide,Tryz.func235.trans (congrArg some (by kernel_rfl))⟩
 t4:=Tryz.underlying4
 a4:=Tryz.isAgg4
 z4:=Tryz.sizeOf4
 v4:=Tryz.zeroValue4
 t22:=Tryz.underlying56
 a22:=Tryz.isAgg56
 z22:=Tryz.sizeOf56
 v22:=Tryz.zeroValue56 }
def Tryz.clByte_ren:Go.Shelf.Ren:=⟨fun | 41=>39 | n=>n,fun | 22=>23 | 23=>5 | 4=>4 | n=>n,fun | n=>n⟩
theorem Tryz.clByte:Go.Proofs.SlLaysE0.n41 Tryz.prog Tryz.clByte_ren:={
 mixed:=by kernel_rfl
 f41:=⟨Tryz.f39.name,by decide,Tryz.func39.trans (congrArg some (by kernel_rfl))⟩
 t4:=Tryz.underlying4
 a4:=Tryz.isAgg4
 z4:=Tryz.sizeOf4
 v4:=Tryz.zeroValue4
 t22:=Tryz.underlying23
 a22:=Tryz.isAgg23
 z22:=Tryz.sizeOf23
 v22:=Tryz.zeroValue23 }
end Go.Proofs

