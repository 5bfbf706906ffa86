import Derived.Test.YtdpibdpbgokmoaaGreatDoorA00
set_option maxRecDepth 100000
set_option maxHeartbeats 400000000
namespace Go.Proofs.YtdpibdpbgokmoaaGreatDoor
abbrev Bs:=List UInt8
def Pz (c:UInt8):Bool:=c==9||c==10||c==13||c==32
def Om (c:UInt8):Bool:=48<=c&&c<=57
def Gx (c:UInt8):Bool:=97<=c&&c<=122
def Hu (c:UInt8):Bool:=65<=c&&c<=90
def Fp (c:UInt8):Bool:=Gx c||Om c||c==95
def Hy (c:UInt8):Bool:=Gx c||Hu c||Om c
def isLn (c:UInt8):Bool:=c != 10
def tk (p:UInt8->Bool):Bs->Nat
 | []=>0
 | c::t=>if p c then tk p t+1 else 0
def syms:List Bs:=[[61,61],[33,61],[60,61],[60,45],[45,62],[43,43],[60],[62],[61],[43],[45],[42],[40],[41],[123],[125],[91],[93],[44],[46],[58],[124],[59],[63]]
def sym (l:Bs):Nat:=match syms.find? (λx=>x.isPrefixOf l) with
 | some x=>x.length
 | none=>0
def notQ (c:UInt8):Bool:=c != 34&&c != 10
def quo (t:Bs):Nat:=if t[tk notQ t]?=some 34 then tk notQ t+2 else 0
def kws:List Bs:=[[97,110,100],[97,115],[99,104,101,99,107],[100,101,108,101,116,101],[101,108,115,101],[102,97,108,115,101],[102,117,110],[105,102],[105,110],[105,110,115,101,114,116],[107,101,121],[108,101,116],[109,97,116,99,104],[110,111,116],[111,114],[112,114,111,99],[114,101,102],[115,101,116],[116,97,98,108,101],[116,104,101,110],[116,111],[116,114,117,101],[116,121,112,101],[117,112,100,97,116,101],[119,104,101,114,101],[119,105,116,104]]
def Hz (l:Bs):Bool:=kws.contains l
def good:Bs->Nat × Nat
 | []=>(6,0)
 | c::t=>
  if Pz c then (0,tk Pz (c::t))
  else if c==35 then (1,tk isLn (c::t))
  else if Gx c then (if Hz ((c::t).take (tk Fp (c::t))) then 7 else 2,tk Fp (c::t))
  else if Hu c then (3,tk Hy (c::t))
  else if Om c then (4,tk Om (c::t))
  else if c==34 then (5,quo t)
  else (6,sym (c::t))
def badLen:Bs->Nat
 | []=>0
 | c::t=>if c==34||decide (0<(good (c::t)).2) then 0 else badLen t+1
def nxt:Bs->Nat × Nat
 | []=>(0,0)
 | c::t=>
  if 0<(good (c::t)).2 then good (c::t)
  else if c==34 then (8,tk isLn (c::t))
  else (8,badLen t+1)
theorem tk_le (p:UInt8->Bool):∀ l,tk p l<=l.length
 | []=>Q9 _
 | c::t=>by
  have:=tk_le p t
  unfold tk;split <;> simp <;> omega
theorem tk_pos {p:UInt8->Bool} {c:UInt8} {t:Bs} (h:p c=true):tk p (c::t)=tk p t+1:=by simp [tk,h]
theorem Ab {p:UInt8->Bool}:∀ {l:Bs} {c:UInt8},l[tk p l]?=some c->p c=false
 | [],c,h=>by simp at h
 | d::t,c,h=>by
  by_cases hd:p d
  ·rw [tk_pos hd] at h
   exact Ab (l:=t) (by simpa using h)
  simp [tk,hd] at h
  subst h;simpa using hd
theorem Oc {p:UInt8->Bool}:∀ {l:Bs} {i:Nat} {c:UInt8},i<tk p l->l[i]?=some c->p c=true
 | [],i,c,h,_=>by simp [tk] at h
 | d::t,i,c,h,hc=>by
  by_cases hd:p d
  ·rw [tk_pos hd] at h
   cases i with
   | zero=>simp at hc;subst hc;exact hd
   | succ i=>exact Oc (l:=t) (i:=i) Ia (by simpa using hc)
  simp [tk,hd] at h
inductive Val where
 | mk (kind n:Int) (s:Bs) (names:List Bs) (kids:List Val)
namespace Val
def kind:Val->Int | mk k _ _ _ _=>k
def n:Val->Int | mk _ n _ _ _=>n
def s:Val->Bs | mk _ _ s _ _=>s
def names:Val->List Bs | mk _ _ _ l _=>l
def kids:Val->List Val | mk _ _ _ _ l=>l
def zero:Val:=mk 0 0 [] [] []
end Val
def ord (a b:Int):Int:=if a<b then -1 else if b<a then 1 else 0
def thn (c d:Int):Int:=if c=0 then d else c
theorem Jv (d:Int):thn 0 d=d:=rfl
theorem Ki (a b c:Int):thn (thn a b) c=thn a (thn b c):=by
 unfold thn;by_cases h:a=0 <;> simp [h]
theorem Km (a:Int):thn a 0=a:=by unfold thn;split <;> simp_all
theorem J0 (a:Int):ord a a=0:=by unfold ord;split <;> omega
theorem Bc {a b:Int} (h:a≠b):ord a b≠0:=by unfold ord;split <;> (try split) <;> omega
def Yi:Bs->Bs->Int
 | [],[]=>0
 | [],_::_=>-1
 | _::_,[]=>1
 | a::s,b::t=>thn (ord a.toNat b.toNat) (Yi s t)
def Ks:List Bs->List Bs->Int
 | [],[]=>0
 | [],_::_=>-1
 | _::_,[]=>1
 | a::s,b::t=>thn (Yi a b) (Ks s t)
mutual
def Zu:Val->Val->Int
 | .mk k n s ns ks,.mk k' n' s' ns' ks'=>
  if k≠k' then ord k k'
  else if k=0\/k=2 then ord n n'
  else if k=1 then Yi s s'
  else if k=3 then thn (Yi s s') (V8 ks ks')
  else if k=4 then thn (Ks ns ns') (V8 ks ks')
  else if k=5 then V8 ks ks'
  else 0
def V8:List Val->List Val->Int
 | [],[]=>0
 | [],_::_=>-1
 | _::_,[]=>1
 | a::s,b::t=>thn (Zu a b) (V8 s t)
end
def lex:List Int->List Int->Int
 | [],[]=>0
 | [],_::_=>-1
 | _::_,[]=>1
 | a::s,b::t=>thn (ord a b) (lex s t)
def M2 (s:Bs):List Int:=s.map (λc=>(c.toNat:Int)+1)++[0]
def keyN:List Bs->List Int
 | []=>[0]
 | s::l=>1::(M2 s++keyN l)
mutual
def key:Val->List Int
 | .mk k n s ns ks=>k::(if k=0\/k=2 then [n] else if k=1 then M2 s else if k=3 then M2 s++keys ks else if k=4 then keyN ns++keys ks else if k=5 then keys ks else [])
def keys:List Val->List Int
 | []=>[0]
 | v::l=>1::(key v++keys l)
end
theorem ord_succ (a b:Int):ord (a+1) (b+1)=ord a b:=by unfold ord;repeat' split <;> omega
theorem Ux (s t:Bs) (x y:List Int):lex (M2 s++x) (M2 t++y)=thn (Yi s t) (lex x y):=by
 induction s generalizing t with
 | nil=>
  cases t with
  | nil=>rfl
  | cons b t=>
   have h:ord 0 ((b.toNat:Int)+1)=-1:=by unfold ord;rw [if_pos Ia]
   simp [M2,lex,Yi,h,thn]
 | cons a s ih=>
  cases t with
  | nil=>
   have h:ord ((a.toNat:Int)+1) 0=1:=by unfold ord;rw [if_neg Ia,if_pos Ia]
   simp [M2,lex,Yi,h,thn]
  | cons b t=>
   have:=ih t
   simp only [M2,List.map_cons,List.cons_append,lex,Yi,Ki,ord_succ] at this |-
   rw [this]
theorem lex_keyN (s t:List Bs) (x y:List Int):lex (keyN s++x) (keyN t++y)=thn (Ks s t) (lex x y):=by
 induction s generalizing t with
 | nil=>
  cases t with
  | nil=>rfl
  | cons b t=>rfl
 | cons a s ih=>
  cases t with
  | nil=>rfl
  | cons b t=>
   simp only [keyN,List.cons_append,List.append_assoc,lex,Ks,Ki,J0,Jv,Ux]
   rw [ih t]
mutual
theorem Aa (a b:Val) (x y:List Int):lex (key a++x) (key b++y)=thn (Zu a b) (lex x y):=by
 match a,b with
 | .mk k n s ns ks,.mk k' n' s' ns' ks'=>
  by_cases hk:k=k'
  ·subst hk
   simp only [key,Zu,List.cons_append,lex,J0,Jv,ne_eq,not_true,if_false]
   split
   ·simp [lex,thn]
   split
   ·exact Ux _ _ _ _
   split
   ·rw [List.append_assoc,List.append_assoc,Ux,B3 ks ks',Ki]
   split
   ·rw [List.append_assoc,List.append_assoc,lex_keyN,B3 ks ks',Ki]
   split
   ·exact B3 ks ks' x y
   rfl
  simp only [key,Zu,List.cons_append,lex,ne_eq,hk,not_false_eq_true,if_true]
  unfold thn
  rw [if_neg (Bc hk),if_neg (Bc hk)]
theorem B3 (a b:List Val) (x y:List Int):lex (keys a++x) (keys b++y)=thn (V8 a b) (lex x y):=by
 match a,b with
 | [],[]=>rfl
 | [],_::_=>rfl
 | _::_,[]=>rfl
 | v::l,w::m=>
  simp only [keys,List.cons_append,List.append_assoc,lex,V8,Ki,J0,Jv]
  rw [Aa v w,B3 l m]
end
theorem Kn (a b:Val):Zu a b=lex (key a) (key b):=by
 have:=Aa a b [] []
 rw [List.append_nil,List.append_nil] at this
 rw [this];exact (Km _).symm
theorem Ri (a:List Int):lex a a=0:=by
 induction a with
 | nil=>rfl
 | cons a s ih=>simp [lex,J0,thn,ih]
theorem lex_zero {a b:List Int} (h:lex a b=0):a=b:=by
 induction a generalizing b with
 | nil=>cases b with | nil=>rfl | cons b t=>simp [lex] at h
 | cons a s ih=>
  cases b with
  | nil=>simp [lex] at h
  | cons b t=>
   simp only [lex,thn] at h
   split at h
   ·rename_i he
    have A:a=b:=Decidable.byContradiction λhn=>Bc hn he
    rw [A,ih h]
   contradiction
theorem ord_anti (a b:Int):ord a b=- ord b a:=by unfold ord;repeat' split <;> omega
theorem Kp (a b:List Int):lex a b=- lex b a:=by
 induction a generalizing b with
 | nil=>cases b <;> rfl
 | cons a s ih=>
  cases b with
  | nil=>rfl
  | cons b t=>
   simp only [lex,thn]
   rw [ord_anti a b,ih t]
   by_cases h:ord b a=0
   ·rw [if_pos Ia,if_pos h]
   rw [if_neg Ia,if_neg h]
theorem Ow {a b:Int}:ord a b<0↔a<b:=by unfold ord;split <;> (try split) <;> omega
theorem Ez {a b c:List Int} (h1:lex a b<0) (h2:lex b c<0):lex a c<0:=by
 induction a generalizing b c with
 | nil=>
  cases c with
  | nil=>cases b <;> simp [lex] at h1 h2
  | cons c u=>simp [lex]
 | cons a s ih=>
  cases b with
  | nil=>simp [lex] at h1
  | cons b t=>
   cases c with
   | nil=>simp [lex] at h2
   | cons c u=>
    simp only [lex,thn] at h1 h2 |-
    have e1:=Ow (a:=a) (b:=b)
    have e2:=Ow (a:=b) (b:=c)
    have e3:=Ow (a:=a) (b:=c)
    have z1:ord a b=0->a=b:=λh=>Decidable.byContradiction λA=>Bc A h
    have z2:ord b c=0->b=c:=λh=>Decidable.byContradiction λA=>Bc A h
    split at h1
    ·rename_i ha
     have:=z1 ha;subst this
     split at h2
     ·rename_i hb
      have:=z2 hb;subst this
      rw [if_pos (J0 _)]
      exact ih h1 h2
     rename_i hb
     rw [if_neg hb];exact h2
    rename_i ha
    have D:=e1.1 h1
    split at h2
    ·rename_i hb
     have:=z2 hb;subst this
     rw [if_neg ha];exact h1
    have:=e2.1 h2
    have h3:=e3.2 Ia
    rw [if_neg Ia];exact h3
theorem Fy {a b:Val}:Zu a b=0↔key a=key b:=by
 rw [Kn]
 exact ⟨lex_zero,λh=>by rw [h];exact Ri _⟩
open Go.RowKit
abbrev bl (s:ByteArray):Bs:=s.data.toList
def Jy (S:Nat->Prop) (w w':World):Prop:=∀ b,S b->b<w.heap.size->w'.heap[b]?=w.heap[b]?
theorem Jy.refl (S:Nat->Prop) (w:World):Jy S w w:=λ_ _ _=>rfl
theorem Jy.f {S:Nat->Prop} {w w':World} (h:Below w w w'):Jy S w w':=λb _ hb=>h.block b hb
theorem Jy.cell {S:Nat->Prop} {w w':World} (h:Jy S w w') {a:Addr} {v:Value} (hS:S a.block) (hc:w.cell? a=some v):w'.cell? a=some v:=
 (World.cell?_of_block (h a.block hS (Qv w a hc))).trans hc
structure Rd (T:Type) where
 k:Nat
 R:(Nat->Prop)->World->List Value->T->Prop
 len:∀ {S w cs x},R S w cs x->cs.length=k
 frame:∀ {S w w' cs x},R S w cs x->Jy S w w'->R S w' cs x
 mono:∀ {S S':Nat->Prop} {w cs x},R S w cs x->(∀ b,b<w.heap.size->S b->S' b)->R S' w cs x
def Sl {T:Type} (r:Rd T) (S:Nat->Prop) (w:World) (v:Value) (xs:List T):Prop:=
 ∃ p cap,v=.slice p xs.length cap/\xs.length<=1000000/\(xs≠[]->∃ b off,p=some ⟨b,off,none⟩/\S b/\b<w.heap.size /\
  ∀ i x,xs[i]?=some x->∃ cs,(∀ j u,cs[j]?=some u->w.cell? ⟨b,off+i*r.k+j,none⟩=some u)/\r.R S w cs x)
theorem Sl.len {T:Type} {r:Rd T} {S:Nat->Prop} {w:World} {v:Value} {xs:List T} (h:Sl r S w v xs):∃ p cap,v=.slice p xs.length cap/\xs.length<=1000000:=by
 obtain ⟨p,cap,h1,h2,_⟩:=h;exact ⟨p,cap,h1,h2⟩
theorem Sl.nil {T:Type} (r:Rd T) (S:Nat->Prop) (w:World):Sl r S w (.slice none 0 0) []:=⟨none,0,rfl,Ib,λh=>absurd rfl h⟩
theorem Sl.frame {T:Type} {r:Rd T} {S:Nat->Prop} {w w':World} {v:Value} {xs:List T} (h:Sl r S w v xs) (hA:Jy S w w'):Sl r S w' v xs:=by
 obtain ⟨p,cap,h1,h2,h3⟩:=h
 refine ⟨p,cap,h1,h2,λI=>?_⟩
 obtain ⟨b,J,e,A,hb,hc⟩:=h3 I
 have D:b<w'.heap.size:=by
  have:=hA b A hb
  rw [Array.getElem?_eq_getElem hb] at this
  exact (Array.getElem?_eq_some_iff.1 this).1
 refine ⟨b,J,e,A,D,λi x hx=>?_⟩
 obtain ⟨cs,G,hr⟩:=hc i x hx
 exact ⟨cs,λj u hu=>hA.cell (a:=⟨b,_,none⟩) A (G j u hu),r.frame hr hA⟩
theorem Sl.mono {T:Type} {r:Rd T} {S S':Nat->Prop} {w:World} {v:Value} {xs:List T} (h:Sl r S w v xs) (hS:∀ b,b<w.heap.size->S b->S' b):Sl r S' w v xs:=by
 obtain ⟨p,cap,h1,h2,h3⟩:=h
 refine ⟨p,cap,h1,h2,λG=>?_⟩
 obtain ⟨b,I,e,hb,A,hc⟩:=h3 G
 refine ⟨b,I,e,hS b A hb,A,λi x hx=>?_⟩
 obtain ⟨cs,D,hr⟩:=hc i x hx
 exact ⟨cs,D,r.mono hr hS⟩
theorem Sl.up {T:Type} {r:Rd T} {S:Nat->Prop} {w:World} {v:Value} {xs:List T} (h:Sl r S w v xs):Sl r (λb=>S b/\b<w.heap.size) w v xs:=h.mono (λ_ hb h=>⟨h,hb⟩)
theorem Sl.below {T:Type} {r:Rd T} {S:Nat->Prop} {w w':World} {v:Value} {xs:List T} (h:Sl r S w v xs) (hb:Below w w w'):Sl r S w' v xs:=h.frame (.f hb)
theorem Sl.sub {T:Type} {r:Rd T} {S:Nat->Prop} {w:World} {b off n cap:Nat} {xs:List T} (h:Sl r S w (.slice (some ⟨b,off,none⟩) n cap) xs) (lo m cap':Nat) (hm:lo+m<=xs.length):
  Sl r S w (.slice (some ⟨b,off+lo*r.k,none⟩) m cap') ((xs.drop lo).take m):=by
 obtain ⟨p,c,D,h2,h3⟩:=h
 have hl:((xs.drop lo).take m).length=m:=by rw [Qm,Zq];omega
 refine ⟨_,cap',by rw [hl],by rw [hl];omega,λI=>?_⟩
 have A:xs≠[]:=by intro e;subst e;simp at I
 obtain ⟨b',M,e,hS,hb,hc⟩:=h3 A
 simp only [Qr] at D
 rw [e] at D
 simp only [Zv,Addr.mk.injEq] at D
 obtain ⟨⟨rfl,rfl,_⟩,_⟩:=D
 refine ⟨_,_,rfl,hS,hb,λi x J=>?_⟩
 have hi:i<m:=by have:=(Qj J).1;omega
 rw [List.getElem?_take_of_lt hi,List.getElem?_drop] at J
 obtain ⟨cs,G,hr⟩:=hc _ x J
 refine ⟨cs,λj u hu=>?_,hr⟩
 have:=G j u hu
 rwa [Nat.add_mul,<- Nat.add_assoc] at this
def sv (l:Bs):Value:=.string ⟨l.toArray⟩
def Zh:Rd Bs where
 k:=1
 R _ _ cs x:=cs=[sv x]/\x.length<=1000000
 len h:=by rw [h.1];rfl
 frame h _:=h
 mono h _:=h
def Ff:Rd Int where
 k:=1
 R _ _ cs x:=cs=[.int .i64 x]
 len h:=by rw [h];rfl
 frame h _:=h
 mono h _:=h
inductive Z9 (S:Nat->Prop) (w:World):List Value->Val->Prop
 | mk (k n:Int) (s:Bs) (names:List Bs) (kids:List Val) (nv:Value) (p:Option Addr) (cap b off:Nat) (cs:Nat->List Value) (hs:s.length<=1000000) (hn:Sl Zh S w nv names) (hl:kids.length<=1000000)
   (hp:kids≠[]->p=some ⟨b,off,none⟩/\S b/\b<w) (hc:∀ i x,kids[i]?=some x->∀ j u,(cs i)[j]?=some u->w.cell? ⟨b,off+i*5+j,none⟩=some u)
   (hr:∀ i x,kids[i]?=some x->Z9 S w (cs i) x):Z9 S w [k,n,sv s,nv,.slice p kids.length cap] (.mk k n s names kids)
theorem Z9.length {S:Nat->Prop} {w:World} {cs:List Value} {x:Val} (h:Z9 S w cs x):cs.length=5:=by cases h;rfl
theorem Z9.move {S S':Nat->Prop} {w w':World} {cs:List Value} {x:Val} (h:Z9 S w cs x) (hA:Jy S w w') (hS:∀ b,b<w.heap.size->S b->S' b):Z9 S' w' cs x:=by
 induction h with
 | mk k n s names kids nv p cap b off cs hs hn hl hp hc hr ih=>
  refine .mk k n s names kids nv p cap b off cs hs ((hn.mono (S':=λb=>S b/\S' b) (λb hb h=>⟨h,hS b hb h⟩)).frame (λb hb=>hA b hb.1) |>.mono (λb _ h=>h.2)) hl ?_ ?_ ih
  ·intro A
   obtain ⟨e,h1,D⟩:=hp A
   refine ⟨e,hS b D h1,?_⟩
   have:=hA b h1 D
   rw [Array.getElem?_eq_getElem D] at this
   exact (Array.getElem?_eq_some_iff.1 this).1
  intro i x G j u hu
  have A:kids≠[]:=by intro e;rw [e] at G;simp at G
  exact hA.cell (a:=⟨b,_,none⟩) (hp A).2.1 (hc i x G j u hu)
def Zc:Rd Val where
 k:=5
 R:=Z9
 len h:=h.length
 frame h hA:=h.move hA Ij
 mono h hS:=h.move (.refl _ _) hS
theorem Yb {S:Nat->Prop} {w:World} {k n:Int} {s:Bs} {names:List Bs} {kids:List Val} {nv kv:Value} (hs:s.length<=1000000) (hn:Sl Zh S w nv names) (hk:Sl Zc S w kv kids):
  Z9 S w [k,n,sv s,nv,kv] (.mk k n s names kids):=by
 obtain ⟨p,cap,rfl,hl,h⟩:=hk
 by_cases hne:kids=[]
 ·subst hne
  exact .mk k n s names [] nv p cap 0 0 (λ_=>[]) hs hn hl (λh=>absurd rfl h) (λi x A=>by simp at A) (λi x A=>by simp at A)
 obtain ⟨b,G,e,hS,hb,hc⟩:=h hne
 obtain ⟨cs,D⟩:∃ cs:Nat->List Value,∀ i x,kids[i]?=some x->(∀ j u,(cs i)[j]?=some u->w.cell? ⟨b,G+i*5+j,none⟩=some u)/\Z9 S w (cs i) x:=by
  refine ⟨λi=>if h:i<kids.length then Classical.choose (hc i kids[i] (Qx h)) else [],λi x A=>?_⟩
  obtain ⟨hi,rfl⟩:=Qj A
  simp only [dif_pos hi]
  exact Classical.choose_spec (hc i kids[i] (Qx hi))
 exact .mk k n s names kids nv p cap b G cs hs hn hl (λ_=>⟨e,hS,hb⟩) (λi x A=>(D i x A).1) (λi x A=>(D i x A).2)
theorem Uq {S:Nat->Prop} {w:World} {cs:List Value} {k n:Int} {s:Bs} {names:List Bs} {kids:List Val}:
  Z9 S w cs (.mk k n s names kids)↔∃ nv kv,cs=[.int .i64 k,.int .i64 n,sv s,nv,kv]/\s.length<=1000000/\Sl Zh S w nv names/\Sl Zc S w kv kids:=by
 constructor
 ·intro h
  cases h with
  | mk _ _ _ _ _ nv p cap b off cs G D hl hp hc hr=>
   exact ⟨nv,_,rfl,G,D,p,cap,rfl,hl,λA=>⟨b,off,(hp A).1,(hp A).2.1,(hp A).2.2,λi x hx=>⟨cs i,hc i x hx,hr i x hx⟩⟩⟩
 rintro ⟨nv,kv,rfl,G,D,hk⟩
 exact Yb G D hk
inductive Ty where
 | mk (kind:Int) (name:Bs) (n:Int) (names:List Bs) (kids:List Ty)
inductive Ex where
 | mk (kind:Int) (name:Bs) (n:Int) (s:Bs) (names binds:List Bs) (kids:List Ex) (a z:Int)
inductive Xl (S:Nat->Prop) (w:World):List Value->Ty->Prop
 | mk (k n:Int) (s:Bs) (names:List Bs) (kids:List Ty) (nv:Value) (p:Option Addr) (cap b off:Nat) (cs:Nat->List Value) (hs:s.length<=1000000) (hn:Sl Zh S w nv names) (hl:kids.length<=1000000)
   (hp:kids≠[]->p=some ⟨b,off,none⟩/\S b/\b<w) (hc:∀ i x,kids[i]?=some x->∀ j u,(cs i)[j]?=some u->w.cell? ⟨b,off+i*5+j,none⟩=some u)
   (hr:∀ i x,kids[i]?=some x->Xl S w (cs i) x):Xl S w [k,sv s,n,nv,.slice p kids.length cap] (.mk k s n names kids)
theorem Xl.length {S:Nat->Prop} {w:World} {cs:List Value} {x:Ty} (h:Xl S w cs x):cs.length=5:=by cases h;rfl
theorem Xl.move {S S':Nat->Prop} {w w':World} {cs:List Value} {x:Ty} (h:Xl S w cs x) (hA:Jy S w w') (hS:∀ b,b<w.heap.size->S b->S' b):Xl S' w' cs x:=by
 induction h with
 | mk k n s names kids nv p cap b off cs hs hn hl hp hc hr ih=>
  refine .mk k n s names kids nv p cap b off cs hs ((hn.mono (S':=λb=>S b/\S' b) (λb hb h=>⟨h,hS b hb h⟩)).frame (λb hb=>hA b hb.1) |>.mono (λb _ h=>h.2)) hl ?_ ?_ ih
  ·intro A
   obtain ⟨e,h1,D⟩:=hp A
   refine ⟨e,hS b D h1,?_⟩
   have:=hA b h1 D
   rw [Array.getElem?_eq_getElem D] at this
   exact (Array.getElem?_eq_some_iff.1 this).1
  intro i x G j u hu
  have A:kids≠[]:=by intro e;rw [e] at G;simp at G
  exact hA.cell (a:=⟨b,_,none⟩) (hp A).2.1 (hc i x G j u hu)
def Jl:Rd Ty where
 k:=5
 R:=Xl
 len h:=h.length
 frame h hA:=h.move hA Ij
 mono h hS:=h.move (.refl _ _) hS
theorem D9 {S:Nat->Prop} {w:World} {k n:Int} {s:Bs} {names:List Bs} {kids:List Ty} {nv kv:Value} (hs:s.length<=1000000) (hn:Sl Zh S w nv names) (hk:Sl Jl S w kv kids):
  Xl S w [k,sv s,n,nv,kv] (.mk k s n names kids):=by
 obtain ⟨p,cap,rfl,hl,h⟩:=hk
 by_cases hne:kids=[]
 ·subst hne
  exact .mk k n s names [] nv p cap 0 0 (λ_=>[]) hs hn hl (λh=>absurd rfl h) (λi x A=>by simp at A) (λi x A=>by simp at A)
 obtain ⟨b,G,e,hS,hb,hc⟩:=h hne
 obtain ⟨cs,D⟩:∃ cs:Nat->List Value,∀ i x,kids[i]?=some x->(∀ j u,(cs i)[j]?=some u->w.cell? ⟨b,G+i*5+j,none⟩=some u)/\Xl S w (cs i) x:=by
  refine ⟨λi=>if h:i<kids.length then Classical.choose (hc i kids[i] (Qx h)) else [],λi x A=>?_⟩
  obtain ⟨hi,rfl⟩:=Qj A
  simp only [dif_pos hi]
  exact Classical.choose_spec (hc i kids[i] (Qx hi))
 exact .mk k n s names kids nv p cap b G cs hs hn hl (λ_=>⟨e,hS,hb⟩) (λi x A=>(D i x A).1) (λi x A=>(D i x A).2)
theorem Rs {S:Nat->Prop} {w:World} {cs:List Value} {k n:Int} {s:Bs} {names:List Bs} {kids:List Ty}:
  Xl S w cs (.mk k s n names kids)↔∃ nv kv,cs=[.int .i64 k,sv s,.int .i64 n,nv,kv]/\s.length<=1000000/\Sl Zh S w nv names/\Sl Jl S w kv kids:=by
 constructor
 ·intro h
  cases h with
  | mk _ _ _ _ _ nv p cap b off cs G D hl hp hc hr=>
   exact ⟨nv,_,rfl,G,D,p,cap,rfl,hl,λA=>⟨b,off,(hp A).1,(hp A).2.1,(hp A).2.2,λi x hx=>⟨cs i,hc i x hx,hr i x hx⟩⟩⟩
 rintro ⟨nv,kv,rfl,G,D,hk⟩
 exact D9 G D hk
inductive Yx (S:Nat->Prop) (w:World):List Value->Ex->Prop
 | mk (k:Int) (nm:Bs) (n:Int) (s:Bs) (names binds:List Bs) (kids:List Ex) (a z:Int) (nv bv:Value) (p:Option Addr) (cap b off:Nat) (cs:Nat->List Value) (hm:nm.length<=1000000) (hs:s.length<=1000000) (hn:Sl Zh S w nv names) (hb:Sl Zh S w bv binds) (hl:kids.length<=1000000) (hroom:kids.length<=cap)
   (hp:kids≠[]->p=some ⟨b,off,none⟩/\S b/\b<w) (hc:∀ i x,kids[i]?=some x->∀ j u,(cs i)[j]?=some u->w.cell? ⟨b,off+i*9+j,none⟩=some u)
   (hr:∀ i x,kids[i]?=some x->Yx S w (cs i) x):Yx S w [k,sv nm,n,sv s,nv,bv,.slice p kids.length cap,a,z] (.mk k nm n s names binds kids a z)
theorem Yx.length {S:Nat->Prop} {w:World} {cs:List Value} {x:Ex} (h:Yx S w cs x):cs.length=9:=by cases h;rfl
theorem Yx.move {S S':Nat->Prop} {w w':World} {cs:List Value} {x:Ex} (h:Yx S w cs x) (hA:Jy S w w') (hS:∀ b,b<w.heap.size->S b->S' b):Yx S' w' cs x:=by
 induction h with
 | mk k nm n s names binds kids a z nv bv p cap b off cs hm hs hn hb hl hroom hp hc hr ih=>
  refine .mk k nm n s names binds kids a z nv bv p cap b off cs hm hs ((hn.mono (S':=λb=>S b/\S' b) (λb hb h=>⟨h,hS b hb h⟩)).frame (λb hb=>hA b hb.1) |>.mono (λb _ h=>h.2)) ((hb.mono (S':=λb=>S b/\S' b) (λb A h=>⟨h,hS b A h⟩)).frame (λb A=>hA b A.1) |>.mono (λb _ h=>h.2)) hl hroom ?_ ?_ ih
  ·intro D
   obtain ⟨e,h1,G⟩:=hp D
   refine ⟨e,hS b G h1,?_⟩
   have:=hA b h1 G
   rw [Array.getElem?_eq_getElem G] at this
   exact (Array.getElem?_eq_some_iff.1 this).1
  intro i x I j u hu
  have D:kids≠[]:=by intro e;rw [e] at I;simp at I
  exact hA.cell (a:=⟨b,_,none⟩) (hp D).2.1 (hc i x I j u hu)
def Vz:Rd Ex where
 k:=9
 R:=Yx
 len h:=h.length
 frame h hA:=h.move hA Ij
 mono h hS:=h.move (.refl _ _) hS
def Room (v:Value) (n:Nat):Prop:=∃ p cap,v=.slice p n cap/\n<=cap
theorem Xv {S:Nat->Prop} {w:World} {k:Int} {nm:Bs} {n:Int} {s:Bs} {names binds:List Bs} {kids:List Ex} {a z:Int} {nv bv kv:Value} (hm:nm.length<=1000000) (hs:s.length<=1000000) (hn:Sl Zh S w nv names) (hb:Sl Zh S w bv binds) (hk:Sl Vz S w kv kids) (hr:Room kv kids.length:=by first | exact ⟨_,_,rfl,Ib⟩ | exact ⟨_,_,rfl,Ih⟩):
  Yx S w [k,sv nm,n,sv s,nv,bv,kv,a,z] (.mk k nm n s names binds kids a z):=by
 obtain ⟨p,cap,rfl,hl,h⟩:=hk
 have G:kids.length<=cap:=by
  obtain ⟨_,_,e,hr⟩:=hr
  cases e;exact hr
 by_cases hne:kids=[]
 ·subst hne
  exact .mk k nm n s names binds [] a z nv bv p cap 0 0 (λ_=>[]) hm hs hn hb hl G (λh=>absurd rfl h) (λi x A=>by simp at A) (λi x A=>by simp at A)
 obtain ⟨b,I,e,hS,J,hc⟩:=h hne
 obtain ⟨cs,D⟩:∃ cs:Nat->List Value,∀ i x,kids[i]?=some x->(∀ j u,(cs i)[j]?=some u->w.cell? ⟨b,I+i*9+j,none⟩=some u)/\Yx S w (cs i) x:=by
  refine ⟨λi=>if h:i<kids.length then Classical.choose (hc i kids[i] (Qx h)) else [],λi x A=>?_⟩
  obtain ⟨hi,rfl⟩:=Qj A
  simp only [dif_pos hi]
  exact Classical.choose_spec (hc i kids[i] (Qx hi))
 exact .mk k nm n s names binds kids a z nv bv p cap b I cs hm hs hn hb hl G (λ_=>⟨e,hS,J⟩) (λi x A=>(D i x A).1) (λi x A=>(D i x A).2)
theorem Yy {S:Nat->Prop} {w:World} {cs:List Value} {k:Int} {nm:Bs} {n:Int} {s:Bs} {names binds:List Bs} {kids:List Ex} {a z:Int}:
  (Yx S w cs (.mk k nm n s names binds kids a z)->∃ nv bv kv,cs=[.int .i64 k,sv nm,.int .i64 n,sv s,nv,bv,kv,.int .i64 a,.int .i64 z]/\nm.length<=1000000/\s.length<=1000000/\Sl Zh S w nv names/\Sl Zh S w bv binds/\Sl Vz S w kv kids)/\True:=by
 constructor
 ·intro h
  cases h with
  | mk _ _ _ _ _ _ _ _ _ nv bv p cap b off cs hm hs hn hb hl hroom hp hc hr=>
   exact ⟨nv,bv,_,rfl,hm,hs,hn,hb,p,cap,rfl,hl,λA=>⟨b,off,(hp A).1,(hp A).2.1,(hp A).2.2,λi x hx=>⟨cs i,hc i x hx,hr i x hx⟩⟩⟩
 trivial
theorem Yx.room {S:Nat->Prop} {w:World} {cs:List Value} {k:Int} {nm:Bs} {n:Int} {s:Bs} {names binds:List Bs} {kids:List Ex} {a z:Int} (h:Yx S w cs (.mk k nm n s names binds kids a z)):∃ p cap,cs[6]?=some (.slice p kids.length cap)/\kids.length<=cap:=by
 cases h with
 | mk _ _ _ _ _ _ _ _ _ nv bv p cap b off cs hm hs hn hb hl hroom hp hc hr=>exact ⟨p,cap,rfl,hroom⟩
def eqv (a b:Val):Bool:=decide (key a=key b)
theorem F5 {a b:Val}:eqv a b=true↔key a=key b:=by unfold eqv;exact decide_eq_true_iff
theorem eqv_cmp (a b:Val):decide (Zu a b=0)=eqv a b:=by unfold eqv;rw [decide_eq_decide];exact Fy
structure Rel where
 table:Bs
 rows:List Val
def Yr (l:List Rel) (t:Bs):Option Nat:=l.findIdx? (λr=>decide (r.table=t))
def Yg (l:List Rel) (t:Bs):List Val:=match Yr l t with
 | some i=>(l.getD i ⟨[],[]⟩).rows
 | none=>[]
def Hk (l:List Val) (x:Val):Bool:=l.any (λy=>eqv y x)
def Xq (l:List Val) (x:Val):Nat:=(l.takeWhile (λy=>decide (Zu y x<=0))).length
def Uk (l:List Val) (x:Val):List Val:=if Hk l x then l else l.take (Xq l x)++x::l.drop (Xq l x)
def Xn (l:List Rel) (t:Bs) (x:Val):List Rel:=match Yr l t with
 | some i=>l.set i ⟨(l.getD i ⟨[],[]⟩).table,Uk (l.getD i ⟨[],[]⟩).rows x⟩
 | none=>l
def Kk (l:List Val) (x:Val):List Val:=l.filter (λy=>!eqv y x)
def Vy (l:List Rel) (t:Bs) (x:Val):List Rel:=match Yr l t with
 | some i=>l.set i ⟨(l.getD i ⟨[],[]⟩).table,Kk (l.getD i ⟨[],[]⟩).rows x⟩
 | none=>l
def Vh (l:List Bs) (x:Bs):Option Nat:=l.findIdx? (λy=>decide (y=x))
def Yp (v:Val) (name:Bs):Option Val:=if v.kind=4 then (match Vh v.names name with
 | some i=>v.kids[i]?
 | none=>none) else none
def keyOf:List Bs->Val->Option (List Val)
 | [],_=>some []
 | k::ks,row=>match Yp row k,keyOf ks row with
  | some v,some l=>some (v::l)
  | _,_=>none
def Fq (a b:List Val):Bool:=decide (a.map key=b.map key)
theorem Rl (a b:Val) (s t:List Val):Fq (a::s) (b::t)=(eqv a b&&Fq s t):=by
 unfold Fq eqv
 rw [<- Bool.decide_and,decide_eq_decide]
 simp
theorem C8 (l:List Val) (x:Val) (h:Hk l x=false):Uk l x=l.take (Xq l x)++x::l.drop (Xq l x):=by unfold Uk;rw [if_neg (by simp [h])]
structure Ct where
 name:Bs
 has:Bool
 arg:Ty
structure Sm where
 name:Bs
 ctors:List Ct
structure Col where
 name:Bs
 type:Ty
structure Rf where
 column:Bs
 table:Bs
structure Tbl where
 name:Bs
 columns:List Col
 key:List Bs
 refs:List Rf
 check:Ex
structure Sc where
 sums:List Sm
 tables:List Tbl
namespace Gen
def ty (k:Int):Ty:=.mk k [] 0 [] []
def whole:Ty:=ty 0
def text:Ty:=ty 1
def yesno:Ty:=ty 2
def hueT:Ty:=.mk 3 [72,117,101] 0 [] []
def hue:Sm:=⟨[72,117,101],[⟨[82,101,100],false,ty 0⟩,⟨[68,97,114,107],true,whole⟩]⟩
def var (x:Bs):Ex:=.mk 3 x 0 [] [] [] [] 0 0
def int (n:Int):Ex:=.mk 0 [] n [] [] [] [] 0 0
def bool (n:Int):Ex:=.mk 2 [] n [] [] [] [] 0 0
def str (s:Bs):Ex:=.mk 1 [] 0 s [] [] [] 0 0
def op (o:Bs) (l:List Ex):Ex:=.mk 14 o 0 [] [] [] l 0 0
def a:Ex:=var [97]
def b:Ex:=var [98]
def c:Ex:=var [99]
def d:Ex:=var [100]
def e:Ex:=var [101]
def one:Ex:=int 1
def yes:Ex:=bool 1
def rec:Ex:=.mk 6 [] 0 [] [[121],[120]] [] [a,b] 0 0
def wth:Ex:=.mk 7 [] 0 [] [[120]] [] [rec,one] 0 0
def check:Nat->Ex
 | 0=>yes
 | 1=>yes
 | 2=>yes
 | 3=>op [60,61] [a,op [43] [b,op [42] [one,one]]]
 | 4=>op [111,114] [d,op [33,61] [c,str [97,98]]]
 | 5=>.mk 12 [] 0 [] [] [] [d,op [60] [a,b],op [61,61] [c,c]] 0 0
 | 6=>.mk 13 [] 0 [] [[82,101,100],[68,97,114,107]] [[],[110]] [e,yes,op [60] [var [110],b]] 0 0
 | 7=>op [60] [.mk 8 [120] 0 [] [] [] [wth] 0 0,.mk 8 [121] 0 [] [] [] [rec] 0 0]
 | 8=>.mk 11 [97] 0 [] [] [] [op [45] [a,b],op [97,110,100] [op [60] [a,one],op [110,111,116] [d]]] 0 0
 | 9=>op [61,61] [op [43,43] [c,c],str []]
 | 10=>op [97,110,100] [d,op [43] [a,c]]
 | 11=>op [33,61] [.mk 9 [] 0 [] [] [] [a,b] 0 0,.mk 9 [] 0 [] [] [] [one,a] 0 0]
 | _=>.mk 4 [97,110,121] 0 [] [] [] [.mk 9 [] 0 [] [] [] [] 0 0] 0 0
def schema (k:Nat) (two ref third:Bool):Sc:=
 ⟨[hue],[⟨[116],[⟨[97],whole⟩,⟨[98],whole⟩,⟨[99],text⟩,⟨[100],yesno⟩,⟨[101],hueT⟩],if two then [[98],[97]] else [[97]],if ref then [⟨[98],[117]⟩] else [],check k⟩,
  ⟨[117],[⟨[107],whole⟩,⟨[110],text⟩],[[107]],[],yes⟩]++if third then [⟨[118],[⟨[120],whole⟩,⟨[121],whole⟩],[[120]],[⟨[121],[118]⟩,⟨[120],[117]⟩],yes⟩] else []⟩
end Gen
end Go.Proofs.YtdpibdpbgokmoaaGreatDoor
