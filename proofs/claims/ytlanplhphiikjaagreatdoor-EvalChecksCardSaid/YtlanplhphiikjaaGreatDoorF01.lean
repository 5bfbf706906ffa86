import Derived.Test.YtlanplhphiikjaaGreatDoorF00
import Derived.Test.YtlanplhphiikjaaGreatDoorProg
set_option maxRecDepth 100000
set_option maxHeartbeats 400000000
namespace Go.Proofs.YtlanplhphiikjaaGreatDoor
abbrev Bs:=List UInt8
def Mq (c:UInt8):Bool:=c==9||c==10||c==13||c==32
def Et (c:UInt8):Bool:=48<=c&&c<=57
def Gv (c:UInt8):Bool:=97<=c&&c<=122
def Lq (c:UInt8):Bool:=65<=c&&c<=90
def Gj (c:UInt8):Bool:=Gv c||Et c||c==95
def Ek (c:UInt8):Bool:=Gv c||Lq c||Et c
def isLn (c:UInt8):Bool:=c != 10
def tk (p:UInt8->Bool):Bs->Nat
 | []=>0
 | c::t=>if p c then tk p t+1 else 0
def syms:List Bs:=[[61,61],[33,61],[60,61],[60,45],[45,62],[43,43],[60],[62],[61],[43],[45],[42],[40],[41],[123],[125],[91],[93],[44],[46],[58],[124],[59],[63]]
def sym (l:Bs):Nat:=match syms.find? (fun x=>x.isPrefixOf l) with
 | some x=>x.length
 | none=>0
def notQ (c:UInt8):Bool:=c != 34&&c != 10
def quo (t:Bs):Nat:=if t[tk notQ t]?=some 34 then tk notQ t+2 else 0
def kws:List Bs:=[[97,110,100],[97,115],[99,104,101,99,107],[100,101,108,101,116,101],[101,108,115,101],[102,97,108,115,101],[102,117,110],[105,102],[105,110],[105,110,115,101,114,116],[107,101,121],[108,101,116],[109,97,116,99,104],[110,111,116],[111,114],[112,114,111,99],[114,101,102],[115,101,116],[116,97,98,108,101],[116,104,101,110],[116,111],[116,114,117,101],[116,121,112,101],[117,112,100,97,116,101],[119,104,101,114,101],[119,105,116,104]]
def Oq (l:Bs):Bool:=kws.contains l
def good:Bs->Nat × Nat
 | []=>(6,0)
 | c::t=>
  if Mq c then (0,tk Mq (c::t))
  else if c==35 then (1,tk isLn (c::t))
  else if Gv c then (if Oq ((c::t).take (tk Gj (c::t))) then 7 else 2,tk Gj (c::t))
  else if Lq c then (3,tk Ek (c::t))
  else if Et c then (4,tk Et (c::t))
  else if c==34 then (5,quo t)
  else (6,sym (c::t))
def badLen:Bs->Nat
 | []=>0
 | c::t=>if c==34||decide (0<(good (c::t)).2) then 0 else badLen t+1
def nxt:Bs->Nat × Nat
 | []=>(0,0)
 | c::t=>
  if 0<(good (c::t)).2 then good (c::t)
  else if c==34 then (8,tk isLn (c::t))
  else (8,badLen t+1)
theorem tk_le (p:UInt8->Bool):∀ l,tk p l<=l.length
 | []=>Q4 _
 | c::t=>by
  have:=tk_le p t
  unfold tk;split <;> simp <;> omega
theorem tk_pos {p:UInt8->Bool} {c:UInt8} {t:Bs} (h:p c=true):tk p (c::t)=tk p t+1:=by simp [tk,h]
theorem Ms {p:UInt8->Bool}:∀ {l:Bs} {c:UInt8},l[tk p l]?=some c->p c=false
 | [],c,h=>by simp at h
 | d::t,c,h=>by
  by_cases hd:p d
  ·rw [tk_pos hd] at h
   exact Ms (l:=t) (by simpa using h)
  simp [tk,hd] at h
  subst h;simpa using hd
theorem tk_run {p:UInt8->Bool}:∀ {l:Bs} {i:Nat} {c:UInt8},i<tk p l->l[i]?=some c->p c=true
 | [],i,c,h,_=>by simp [tk] at h
 | d::t,i,c,h,hc=>by
  by_cases hd:p d
  ·rw [tk_pos hd] at h
   cases i with
   | zero=>simp at hc;subst hc;exact hd
   | succ i=>exact tk_run (l:=t) (i:=i) Oa (by simpa using hc)
  simp [tk,hd] at h
inductive Val where
 | mk (kind n:Int) (s:Bs) (names:List Bs) (kids:List Val)
namespace Val
def kind:Val->Int | mk k _ _ _ _=>k
def n:Val->Int | mk _ n _ _ _=>n
def s:Val->Bs | mk _ _ s _ _=>s
def names:Val->List Bs | mk _ _ _ l _=>l
def kids:Val->List Val | mk _ _ _ _ l=>l
def zero:Val:=mk 0 0 [] [] []
end Val
def ord (a b:Int):Int:=if a<b then -1 else if b<a then 1 else 0
def thn (c d:Int):Int:=if c=0 then d else c
theorem Vb (d:Int):thn 0 d=d:=rfl
theorem U0 (a b c:Int):thn (thn a b) c=thn a (thn b c):=by
 unfold thn;by_cases h:a=0 <;> simp [h]
theorem Ka (a:Int):thn a 0=a:=by unfold thn;split <;> simp_all
theorem U3 (a:Int):ord a a=0:=by unfold ord;split <;> omega
theorem Fa {a b:Int} (h:a≠b):ord a b≠0:=by unfold ord;split <;> (try split) <;> omega
def Y7:Bs->Bs->Int
 | [],[]=>0
 | [],_::_=>-1
 | _::_,[]=>1
 | a::s,b::t=>thn (ord a.toNat b.toNat) (Y7 s t)
def U5:List Bs->List Bs->Int
 | [],[]=>0
 | [],_::_=>-1
 | _::_,[]=>1
 | a::s,b::t=>thn (Y7 a b) (U5 s t)
mutual
def Zt:Val->Val->Int
 | .mk k n s ns ks,.mk k' n' s' ns' ks'=>
  if k≠k' then ord k k'
  else if k=0\/k=2 then ord n n'
  else if k=1 then Y7 s s'
  else if k=3 then thn (Y7 s s') (Xz ks ks')
  else if k=4 then thn (U5 ns ns') (Xz ks ks')
  else if k=5 then Xz ks ks'
  else 0
def Xz:List Val->List Val->Int
 | [],[]=>0
 | [],_::_=>-1
 | _::_,[]=>1
 | a::s,b::t=>thn (Zt a b) (Xz s t)
end
def lex:List Int->List Int->Int
 | [],[]=>0
 | [],_::_=>-1
 | _::_,[]=>1
 | a::s,b::t=>thn (ord a b) (lex s t)
def E5 (s:Bs):List Int:=s.map (fun c=>(c.toNat:Int)+1)++[0]
def keyN:List Bs->List Int
 | []=>[0]
 | s::l=>1::(E5 s++keyN l)
mutual
def key:Val->List Int
 | .mk k n s ns ks=>k::(if k=0\/k=2 then [n] else if k=1 then E5 s else if k=3 then E5 s++keys ks else if k=4 then keyN ns++keys ks else if k=5 then keys ks else [])
def keys:List Val->List Int
 | []=>[0]
 | v::l=>1::(key v++keys l)
end
theorem ord_succ (a b:Int):ord (a+1) (b+1)=ord a b:=by unfold ord;repeat' split <;> omega
theorem Vd (s t:Bs) (x y:List Int):lex (E5 s++x) (E5 t++y)=thn (Y7 s t) (lex x y):=by
 induction s generalizing t with
 | nil=>
  cases t with
  | nil=>rfl
  | cons b t=>
   have h:ord 0 ((b.toNat:Int)+1)=-1:=by unfold ord;rw [if_pos Oa]
   simp [E5,lex,Y7,h,thn]
 | cons a s ih=>
  cases t with
  | nil=>
   have h:ord ((a.toNat:Int)+1) 0=1:=by unfold ord;rw [if_neg Oa,if_pos Oa]
   simp [E5,lex,Y7,h,thn]
  | cons b t=>
   have:=ih t
   simp only [E5,List.map_cons,List.cons_append,lex,Y7,U0,ord_succ] at this |-
   rw [this]
theorem lex_keyN (s t:List Bs) (x y:List Int):lex (keyN s++x) (keyN t++y)=thn (U5 s t) (lex x y):=by
 induction s generalizing t with
 | nil=>
  cases t with
  | nil=>rfl
  | cons b t=>rfl
 | cons a s ih=>
  cases t with
  | nil=>rfl
  | cons b t=>
   simp only [keyN,List.cons_append,List.append_assoc,lex,U5,U0,U3,Vb,Vd]
   rw [ih t]
mutual
theorem Me (a b:Val) (x y:List Int):lex (key a++x) (key b++y)=thn (Zt a b) (lex x y):=by
 match a,b with
 | .mk k n s ns ks,.mk k' n' s' ns' ks'=>
  by_cases hk:k=k'
  ·subst hk
   simp only [key,Zt,List.cons_append,lex,U3,Vb,ne_eq,not_true,if_false]
   split
   ·simp [lex,thn]
   split
   ·exact Vd _ _ _ _
   split
   ·rw [List.append_assoc,List.append_assoc,Vd,Kz ks ks',U0]
   split
   ·rw [List.append_assoc,List.append_assoc,lex_keyN,Kz ks ks',U0]
   split
   ·exact Kz ks ks' x y
   rfl
  simp only [key,Zt,List.cons_append,lex,ne_eq,hk,not_false_eq_true,if_true]
  unfold thn
  rw [if_neg (Fa hk),if_neg (Fa hk)]
theorem Kz (a b:List Val) (x y:List Int):lex (keys a++x) (keys b++y)=thn (Xz a b) (lex x y):=by
 match a,b with
 | [],[]=>rfl
 | [],_::_=>rfl
 | _::_,[]=>rfl
 | v::l,w::m=>
  simp only [keys,List.cons_append,List.append_assoc,lex,Xz,U0,U3,Vb]
  rw [Me v w,Kz l m]
end
theorem X9 (a b:Val):Zt a b=lex (key a) (key b):=by
 have:=Me a b [] []
 rw [List.append_nil,List.append_nil] at this
 rw [this];exact (Ka _).symm
theorem Hc (a:List Int):lex a a=0:=by
 induction a with
 | nil=>rfl
 | cons a s ih=>simp [lex,U3,thn,ih]
theorem Fx {a b:List Int} (h:lex a b=0):a=b:=by
 induction a generalizing b with
 | nil=>cases b with | nil=>rfl | cons b t=>simp [lex] at h
 | cons a s ih=>
  cases b with
  | nil=>simp [lex] at h
  | cons b t=>
   simp only [lex,thn] at h
   split at h
   ·rename_i he
    have D:a=b:=Decidable.byContradiction fun hn=>Fa hn he
    rw [D,ih h]
   contradiction
theorem ord_anti (a b:Int):ord a b=- ord b a:=by unfold ord;repeat' split <;> omega
theorem Uh (a b:List Int):lex a b=- lex b a:=by
 induction a generalizing b with
 | nil=>cases b <;> rfl
 | cons a s ih=>
  cases b with
  | nil=>rfl
  | cons b t=>
   simp only [lex,thn]
   rw [ord_anti a b,ih t]
   by_cases h:ord b a=0
   ·rw [if_pos Oa,if_pos h]
   rw [if_neg Oa,if_neg h]
theorem Lt {a b:Int}:ord a b<0↔a<b:=by unfold ord;split <;> (try split) <;> omega
theorem G7 {a b c:List Int} (h1:lex a b<0) (h2:lex b c<0):lex a c<0:=by
 induction a generalizing b c with
 | nil=>
  cases c with
  | nil=>cases b <;> simp [lex] at h1 h2
  | cons c u=>simp [lex]
 | cons a s ih=>
  cases b with
  | nil=>simp [lex] at h1
  | cons b t=>
   cases c with
   | nil=>simp [lex] at h2
   | cons c u=>
    simp only [lex,thn] at h1 h2 |-
    have e1:=Lt (a:=a) (b:=b)
    have e2:=Lt (a:=b) (b:=c)
    have e3:=Lt (a:=a) (b:=c)
    have z1:ord a b=0->a=b:=fun h=>Decidable.byContradiction fun D=>Fa D h
    have z2:ord b c=0->b=c:=fun h=>Decidable.byContradiction fun D=>Fa D h
    split at h1
    ·rename_i ha
     have:=z1 ha;subst this
     split at h2
     ·rename_i hb
      have:=z2 hb;subst this
      rw [if_pos (U3 _)]
      exact ih h1 h2
     rename_i hb
     rw [if_neg hb];exact h2
    rename_i ha
    have G:=e1.1 h1
    split at h2
    ·rename_i hb
     have:=z2 hb;subst this
     rw [if_neg ha];exact h1
    have:=e2.1 h2
    have h3:=e3.2 Oa
    rw [if_neg Oa];exact h3
theorem Gn {a b:Val}:Zt a b=0↔key a=key b:=by
 rw [X9]
 exact ⟨Fx,fun h=>by rw [h];exact Hc _⟩
open Go.RowKit
abbrev bl (s:ByteArray):Bs:=s.data.toList
def Ys (S:Nat->Prop) (w w':World):Prop:=∀ b,S b->b<w.heap.size->w'.heap[b]?=w.heap[b]?
theorem Ys.refl (S:Nat->Prop) (w:World):Ys S w w:=fun _ _ _=>rfl
theorem Ys.of_below {S:Nat->Prop} {w w':World} (h:Below w w w'):Ys S w w':=fun b _ hb=>h.block b hb
theorem Ys.cell {S:Nat->Prop} {w w':World} (h:Ys S w w') {a:Addr} {v:Value} (hS:S a.block) (hc:w.cell? a=some v):w'.cell? a=some v:=
 (World.cell?_of_block (h a.block hS (Qv w a hc))).trans hc
structure Rd (T:Type) where
 k:Nat
 R:(Nat->Prop)->World->List Value->T->Prop
 len:∀ {S w cs x},R S w cs x->cs.length=k
 frame:∀ {S w w' cs x},R S w cs x->Ys S w w'->R S w' cs x
 mono:∀ {S S':Nat->Prop} {w cs x},R S w cs x->(∀ b,b<w.heap.size->S b->S' b)->R S' w cs x
def Sl {T:Type} (r:Rd T) (S:Nat->Prop) (w:World) (v:Value) (xs:List T):Prop:=
 ∃ p cap,v=.slice p xs.length cap/\xs.length<=1000000/\(xs≠[]->∃ b off,p=some ⟨b,off,none⟩/\S b/\b<w.heap.size /\
  ∀ i x,xs[i]?=some x->∃ cs,(∀ j u,cs[j]?=some u->w.cell? ⟨b,off+i*r.k+j,none⟩=some u)/\r.R S w cs x)
theorem Sl.len {T:Type} {r:Rd T} {S:Nat->Prop} {w:World} {v:Value} {xs:List T} (h:Sl r S w v xs):∃ p cap,v=.slice p xs.length cap/\xs.length<=1000000:=by
 obtain ⟨p,cap,h1,h2,_⟩:=h;exact ⟨p,cap,h1,h2⟩
theorem Sl.nil {T:Type} (r:Rd T) (S:Nat->Prop) (w:World):Sl r S w (.slice none 0 0) []:=⟨none,0,rfl,Od,fun h=>absurd rfl h⟩
theorem Sl.frame {T:Type} {r:Rd T} {S:Nat->Prop} {w w':World} {v:Value} {xs:List T} (h:Sl r S w v xs) (hA:Ys S w w'):Sl r S w' v xs:=by
 obtain ⟨p,cap,h1,h2,h3⟩:=h
 refine ⟨p,cap,h1,h2,fun J=>?_⟩
 obtain ⟨b,L,e,D,hb,hc⟩:=h3 J
 have G:b<w'.heap.size:=by
  have:=hA b D hb
  rw [Array.getElem?_eq_getElem hb] at this
  exact (Array.getElem?_eq_some_iff.1 this).1
 refine ⟨b,L,e,D,G,fun i x hx=>?_⟩
 obtain ⟨cs,I,hr⟩:=hc i x hx
 exact ⟨cs,fun j u hu=>hA.cell (a:=⟨b,_,none⟩) D (I j u hu),r.frame hr hA⟩
theorem Sl.mono {T:Type} {r:Rd T} {S S':Nat->Prop} {w:World} {v:Value} {xs:List T} (h:Sl r S w v xs) (hS:∀ b,b<w.heap.size->S b->S' b):Sl r S' w v xs:=by
 obtain ⟨p,cap,h1,h2,h3⟩:=h
 refine ⟨p,cap,h1,h2,fun I=>?_⟩
 obtain ⟨b,J,e,hb,D,hc⟩:=h3 I
 refine ⟨b,J,e,hS b D hb,D,fun i x hx=>?_⟩
 obtain ⟨cs,G,hr⟩:=hc i x hx
 exact ⟨cs,G,r.mono hr hS⟩
theorem Sl.up {T:Type} {r:Rd T} {S:Nat->Prop} {w:World} {v:Value} {xs:List T} (h:Sl r S w v xs):Sl r (fun b=>S b/\b<w.heap.size) w v xs:=h.mono (fun _ hb h=>⟨h,hb⟩)
theorem Sl.below {T:Type} {r:Rd T} {S:Nat->Prop} {w w':World} {v:Value} {xs:List T} (h:Sl r S w v xs) (hb:Below w w w'):Sl r S w' v xs:=h.frame (.of_below hb)
theorem Sl.sub {T:Type} {r:Rd T} {S:Nat->Prop} {w:World} {b off n cap:Nat} {xs:List T} (h:Sl r S w (.slice (some ⟨b,off,none⟩) n cap) xs) (lo m cap':Nat) (hm:lo+m<=xs.length):
  Sl r S w (.slice (some ⟨b,off+lo*r.k,none⟩) m cap') ((xs.drop lo).take m):=by
 obtain ⟨p,c,G,h2,h3⟩:=h
 have hl:((xs.drop lo).take m).length=m:=by rw [Qf,Qr];omega
 refine ⟨_,cap',by rw [hl],by rw [hl];omega,fun J=>?_⟩
 have D:xs≠[]:=by intro e;subst e;simp at J
 obtain ⟨b',M,e,hS,hb,hc⟩:=h3 D
 simp only [Ql] at G
 rw [e] at G
 simp only [Qu,Addr.mk.injEq] at G
 obtain ⟨⟨rfl,rfl,_⟩,_⟩:=G
 refine ⟨_,_,rfl,hS,hb,fun i x L=>?_⟩
 have hi:i<m:=by have:=(Qj L).1;omega
 rw [List.getElem?_take_of_lt hi,List.getElem?_drop] at L
 obtain ⟨cs,I,hr⟩:=hc _ x L
 refine ⟨cs,fun j u hu=>?_,hr⟩
 have:=I j u hu
 rwa [Nat.add_mul,<- Nat.add_assoc] at this
def sv (l:Bs):Value:=.string ⟨l.toArray⟩
def Zi:Rd Bs where
 k:=1
 R _ _ cs x:=cs=[sv x]/\x.length<=1000000
 len h:=by rw [h.1];rfl
 frame h _:=h
 mono h _:=h
def J4:Rd Int where
 k:=1
 R _ _ cs x:=cs=[.int .i64 x]
 len h:=by rw [h];rfl
 frame h _:=h
 mono h _:=h
inductive Z5 (S:Nat->Prop) (w:World):List Value->Val->Prop
 | mk (k n:Int) (s:Bs) (names:List Bs) (kids:List Val) (nv:Value) (p:Option Addr) (cap b off:Nat) (cs:Nat->List Value) (hs:s.length<=1000000) (hn:Sl Zi S w nv names) (hl:kids.length<=1000000)
   (hp:kids≠[]->p=some ⟨b,off,none⟩/\S b/\b<w) (hc:∀ i x,kids[i]?=some x->∀ j u,(cs i)[j]?=some u->w.cell? ⟨b,off+i*5+j,none⟩=some u)
   (hr:∀ i x,kids[i]?=some x->Z5 S w (cs i) x):Z5 S w [k,n,sv s,nv,.slice p kids.length cap] (.mk k n s names kids)
theorem Z5.length {S:Nat->Prop} {w:World} {cs:List Value} {x:Val} (h:Z5 S w cs x):cs.length=5:=by cases h;rfl
theorem Z5.move {S S':Nat->Prop} {w w':World} {cs:List Value} {x:Val} (h:Z5 S w cs x) (hA:Ys S w w') (hS:∀ b,b<w.heap.size->S b->S' b):Z5 S' w' cs x:=by
 induction h with
 | mk k n s names kids nv p cap b off cs hs hn hl hp hc hr ih=>
  refine .mk k n s names kids nv p cap b off cs hs ((hn.mono (S':=fun b=>S b/\S' b) (fun b hb h=>⟨h,hS b hb h⟩)).frame (fun b hb=>hA b hb.1) |>.mono (fun b _ h=>h.2)) hl ?_ ?_ ih
  ·intro D
   obtain ⟨e,h1,G⟩:=hp D
   refine ⟨e,hS b G h1,?_⟩
   have:=hA b h1 G
   rw [Array.getElem?_eq_getElem G] at this
   exact (Array.getElem?_eq_some_iff.1 this).1
  intro i x I j u hu
  have D:kids≠[]:=by intro e;rw [e] at I;simp at I
  exact hA.cell (a:=⟨b,_,none⟩) (hp D).2.1 (hc i x I j u hu)
def Zc:Rd Val where
 k:=5
 R:=Z5
 len h:=h.length
 frame h hA:=h.move hA P8
 mono h hS:=h.move (.refl _ _) hS
theorem Zu {S:Nat->Prop} {w:World} {k n:Int} {s:Bs} {names:List Bs} {kids:List Val} {nv kv:Value} (hs:s.length<=1000000) (hn:Sl Zi S w nv names) (hk:Sl Zc S w kv kids):
  Z5 S w [k,n,sv s,nv,kv] (.mk k n s names kids):=by
 obtain ⟨p,cap,rfl,hl,h⟩:=hk
 by_cases hne:kids=[]
 ·subst hne
  exact .mk k n s names [] nv p cap 0 0 (fun _=>[]) hs hn hl (fun h=>absurd rfl h) (fun i x D=>by simp at D) (fun i x D=>by simp at D)
 obtain ⟨b,I,e,hS,hb,hc⟩:=h hne
 obtain ⟨cs,G⟩:∃ cs:Nat->List Value,∀ i x,kids[i]?=some x->(∀ j u,(cs i)[j]?=some u->w.cell? ⟨b,I+i*5+j,none⟩=some u)/\Z5 S w (cs i) x:=by
  refine ⟨fun i=>if h:i<kids.length then Classical.choose (hc i kids[i] (Qx h)) else [],fun i x D=>?_⟩
  obtain ⟨hi,rfl⟩:=Qj D
  simp only [dif_pos hi]
  exact Classical.choose_spec (hc i kids[i] (Qx hi))
 exact .mk k n s names kids nv p cap b I cs hs hn hl (fun _=>⟨e,hS,hb⟩) (fun i x D=>(G i x D).1) (fun i x D=>(G i x D).2)
theorem Xs {S:Nat->Prop} {w:World} {cs:List Value} {k n:Int} {s:Bs} {names:List Bs} {kids:List Val}:
  Z5 S w cs (.mk k n s names kids)↔∃ nv kv,cs=[.int .i64 k,.int .i64 n,sv s,nv,kv]/\s.length<=1000000/\Sl Zi S w nv names/\Sl Zc S w kv kids:=by
 constructor
 ·intro h
  cases h with
  | mk _ _ _ _ _ nv p cap b off cs I G hl hp hc hr=>
   exact ⟨nv,_,rfl,I,G,p,cap,rfl,hl,fun D=>⟨b,off,(hp D).1,(hp D).2.1,(hp D).2.2,fun i x hx=>⟨cs i,hc i x hx,hr i x hx⟩⟩⟩
 rintro ⟨nv,kv,rfl,I,G,hk⟩
 exact Zu I G hk
inductive Ty where
 | mk (kind:Int) (name:Bs) (n:Int) (names:List Bs) (kids:List Ty)
inductive Ex where
 | mk (kind:Int) (name:Bs) (n:Int) (s:Bs) (names binds:List Bs) (kids:List Ex) (a z:Int)
inductive Y6 (S:Nat->Prop) (w:World):List Value->Ty->Prop
 | mk (k n:Int) (s:Bs) (names:List Bs) (kids:List Ty) (nv:Value) (p:Option Addr) (cap b off:Nat) (cs:Nat->List Value) (hs:s.length<=1000000) (hn:Sl Zi S w nv names) (hl:kids.length<=1000000)
   (hp:kids≠[]->p=some ⟨b,off,none⟩/\S b/\b<w) (hc:∀ i x,kids[i]?=some x->∀ j u,(cs i)[j]?=some u->w.cell? ⟨b,off+i*5+j,none⟩=some u)
   (hr:∀ i x,kids[i]?=some x->Y6 S w (cs i) x):Y6 S w [k,sv s,n,nv,.slice p kids.length cap] (.mk k s n names kids)
theorem Y6.length {S:Nat->Prop} {w:World} {cs:List Value} {x:Ty} (h:Y6 S w cs x):cs.length=5:=by cases h;rfl
theorem Y6.move {S S':Nat->Prop} {w w':World} {cs:List Value} {x:Ty} (h:Y6 S w cs x) (hA:Ys S w w') (hS:∀ b,b<w.heap.size->S b->S' b):Y6 S' w' cs x:=by
 induction h with
 | mk k n s names kids nv p cap b off cs hs hn hl hp hc hr ih=>
  refine .mk k n s names kids nv p cap b off cs hs ((hn.mono (S':=fun b=>S b/\S' b) (fun b hb h=>⟨h,hS b hb h⟩)).frame (fun b hb=>hA b hb.1) |>.mono (fun b _ h=>h.2)) hl ?_ ?_ ih
  ·intro D
   obtain ⟨e,h1,G⟩:=hp D
   refine ⟨e,hS b G h1,?_⟩
   have:=hA b h1 G
   rw [Array.getElem?_eq_getElem G] at this
   exact (Array.getElem?_eq_some_iff.1 this).1
  intro i x I j u hu
  have D:kids≠[]:=by intro e;rw [e] at I;simp at I
  exact hA.cell (a:=⟨b,_,none⟩) (hp D).2.1 (hc i x I j u hu)
def Vf:Rd Ty where
 k:=5
 R:=Y6
 len h:=h.length
 frame h hA:=h.move hA P8
 mono h hS:=h.move (.refl _ _) hS
theorem Ub {S:Nat->Prop} {w:World} {k n:Int} {s:Bs} {names:List Bs} {kids:List Ty} {nv kv:Value} (hs:s.length<=1000000) (hn:Sl Zi S w nv names) (hk:Sl Vf S w kv kids):
  Y6 S w [k,sv s,n,nv,kv] (.mk k s n names kids):=by
 obtain ⟨p,cap,rfl,hl,h⟩:=hk
 by_cases hne:kids=[]
 ·subst hne
  exact .mk k n s names [] nv p cap 0 0 (fun _=>[]) hs hn hl (fun h=>absurd rfl h) (fun i x D=>by simp at D) (fun i x D=>by simp at D)
 obtain ⟨b,I,e,hS,hb,hc⟩:=h hne
 obtain ⟨cs,G⟩:∃ cs:Nat->List Value,∀ i x,kids[i]?=some x->(∀ j u,(cs i)[j]?=some u->w.cell? ⟨b,I+i*5+j,none⟩=some u)/\Y6 S w (cs i) x:=by
  refine ⟨fun i=>if h:i<kids.length then Classical.choose (hc i kids[i] (Qx h)) else [],fun i x D=>?_⟩
  obtain ⟨hi,rfl⟩:=Qj D
  simp only [dif_pos hi]
  exact Classical.choose_spec (hc i kids[i] (Qx hi))
 exact .mk k n s names kids nv p cap b I cs hs hn hl (fun _=>⟨e,hS,hb⟩) (fun i x D=>(G i x D).1) (fun i x D=>(G i x D).2)
theorem E9 {S:Nat->Prop} {w:World} {cs:List Value} {k n:Int} {s:Bs} {names:List Bs} {kids:List Ty}:
  Y6 S w cs (.mk k s n names kids)↔∃ nv kv,cs=[.int .i64 k,sv s,.int .i64 n,nv,kv]/\s.length<=1000000/\Sl Zi S w nv names/\Sl Vf S w kv kids:=by
 constructor
 ·intro h
  cases h with
  | mk _ _ _ _ _ nv p cap b off cs I G hl hp hc hr=>
   exact ⟨nv,_,rfl,I,G,p,cap,rfl,hl,fun D=>⟨b,off,(hp D).1,(hp D).2.1,(hp D).2.2,fun i x hx=>⟨cs i,hc i x hx,hr i x hx⟩⟩⟩
 rintro ⟨nv,kv,rfl,I,G,hk⟩
 exact Ub I G hk
inductive Yj (S:Nat->Prop) (w:World):List Value->Ex->Prop
 | mk (k:Int) (nm:Bs) (n:Int) (s:Bs) (names binds:List Bs) (kids:List Ex) (a z:Int) (nv bv:Value) (p:Option Addr) (cap b off:Nat) (cs:Nat->List Value) (hm:nm.length<=1000000) (hs:s.length<=1000000) (hn:Sl Zi S w nv names) (hb:Sl Zi S w bv binds) (hl:kids.length<=1000000) (hroom:kids.length<=cap)
   (hp:kids≠[]->p=some ⟨b,off,none⟩/\S b/\b<w) (hc:∀ i x,kids[i]?=some x->∀ j u,(cs i)[j]?=some u->w.cell? ⟨b,off+i*9+j,none⟩=some u)
   (hr:∀ i x,kids[i]?=some x->Yj S w (cs i) x):Yj S w [k,sv nm,n,sv s,nv,bv,.slice p kids.length cap,a,z] (.mk k nm n s names binds kids a z)
theorem Yj.length {S:Nat->Prop} {w:World} {cs:List Value} {x:Ex} (h:Yj S w cs x):cs.length=9:=by cases h;rfl
theorem Yj.move {S S':Nat->Prop} {w w':World} {cs:List Value} {x:Ex} (h:Yj S w cs x) (hA:Ys S w w') (hS:∀ b,b<w.heap.size->S b->S' b):Yj S' w' cs x:=by
 induction h with
 | mk k nm n s names binds kids a z nv bv p cap b off cs hm hs hn hb hl hroom hp hc hr ih=>
  refine .mk k nm n s names binds kids a z nv bv p cap b off cs hm hs ((hn.mono (S':=fun b=>S b/\S' b) (fun b hb h=>⟨h,hS b hb h⟩)).frame (fun b hb=>hA b hb.1) |>.mono (fun b _ h=>h.2)) ((hb.mono (S':=fun b=>S b/\S' b) (fun b D h=>⟨h,hS b D h⟩)).frame (fun b D=>hA b D.1) |>.mono (fun b _ h=>h.2)) hl hroom ?_ ?_ ih
  ·intro G
   obtain ⟨e,h1,I⟩:=hp G
   refine ⟨e,hS b I h1,?_⟩
   have:=hA b h1 I
   rw [Array.getElem?_eq_getElem I] at this
   exact (Array.getElem?_eq_some_iff.1 this).1
  intro i x J j u hu
  have G:kids≠[]:=by intro e;rw [e] at J;simp at J
  exact hA.cell (a:=⟨b,_,none⟩) (hp G).2.1 (hc i x J j u hu)
def Vv:Rd Ex where
 k:=9
 R:=Yj
 len h:=h.length
 frame h hA:=h.move hA P8
 mono h hS:=h.move (.refl _ _) hS
def Room (v:Value) (n:Nat):Prop:=∃ p cap,v=.slice p n cap/\n<=cap
theorem Xd {S:Nat->Prop} {w:World} {k:Int} {nm:Bs} {n:Int} {s:Bs} {names binds:List Bs} {kids:List Ex} {a z:Int} {nv bv kv:Value} (hm:nm.length<=1000000) (hs:s.length<=1000000) (hn:Sl Zi S w nv names) (hb:Sl Zi S w bv binds) (hk:Sl Vv S w kv kids) (hr:Room kv kids.length:=by first | exact ⟨_,_,rfl,Od⟩ | exact ⟨_,_,rfl,Of⟩):
  Yj S w [k,sv nm,n,sv s,nv,bv,kv,a,z] (.mk k nm n s names binds kids a z):=by
 obtain ⟨p,cap,rfl,hl,h⟩:=hk
 have I:kids.length<=cap:=by
  obtain ⟨_,_,e,hr⟩:=hr
  cases e;exact hr
 by_cases hne:kids=[]
 ·subst hne
  exact .mk k nm n s names binds [] a z nv bv p cap 0 0 (fun _=>[]) hm hs hn hb hl I (fun h=>absurd rfl h) (fun i x D=>by simp at D) (fun i x D=>by simp at D)
 obtain ⟨b,J,e,hS,L,hc⟩:=h hne
 obtain ⟨cs,G⟩:∃ cs:Nat->List Value,∀ i x,kids[i]?=some x->(∀ j u,(cs i)[j]?=some u->w.cell? ⟨b,J+i*9+j,none⟩=some u)/\Yj S w (cs i) x:=by
  refine ⟨fun i=>if h:i<kids.length then Classical.choose (hc i kids[i] (Qx h)) else [],fun i x D=>?_⟩
  obtain ⟨hi,rfl⟩:=Qj D
  simp only [dif_pos hi]
  exact Classical.choose_spec (hc i kids[i] (Qx hi))
 exact .mk k nm n s names binds kids a z nv bv p cap b J cs hm hs hn hb hl I (fun _=>⟨e,hS,L⟩) (fun i x D=>(G i x D).1) (fun i x D=>(G i x D).2)
theorem Yz {S:Nat->Prop} {w:World} {cs:List Value} {k:Int} {nm:Bs} {n:Int} {s:Bs} {names binds:List Bs} {kids:List Ex} {a z:Int}:
  (Yj S w cs (.mk k nm n s names binds kids a z)->∃ nv bv kv,cs=[.int .i64 k,sv nm,.int .i64 n,sv s,nv,bv,kv,.int .i64 a,.int .i64 z]/\nm.length<=1000000/\s.length<=1000000/\Sl Zi S w nv names/\Sl Zi S w bv binds/\Sl Vv S w kv kids)/\True:=by
 constructor
 ·intro h
  cases h with
  | mk _ _ _ _ _ _ _ _ _ nv bv p cap b off cs hm hs hn hb hl hroom hp hc hr=>
   exact ⟨nv,bv,_,rfl,hm,hs,hn,hb,p,cap,rfl,hl,fun D=>⟨b,off,(hp D).1,(hp D).2.1,(hp D).2.2,fun i x hx=>⟨cs i,hc i x hx,hr i x hx⟩⟩⟩
 trivial
def eqv (a b:Val):Bool:=decide (key a=key b)
theorem eqv_cmp (a b:Val):decide (Zt a b=0)=eqv a b:=by unfold eqv;rw [decide_eq_decide];exact Gn
structure Rel where
 table:Bs
 rows:List Val
def Uk (l:List Bs) (x:Bs):Option Nat:=l.findIdx? (fun y=>decide (y=x))
def Yn (v:Val) (name:Bs):Option Val:=if v.kind=4 then (match Uk v.names name with
 | some i=>v.kids[i]?
 | none=>none) else none
def keyOf:List Bs->Val->Option (List Val)
 | [],_=>some []
 | k::ks,row=>match Yn row k,keyOf ks row with
  | some v,some l=>some (v::l)
  | _,_=>none
structure Ct where
 name:Bs
 has:Bool
 arg:Ty
structure Sm where
 name:Bs
 ctors:List Ct
structure Col where
 name:Bs
 type:Ty
structure Rf where
 column:Bs
 table:Bs
structure Tbl where
 name:Bs
 columns:List Col
 key:List Bs
 refs:List Rf
 check:Ex
structure Sc where
 sums:List Sm
 tables:List Tbl
namespace Gen
def ty (k:Int):Ty:=.mk k [] 0 [] []
def whole:Ty:=ty 0
def text:Ty:=ty 1
def yesno:Ty:=ty 2
def hue:Sm:=⟨[72,117,101],[⟨[82,101,100],false,ty 0⟩,⟨[68,97,114,107],true,whole⟩]⟩
def var (x:Bs):Ex:=.mk 3 x 0 [] [] [] [] 0 0
def int (n:Int):Ex:=.mk 0 [] n [] [] [] [] 0 0
def bool (n:Int):Ex:=.mk 2 [] n [] [] [] [] 0 0
def str (s:Bs):Ex:=.mk 1 [] 0 s [] [] [] 0 0
def op (o:Bs) (l:List Ex):Ex:=.mk 14 o 0 [] [] [] l 0 0
def a:Ex:=var [97]
def b:Ex:=var [98]
def c:Ex:=var [99]
def d:Ex:=var [100]
def e:Ex:=var [101]
def one:Ex:=int 1
def yes:Ex:=bool 1
def rec:Ex:=.mk 6 [] 0 [] [[121],[120]] [] [a,b] 0 0
def wth:Ex:=.mk 7 [] 0 [] [[120]] [] [rec,one] 0 0
def check:Nat->Ex
 | 0=>yes
 | 1=>yes
 | 2=>yes
 | 3=>op [60,61] [a,op [43] [b,op [42] [one,one]]]
 | 4=>op [111,114] [d,op [33,61] [c,str [97,98]]]
 | 5=>.mk 12 [] 0 [] [] [] [d,op [60] [a,b],op [61,61] [c,c]] 0 0
 | 6=>.mk 13 [] 0 [] [[82,101,100],[68,97,114,107]] [[],[110]] [e,yes,op [60] [var [110],b]] 0 0
 | 7=>op [60] [.mk 8 [120] 0 [] [] [] [wth] 0 0,.mk 8 [121] 0 [] [] [] [rec] 0 0]
 | 8=>.mk 11 [97] 0 [] [] [] [op [45] [a,b],op [97,110,100] [op [60] [a,one],op [110,111,116] [d]]] 0 0
 | 9=>op [61,61] [op [43,43] [c,c],str []]
 | 10=>op [97,110,100] [d,op [43] [a,c]]
 | 11=>op [33,61] [.mk 9 [] 0 [] [] [] [a,b] 0 0,.mk 9 [] 0 [] [] [] [one,a] 0 0]
 | _=>.mk 4 [97,110,121] 0 [] [] [] [.mk 9 [] 0 [] [] [] [] 0 0] 0 0
end Gen
theorem Dp (x:Int) (w:World):Calls Tryz.prog 205 #[x] w fun e w'=>e=.returned (.bool false)/\w=w':=by
 go_enter Tryz.func205,Tryz.ntmps205
 go_wp2
 go_ret
 exact ⟨Od,rfl⟩
theorem Dg (x y:Int) (w:World):Calls Tryz.prog 144 #[x,y] w fun e w'=>e=.returned (.int .i64 (ord x y))/\w=w':=by
 have key:∀ r,ord x y=r->Calls Tryz.prog 144 #[x,y] w fun e w'=>e=.returned (.int .i64 r)/\w=w':=by
  intro r D
  by_cases h1:x<y
  ·have:r=-1:=by rw [<- D];unfold ord;rw [if_pos h1]
   subst this
   clear D
   go_enter Tryz.func144,Tryz.ntmps144
   go_wp2_with (go_at_call 205;refine (Dp _ _).mono ?_;rintro e w' ⟨rfl,rfl⟩)
   go_ret
   exact ⟨rfl,rfl⟩
  by_cases h2:y<x
  ·have:r=1:=by rw [<- D];unfold ord;rw [if_neg h1,if_pos h2]
   subst this
   clear D
   go_enter Tryz.func144,Tryz.ntmps144
   go_wp2_with (go_at_call 205;refine (Dp _ _).mono ?_;rintro e w' ⟨rfl,rfl⟩)
   go_ret
   exact ⟨rfl,rfl⟩
  have:r=0:=by rw [<- D];unfold ord;rw [if_neg h1,if_neg h2]
  subst this
  clear D
  go_enter Tryz.func144,Tryz.ntmps144
  go_wp2_with (go_at_call 205;refine (Dp _ _).mono ?_;rintro e w' ⟨rfl,rfl⟩)
  go_ret
  exact ⟨rfl,rfl⟩
 exact key _ rfl
end Go.Proofs.YtlanplhphiikjaaGreatDoor
namespace Go.Proofs
open Go.Shelf
def Tryz.lays106_ren:Go.Shelf.Ren:=⟨fun | 106=>116 | 213=>173 | 265=>232 | n=>n,fun | 9=>9 | 3=>3 | n=>n,fun | n=>n⟩
theorem Tryz.lays106:Go.Proofs.Lays.n106 Tryz.prog Tryz.lays106_ren:={
 mixed:=by kernel_rfl
 f106:=Tryz.func116.trans (congrArg some (by kernel_rfl))
 f213:=Tryz.func173.trans (congrArg some (by kernel_rfl))
 f265:=Tryz.func232.trans (congrArg some (by kernel_rfl))
 t3:=Tryz.underlying3
 a3:=Tryz.isAgg3
 z3:=Tryz.sizeOf3
 v3:=Tryz.zeroValue3
 t9:=Tryz.underlying9
 a9:=Tryz.isAgg9
 z9:=Tryz.sizeOf9
 v9:=Tryz.zeroValue9 }
open Go.RowKit in
theorem Tryz.strings_Compare (a b:ByteArray) (w:World):
  Calls Tryz.prog 116 #[.string a,.string b] w fun e w'=>e=.returned (.int .i64 (Lib.compareBytes a.data.toList b.data.toList))∧w'=w:=Any.strings_Compare Tryz.lays106 a b w
end Go.Proofs
namespace Go.Proofs.YtlanplhphiikjaaGreatDoor
open Go.RowKit
theorem cmpB_lib (a b:Bs):Lib.compareBytes a b=Y7 a b:=by
 induction a generalizing b with
 | nil=>cases b <;> rfl
 | cons x s ih=>
  cases b with
  | nil=>rfl
  | cons y t=>
   have D:x<y↔(x.toNat:Int)<y.toNat:=by rw [UInt8.lt_iff_toNat_lt];omega
   have h2:y<x↔(y.toNat:Int)<x.toNat:=by rw [UInt8.lt_iff_toNat_lt];omega
   show (if x<y then -1 else if y<x then 1 else Lib.compareBytes s t)=thn (ord x.toNat y.toNat) (Y7 s t)
   by_cases a1:x<y
   ·have e:ord x.toNat y.toNat=-1:=by unfold ord;rw [if_pos (D.1 a1)]
    rw [if_pos a1,e];rfl
   rw [if_neg a1]
   by_cases a2:y<x
   ·have e:ord x.toNat y.toNat=1:=by unfold ord;rw [if_neg (fun h=>a1 (D.2 h)),if_pos (h2.1 a2)]
    rw [if_pos a2,e];rfl
   have e:ord x.toNat y.toNat=0:=by unfold ord;rw [if_neg (fun h=>a1 (D.2 h)),if_neg (fun h=>a2 (h2.2 h))]
   rw [if_neg a2,e,ih t];rfl
theorem Ea (a b:ByteArray) (w:World):Calls Tryz.prog 116 #[.string a,.string b] w fun e w'=>e=.returned (.int .i64 (Y7 (bl a) (bl b)))/\w=w':=by
 refine (Tryz.strings_Compare a b w).mono ?_
 rintro e w' ⟨rfl,rfl⟩
 exact ⟨by rw [cmpB_lib],rfl⟩
theorem Dh (x:ByteArray) (w:World):Calls Tryz.prog 254 #[.string x] w fun e w'=>e=.returned (.bool false)/\w=w':=by
 go_enter Tryz.func254,Tryz.ntmps254
 go_wp2
 go_ret
 exact ⟨Od,rfl⟩
theorem Vc (a b:Bs):Op.bytesLess a b=decide (Y7 a b<0)/\((a==b)=decide (Y7 a b=0))/\(Y7 a b=-1\/Y7 a b=0\/Y7 a b=1):=by
 induction a generalizing b with
 | nil=>cases b <;> simp [Op.bytesLess,Y7]
 | cons x s ih=>
  cases b with
  | nil=>simp [Op.bytesLess,Y7]
  | cons y t=>
   obtain ⟨i1,i2,i3⟩:=ih t
   have G:x<y↔(x.toNat:Int)<y.toNat:=by rw [UInt8.lt_iff_toNat_lt];omega
   have I:y<x↔(y.toNat:Int)<x.toNat:=by rw [UInt8.lt_iff_toNat_lt];omega
   have J:x=y↔(x.toNat:Int)=y.toNat:=⟨fun h=>by rw [h],fun h=>UInt8.toNat_inj.1 Oa⟩
   simp only [Op.bytesLess,Y7,List.cons_beq_cons]
   by_cases a1:x<y
   ·have e:ord x.toNat y.toNat=-1:=by unfold ord;rw [if_pos (G.1 a1)]
    have D:(x==y)=false:=by rw [<- Qn,beq_iff_eq,J];have:=G.1 a1;omega
    simp [e,thn,a1,D]
   by_cases a2:y<x
   ·have e:ord x.toNat y.toNat=1:=by unfold ord;rw [if_neg (fun h=>a1 (G.2 h)),if_pos (I.1 a2)]
    have D:(x==y)=false:=by rw [<- Qn,beq_iff_eq,J];have:=I.1 a2;omega
    simp [e,thn,a1,D]
   have n1:¬ ((x.toNat:Int)<y.toNat):=fun h=>a1 (G.2 h)
   have n2:¬ ((y.toNat:Int)<x.toNat):=fun h=>a2 (I.2 h)
   have L:x=y:=by rw [J];omega
   subst L
   simp [U3,thn,i1,i2,i3]
theorem Uu (x:ByteArray):x.toList=bl x:=Lib.toList_data x
theorem O2 (x y:ByteArray) (w:World):Calls Tryz.prog 206 #[.string x,.string y] w fun e w'=>e=.returned (.int .i64 (Y7 (bl x) (bl y)))/\w=w':=by
 obtain ⟨D,G,I⟩:=Vc (bl x) (bl y)
 obtain ⟨g1,g2,g3⟩:=Vc (bl y) (bl x)
 have J:Y7 (bl x) (bl y)=- Y7 (bl y) (bl x):=by
  have:=Vd (bl x) (bl y) [] []
  have h:=Vd (bl y) (bl x) [] []
  simp only [List.append_nil,lex,Ka] at this h
  rw [<- this,<- h];exact Uh _ _
 rw [<- Uu x,<- Uu y] at D G I g1 g2 g3 J |-
 obtain ⟨c,L⟩:=eX (Y7 x.toList y.toList)
 rw [L] at D G I J |-
 have HC:=Qq L
 clear L J g1 g2 g3
 rcases I with I | I | I <;> subst I
 ·have k1:Op.bytesLess x.toList y.toList=true:=D.trans Of
  have k2:(x.toList==y.toList)=false:=G.trans Of
  clear D G
  go_enter Tryz.func206,Tryz.ntmps206
  go_wp2_with (go_at_call 254;refine (Dh _ _).mono ?_;rintro e w' ⟨rfl,rfl⟩)
  go_ret
  exact ⟨rfl,rfl⟩
 ·have k1:Op.bytesLess x.toList y.toList=false:=D.trans Of
  have k2:(x.toList==y.toList)=true:=G.trans Of
  clear D G
  go_enter Tryz.func206,Tryz.ntmps206
  go_wp2_with (go_at_call 254;refine (Dh _ _).mono ?_;rintro e w' ⟨rfl,rfl⟩)
  go_ret
  exact ⟨rfl,rfl⟩
 have k1:Op.bytesLess x.toList y.toList=false:=D.trans Of
 have k2:(x.toList==y.toList)=false:=G.trans Of
 clear D G
 go_enter Tryz.func206,Tryz.ntmps206
 go_wp2_with (go_at_call 254;refine (Dh _ _).mono ?_;rintro e w' ⟨rfl,rfl⟩)
 go_ret
 exact ⟨rfl,rfl⟩
theorem Um {α:Type} (n:Nat) (Q:Nat->α->Prop) (h:∀ i,i<n->∃ a,Q i a):∃ l:List α,l.length=n/\∀ i a,l[i]?=some a->Q i a:=by
 induction n with
 | zero=>exact ⟨[],rfl,fun i a h=>by simp at h⟩
 | succ n ih=>
  obtain ⟨l,hl,hq⟩:=ih (fun i hi=>h i Oa)
  obtain ⟨a,ha⟩:=h n Oa
  refine ⟨l++[a],by simp [hl],fun i b hb=>?_⟩
  by_cases hi:i<l.length
  ·rw [List.getElem?_append_left hi] at hb;exact hq i b hb
  rw [Zj Oa] at hb
  have h0:i - l.length=0:=by
   have:=(Qj hb).1
   simp at this;omega
  rw [h0] at hb
  simp at hb
  subst hb
  have:i=n:=Oa
  rw [this];exact ha
theorem Ha {k:Nat} {css:List (List Value)} (h:∀ c ∈ css,c.length=k):css.flatten.length=css.length*k:=by
 induction css with
 | nil=>simp
 | cons c css ih=>
  rw [List.flatten_cons,Qe,h c Od,ih (fun d hd=>h d (by simp [hd])),List.length_cons,Nat.add_mul]
  omega
theorem X8 {k:Nat} {css:List (List Value)} (h:∀ c ∈ css,c.length=k) {i j:Nat} {c:List Value} {u:Value} (hc:css[i]?=some c) (hu:c[j]?=some u):css.flatten[i*k+j]?=some u:=by
 induction css generalizing i with
 | nil=>simp at hc
 | cons d css ih=>
  have hd:=h d Od
  rw [List.flatten_cons]
  cases i with
  | zero=>
   simp at hc;subst hc
   have hj:j<d.length:=(Qj hu).1
   rw [Nat.zero_mul,Nat.zero_add,List.getElem?_append_left hj];exact hu
  | succ i=>
   have:=ih (fun e he=>h e (by simp [he])) (i:=i) (by simpa using hc)
   rw [Zj (by rw [hd,Nat.add_mul];omega),hd]
   rw [show (i+1)*k+j - k=i*k+j by rw [Nat.add_mul];omega]
   exact this
theorem flat_at {k:Nat} (hk:0<k) {css:List (List Value)} (h:∀ c ∈ css,c.length=k) {m:Nat} {u:Value} (hu:css.flatten[m]?=some u):∃ c,css[m / k]?=some c/\c[m % k]?=some u:=by
 have hm:m<css.length*k:=by rw [<- Ha h];exact (Qj hu).1
 have hi:m / k<css.length:=Nat.div_lt_of_lt_mul (by rwa [Nat.mul_comm])
 have hc:=Qx hi
 have hl:=h _ (Q8 hi)
 have hj:m % k<(css[m / k]).length:=by rw [hl];exact Nat.mod_lt _ hk
 refine ⟨_,hc,?_⟩
 have:=X8 h hc (Qx hj)
 rw [Nat.div_add_mod' m k] at this
 rw [Qx hj,<- hu,this]
structure Cs {T:Type} (r:Rd T) (S:Nat->Prop) (w:World) (css:List (List Value)) (xs:List T):Prop where
 len:css.length=xs.length
 R:∀ (i:Nat) (c:List Value) (x:T),css[i]?=some c->xs[i]?=some x->r.R S w c x
theorem Cs.all {T:Type} {r:Rd T} {S:Nat->Prop} {w:World} {css:List (List Value)} {xs:List T} (h:Cs r S w css xs):∀ c ∈ css,c.length=r.k:=by
 intro c hc
 obtain ⟨i,hi⟩:=Qt hc
 have D:=(Qj hi).1
 exact r.len (h.R i c _ hi (Qx (by rw [<- h.len];exact D)))
theorem Cs.flat {T:Type} {r:Rd T} {S:Nat->Prop} {w:World} {css:List (List Value)} {xs:List T} (h:Cs r S w css xs):css.flatten.length=xs.length*r.k:=by rw [Ha h.all,h.len]
theorem Cs.move {T:Type} {r:Rd T} {S S':Nat->Prop} {w w':World} {css:List (List Value)} {xs:List T} (h:Cs r S w css xs) (hA:Ys S w w') (hS:∀ b,b<w.heap.size->S b->S' b):Cs r S' w' css xs:=
 ⟨h.len,fun i c x hc hx=>r.mono (r.frame (r.mono (S':=fun b=>S b/\S' b) (h.R i c x hc hx) (fun b hb h=>⟨h,hS b hb h⟩)) (fun b hb=>hA b hb.1)) (fun _ _ h=>h.2)⟩
theorem Cs.app {T:Type} {r:Rd T} {S:Nat->Prop} {w:World} {css dss:List (List Value)} {xs ys:List T} (h:Cs r S w css xs) (g:Cs r S w dss ys):Cs r S w (css++dss) (xs++ys):=by
 refine ⟨by rw [Qe,Qe,h.len,g.len],fun i c x D G=>?_⟩
 by_cases hi:i<css.length
 ·rw [List.getElem?_append_left hi] at D
  rw [List.getElem?_append_left (by rw [<- h.len];exact hi)] at G
  exact h.R i c x D G
 rw [Zj Oa] at D
 rw [Zj (by rw [<- h.len];omega),<- h.len] at G
 exact g.R _ c x D G
theorem Cs.one {T:Type} {r:Rd T} {S:Nat->Prop} {w:World} {c:List Value} {x:T} (h:r.R S w c x):Cs r S w [c] [x]:=by
 refine ⟨rfl,fun i c' x' D hx=>?_⟩
 cases i with
 | zero=>simp at D hx;subst D;subst hx;exact h
 | succ i=>simp at D
theorem Cs.nil {T:Type} (r:Rd T) (S:Nat->Prop) (w:World):Cs r S w [] []:=⟨rfl,fun i c x hc _=>by simp at hc⟩
theorem Sl.css {T:Type} {r:Rd T} (hk:0<r.k) {S:Nat->Prop} {w:World} {v:Value} {xs:List T} (h:Sl r S w v xs):
  ∃ p cap css,v=.slice p xs.length cap/\Cs r S w css xs/\(xs≠[]->∃ b off,p=some ⟨b,off,none⟩/\S b/\b<w.heap.size/\∀ j u,css.flatten[j]?=some u->w.cell? ⟨b,off+j,none⟩=some u):=by
 obtain ⟨p,cap,h1,h2,h3⟩:=h
 by_cases hne:xs=[]
 ·subst hne;exact ⟨p,cap,[],h1,Cs.nil _ _ _,fun h=>absurd rfl h⟩
 obtain ⟨b,off,e,hS,hb,hc⟩:=h3 hne
 obtain ⟨css,hl,hq⟩:=Um xs.length (fun i cs=>(∀ j u,cs[j]?=some u->w.cell? ⟨b,off+i*r.k+j,none⟩=some u)/\∀ x,xs[i]?=some x->r.R S w cs x) (fun i hi=>by
  obtain ⟨cs,h4,h5⟩:=hc i _ (Qx hi)
  exact ⟨cs,h4,fun x I=>by rw [Qx hi] at I;cases I;exact h5⟩)
 have G:Cs r S w css xs:=⟨hl,fun i c x D I=>(hq i c D).2 x I⟩
 refine ⟨p,cap,css,h1,G,fun _=>⟨b,off,e,hS,hb,fun j u hu=>?_⟩⟩
 obtain ⟨c,D,J⟩:=flat_at hk G.all hu
 have:=(hq _ c D).1 _ u J
 rwa [Nat.add_assoc,Nat.div_add_mod' j r.k] at this
theorem Sl.of_css {T:Type} {r:Rd T} {S:Nat->Prop} {w:World} {xs:List T} {b off cap:Nat} {css:List (List Value)} (hl:xs.length<=1000000) (h:Cs r S w css xs) (hS:S b) (hb:b<w)
  (hc:∀ j u,css.flatten[j]?=some u->w.cell? ⟨b,off+j,none⟩=some u):Sl r S w (.slice (some ⟨b,off,none⟩) xs.length cap) xs:=by
 refine ⟨_,cap,rfl,hl,fun _=>⟨b,off,rfl,hS,hb,fun i x hx=>?_⟩⟩
 have hi:i<css.length:=by rw [h.len];exact (Qj hx).1
 refine ⟨css[i],fun j u hu=>?_,h.R i _ x (Qx hi) hx⟩
 have:=hc _ u (X8 h.all (Qx hi) hu)
 rwa [<- Nat.add_assoc] at this
def But (S:Nat->Prop) (v:Value):Nat->Prop:=fun b=>S b/\some b≠v.ownBlock
structure Own {T:Type} (r:Rd T) (E:TypeId) (S:Nat->Prop) (B:Nat) (w:World) (v:Value) (xs:List T) (css:List (List Value)):Prop where
 row:w.ownsRow B E r.k v xs.length css.flatten
 cs:Cs r (But S v) w css xs
theorem Own.nil {T:Type} (r:Rd T) (E:TypeId) (S:Nat->Prop) (B:Nat) (w:World):Own r E S B w (.slice none 0 0) [] []:=⟨by simpa using World.ownsRow_nil w B E r.k,Cs.nil _ _ _⟩
theorem Jr {w w':World} {B:Nat} {e:TypeId} {sz n:Nat} {v:Value} {xs:List Value} (h:w.ownsRow B e sz v n xs) (hb:Below w w w'):w'.ownsRow B e sz v n xs:=by
 refine ⟨h.1,?_⟩
 rcases h.2 with hn | ⟨g,cap,cur,rfl,hB,hg,rest⟩
 ·exact .inl hn
 refine .inr ⟨g,cap,cur,rfl,hB,?_,rest⟩
 rw [hb.block g (Array.getElem?_eq_some_iff.1 hg).1];exact hg
theorem Own.below {T:Type} {r:Rd T} {E:TypeId} {S:Nat->Prop} {B:Nat} {w w':World} {v:Value} {xs:List T} {css:List (List Value)} (h:Own r E S B w v xs css) (hb:Below w w w'):Own r E S B w' v xs css:=
 ⟨Jr h.row hb,h.cs.move (.of_below hb) P8⟩
theorem Own.append {T:Type} {r:Rd T} {E:TypeId} {S:Nat->Prop} {B:Nat} {W w2:World} {v v':Value} {xs ys:List T} {css dss:List (List Value)} (h:Own r E S B W v xs css) (hd:Cs r (But S v) W dss ys)
  (hown:w2.ownsRow B E r.k v' (xs.length+ys.length) (css.flatten++dss.flatten)) (hgrow:W.grownBy w2 v.ownBlock) (hat:v'.ownBlock=v.ownBlock\/v'.ownBlock=some W.heap.size):Own r E S B w2 v' (xs++ys) (css++dss):=by
 refine ⟨by rw [Qe,List.flatten_append];exact hown,?_⟩
 have hc:=h.cs.app hd
 have h1:Cs r (fun b=>But S v b/\But S v' b) W (css++dss) (xs++ys):=hc.move (.refl _ _) (fun b hb h=>⟨h,h.1,by
  rcases hat with e | e
  ·rw [e];exact h.2
  rw [e];intro e2;have:=Q6 e2;omega⟩)
 exact h1.move (fun b hb D=>hgrow.block b D hb.1.2) (fun _ _ h=>h.2)
theorem B3 {w:World} {g:Nat} {cur:Array Value} {E:TypeId} {n:Nat} {ys:List Value} (hg:w.heap[g]?=some (.cells cur E (0,0))) (ht:cur.toList.take n=ys) {j:Nat} {u:Value} (hu:ys[j]?=some u):w.cell? ⟨g,j,none⟩=some u:=by
 rw [Qk w g j cur E (0,0) hg]
 rw [<- ht,List.getElem?_take] at hu
 split at hu
 ·simpa using hu
 cases hu
theorem Own.sl {T:Type} {r:Rd T} {E:TypeId} {S S':Nat->Prop} {B:Nat} {w:World} {v:Value} {xs:List T} {css:List (List Value)} (h:Own r E S B w v xs css) (hl:xs.length<=1000000)
  (h1:∀ b,B<=b->S' b) (h2:∀ b,b<w.heap.size->S b->S' b):Sl r S' w v xs:=by
 rcases h.row.2 with ⟨rfl,h0⟩ | ⟨g,cap,D,rfl,hB,hg,_,_,_,ht⟩
 ·rw [Zq h0];exact Sl.nil _ _ _
 refine Sl.of_css (css:=css) hl (h.cs.move (.refl _ _) (fun b hb h=>h2 b hb h.1)) (h1 g hB) (Array.getElem?_eq_some_iff.1 hg).1 (fun j u hu=>?_)
 rw [Nat.zero_add];exact B3 hg ht hu
end Go.Proofs.YtlanplhphiikjaaGreatDoor
