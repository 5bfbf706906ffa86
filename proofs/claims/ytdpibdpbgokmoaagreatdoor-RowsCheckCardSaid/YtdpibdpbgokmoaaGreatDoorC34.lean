import Derived.Test.YtdpibdpbgokmoaaGreatDoorC33
set_option maxRecDepth 100000
set_option maxHeartbeats 400000000
namespace Go.Proofs.YtdpibdpbgokmoaaGreatDoor
open Go.RowKit Go.Shelf Go.Lib Tryz
def Mh (us:List Sm) (v:Val) (t:Ty):Bool:=if t.kind=3 then Bt us v t.name else v.kind==t.kind
def D9 (us:List Sm) (t:Tbl) (v:Val):Bool:=(v.kind==4)&&decide (v.names=(Jt t.columns).1)&&eqL (Mh us) v.kids (Jt t.columns).2
def Jb (t:Tbl) (v:Val):List Val:=(keyOf t.key v).getD []
def Ju (K:Val→List Val):List Val→Ft
 | []=>Ft.zero
 | v::l=>match l.find? (fun u=>eqL eqv (K v) (K u)) with
  | some u=>⟨11,[],v,u⟩
  | none=>Ju K l
def cfR (s:Sc) (l:List Rel) (c i:Nat):Ft:=
 match c with
 | 0=>Ej (l.getD i ⟨[],[]⟩).rows
 | 1=>Xi 9 (D9 s.sums (s.tables.getD i Tbl.zero)) (l.getD i ⟨[],[]⟩).rows
 | 2=>Ju (Jb (s.tables.getD i Tbl.zero)) (l.getD i ⟨[],[]⟩).rows
 | 3=>Yi s l (l.getD i ⟨[],[]⟩).rows (s.tables.getD i Tbl.zero).refs
 | _=>Xi 13 (Vt 8 (s.tables.getD i Tbl.zero)) (l.getD i ⟨[],[]⟩).rows
section
variable {s:Sc} {l:List Rel} {c i k:Nat} {t:Tbl} {r:Rel} {x u:Val} {rows:List Val} {p:Val→Bool} {code:Int} {K:Val→List Val} {f:Rf} {fs:List Rf}
theorem cfR_0 (hr:l[i]?=some r):cfR s l 0 i=Ej r.rows:=by
 unfold cfR;rw [Qs,hr];rfl
theorem cfR_1 (hr:l[i]?=some r) (ht:s.tables[i]?=some t):cfR s l 1 i=Xi 9 (D9 s.sums t) r.rows:=by
 show Xi 9 (D9 s.sums (s.tables.getD i Tbl.zero)) (l.getD i ⟨[],[]⟩).rows=_
 rw [Qs,Qs,hr,ht];rfl
theorem cfR_2 (hr:l[i]?=some r) (ht:s.tables[i]?=some t):cfR s l 2 i=Ju (Jb t) r.rows:=by
 show Ju (Jb (s.tables.getD i Tbl.zero)) (l.getD i ⟨[],[]⟩).rows=_
 rw [Qs,Qs,hr,ht];rfl
theorem cfR_3 (hr:l[i]?=some r) (ht:s.tables[i]?=some t):cfR s l 3 i=Yi s l r.rows t.refs:=by
 show Yi s l (l.getD i ⟨[],[]⟩).rows (s.tables.getD i Tbl.zero).refs=_
 rw [Qs,Qs,hr,ht];rfl
theorem cfR_4 (hr:l[i]?=some r) (ht:s.tables[i]?=some t):cfR s l 4 i=Xi 13 (Vt 8 t) r.rows:=by
 show Xi 13 (Vt 8 (s.tables.getD i Tbl.zero)) (l.getD i ⟨[],[]⟩).rows=_
 rw [Qs,Qs,hr,ht];rfl
theorem Hr (hx:rows[k]?=some x) (hp:p x=false) (hb:∀ y ∈ rows.take k,p y=true):Xi code p rows=⟨code,[],x,Val.zero⟩:=by
 obtain ⟨hk,he⟩:=Qj hx
 have h:rows.findIdx? (fun r=>!p r)=some k:=by
  rw [List.findIdx?_eq_some_iff_getElem]
  refine ⟨hk,by rw [he,hp];rfl,fun i hi=>?_⟩
  have h2:=hb rows[i] (List.mem_take_iff_getElem.2 ⟨i,Qqj,rfl⟩)
  rw [h2];decide
 unfold Xi
 rw [h]
 show (⟨code,[],rows.getD k Val.zero,Val.zero⟩:Ft)=_
 rw [Qs,hx];rfl
theorem Gh (hb:∀ y ∈ rows.take rows.length,p y=true):(Xi code p rows).code=0:=by
 rw [List.take_length] at hb
 rw [J4 hb];rfl
theorem Bx (hx:rows[k]?=some x) (hp:p x=true) (hb:∀ y ∈ rows.take k,p y=true):∀ y ∈ rows.take (k+1),p y=true:=by
 intro y hy
 rw [Fm hx] at hy
 rcases Z4.1 hy with h | h
 ·exact hb y h
 rw [Z5.1 h];exact hp
theorem Dr {T:Type} {xs:List T} {k:Nat} {x:T} (hx:xs[k]?=some x):xs.drop k=x::xs.drop (k+1):=by
 obtain ⟨hk,he⟩:=Qj hx
 rw [← he];exact Qp hk
theorem keyR_hit (hx:rows[k]?=some x) (hf:(rows.drop (k+1)).find? (fun u=>eqL eqv (K x) (K u))=some u):Ju K (rows.drop k)=⟨11,[],x,u⟩:=by
 rw [Dr hx,Ju,hf]
theorem Cv (hx:rows[k]?=some x) (hf:(rows.drop (k+1)).find? (fun u=>eqL eqv (K x) (K u))=none):Ju K (rows.drop k)=Ju K (rows.drop (k+1)):=by
 rw [Dr hx,Ju,hf]
theorem find_at {q:Val→Bool} (hu:rows[k]?=some u) (hq:q u=true):(rows.drop k).find? q=some u:=by
 rw [Dr hu,List.find?_cons,hq]
theorem Qjk {q:Val→Bool} (hu:rows[k]?=some u) (hq:q u=false):(rows.drop k).find? q=(rows.drop (k+1)).find? q:=by
 rw [Dr hu,List.find?_cons,hq]
theorem Om (hf:fs[k]?=some f) (h:Xi 12 (Kt s l f) rows=⟨12,[],x,Val.zero⟩):Yi s l rows (fs.drop k)=⟨12,[],x,Val.zero⟩:=by
 rw [Dr hf,Yi,if_neg (by rw [h];show ¬ (12:Int)=0;decide),h]
theorem Na (hf:fs[k]?=some f) (h:(Xi 12 (Kt s l f) rows).code=0):Yi s l rows (fs.drop k)=Yi s l rows (fs.drop (k+1)):=by
 rw [Dr hf,Yi,if_pos h]
theorem refP_is {b b':Bool} (hb:(Ys x f.column).isSome=b) (hu:(Ys x f.column).getD Val.zero=u) (hb':(Jj s l f.table [u]).isSome=b'):Kt s l f x=!(!b||!b'):=by
 unfold Kt
 cases h:Ys x f.column with
 | none=>rw [h] at hb;subst hb;rfl
 | some v=>
  rw [h] at hb hu
  subst hb
  obtain rfl:v=u:=hu
  subst hb'
  simp
def Dc (s:Sc) (l:List Rel) (c k:Nat):Prop:=∀ c' i',i'<s.tables.length→(c'<c∨c'=c∧i'<k)→(cfR s l c' i').code=0
theorem Wf:Dc s l 0 0:=fun c' i' _ h=>Qqj
theorem Kv (h:Dc s l c k) (hk:(cfR s l c k).code=0):Dc s l c (k+1):=fun c' i' A D=>by
 by_cases e:c'=c∧i'=k
 ·obtain ⟨rfl,rfl⟩:=e;exact hk
 exact h c' i' A Qqj
theorem Jg (h:Dc s l c s.tables.length):Dc s l (c+1) 0:=fun c' i' A D=>h c' i' A Qqj
theorem Aq (hn:Uy s l=true) (hr:l[i]?=some r):((s.tables[i]?).getD Tbl.zero).name=r.table:=by
 have h:∀ (a:List Tbl) (b:List Rel) (i:Nat),eqL (fun (t:Tbl) (r:Rel)=>Ue r.rows&&decide (t.name=r.table)) a b=true→b[i]?=some r→((a[i]?).getD Tbl.zero).name=r.table:=by
  intro a
  induction a with
  | nil=>
   intro b i h hb
   cases b with
   | nil=>simp at hb
   | cons y b=>simp [eqL] at h
  | cons x a ih=>
   intro b i h hb
   cases b with
   | nil=>simp at hb
   | cons y b=>
    simp only [eqL,Bool.and_eq_true] at h
    cases i with
    | zero=>
     simp only [Qg,Zv] at hb
     subst hb
     simpa using h.1.2
    | succ i=>exact ih b i h.2 (by simpa using hb)
 exact h s.tables l i hn hr
def RF (s:Sc) (l:List Rel) (f:Ft):Prop:=(Uy s l=true→U0 s.tables.length (cfR s l) (fun i=>((s.tables[i]?).getD Tbl.zero).name) f)∧(Uy s l=false→f=⟨1,[],Val.zero,Val.zero⟩)
theorem rf_arg (hn:Uy s l=false):RF s l ⟨1,[],Val.zero,Val.zero⟩:=⟨(fun h=>by rw [hn] at h;cases h),fun _=>rfl⟩
theorem rf_ok (hn:Uy s l=true) (h:Dc s l 5 0):RF s l Ft.zero:=⟨fun _=>.inl ⟨rfl,fun c i hc hi=>h c i hi (.inl hc)⟩,fun h=>by rw [hn] at h;cases h⟩
theorem Ni (hn:Uy s l=true) (hU:Dc s l c i) (hc:c<5) (hr:l[i]?=some r) (hi:i<s.tables.length) (hf:cfR s l c i=⟨code,[],x,u⟩) (h0:code≠0):RF s l ⟨code,r.table,x,u⟩:=
 ⟨fun _=>.inr ⟨c,i,hc,hi,by rw [hf];exact h0,(by rw [hf];show _=(⟨code,((s.tables[i]?).getD Tbl.zero).name,x,u⟩:Ft);rw [Aq hn hr]),hU⟩,fun h=>by rw [hn] at h;cases h⟩
end
theorem D7 {s:Sc} {l:List Rel} {f:Ft} {w W:World} {c1 c2:List Value} (h:RF s l f) (h1:Z9 (fun b=>b<w) W c1 f.row) (h2:Z9 (fun b=>b<w) W c2 f.other) (hl:f.table.length≤1000000) (hB:Below w w W):
  Xt w s l (cfR s l) (.returned (.agg (.int .i64 f.code::sv f.table::(c1++c2)).toArray)) W:=⟨f,h.1,h.2,_,rfl,⟨c1,c2,rfl,hl,h1,h2⟩,hB⟩
theorem Cs.take {T:Type} {r:Rd T} {S:Nat→Prop} {w:World} {css:List (List Value)} {xs:List T} (h:Cs r S w css xs) (i:Nat):Cs r S w (css.take i) (xs.take i):=by
 refine ⟨by rw [Qm,Qm,h.len],fun j c x A D=>?_⟩
 rw [List.getElem?_take] at A D
 by_cases hj:j<i
 ·rw [if_pos hj] at A D;exact h.R j c x A D
 rw [if_neg hj] at A;cases A
theorem Cs.drop {T:Type} {r:Rd T} {S:Nat→Prop} {w:World} {css:List (List Value)} {xs:List T} (h:Cs r S w css xs) (i:Nat):Cs r S w (css.drop i) (xs.drop i):=by
 refine ⟨by rw [Zq,Zq,h.len],fun j c x hc hx=>?_⟩
 rw [List.getElem?_drop] at hc hx
 exact h.R _ c x hc hx
def Jh {T:Type} (xs:List T) (i:Nat) (y:T):List T:=xs.take i++([y]++xs.drop i)
theorem Xs {T:Type} (xs:List T) (i:Nat) (y:T):(Jh xs i y).length=xs.length+1:=by
 unfold Jh;simp;omega
theorem Pw {T:Type} (xs:List T) (y:T):Jh xs xs.length y=xs++[y]:=by unfold Jh;simp
theorem insAny (S:Nat→Prop) (B:Nat) (w:World) (v:Value) (xs:List Val) (css:List (List Value)) (y:Val) (cy:List Value) (i q c:Nat) (hO:Own Ze 36 S B w v xs css) (hq:w.heap[q]?=some (.cells cy.toArray 36 (0,0))) (hqS:But S v q) (hy:Z9 (But S v) w cy y) (hi:i≤xs.length) (hl:xs.length≤100000) (hB:B≤w):
  Calls prog 62 #[v,i,Qqb q 0 1 c] w (InsIs S B w v (Jh xs i y)):=by
 have A:∀ (j:Nat) (u:Value),cy[j]?=some u→w.cell? ⟨q,0+j,none⟩=some u:=by
  intro j u hj
  rw [Nat.zero_add,Qk w q j _ _ (0,0) hq];simpa using hj
 have N:q<w.heap.size:=(Array.getElem?_eq_some_iff.1 hq).1
 by_cases he:i=xs.length
 ·subst he
  rw [Pw]
  refine insEnd S B w v xs css y _ c hO ⟨_,_,rfl,Qqk,fun _=>⟨q,0,rfl,hqS,N,fun j x hx=>?_⟩⟩ hl hB
  cases j with
  | zero=>
   simp at hx;subst hx
   refine ⟨cy,fun m u hm=>?_,hy⟩
   have:=A m u hm
   simpa using this
  | succ j=>simp at hx
 have M:i<xs.length:=Qqj
 have D:Cs Ze (But S v) w (Jh css i cy) (Jh xs i y):=(hO.cs.take i).app ((Cs.one hy).app (hO.cs.drop i))
 have I:(Jh css i cy).flatten=(css.take i).flatten++cy++(css.drop i).flatten:=by unfold Jh;simp
 have J:(Jh css i cy).flatten.length=(xs.length+1)*Ze.k:=by rw [D.flat,Xs]
 rcases hO.row.2 with ⟨_,h0⟩ | ⟨g,cap,aH,rfl,aD,aE,aJ,aB,aK,aL⟩
 ·omega
 have aI:g<w.heap.size:=(Array.getElem?_eq_some_iff.1 aE).1
 have aF:q≠g:=fun e=>hqS.2 (by rw [e];rfl)
 by_cases hr:xs.length+1≤cap
 ·refine (insRoom S B w g xs.length cap i xs css y cy q 0 c hO rfl M hr aF hy A hl 36 cy.length (by unfold World.shape?;rw [hq];simp) (by simp [World.frozen?,hq]) (by simp [World.frozen?,hq])).mono ?_
  rintro e w' ⟨rfl,X,O,T,U,V,h5,Y⟩
  refine ⟨_,cap,Jh css i cy,by rw [Xs],⟨?_,?_⟩,Y,.inl rfl⟩
  ·rw [Xs]
   exact ⟨J,.inr ⟨g,cap,X,rfl,aD,O,hr,aB,T,by rw [I];exact U⟩⟩
  rw [Xs]
  exact D.move (fun b hb _=>V b (fun e=>hb.2 (by rw [e];rfl))) (fun b _ hb=>⟨hb.1,fun e=>hb.2 e⟩)
 have aC:cap=xs.length:=Qqj
 subst aC
 refine (insGrow S B w g xs.length i xs css y cy q 0 c hO rfl M hy A hl N).mono ?_
 rintro e w' ⟨G,rfl,Z,aA,X,O,T,U,V,h5,Y⟩
 refine ⟨_,G,Jh css i cy,by rw [Xs],⟨?_,?_⟩,Y,.inr rfl⟩
 ·rw [Xs]
  exact ⟨J,.inr ⟨w.heap.size,G,X,rfl,hB,O,Z,aA,T,by rw [I];exact U⟩⟩
 rw [Xs]
 refine D.move (fun b _ hb=>V b hb) (fun b hb hs=>⟨hs.1,fun e=>?_⟩)
 have:b=w.heap.size:=by simpa [Value.ownBlock] using e
 omega
theorem put5_row {W:World} {R:Nat} {a b c d e x0 x1 x2 x3 x4:Value} {l:List Value} {t:TypeId} (h:W.heap[R]?=some (.cells (x0::x1::x2::x3::x4::l).toArray t (0,0))):(Zl W R a b c d e).heap[R]?=some (.cells (a::b::c::d::e::l).toArray t (0,0)):=by
 have h0:(W.setCell ⟨R,0,none⟩ a).heap[R]?=some (.cells (a::x1::x2::x3::x4::l).toArray t (0,0)):=by rw [Qi _ _ _ _ _ _ h];simp
 have h1:((W.setCell ⟨R,0,none⟩ a).setCell ⟨R,1,none⟩ b).heap[R]?=some (.cells (a::b::x2::x3::x4::l).toArray t (0,0)):=by rw [Qi _ _ _ _ _ _ h0];simp
 have h2:(((W.setCell ⟨R,0,none⟩ a).setCell ⟨R,1,none⟩ b).setCell ⟨R,2,none⟩ c).heap[R]?=some (.cells (a::b::c::x3::x4::l).toArray t (0,0)):=by rw [Qi _ _ _ _ _ _ h1];simp
 have h3:((((W.setCell ⟨R,0,none⟩ a).setCell ⟨R,1,none⟩ b).setCell ⟨R,2,none⟩ c).setCell ⟨R,3,none⟩ d).heap[R]?=some (.cells (a::b::c::d::x4::l).toArray t (0,0)):=by rw [Qi _ _ _ _ _ _ h2];simp
 unfold Zl
 rw [Qi _ _ _ _ _ _ h3];simp
theorem N6 (x:Bs) (ns:List Bs) (ks:List Val):X5 (V8 (x::ns) ks) x=0:=by
 unfold X5 V5
 simp [V8,Val.names,List.findIdx?_cons]
theorem A5 {S:Nat→Prop} {B:Nat} {w W:World} {g n cap:Nat} {p y:Val} {ks:List Val} {css:List (List Value)} (hO:Own Ze 36 S B w (.slice (some ⟨g,0,none⟩) n cap) (p::ks) css) (hn:n=ks.length+1) {cy:List Value} {a b c d e:Value} (hcy:cy=[a,b,c,d,e])
  (hg:∀ l x0 x1 x2 x3 x4,w.heap[g]?=some (.cells (x0::x1::x2::x3::x4::l).toArray 36 (0,0))→W.heap[g]?=some (.cells (a::b::c::d::e::l).toArray 36 (0,0)))
  (hoth:∀ k,k≠g→k<w.heap.size→W.heap[k]?=w.heap[k]?) (hy:Z9 (fun b=>S b∧b≠g) W cy y):∃ css',Own Ze 36 S B W (.slice (some ⟨g,0,none⟩) n cap) (y::ks) css':=by
 subst hcy;subst hn
 rcases hO.row.2 with ⟨h,_⟩ | ⟨g',aF,M,hv,aB,aD,aE,Z,N,D⟩
 ·cases h
 simp only [Qr,Zv,Addr.mk.injEq] at hv
 obtain ⟨⟨rfl,-,-⟩,-,rfl⟩:=hv
 obtain ⟨G,A,rfl⟩:∃ G A,css=G::A:=by
  cases css with
  | nil=>have:=hO.cs.len;simp at this
  | cons G A=>exact ⟨G,A,rfl⟩
 have Y:G.length=5:=hO.cs.all G Qqk
 have I:Ze.k=5:=rfl
 rw [I] at N D
 rw [List.flatten_cons] at D
 match G,Y with
 | [x0,x1,x2,x3,x4],_=>
  obtain ⟨l,O⟩:∃ l,M=(x0::x1::x2::x3::x4::l).toArray:=by
   obtain ⟨J⟩:=M
   have U:J=J.take ((p::ks).length*5)++J.drop ((p::ks).length*5):=(List.take_append_drop _ _).symm
   have h2:J.take ((p::ks).length*5)=[x0,x1,x2,x3,x4]++A.flatten:=D
   rw [h2] at U
   exact ⟨A.flatten++J.drop ((p::ks).length*5),congrArg List.toArray (U.trans Qqk)⟩
  subst O
  have aC:=hg l x0 x1 x2 x3 x4 aD
  have T:(a::b::c::d::e::l).take ((y::ks).length*5)=[a,b,c,d,e]++A.flatten:=by
   have V:(x0::x1::x2::x3::x4::l).take ((p::ks).length*5)=[x0,x1,x2,x3,x4]++A.flatten:=D
   rw [show (p::ks).length*5=ks.length*5+5 by simp;omega] at V
   rw [show (y::ks).length*5=ks.length*5+5 by simp;omega]
   simp only [List.take_succ_cons,List.cons_append,List.nil_append,List.cons.injEq,true_and] at V ⊢
   exact V
  refine ⟨[a,b,c,d,e]::A,⟨⟨?_,.inr ⟨g,cap,_,rfl,aB,aC,aE,Z,?_,?_⟩⟩,?_⟩⟩
  ·have:=hO.row.1
   simp only [List.flatten_cons,Ql,List.length_cons,List.length_nil] at this ⊢
   exact this
  ·rw [I];simpa using N
  ·rw [I,List.flatten_cons];exact T
  have aA:Cs Ze (But S (.slice (some ⟨g,0,none⟩) (ks.length+1) cap)) w A ks:=⟨by have:=hO.cs.len;simpa using this,fun j c x hc hx=>hO.cs.R (j+1) c x hc hx⟩
  have U:Cs Ze (But S (.slice (some ⟨g,0,none⟩) (ks.length+1) cap)) W [[a,b,c,d,e]] [y]:=Cs.one (Z9.move hy (.refl _ _) (fun b _ hb=>⟨hb.1,fun e=>hb.2 (by simpa [Value.ownBlock] using e)⟩))
  exact U.app (aA.move (fun b hs hb=>hoth b (fun e=>hs.2 (by rw [e];rfl)) hb) Qzx)
theorem own_head {S:Nat→Prop} {B:Nat} {w:World} {q:Option Addr} {n cap:Nat} {p:Val} {ks:List Val} {css:List (List Value)} (hO:Own Ze 36 S B w (.slice q n cap) (p::ks) css):
  ∃ g x0 x1 x2 x3 x4 l,q=some ⟨g,0,none⟩∧B≤g∧w.heap[g]?=some (.cells (x0::x1::x2::x3::x4::l).toArray 36 (0,0)):=by
 rcases hO.row.2 with ⟨h,h0⟩ | ⟨g',N,D,hv,G,I,M,O,A,T⟩
 ·simp at h0
 simp only [Qr] at hv
 obtain ⟨rfl,-,rfl⟩:=hv
 have J:Ze.k=5:=rfl
 rw [J] at A
 obtain ⟨cl⟩:=D
 have hl:5≤cl.length:=by simp at A M;omega
 match cl,hl with
 | x0::x1::x2::x3::x4::l,_=>exact ⟨g',x0,x1,x2,x3,x4,l,rfl,G,I⟩
theorem Cf (S S1:Nat→Prop) (x:Bs) (ns:List Bs) (p:Val) (ks:List Val) (y:Val) (cv cy:List Value) (w:World) (hv:Z9 S w cv (V8 (x::ns) (p::ks))) (hy0:Z9 S1 w cy y):
  Calls prog 137 #[cv,sv x,cy] w fun e w'=>∃ cs',e=.returned (.tuple #[.agg cs'.toArray,.bool true])∧Z9 (fun b=>w≤b) w' cs' (V8 (x::ns) (y::ks))∧Below w w w':=by
 have hy:Z9 (fun b=>b<w) w cy y:=hy0.move (.refl _ _) (fun b hb _=>hb)
 have hF:∀ W,Below w w W→Calls prog 124 #[cv,sv x] W fun e w'=>e=.returned (.tuple #[Qqd,.bool true])∧Below W W w':=fun W hb=>by
  have h:=Lg S _ cv x W (Z9.move hv (.of_below hb) Qzx)
  have e2:Xb (V8 (x::ns) (p::ks)) 0=true:=by simp [Xb,V8,Val.kind,Val.kids]
  rw [N6,e2] at h
  exact h
 have HF:=Qq hF
 have HC:=Qq (fun W (hb:Below w w W)=>cloneOwn 4 0 [] (x::ns) (p::ks) S cv W (Z9.move hv (.of_below hb) Qzx))
 have cM:=Qq (fun W (hb:Below w w W)=>Fe y _ cy W (Z9.move hy (.of_below hb) Qzx))
 obtain ⟨p3,k3,p4,k4,O,_⟩:=Z9.cells hv
 simp only [vcs] at O
 subst O
 obtain ⟨q3,l3,q4,l4,O,_⟩:=Z9.cells hy
 simp only [vcs] at O
 subst O
 have cV:ks.length+1≤1000000:=by
  obtain ⟨nv,kv,_,_,_,hk⟩:=Vn.1 hv
  obtain ⟨_,_,_,h⟩:=hk.len
  simpa using h
 clear hv hy hy0 hF
 unfold sv at HF ⊢
 go_enter func137,ntmps137
 go_upto_region 1 with fail
 generalize aB:((w.alloc _).alloc _).alloc _=W1
 have bK:=eqB aB (Xm _ _ _ _)
 have h3:W1.heap[w.heap.size]?=some (.cells #[.int .i64 4,Qqd,Qqe,.slice p3 (ns.length+1) k3,.slice p4 (ks.length+1) k4] 36 (0,0)):=by rw [← aB];exact (Zg _ _).block _ (by simp;omega) |>.trans (Q5 _ _ _)
 have h5:W1.heap[w.heap.size+1]?=some (.cells (Qqg y q3 l3 q4 l4) 36 (0,0)):=by rw [← aB];exact (Zg _ _).block _ Qqk |>.trans (Q6 _ _ _)
 have h6:=eqH (b:=w.heap.size+2) aB (Zi _ _ _ _)
 obtain ⟨aS,H3,H5,H6⟩:=Qqp bK h3 h5 h6
 have V:=fun j=>Qk _ _ j _ _ _ h3
 obtain ⟨r0,r1,r2,r3,r4⟩:=Qzj V
 simp only [Qf,Qg,Qh] at r0 r1 r2 r3 r4
 clear V
 clear aB bK h3 h5 h6
 go_upto_region 4 with (go_at_call 124;refine (HF.out _ aS.out).mono ?_;rintro e w1 ⟨rfl,hb⟩;have T:=Qq hb;clear hb)
 have aW:=kB T.out H3.out
 have bF:=Qq aW;have Z:=Qq (aS.out.thn T.out)
 clear r0 r1 r2 r3 r4
 have V:=fun j=>Qk _ _ j _ _ _ aW
 obtain ⟨r0,r1,r2,r3,r4⟩:=Qzj V
 simp only [Qf,Qg,Qh] at r0 r1 r2 r3 r4
 clear V
 clear aW
 go_upto_region 5 with (go_at_call 125;refine (HC.out _ Z.out).mono ?_;rintro e w2 ⟨np,D,kp,A,css,rfl,hO,hb,hN⟩;obtain ⟨HO,HN,aL⟩:=Qqo hO hN hb;have N:=kB hb bF.out;have bG:=Qq N;have q0:=Qk _ _ 0 _ _ _ N;have q1:=Qk _ _ 1 _ _ _ N;have q2:=Qk _ _ 2 _ _ _ N;have bT:=Qk _ _ 3 _ _ _ N;have bV:=Qk _ _ 4 _ _ _ N;obtain ⟨f0,f1,f2,f3,f4⟩:=frz5 N;simp only [Qf,Qg,Qh] at q0 q1 q2 bT bV;clear hO hN hb N)
 obtain ⟨g,x0,x1,x2,x3,x4,l,rfl,dC,bL⟩:=own_head HO.out
 have dA:w.heap.size+3≤w1.heap.size:=by have:=T.out.size;have:=Z8 H6.out;omega
 have aC:(Zl w2 w (.int .i64 4) Qqd Qqe (.slice np (x::ns).length D) (Qqb g 0 (p::ks).length A)).heap[w.heap.size]?=some (.cells #[.int .i64 4,Qqd,Qqe,.slice np (ns.length+1) D,Qqb g 0 (ks.length+1) A] 36 (0,0)):=Yd bG.out
 have J:∀ k,k≠w.heap.size→(Zl w2 w (.int .i64 4) Qqd Qqe (.slice np (x::ns).length D) (Qqb g 0 (p::ks).length A)).heap[k]?=w2.heap[k]?:=fun k hk=>Zf hk
 have aE:Below w w (Zl w2 w (.int .i64 4) Qqd Qqe (.slice np (x::ns).length D) (Qqb g 0 (p::ks).length A)):=Zc (Z.out.thn aL.out) (Q9 _)
 unfold Zl at aC J aE
 try simp only [List.length_cons]
 simp only [List.length_cons] at aC J aE
 generalize World.setCell _ _ _=w3 at aC J aE ⊢
 have dD:w.heap.size+3≤g:=Qqj
 have bM:=Z8 H5.out
 have bN:=Z8 H6.out
 have dJ:=T.out.size
 have aY:=(J g Qqj).trans bL
 have cP:=Qq (HO.out.move (w':=w3) (Q9 _) (fun b hb h=>J b (by
  rcases h with h | h
  ·have h':w1.heap.size≤b:=h
   omega
  have:=(HO.out.row.lt b h).1
  omega)))
 have cO:=Qq (HN.out.frame (w':=w3) (fun b hS dH=>J b (by have:=hS.1;omega)))
 have aV:=Qq ((J (w+1) Qqj).trans (kE aL.out Qqj ((T.out.block _ bM).trans H5.out)))
 have bE:=Qq ((J (w+2) Qqj).trans (kE aL.out Qqj ((T.out.block _ bN).trans H6.out)))
 obtain ⟨aU,aT,cN⟩:=Qqo aC aE aY
 have cU:=Z8 aY
 clear aC aE J bL aY HO HN bF bG aL T Z aS H3 H5 H6 f0 f1 f2 f3 f4 q0 q1 q2 bT bV r0 r1 r2 r3 r4
 have bO:=Z8 aU.out
 have bP:=Z8 aV.out
 have cW:=Z8 bE.out
 have HD:=Qq (show ∀ W,(fun W=>W.heap[w.heap.size]?=some (.cells #[.int .i64 4,Qqd,Qqe,.slice np (ns.length+1) D,Qqb g 0 (ks.length+1) A] 36 (0,0))∧W.heap[w.heap.size+1]?=some (.cells (Qqg y q3 l3 q4 l4) 36 (0,0))∧Below w w W) W→Qqa W w 4 (Qqb g 0 (ks.length+1) A)∧Qze W (w+1) y.kind y.n y.s (.slice q3 y.names.length l3) (.slice q4 y.kids.length l4) from fun W h=>
  ⟨(Qk _ _ 4 _ _ _ h.1).trans rfl,(Qk _ _ 0 _ _ _ h.2.1).trans rfl,(Qk _ _ 1 _ _ _ h.2.1).trans rfl,(Qk _ _ 2 _ _ _ h.2.1).trans rfl,(Qk _ _ 3 _ _ _ h.2.1).trans rfl,(Qk _ _ 4 _ _ _ h.2.1).trans rfl⟩)
 have bC:=Qq (show ∀ W,Below w3 w3 W→(fun W=>W.heap[w.heap.size]?=some (.cells #[.int .i64 4,Qqd,Qqe,.slice np (ns.length+1) D,Qqb g 0 (ks.length+1) A] 36 (0,0))∧W.heap[w.heap.size+1]?=some (.cells (Qqg y q3 l3 q4 l4) 36 (0,0))∧Below w w W) W from fun W hb=>⟨kE hb bO aU.out,kE hb bP aV.out,aT.out.thn hb⟩)
 have dE:(0:Int)≤0:=Int.le_refl 0
 have dF:(0:Int)<((ks.length+1:Nat):Int):=Qqj
 have dG:(0:Int)<(ks.length:Int)+1:=Qqj
 refine wp_region_held_drew (S:=fun W=>W.heap[w.heap.size]?=some (.cells #[.int .i64 4,Qqd,Qqe,.slice np (ns.length+1) D,Qqb g 0 (ks.length+1) A] 36 (0,0))∧W.heap[w.heap.size+1]?=some (.cells (Qqg y q3 l3 q4 l4) 36 (0,0))∧Below w w W) Qqy (bC.out _ (Qz _ _).drew) (fun G=>?_)
 refine tkD (v:=?_) 0 (fun w0 I=>?_) ?_;rotate_left
 ·(obtain ⟨b4,y0,y1,y2,y3,y4⟩:=HD.out w0 I;go_simp;try with_reducible rfl)
 refine tkD (v:=?_) 1 (fun w0 I=>?_) ?_;rotate_left
 ·(obtain ⟨b4,y0,y1,y2,y3,y4⟩:=HD.out w0 I;go_simp;try with_reducible rfl)
 refine tkD (v:=?_) 2 (fun w0 I=>?_) ?_;rotate_left
 ·(obtain ⟨b4,y0,y1,y2,y3,y4⟩:=HD.out w0 I;go_simp;try with_reducible rfl)
 refine tkD (v:=?_) 3 (fun w0 I=>?_) ?_;rotate_left
 ·(obtain ⟨b4,y0,y1,y2,y3,y4⟩:=HD.out w0 I;go_simp;try with_reducible rfl)
 have aM:Hid (Below w3 w3 w3.drew):=Qq (Qz _ _).drew
 generalize w3.drew=wd at G aM ⊢
 refine rdD 4 (fun K hK=>?_) Qo
 go_simp
 refine (cM.out _ (aT.out.thn aM.out)).mono ?_
 rintro e w5 ⟨cs',rfl,hv,hb⟩
 obtain ⟨u3,m3,u4,m4,O,_⟩:=Z9.cells hv
 simp only [vcs] at O
 subst O
 have cS:=Qq hv
 have M:=Qq (aM.out.thn hb)
 have dI:=aM.out.size
 clear hv hb
 try dsimp only
 refine hK.out _ _ (bC.out _ M.out) (fun G=>?_)
 clear hK K
 refine tkD (v:=?_) 5 (fun w0 I=>?_) ?_;rotate_left
 ·(obtain ⟨b4,y0,y1,y2,y3,y4⟩:=HD.out w0 I;go_simp;try with_reducible rfl)
 have aP:=kE M.out cU cN.out
 have dB:=Qq aP
 have fz:=fun j=>Qn _ _ j _ _ aP
 obtain ⟨f0,f1,f2,f3,f4⟩:=Qzj fz
 have V:=fun j=>Qk _ _ j _ _ _ aP
 obtain ⟨r0,r1,r2,r3,r4⟩:=Qzj V
 simp only [Qf,Qg,Qh] at r0 r1 r2 r3 r4
 clear V fz
 clear aP
 refine rdD 6 (fun K hK=>?_) Qo
 go_simp
 have U:∀ k,k≠g→(Zl w5 g y.kind y.n y.s (.slice u3 y.names.length m3) (.slice u4 y.kids.length m4)).heap[k]?=w5.heap[k]?:=fun k hk=>Zf hk
 obtain ⟨cZ,aO⟩:=A5 (W:=Zl w5 g y.kind y.n y.s (.slice u3 y.names.length m3) (.slice u4 y.kids.length m4)) (cP.out.below M.out) Qqk rfl (fun l x0 x1 x2 x3 x4 h=>put5_row h) (fun k hk _=>U k hk) (Z9.move cS.out (fun b h _=>U b (by have h':wd.heap.size≤b:=h;omega)) (fun b _ h=>⟨by have h':wd.heap.size≤b:=h;show w1≤b;omega,by have h':wd.heap.size≤b:=h;omega⟩))
 have aN:=(cO.out.below M.out).frame (w':=Zl w5 g y.kind y.n y.s (.slice u3 y.names.length m3) (.slice u4 y.kids.length m4)) (fun b hS _=>U b (fun e=>hS.2 (by rw [e];rfl)))
 have aD:=(U w Qqj).trans (kE M.out bO aU.out)
 have aX:=(U (w+1) Qqj).trans (kE M.out bP aV.out)
 have Y:=(U (w+2) Qqj).trans (kE M.out cW bE.out)
 have aF:Below w w (Qqm w5 g y u3 m3 u4 m4):=Zc (aT.out.thn M.out) Qqj
 unfold Zl at aO aN aD aX Y aF
 refine hK.out _ _ ⟨aD,aX,aF⟩ (fun G=>?_)
 refine wpAnyH_done Qqy ?_ _
 clear hK K G f0 f1 f2 f3 f4 r0 r1 r2 r3 r4 U aX
 generalize World.setCell _ _ _=w9 at aO aN aD Y aF ⊢
 obtain ⟨cQ,bD,cR,cL⟩:=Qqp aO aN Y aF
 have V:=fun j=>Qk _ _ j _ _ _ aD
 obtain ⟨z0,z1,z2,z3,z4⟩:=Qzj V
 simp only [Qf,Qg,Qh] at z0 z1 z2 z3 z4
 clear V
 have fz:=fun j=>Qn _ _ j _ _ Y
 obtain ⟨f0,f1,f2,f3,f4⟩:=Qzj fz
 have V:=fun j=>Qk _ _ j _ _ _ Y
 obtain ⟨r0,r1,r2,r3,r4⟩:=Qzj V
 simp only [Qf,Qg,Qh] at r0 r1 r2 r3 r4
 clear V fz
 clear aD Y aO aN aF
 go_wp2_with fail
 show bodyPost _ _ _ _ _ (Zl w9 (w+1+1) (.int .i64 4) Qqd Qqe (.slice np (ns.length+1) D) (Qqb g 0 (ks.length+1) A))
 refine Q7 (v:=.tuple #[.agg #[.int .i64 4,Qqd,Qqe,.slice np (ns.length+1) D,Qqb g 0 (ks.length+1) A],.bool true]) (by simp [results,results137,go_sem,Zd cR.out]) rfl ⟨_,rfl,?_,Zc cL.out Qqj⟩
 refine Y8 (k:=4) (n:=0) (s:=[]) (names:=x::ns) (kids:=y::ks) Qqk ((bD.out.frame (fun b hS _=>Zf (by have:=hS.1;omega))).mono (fun b _ hS=>by have:=hS.1;show w≤b;omega)) ?_
 have cX:=cQ.out.sl (S':=fun b=>w1≤b) (by have h:=(bD.out.len);obtain ⟨_,_,h1,h2⟩:=h;simp only [List.length_cons] at *;exact cV) (fun b h=>h) (fun b _ h=>h)
 exact (cX.frame (fun b hS _=>Zf (by have h':w1.heap.size≤b:=hS;omega))).mono (fun b _ hS=>by have h':w1.heap.size≤b:=hS;show w≤b;omega)
def Mp (w:World) (l:List Rel) (e:Ending) (w':World):Prop:=∃ p cap,e=.returned (.slice p l.length cap)∧Sl Y7 (fun _=>True) w' (.slice p l.length cap) l∧Below w w w'
theorem F8 (S0 S1:Nat→Prop) (lv:Value) (l:List Rel) (tn:Bs) (x:Val) (cx:List Value) (w:World) (i:Nat) (o:Rel) (hl0:Sl Y7 S0 w lv l) (hx0:Z9 S1 w cx x) (hf:l.findIdx? (fun r=>decide (r.table=tn))=some i) (ho:l[i]?=some o)
  (hne:∀ y ∈ o.rows,eqv y x=false) (hgr:∀ y ∈ o.rows,decide (0<Yz y x)=false) (hrl:∀ r ∈ l,r.rows.length≤10000):
  Calls prog 16 #[lv,sv tn,cx] w (Mp w (l.set i ⟨o.table,o.rows++[x]⟩)):=by
 have hx:Z9 (fun b=>b<w) w cx x:=hx0.move (.refl _ _) (fun b hb _=>hb)
 have aG:=Qq (fun W (hb:Below w w W)=>Tk S0 lv l W (hl0.below hb))
 have cG:V5 (fun r=>decide (r.table=tn)) l=i:=by unfold V5;rw [hf]
 have aH:=Qq (fun v W (hs:Sl Y7 (fun _=>True) W v l)=>My _ v l tn W hs)
 rw [cG] at aH
 have cF:i<l.length:=(Qj ho).1
 have cH:l.length≤1000000:=by obtain ⟨_,_,_,h⟩:=hl0.len;exact h
 obtain ⟨lp,lc,rfl,_⟩:=hl0.len
 obtain ⟨HX,HO,bQ⟩:=Qqo hx ho hrl
 have dQ:=hrl o (Qy ho)
 have aY:o.rows.any (fun v=>eqv v x)=false:=by rw [List.any_eq_false];intro y hy;rw [hne y hy];decide
 have aZ:V5 (fun v=>decide (0<Yz v x)) o.rows=-1:=Uc (fun j y hy=>hgr y (Qy hy))
 obtain ⟨x3,aS,x4,aT,cD,_⟩:=Z9.cells hx
 simp only [vcs] at cD
 have HB:=Qq (fun v W (hb:Below w w W) (hs:Sl Ze (fun _=>True) W v o.rows) (hc:∀ j u,cx[j]?=some u→W.cell? ⟨w,j,none⟩=some u) (hR:w<W.heap.size)=>conFn Tryz.cfVal Ze isAgg36 sizeOf36 58 #[Qqc w] (enters_of func58 Qqy rfl) (fun _=>True) v o.rows W _ hs
  (ins1_any w (fun _=>True) x cx o.rows W hc hR (hx.move (.of_below hb) (fun _ _ _=>trivial))))
 have HI:=Qq (fun v W (hb:Below w w W) (hs:Sl Ze (fun _=>True) W v o.rows) (hc:∀ j u,cx[j]?=some u→W.cell? ⟨w,j,none⟩=some u) (hR:w<W.heap.size)=>H8 Tryz.ixVal Ze isAgg36 sizeOf36 60 #[Qqc w] (enters_of func60 Qqy rfl) (fun _=>True) v o.rows W _ hs
  (ins2_any w (fun _=>True) x cx o.rows W hc hR (hx.move (.of_below hb) (fun _ _ _=>trivial))))
 rw [aY] at HB
 rw [aZ] at HI
 subst cD
 clear hx hx0 hl0 hf cG hne hgr hrl aY aZ ho
 unfold sv at aH ⊢
 obtain ⟨n,hn⟩:=eX (l.length)
 unfold P7 at aG
 rw [hn] at aG cF cH ⊢
 have HN:=Qq hn
 clear hn
 have dN:(0:Int)≤(i:Int):=Qqj
 have dO:(i:Int)<(n:Int):=Qqj
 have dP:decide ((i:Int)<0)=false:=Qqk
 go_enter func16,ntmps16
 go_wp2_with fail
 obtain ⟨W1,aJ⟩:=eX (w.alloc (.cells (Qqg x x3 aS x4 aT) 36))
 have bC:=eqB aJ (Zg _ _)
 have bX:=eqH (b:=w.heap.size) aJ (Qw _ _)
 have aF:=Qq bC;have bU:=Qq bX
 rw [aJ]
 have cC:=aG.out W1 bC
 clear aJ bC bX
 refine cC.mono ?_
 rintro e w2 ⟨p,cap,rvs,rfl,I,cA⟩
 obtain ⟨g,dE,hv,dL,dM⟩:=I.row.form (by rw [HN.out];omega)
 simp only [Qr] at hv
 obtain ⟨rfl,-,rfl⟩:=hv
 obtain ⟨bH,aB⟩:∃ bH,rvs[i]?=some bH:=⟨_,Qx (by rw [I.len,HN.out];exact cF)⟩
 obtain ⟨css,A⟩:=I.rows i o bH HO.out aB
 obtain ⟨aD,aC,rfl⟩:=A.form
 obtain ⟨bR,bJ,G⟩:=Qqo I cA aB
 have bO:=Qq (aH.out _ w2 (I.sl (by rw [HN.out];omega) (fun r hr=>by have:=bQ.out r hr;omega) _ (fun _ _=>trivial) (fun _ _ _=>trivial)))
 clear I cA A aB cC aG aH
 go_wp2_with fail
 refine bO.out.mono ?_
 rintro e w3 ⟨rfl,aN⟩
 have U:=bR.out.below aN
 have aL:=kB aN (kE bJ.out (Z8 bU.out) bU.out)
 obtain ⟨aI,D,-,J⟩:=U.at HO.out G.out
 have c1:=Qk _ _ (i*2+1) _ _ _ D
 rw [J] at c1
 obtain ⟨css,A⟩:=U.rows i o _ HO.out G.out
 have aU:=Qq (aF.out.trans ((bJ.out.thn aN).mono aF.out.size))
 have cQ:=Qq (HB.out _ w3 aU.out (A.sl Qqj (fun _ _=>trivial) (fun _ _ _=>trivial)) (fun j u hu=>by rw [Qk _ _ j _ _ _ aL];simpa using hu) (Z8 aL))
 have bS:=Qq U;have cW:=Qq aL
 clear U aL D J A aN aI HB
 go_wp2_with fail
 refine cQ.out.mono ?_
 rintro e w4 ⟨rfl,aO⟩
 have V:=bS.out.below aO
 have aM:=kB aO cW.out
 obtain ⟨aI,D,-,J⟩:=V.at HO.out G.out
 have c4:=Qk _ _ (i*2+1) _ _ _ D
 rw [J] at c4
 obtain ⟨css,A⟩:=V.rows i o _ HO.out G.out
 have aV:=Qq (aU.out.thn aO)
 have cU:=Qq (HI.out _ w4 aV.out (A.sl Qqj (fun _ _=>trivial) (fun _ _ _=>trivial)) (fun j u hu=>by rw [Qk _ _ j _ _ _ aM];simpa using hu) (Z8 aM))
 have bT:=Qq V;have cX:=Qq aM
 clear V aM D J A aO aI HI c1
 go_wp2_with fail
 refine cU.out.mono ?_
 rintro e w5 ⟨rfl,aP⟩
 have N:=bT.out.below aP
 have O:=kB aP cX.out
 obtain ⟨aI,D,-,J⟩:=N.at HO.out G.out
 have c5:=Qk _ _ (i*2+1) _ _ _ D
 rw [J] at c5
 have x0:=rA0 O;have x1:=rA1 O;have x2:=rA2 O;have dR:=rA3 O;have dS:=rA4 O
 obtain ⟨css,A⟩:=N.rows i o _ HO.out G.out
 have aW:=Qq (aV.out.thn aP)
 have cE:=Z8 D
 have dJ:=Z8 O
 have cI:g≠w5.heap.size:=Qqj
 have dF:w.heap.size≠w5.heap.size:=Qqj
 have cJ:some g≠(Value.slice aD o.rows.length aC).ownBlock:=fun e=>Ym N.row A.row Qqx rfl e.symm
 obtain ⟨M,T,bL,cR⟩:=Qqp N A D J
 have cL:Z9 (But (On (.slice (some ⟨g,0,none⟩) n cap) rvs) (.slice aD o.rows.length aC)) w5 (Qqg x x3 aS x4 aT) x:=by
  refine HX.out.move (.of_below aW.out) (fun b _ hb=>?_)
  have dK:b<w.heap.size:=hb
  have dH:=aF.out.size
  refine ⟨⟨fun e=>?_,fun u hu e=>?_⟩,fun e=>?_⟩
  ·have:g=b:=Qb e
   omega
  ·obtain ⟨j,hj⟩:=Zk hu
   obtain ⟨y,hy⟩:∃ y,l[j]?=some y:=⟨_,Qx (by rw [← M.out.len];exact (Qj hj).1)⟩
   obtain ⟨_,bF⟩:=M.out.rows j y u hy hj
   have:=(bF.row.lt b e).1
   omega
  have:=(T.out.row.lt b e.symm).1
  omega
 have cY:=Qq cL
 clear N O D J A aP cL c4
 obtain ⟨W8,aK⟩:=eX ((w5.alloc (.cells (Qqg x x3 aS x4 aT) 36)).drew)
 have Y:Below w5 w5 W8:=by rw [← aK];exact (Zg _ _).drew
 have bB:W8.heap[w5.heap.size]?=some (.cells (Qqg x x3 aS x4 aT) 36 (0,0)):=by rw [← aK,heap_drew];exact Qw _ _
 have bA:W8=w5.heap.size+1:=by rw [← aK];simp
 have bY:Sl Ze (But (On (.slice (some ⟨g,0,none⟩) n cap) rvs) (.slice aD o.rows.length aC)) W8 (.slice (some ⟨w5,0,none⟩) 1 1) [x]:=by
  refine ⟨_,1,rfl,Qqk,fun _=>⟨w5.heap.size,0,rfl,?_,Z8 bB,fun j u hj=>?_⟩⟩
  ·refine ⟨⟨fun e=>?_,fun u hu e=>?_⟩,fun e=>?_⟩
   ·exact cI (Qb e)
   ·obtain ⟨j,hj⟩:=Zk hu
    obtain ⟨y,hy⟩:∃ y,l[j]?=some y:=⟨_,Qx (by rw [← M.out.len];exact (Qj hj).1)⟩
    obtain ⟨_,bF⟩:=M.out.rows j y u hy hj
    have:=(bF.row.lt _ e).2
    omega
   have:=(T.out.row.lt _ e.symm).2
   omega
  have h0:=(Qj hj).1
  simp at h0
  subst h0
  simp at hj
  subst hj
  refine ⟨_,fun j u hu=>?_,cY.out.move (.of_below Y) Qzx⟩
  rw [Nat.zero_mul,Nat.zero_add,Qk _ _ j _ _ _ bB]
  simpa using hu
 have bN:=Qq (insEnd _ W1 W8 (.slice aD o.rows.length aC) o.rows css x (some ⟨w5,0,none⟩) 1 (T.out.below Y) bY Qqj Qqj)
 have cS:=Qq (fun (w6:World) (hg:W8.grownBy w6 (Value.slice aD o.rows.length aC).ownBlock)=>(hg.block g Qqj cJ).trans ((Y.block g cE).trans bL.out))
 have c8:=kD Y cE c5
 have bK:=Qq Y;have dD:=Qq bA
 have dG:=Qq aK
 clear bY bB Y bA
 go_wp2_with fail
 go_region_with (first | (go_at_call 62;refine bN.out.mono ?_;rintro e w6 ⟨p6,c6,bV,rfl,Z,bE,bZ⟩;have bD:=cS.out w6 bE;have f6:=Qn _ _ (i*2+1) _ _ bD;have k6:=Qk _ _ (i*2+1) _ _ _ bD;rw [cR.out] at k6;obtain ⟨cV,bM,cO⟩:=Qqo Z bE bZ;clear bD Z bE bZ))
 all_goals
  go_wp2_with fail
  go_ret
  have Z:=cV.out;have bW:=cO.out
  simp only [Ql,List.length_cons,List.length_nil,Nat.zero_add] at Z bW
  have hP:=(M.out.below bK.out).put' HN.out HO.out G.out ⟨bV,Z⟩ bM.out (by
   rcases bW with h | h
   ·exact .inl h
   exact .inr fun g' e=>by rw [h] at e;exact Nat.le_of_eq (Qb e))
  have aA:(l.set i ⟨o.table,o.rows++[x]⟩).length=n:=by rw [List.length_set];exact HN.out
  have dB:∀ r ∈ l.set i ⟨o.table,o.rows++[x]⟩,r.rows.length≤1000000:=by
   intro r hr
   rcases List.mem_or_eq_of_mem_set hr with h | rfl
   ·have:=bQ.out r h;omega
   simp;omega
  refine ⟨some ⟨g,0,none⟩,cap,by rw [aA];rfl,by rw [aA];exact hP.sl (by rw [aA];exact cH) dB _ (fun _ _=>trivial) (fun _ _ _=>trivial),?_⟩
  have cB:=aW.out.thn bK.out
  have dI:=aF.out.size
  refine (cB.grown bM.out cB.size (fun b hb=>?_)).setCell (p:=⟨g,i*2+1,none⟩) (by show w≤g;omega) _
  have:=(T.out.row.lt b hb).1
  omega
end Go.Proofs.YtdpibdpbgokmoaaGreatDoor
