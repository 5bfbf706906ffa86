import Derived.Test.YtdpibdpbgokmoaaGreatDoorA31
set_option maxRecDepth 100000
set_option maxHeartbeats 400000000
namespace Go.Proofs.YtdpibdpbgokmoaaGreatDoor
open Go.RowKit Go.Shelf Go.Lib Tryz
def Ox (us:List Sm) (v:Val) (t:Ty):Bool:=if t.kind=3 then Hv us v t.name else v.kind==t.kind
def De (us:List Sm) (t:Tbl) (v:Val):Bool:=(v.kind==4)&&decide (v.names=(Jd t.columns).1)&&Iu (Ox us) v.kids (Jd t.columns).2
def Js (t:Tbl) (v:Val):List Val:=(keyOf t.key v).getD []
def Ke (K:Val->List Val):List Val->Ft
 | []=>Ft.zero
 | v::l=>match l.find? (λu=>Iu eqv (K v) (K u)) with
  | some u=>⟨11,[],v,u⟩
  | none=>Ke K l
def cfR (s:Sc) (l:List Rel) (c i:Nat):Ft:=
 match c with
 | 0=>G7 (l.getD i ⟨[],[]⟩).rows
 | 1=>X9 9 (De s.sums (s.tables.getD i Tbl.zero)) (l.getD i ⟨[],[]⟩).rows
 | 2=>Ke (Js (s.tables.getD i Tbl.zero)) (l.getD i ⟨[],[]⟩).rows
 | 3=>Yf s l (l.getD i ⟨[],[]⟩).rows (s.tables.getD i Tbl.zero).refs
 | _=>X9 13 (Vl 8 (s.tables.getD i Tbl.zero)) (l.getD i ⟨[],[]⟩).rows
section
variable {s:Sc} {l:List Rel} {c i k:Nat} {t:Tbl} {r:Rel} {x u:Val} {rows:List Val} {p:Val->Bool} {code:Int} {K:Val->List Val} {f:Rf} {fs:List Rf}
theorem cfR_0 (hr:l[i]?=some r):cfR s l 0 i=G7 r.rows:=by
 unfold cfR;rw [Qs,hr];rfl
theorem cfR_1 (hr:l[i]?=some r) (ht:s.tables[i]?=some t):cfR s l 1 i=X9 9 (De s.sums t) r.rows:=by
 show X9 9 (De s.sums (s.tables.getD i Tbl.zero)) (l.getD i ⟨[],[]⟩).rows=_
 rw [Qs,Qs,hr,ht];rfl
theorem cfR_2 (hr:l[i]?=some r) (ht:s.tables[i]?=some t):cfR s l 2 i=Ke (Js t) r.rows:=by
 show Ke (Js (s.tables.getD i Tbl.zero)) (l.getD i ⟨[],[]⟩).rows=_
 rw [Qs,Qs,hr,ht];rfl
theorem cfR_3 (hr:l[i]?=some r) (ht:s.tables[i]?=some t):cfR s l 3 i=Yf s l r.rows t.refs:=by
 show Yf s l (l.getD i ⟨[],[]⟩).rows (s.tables.getD i Tbl.zero).refs=_
 rw [Qs,Qs,hr,ht];rfl
theorem cfR_4 (hr:l[i]?=some r) (ht:s.tables[i]?=some t):cfR s l 4 i=X9 13 (Vl 8 t) r.rows:=by
 show X9 13 (Vl 8 (s.tables.getD i Tbl.zero)) (l.getD i ⟨[],[]⟩).rows=_
 rw [Qs,Qs,hr,ht];rfl
theorem He (hx:rows[k]?=some x) (hp:p x=false) (hb:∀ y ∈ rows.take k,p y=true):X9 code p rows=⟨code,[],x,Val.zero⟩:=by
 obtain ⟨hk,he⟩:=Qj hx
 have h:rows.findIdx? (λr=>!p r)=some k:=by
  rw [List.findIdx?_eq_some_iff_getElem]
  refine ⟨hk,by rw [he,hp];rfl,λi hi=>?_⟩
  have h2:=hb rows[i] (List.mem_take_iff_getElem.2 ⟨i,Ia,rfl⟩)
  rw [h2];decide
 unfold X9
 rw [h]
 show (⟨code,[],rows.getD k Val.zero,Val.zero⟩:Ft)=_
 rw [Qs,hx];rfl
theorem Bi (hb:∀ y ∈ rows.take rows.length,p y=true):(X9 code p rows).code=0:=by
 rw [List.take_length] at hb
 rw [U2 hb];rfl
theorem Bo (hx:rows[k]?=some x) (hp:p x=true) (hb:∀ y ∈ rows.take k,p y=true):∀ y ∈ rows.take (k+1),p y=true:=by
 intro y hy
 rw [Gn hx] at hy
 rcases Z4.1 hy with h | h
 ·exact hb y h
 rw [Z5.1 h];exact hp
theorem F6 {T:Type} {xs:List T} {k:Nat} {x:T} (hx:xs[k]?=some x):xs.drop k=x::xs.drop (k+1):=by
 obtain ⟨hk,he⟩:=Qj hx
 rw [<- he];exact Qp hk
theorem keyR_hit (hx:rows[k]?=some x) (hf:(rows.drop (k+1)).find? (λu=>Iu eqv (K x) (K u))=some u):Ke K (rows.drop k)=⟨11,[],x,u⟩:=by
 rw [F6 hx,Ke,hf]
theorem C5 (hx:rows[k]?=some x) (hf:(rows.drop (k+1)).find? (λu=>Iu eqv (K x) (K u))=none):Ke K (rows.drop k)=Ke K (rows.drop (k+1)):=by
 rw [F6 hx,Ke,hf]
theorem find_at {q:Val->Bool} (hu:rows[k]?=some u) (hq:q u=true):(rows.drop k).find? q=some u:=by
 rw [F6 hu,List.find?_cons,hq]
theorem Qzm {q:Val->Bool} (hu:rows[k]?=some u) (hq:q u=false):(rows.drop k).find? q=(rows.drop (k+1)).find? q:=by
 rw [F6 hu,List.find?_cons,hq]
theorem Rh (hf:fs[k]?=some f) (h:X9 12 (Dj s l f) rows=⟨12,[],x,Val.zero⟩):Yf s l rows (fs.drop k)=⟨12,[],x,Val.zero⟩:=by
 rw [F6 hf,Yf,if_neg (by rw [h];show ¬ (12:Int)=0;decide),h]
theorem Oj (hf:fs[k]?=some f) (h:(X9 12 (Dj s l f) rows).code=0):Yf s l rows (fs.drop k)=Yf s l rows (fs.drop (k+1)):=by
 rw [F6 hf,Yf,if_pos h]
theorem refP_is {b b':Bool} (hb:(Yp x f.column).isSome=b) (hu:(Yp x f.column).getD Val.zero=u) (hb':(Jx s l f.table [u]).isSome=b'):Dj s l f x=!(!b||!b'):=by
 unfold Dj
 cases h:Yp x f.column with
 | none=>rw [h] at hb;subst hb;rfl
 | some v=>
  rw [h] at hb hu
  subst hb
  obtain rfl:v=u:=hu
  subst hb'
  simp
def Dn (s:Sc) (l:List Rel) (c k:Nat):Prop:=∀ c' i',i'<s.tables.length->(c'<c\/c'=c/\i'<k)->(cfR s l c' i').code=0
theorem Qjb:Dn s l 0 0:=λc' i' _ h=>Ia
theorem Kg (h:Dn s l c k) (hk:(cfR s l c k).code=0):Dn s l c (k+1):=λc' i' A D=>by
 by_cases e:c'=c/\i'=k
 ·obtain ⟨rfl,rfl⟩:=e;exact hk
 exact h c' i' A Ia
theorem Kj (h:Dn s l c s.tables.length):Dn s l (c+1) 0:=λc' i' A D=>h c' i' A Ia
theorem Ch (hn:U3 s l=true) (hr:l[i]?=some r):((s.tables[i]?).getD Tbl.zero).name=r.table:=by
 have h:∀ (a:List Tbl) (b:List Rel) (i:Nat),Iu (λ(t:Tbl) (r:Rel)=>Ua r.rows&&decide (t.name=r.table)) a b=true->b[i]?=some r->((a[i]?).getD Tbl.zero).name=r.table:=by
  intro a
  induction a with
  | nil=>
   intro b i h hb
   cases b with
   | nil=>simp at hb
   | cons y b=>simp [Iu] at h
  | cons x a ih=>
   intro b i h hb
   cases b with
   | nil=>simp at hb
   | cons y b=>
    simp only [Iu,Bool.and_eq_true] at h
    cases i with
    | zero=>
     simp only [Qg,Zv] at hb
     subst hb
     simpa using h.1.2
    | succ i=>exact ih b i h.2 (by simpa using hb)
 exact h s.tables l i hn hr
def RF (s:Sc) (l:List Rel) (f:Ft):Prop:=(U3 s l=true->Ur s.tables.length (cfR s l) (λi=>((s.tables[i]?).getD Tbl.zero).name) f)/\(U3 s l=false->f=⟨1,[],Val.zero,Val.zero⟩)
theorem rf_arg (hn:U3 s l=false):RF s l ⟨1,[],Val.zero,Val.zero⟩:=⟨(λh=>by rw [hn] at h;cases h),λ_=>rfl⟩
theorem rf_ok (hn:U3 s l=true) (h:Dn s l 5 0):RF s l Ft.zero:=⟨λ_=>.inl ⟨rfl,λc i hc hi=>h c i hi (.inl hc)⟩,λh=>by rw [hn] at h;cases h⟩
theorem Pg (hn:U3 s l=true) (hU:Dn s l c i) (hc:c<5) (hr:l[i]?=some r) (hi:i<s.tables.length) (hf:cfR s l c i=⟨code,[],x,u⟩) (h0:code≠0):RF s l ⟨code,r.table,x,u⟩:=
 ⟨λ_=>.inr ⟨c,i,hc,hi,by rw [hf];exact h0,(by rw [hf];show _=(⟨code,((s.tables[i]?).getD Tbl.zero).name,x,u⟩:Ft);rw [Ch hn hr]),hU⟩,λh=>by rw [hn] at h;cases h⟩
end
theorem Fu {s:Sc} {l:List Rel} {f:Ft} {w W:World} {c1 c2:List Value} (h:RF s l f) (h1:Z9 (λb=>b<w) W c1 f.row) (h2:Z9 (λb=>b<w) W c2 f.other) (hl:f.table.length<=1000000) (hB:Below w w W):
  Jq w s l (cfR s l) (.returned (.agg (.int .i64 f.code::sv f.table::(c1++c2)).toArray)) W:=⟨f,h.1,h.2,_,rfl,⟨c1,c2,rfl,hl,h1,h2⟩,hB⟩
theorem insRoomS (S:Nat->Prop) (B:Nat) (w:World) (g n cap i:Nat) (xs:List Bs) (css:List (List Value)) (y:Bs) (cy:List Value) (qb qo c:Nat) (hO:Own Zh 9 S B w (.slice (some ⟨g,0,none⟩) n cap) xs css) (hn:xs.length=n) (hi:i<n) (hroom:n+1<=cap) (hqb:qb≠g)
  (hy:Zh.R (But S (.slice (some ⟨g,0,none⟩) n cap)) w cy y) (hcy:∀ j u,cy[j]?=some u->w.cell? ⟨qb,qo+j,none⟩=some u) (hl:n<=100000)
  (tA:TypeId) (kA:Nat) (hsa:w.shape? qb=some (tA,kA)) (hfa:w.frozen? ⟨qb,qo,none⟩=false) (hfe:w.frozen? ⟨qb,kA,none⟩=false):
  Calls prog 169 #[Io g 0 n cap,i,Io qb qo 1 c] w (λe w'=>e=.returned (.slice (some ⟨g,0,none⟩) (n+1) cap)/\∃ X,w'.heap[g]?=some (.cells X 9 (0,0))/\X.size=cap/\X.toList.take ((n+1))=(css.take i).flatten++cy++(css.drop i).flatten/\(∀ k,k≠g->w'.heap[k]?=w.heap[k]?)/\w'=w.heap.size/\w.grownBy w' (some g)):=by
 obtain ⟨i0,j1,j2,j3,j4⟩:=Y8 (P:=prog) (t:=9) (z:=.string ⟨#[]⟩) (n:=1) (b:=16) Ir
 have mixed:prog.follows .mixedOrders=true:=Ir
 have bB:(prog.info? 9).map (·.size)=some 1:=by rw [j1];simp [j3]
 rcases hO.row.2 with ⟨h,_⟩ | ⟨g',bK,I,hv,bR,aF,bT,bQ,O,U⟩
 ·cases h
 simp only [Qr,Zv,Addr.mk.injEq] at hv
 obtain ⟨⟨rfl,-,-⟩,-,rfl⟩:=hv
 have aO:=hO.cs.all
 have aD:=hO.cs.flat
 have aX:css.length=n:=by rw [hO.cs.len,hn]
 obtain ⟨A,hA⟩:=eX ((css.take i).flatten)
 obtain ⟨D,hD⟩:=eX ((css.drop i).flatten)
 have aM:css.flatten=A++D:=by rw [<- hA,<- hD,<- List.flatten_append,List.take_append_drop]
 have aN:A.length=i:=by rw [<- hA,V0 (λc hc=>aO c (List.mem_of_mem_take hc)),Qm,aX,Z0 Ia];exact Nat.mul_one _
 have aA:D.length=(n - i):=by rw [<- hD,V0 (λc hc=>aO c (Zw hc)),Zq,aX];exact Nat.mul_one _
 have N:∀ j v,(A++D)[j]?=some v->w.cell? ⟨g,j,none⟩=some v:=by
  intro j v T
  rw [<- aM,<- U,List.getElem?_take] at T
  split at T
  ·rw [Qk w g j I _ (0,0) aF];simpa using T
  cases T
 have aT:∀ v ∈ D,v.oneCell'=true:=by
  intro u hu
  rw [<- hD] at hu
  obtain ⟨cc,aY,bI⟩:=List.mem_flatten.1 hu
  obtain ⟨j,T⟩:=Zk (Zw aY)
  have bF:=(Qj T).1
  exact X5 _ w cc _ (hO.cs.R j cc _ T (Qx (by rw [<- hO.cs.len];exact bF))) u bI
 have G:cy.length=1:=Zh.len hy
 have aU:∀ v ∈ cy,v.oneCell'=true:=X5 _ w cy y hy
 have bH:∀ lb cb,(callFunc 184 #[Io qb qo 1 c,Io g (i+1) lb cb]).run prog w=.ok (.value (.bool false)) w:=λlb cb=>by
  rw [run_callFunc_extern func184 Ir Ir Ir (e:=Extern.SlicesOverlaps.overlaps #[33,33] #[4]) Ir,
   Lib.run_overlaps_apart w 33 4 9 underlying33 1 sizeOf9 ⟨qb,qo,none⟩ ⟨g,(i+1),none⟩ 1 c lb cb hqb tA 9 kA (cap) hsa (by unfold World.shape?;rw [aF];simp [O];exact Nat.mul_one _) Ia hfa hfe]
  rfl
 have bG:Zh.k=1:=rfl
 have aR:Nat.min (n+1 - i) (n+1 - (i+1))=n - i:=(show min (n+1 - i) (n+1 - (i+1))=n - i by omega)
 have aS:Nat.min 1 (n+1 - i)=1:=(show min 1 (n+1 - i)=1 by omega)
 rw [bG] at O U aD
 simp only [Nat.mul_one] at O U aD
 rw [hn] at U
 have M:I.toList.length=cap:=by simpa using O
 have aH:∀ j v,D[j]?=some v->w.cell? ⟨g,i+j,none⟩=some v:=λj v T=>N _ v (by rw [Zx Ia,aN,Nat.add_sub_cancel_left];exact T)
 obtain ⟨Y,aB⟩:∃ Y,Y=(I.toList.take ((i+1))++D++I.toList.drop ((i+1)+D.length)).toArray:=⟨_,rfl⟩
 have aJ:∀ ty dc sc,(Builtin.copy_ #[33,33] ty #[.slice (some ⟨g,(i+1),none⟩) (n+1 - (i+1)) dc,Io g i (n+1 - i) sc]).run prog w.drew=.ok (goInt (n - i:Nat)) (w.drew.setRow g Y):=λty dc sc=>by
  have h:=Xh (P:=prog) 1 w.drew 33 33 ty 9 g ((i+1)) (n+1 - (i+1)) dc ⟨g,i,none⟩ (n+1 - i) sc I 9 D underlying33 bB aF (by rw [aA,aR,Nat.mul_one]) (λj v T=>by rw [Addr.add_lit];exact aH j v T) (by simp only [aA,O];omega) aT
  rw [<- aB,aR] at h
  exact h
 obtain ⟨V,J⟩:∃ V,V=w.drew.setRow g Y:=⟨_,rfl⟩
 have aP:V.heap[g]?=some (.cells Y 9 (0,0)):=by rw [J];exact setRow_heap _ _ _ _ _ _ aF
 have aG:∀ k,k≠g->V.heap[k]?=w.heap[k]?:=λk hk=>by rw [J,setRow_other _ _ _ _ hk];rfl
 rw [<- J] at aJ
 have aC:Y.toList.length=cap:=by rw [aB];simp only [Ql,Qm,Zq,M,aA];rw [Z0 Ia];omega
 have aI:Y.size=cap:=by simpa using aC
 obtain ⟨Z,aE⟩:∃ Z,Z=(Y.toList.take (i)++cy++Y.toList.drop (i+cy.length)).toArray:=⟨_,rfl⟩
 have aZ:∀ ty dc,(Builtin.copy_ #[33,33] ty #[Io g i (n+1 - i) dc,Io qb qo 1 c]).run prog V=.ok (goInt 1) (V.setRow g Z):=λty dc=>by
  have h:=Xh (P:=prog) 1 V 33 33 ty 9 g (i) (n+1 - i) dc ⟨qb,qo,none⟩ 1 c Y 9 cy underlying33 bB aP (by rw [G,aS]) (λj v T=>by rw [Addr.add_lit];exact (World.cell?_of_block (aG qb hqb)).trans (hcy j v T)) (by rw [G,aI];omega) aU
  rw [<- aE,aS] at h
  exact h
 have aK:(V.setRow g Z).heap[g]?=some (.cells Z 9 (0,0))/\Z.size=cap/\Z.toList.take ((n+1))=A++cy++D/\(∀ k,k≠g->(V.setRow g Z).heap[k]?=w.heap[k]?)/\(V.setRow g Z).heap.size=w.heap.size/\w.grownBy (V.setRow g Z) (some g):=by
  have bA:(V.setRow g Z).heap.size=w.heap.size:=by rw [J];simp [World.setRow]
  refine ⟨setRow_heap _ _ _ _ _ _ aP,?_,?_,λk hk=>(setRow_other _ _ _ _ hk).trans (aG k hk),bA,⟨by rw [J];rfl,by rw [J];rfl,by rw [J];rfl,by rw [bA];exact Q9 _,λk _ hk=>(setRow_other _ _ _ _ (λe=>hk (by rw [e]))).trans (aG k (λe=>hk (by rw [e])))⟩⟩
  ·rw [aE];simp only [List.size_toArray,Ql,Qm,Zq,aC,G];rw [Z0 Ia];omega
  have bE:I.toList.take (i)=A:=by
   have:(I.toList.take (n)).take (i)=A:=by rw [U,aM,Z1 Ia,Zj Ia]
   rwa [List.take_take,Z0 Ia] at this
  have e1:Y.toList.take (i)=A:=by
   rw [aB,List.toList_toArray,List.append_assoc,Z1 (by rw [Qm,M,Z0 Ia];omega),List.take_take,Z0 Ia,bE]
  have e2:Y.toList.drop (i+cy.length)=D++I.toList.drop ((i+1)+D.length):=by
   rw [aB,List.toList_toArray,List.append_assoc,G,List.drop_append_of_le_length (by rw [Qm,M,Z0 Ia];omega),Qu (by rw [Qm,M,Z0 Ia];omega),List.nil_append]
  rw [aE,List.toList_toArray,e1,e2,<- List.append_assoc,Z1 (by simp only [Ql,aN,G,aA];omega),Zj (by simp only [Ql,aN,G,aA];omega)]
 rw [show css.take i=css.take i from rfl] at hA
 rw [hA,hD]
 have HE:=Qq aK
 clear aK J aB aE aC aI aR aS aH N U O M aM hA hD hO aO hy hcy aT aU aG aP
 have bY:¬ ((i:Int)=(n:Int)):=Ia
 have bW:IntKind.i64.wrap ((i:Int)+1)=(i:Int)+1:=by rw [IntKind.wrap_i64];omega
 have bX:IntKind.i64.wrap ((n:Int)+1)=(n:Int)+1:=by rw [IntKind.wrap_i64];omega
 have bU:¬ ((cap:Int)<(n:Int)+1):=Ia
 have bM:(0:Int)<=(i:Int)+1:=Ia
 have bL:(0:Int)<=(i:Int):=Ia
 have bN:¬ (cap=i+1):=Ia
 have bO:¬ (cap=i):=Ia
 have bV:((i:Int)+1).toNat=i+1:=Ia
 have bS:i<=n:=Ia
 have bP:(i:Int)<=(n:Int)+1:=Ia
 go_enter func169,ntmps169
 go_wp2_with (simp only [bH])
 go_region_law_o (refine step_copy_runI rfl _ _ 33 33 rfl _ _ (by simp [Act.eval,Act.put]) (by simp [Act.eval,Act.put]) (aJ _ (cap - (i+1)) (cap - i)) ?_)
 go_wp2_with (at_builtin;refine wpList_copy_runI _ rfl _ _ 33 33 rfl _ _ (by simp [Act.eval,Act.put]) (by simp [Act.eval,Act.put]) (aZ _ (cap - i)) ?_)
 go_ret
 exact ⟨rfl,_,HE.o⟩
theorem insGrowS (S:Nat->Prop) (B:Nat) (w:World) (g n i:Nat) (xs:List Bs) (css:List (List Value)) (y:Bs) (cy:List Value) (qb qo c:Nat) (hO:Own Zh 9 S B w (.slice (some ⟨g,0,none⟩) n n) xs css) (hn:xs.length=n) (hi:i<n)
  (hy:Zh.R (But S (.slice (some ⟨g,0,none⟩) n n)) w cy y) (hcy:∀ j u,cy[j]?=some u->w.cell? ⟨qb,qo+j,none⟩=some u) (hl:n<=100000)
  (hqw:qb<w):
  Calls prog 169 #[Io g 0 n n,i,Io qb qo 1 c] w (λe w'=>∃ G,e=.returned (.slice (some ⟨w,0,none⟩) (n+1) G)/\n+1<=G/\G<=maxLen/\∃ X,w'.heap[w.heap.size]?=some (.cells X 9 (0,0))/\X.size=G/\X.toList.take ((n+1))=(css.take i).flatten++cy++(css.drop i).flatten/\(∀ k,k<w.heap.size->w'.heap[k]?=w.heap[k]?)/\w'=w.heap.size+1/\w.grownBy w' (some g)):=by
 obtain ⟨i0,j1,j2,j3,j4⟩:=Y8 (P:=prog) (t:=9) (z:=.string ⟨#[]⟩) (n:=1) (b:=16) Ir
 have mixed:prog.follows .mixedOrders=true:=Ir
 have bX:(prog.info? 9).map (·.size)=some 1:=by rw [j1];simp [j3]
 rcases hO.row.2 with ⟨h,_⟩ | ⟨g',cG,bH,hv,cQ,aZ,cS,cP,aM,aI⟩
 ·cases h
 simp only [Qr,Zv,Addr.mk.injEq] at hv
 obtain ⟨⟨rfl,-,-⟩,-,rfl⟩:=hv
 have aW:=hO.cs.all
 have aG:=hO.cs.flat
 have bP:css.length=n:=by rw [hO.cs.len,hn]
 obtain ⟨A,hA⟩:=eX ((css.take i).flatten)
 obtain ⟨D,hD⟩:=eX ((css.drop i).flatten)
 have bL:css.flatten=A++D:=by rw [<- hA,<- hD,<- List.flatten_append,List.take_append_drop]
 have U:A.length=i:=by rw [<- hA,V0 (λc hc=>aW c (List.mem_of_mem_take hc)),Qm,bP,Z0 Ia];exact Nat.mul_one _
 have aD:D.length=(n - i):=by rw [<- hD,V0 (λc hc=>aW c (Zw hc)),Zq,bP];exact Nat.mul_one _
 have M:∀ j v,(A++D)[j]?=some v->w.cell? ⟨g,j,none⟩=some v:=by
  intro j v N
  rw [<- bL,<- aI,List.getElem?_take] at N
  split at N
  ·rw [Qk w g j bH _ (0,0) aZ];simpa using N
  cases N
 have bI:∀ v ∈ D,v.oneCell'=true:=by
  intro u hu
  rw [<- hD] at hu
  obtain ⟨cc,aF,bF⟩:=List.mem_flatten.1 hu
  obtain ⟨j,N⟩:=Zk (Zw aF)
  have bB:=(Qj N).1
  exact X5 _ w cc _ (hO.cs.R j cc _ N (Qx (by rw [<- hO.cs.len];exact bB))) u bF
 have J:cy.length=1:=Zh.len hy
 have bJ:∀ v ∈ cy,v.oneCell'=true:=X5 _ w cy y hy
 have cE:Zh.k=1:=rfl
 have aN:Nat.min (n+1 - i) (n+1 - (i+1))=n - i:=(show min (n+1 - i) (n+1 - (i+1))=n - i by omega)
 have aO:Nat.min 1 (n+1 - i)=1:=(show min 1 (n+1 - i)=1 by omega)
 rw [cE] at aM aI aG
 simp only [Nat.mul_one] at aM aI aG
 rw [hn] at aI
 have bR:bH.toList.length=n:=by simpa using aM
 have aP:∀ j v,D[j]?=some v->w.cell? ⟨g,i+j,none⟩=some v:=λj v N=>M _ v (by rw [Zx Ia,U,Nat.add_sub_cancel_left];exact N)
 have cB:∀ v ∈ A,v.oneCell'=true:=by
  intro u hu
  rw [<- hA] at hu
  obtain ⟨cc,aF,bF⟩:=List.mem_flatten.1 hu
  obtain ⟨j,N⟩:=Zk (List.mem_of_mem_take aF)
  have bB:=(Qj N).1
  exact X5 _ w cc _ (hO.cs.R j cc _ N (Qx (by rw [<- hO.cs.len];exact bB))) u bF
 have bS:g<w.heap.size:=(Array.getElem?_eq_some_iff.1 aZ).1
 have aU:(Builtin.firstCells i0.size i (.slice (some ⟨g,0,none⟩) i n)).run prog w.drew=.ok A.toArray w.drew:=by
  rw [j3]
  exact run_firstCells_some w.drew 1 i ⟨g,0,none⟩ i n A (by rw [U,Nat.mul_one]) (λj v N=>by
   rw [Addr.add_lit,Nat.zero_add]
   exact M j v (by rw [List.getElem?_append_left (Qj N).1];exact N))
 have bA:i+(n+1 - i)=n+1:=Ia
 have bT:(n:Int)+1 - (i:Int)=((n+1 - i:Nat):Int):=Ia
 obtain ⟨G,hG⟩:∃ G,G=grownCap w (n+1) n 9:=⟨_,rfl⟩
 obtain ⟨I,Z⟩:∃ I:Array Value,I=A.toArray++Builtin.zeroCells (Value.string ⟨#[]⟩).cells (n+1 - i)++Builtin.zeroCells (Value.string ⟨#[]⟩).cells (G - (n+1)):=⟨_,rfl⟩
 have bU:∀ ty,(Builtin.append_ #[33,3] ty #[Io g 0 i n,.int .i64 ((n:Int)+1 - (i:Int))]).run prog w=.ok (.slice (some ⟨w,0,none⟩) (n+1) G) (w.drew.alloc (.cells I 9)):=λty=>by
  have h:=Lib.run_append_grow_zeros w 33 3 ty 9 i0 _ .i64 .i64 underlying33 underlying3 j1 j2 (some ⟨g,0,none⟩) i n A aU (n+1 - i) Ia (by rw [j3];decide) Ia Ia (by rw [j4];omega) (by rw [j4,bA];exact growslice_fits Ia Ia)
  rw [bA,<- hG,<- Z] at h
  rw [bT]
  exact h
 have cC:n+1<=G:=by rw [hG];exact grownCap_ge w _ _ _
 have bN:G<=maxLen:=by rw [hG];exact grownCap_le_maxLen w (n+1) n _ (by unfold maxLen;omega)
 have aV:I.size=G:=by
  rw [Z]
  simp [Builtin.zeroCells,Value.cells,U]
  omega
 have bO:I.toList.take (i)=A:=by
  rw [Z]
  simp only [Array.toList_append,List.append_assoc]
  rw [Z1 Ia,Zj Ia]
 obtain ⟨W1,aA⟩:∃ W1,W1=w.drew.alloc (.cells I 9):=⟨_,rfl⟩
 rw [<- aA] at bU
 have aX:W1.heap[w.heap.size]?=some (.cells I 9 (0,0)):=by rw [aA];exact Qw w.drew _
 have bC:∀ k,k<w.heap.size->W1.heap[k]?=w.heap[k]?:=λk hk=>by rw [aA];exact Go.heap_alloc_old w.drew _ hk
 have bV:W1=w.heap.size+1:=by rw [aA];simp
 have O:w.grownBy W1 (some g):=by rw [aA];exact ⟨rfl,rfl,rfl,Ib,λk hk _=>Go.heap_alloc_old w.drew _ hk⟩
 clear aA
 have aN:Nat.min 1 (n+1 - i)=1:=(show min 1 (n+1 - i)=1 by omega)
 have aO:Nat.min (n - i) (n+1 - (i+1))=n - i:=(show min (n - i) (n+1 - (i+1))=n - i by omega)
 obtain ⟨X1,aK⟩:∃ X1,X1=(I.toList.take (i)++cy++I.toList.drop (i+cy.length)).toArray:=⟨_,rfl⟩
 have aS:∀ ty,(Builtin.copy_ #[33,33] ty #[Io w i (n+1 - i) (G - i),Io qb qo 1 c]).run prog W1=.ok (goInt 1) (W1.setRow w X1):=λty=>by
  have h:=Xh (P:=prog) 1 W1 33 33 ty 9 w (i) (n+1 - i) (G - i) ⟨qb,qo,none⟩ 1 c I 9 cy underlying33 bX aX (by rw [J,aN]) (λj v N=>by rw [Addr.add_lit];exact (World.cell?_of_block (bC qb hqw)).trans (hcy j v N)) (by rw [J,aV];omega) bJ
  rw [<- aK,aN] at h
  exact h
 have aE:X1.toList.length=G:=by
  have:I.toList.length=G:=by simpa using aV
  rw [aK];simp only [Ql,Qm,Zq,this,J];rw [Z0 Ia];omega
 have aR:X1.size=G:=by simpa using aE
 have aQ:X1.toList.take (i+1)=A++cy:=by
  rw [aK,List.toList_toArray,bO,Z1 (by simp only [Ql,U,J];omega),Zj (by simp only [Ql,U,J];omega)]
 obtain ⟨Y,V⟩:∃ Y,Y=W1.setRow w X1:=⟨_,rfl⟩
 rw [<- V] at aS
 have aY:Y.heap[w.heap.size]?=some (.cells X1 9 (0,0)):=by rw [V];exact setRow_heap _ _ _ _ _ _ aX
 have bD:∀ k,k<w.heap.size->Y.heap[k]?=w.heap[k]?:=λk hk=>by rw [V,setRow_other _ _ _ _ Ia];exact bC k hk
 have bE:Y=w.heap.size+1:=by rw [V,<- bV];simp [World.setRow]
 have T:w.grownBy Y (some g):=by rw [V];exact ⟨O.os,O.tape,O.output,by rw [<- V,bE];omega,λk hk h=>(setRow_other _ _ _ _ Ia).trans (O.block k hk h)⟩
 clear V
 obtain ⟨X2,aL⟩:∃ X2,X2=(X1.toList.take ((i+1))++D++X1.toList.drop ((i+1)+D.length)).toArray:=⟨_,rfl⟩
 have bQ:∀ ty,(Builtin.copy_ #[33,33] ty #[.slice (some ⟨w,(i+1),none⟩) (n+1 - (i+1)) (G - (i+1)),Io g i (n - i) (n - i)]).run prog Y.drew=.ok (goInt (n - i:Nat)) (Y.drew.setRow w X2):=λty=>by
  have h:=Xh (P:=prog) 1 Y.drew 33 33 ty 9 w ((i+1)) (n+1 - (i+1)) (G - (i+1)) ⟨g,i,none⟩ (n - i) (n - i) X1 9 D underlying33 bX aY (by rw [aD,aO,Nat.mul_one]) (λj v N=>by rw [Addr.add_lit];exact (World.cell?_of_block (w:=w) (bD g bS)).trans (aP j v N)) (by rw [aD,aR];omega) bI
  rw [<- aL,aO] at h
  exact h
 have aT:(Y.drew.setRow w X2).heap[w.heap.size]?=some (.cells X2 9 (0,0))/\X2.size=G/\X2.toList.take ((n+1))=A++cy++D/\(∀ k,k<w.heap.size->(Y.drew.setRow w X2).heap[k]?=w.heap[k]?)/\(Y.drew.setRow w X2).heap.size=w.heap.size+1/\w.grownBy (Y.drew.setRow w X2) (some g):=by
  have bW:(Y.drew.setRow w X2).heap.size=w.heap.size+1:=by rw [<- bE];simp [World.setRow]
  refine ⟨setRow_heap _ _ _ _ _ _ aY,?_,?_,λk hk=>(setRow_other _ _ _ _ Ia).trans (bD k hk),bW,⟨T.os,T.tape,T.output,by rw [bW];omega,λk hk h=>(setRow_other _ _ _ _ Ia).trans (T.block k hk h)⟩⟩
  ·rw [aL];simp only [List.size_toArray,Ql,Qm,Zq,aE,aD];rw [Z0 Ia];omega
  rw [aL,List.toList_toArray,show (i+1)=i+1 by omega,aQ,Z1 (by simp only [Ql,U,J,aD];omega),Zj (by simp only [Ql,U,J,aD];omega)]
 rw [hA,hD]
 have HE:=Qq aT
 have cX:¬ ((i:Int)=(n:Int)):=Ia
 have cU:IntKind.i64.wrap ((i:Int)+1)=(i:Int)+1:=by rw [IntKind.wrap_i64];omega
 have cV:IntKind.i64.wrap ((n:Int)+1)=(n:Int)+1:=by rw [IntKind.wrap_i64];omega
 have cW:IntKind.i64.wrap ((n:Int)+1 - (i:Int))=(n:Int)+1 - (i:Int):=by rw [IntKind.wrap_i64];omega
 have cJ:(0:Int)<=(i:Int)+1:=Ia
 have cI:(0:Int)<=(i:Int):=Ia
 have cK:¬ (n=i):=Ia
 have cM:¬ (G=i):=Ia
 have cN:¬ (G=i+1):=Ia
 have cT:((i:Int)+1).toNat=i+1:=Ia
 have cR:i<=n:=Ia
 have cL:(i:Int)<=(n:Int)+1:=Ia
 have cO:(i:Int)<=(n:Int):=Ia
 have cH:¬ (n=i):=Ia
 have cA:=Qq cC;have bZ:=Qq bN
 clear aT aK aL aE aR aQ aN aO aP M aI aM bR bL hA hD hO aW hy hcy bI bJ cB bC aX bD aY bV bE O T aV bO Z hG aU bA bT bN bS hqw aZ
 go_enter func169,ntmps169
 go_wp2_with (first
  | (at_builtin;refine Lib.wpList_append_run _ rfl _ _ _ _ rfl _ _ rfl rfl _ _ (bU _) ?_)
  | (at_builtin;refine wpList_copy_runI _ rfl _ _ 33 33 rfl _ _ (by simp [Act.eval,Act.put]) (by simp [Act.eval,Act.put]) (aS _) ?_))
 go_region_law_o (refine step_copy_runI rfl _ _ 33 33 rfl _ _ (by simp [Act.eval,Act.put]) (by simp [Act.eval,Act.put]) (bQ _) ?_)
 go_wp2_with fail
 go_ret
 exact ⟨_,rfl,cA.o,bZ.o,_,HE.o⟩
def Wj (S:Nat->Prop) (B:Nat) (w:World) (v:Value) (xs:List Bs) (e:Ending) (w':World):Prop:=
 ∃ p cap css,e=.returned (.slice p xs.length cap)/\Own Zh 9 S B w' (.slice p xs.length cap) xs css/\w.grownBy w' v.ownBlock/\((Value.slice p xs.length cap).ownBlock=v.ownBlock\/(Value.slice p xs.length cap).ownBlock=some w.heap.size)
theorem insEndS (S:Nat->Prop) (B:Nat) (w:World) (v:Value) (xs:List Bs) (css:List (List Value)) (y:Bs) (q:Option Addr) (c:Nat) (hO:Own Zh 9 S B w v xs css) (hY:Sl Zh (But S v) w (.slice q 1 c) [y]) (hl:xs.length<=100000) (hB:B<=w):
  Calls prog 169 #[v,xs.length,.slice q 1 c] w (Wj S B w v (xs++[y])):=by
 obtain ⟨i0,j1,j2,j3,j4⟩:=Y8 (P:=prog) (t:=9) (z:=.string ⟨#[]⟩) (n:=1) (b:=16) Ir
 obtain ⟨HJ,Y,Z,aA⟩:=It j1 j2 j3 j4
 obtain ⟨qb,qo,_,rfl,_,_,_,_,_⟩:=hY.elem (i:=0) (x:=y) rfl
 have M:∀ N A D V,Own Zh 9 S B V (.slice N (xs.length+1) A) (xs++[y]) D->w.grownBy V v.ownBlock->((Value.slice N (xs.length+1) A).ownBlock=v.ownBlock\/(Value.slice N (xs.length+1) A).ownBlock=some w.heap.size)->Wj S B w v (xs++[y]) (.returned (.slice N (xs.length+1) A)) V:=by
  intro N A D V h1 h2 h3
  refine ⟨N,A,D,by rw [Ql];rfl,by rw [Ql];exact h1,h2,by rw [Ql];exact h3⟩
 rcases hO.row.2 with ⟨rfl,h0⟩ | ⟨g,cap,aT,rfl,aU,_,aJ,aK,aN,_⟩
 ·have aH:xs=[]:=Zy h0
  obtain ⟨HO,HY,HE⟩:=Im hO hY M
  clear hO hY j1 j2 j3 j4 h0 M
  subst aH
  show Calls _ _ #[Ie,Ic,Io qb qo 1 c] _ _
  go_enter func169,ntmps169
  go_wp2_with (at_builtin;refine U1 (r:=Zh) Ih rfl (.tmp 23) (.tmp 24) _ rfl 9 i0 (.string ⟨#[]⟩) 16 underlying33 HJ.o Y.o Z.o aA.o rfl Ia S B w (.slice none 0 0) [] css [y] (some ⟨qb,qo,none⟩) 1 c rfl HO.o rfl HY.o rfl Ib X5 (by simp only [List.length_cons,List.length_nil];omega) hB ?_;intro N A D V I J G;obtain ⟨U,T,O⟩:=Im I J G;clear I J G)
  go_ret
  exact HE.o N A D V U.o T.o O.o
 obtain ⟨HO,HY,HE⟩:=Im hO hY M
 clear hO hY j1 j2 j3 j4 aN aK M
 have aI:(xs.length:Int)<=(cap:Int):=Ia
 obtain ⟨n,hn⟩:=eX (xs.length)
 rw [hn] at HO HY hl aJ aI |-
 have HN:=Qq hn
 have aW:xs.length<=100000:=Ia
 clear hn
 have aV:(0:Int)<=(n:Int):=Ia
 by_cases hcn:cap=n
 ·subst hcn
  have aL:(cap:Int)<=(cap:Int):=Ia
  go_enter func169,ntmps169
  go_wp2_with (at_builtin;refine U1 (r:=Zh) Ih rfl (.tmp 23) (.tmp 24) _ rfl 9 i0 (.string ⟨#[]⟩) 16 underlying33 HJ.o Y.o Z.o aA.o rfl Ia S B w (.slice (some ⟨g,0,none⟩) cap cap) xs css [y] (some ⟨qb,qo,none⟩) 1 c rfl HO.o rfl HY.o rfl Ib X5 (by simp only [List.length_cons,List.length_nil];omega) hB ?_;intro N A D V I J G;obtain ⟨U,T,O⟩:=Im I J G;clear I J G)
  go_ret
  exact HE.o N A D V U.o T.o O.o
 have aL:(n:Int)<(cap:Int):=Ia
 have hd:cap - n≠0:=Ia
 go_enter func169,ntmps169
 go_wp2_with (at_builtin;refine U1 (r:=Zh) Ih rfl (.tmp 23) (.tmp 24) _ rfl 9 i0 (.string ⟨#[]⟩) 16 underlying33 HJ.o Y.o Z.o aA.o rfl Ia S B w (.slice (some ⟨g,0,none⟩) n cap) xs css [y] (some ⟨qb,qo,none⟩) 1 c rfl HO.o rfl HY.o rfl Ib X5 (by simp only [List.length_cons,List.length_nil];omega) hB ?_;intro N A D V I J G;obtain ⟨U,T,O⟩:=Im I J G;clear I J G)
 go_ret
 exact HE.o N A D V U.o T.o O.o
theorem insAnyS (S:Nat->Prop) (B:Nat) (w:World) (v:Value) (xs:List Bs) (css:List (List Value)) (y:Bs) (cy:List Value) (i q c:Nat) (hO:Own Zh 9 S B w v xs css) (hq:w.heap[q]?=some (.cells cy.toArray 9 (0,0))) (hqS:But S v q) (hy:Zh.R (But S v) w cy y) (hi:i<=xs.length) (hl:xs.length<=100000) (hB:B<=w):
  Calls prog 169 #[v,i,Io q 0 1 c] w (Wj S B w v (Un xs i y)):=by
 have A:∀ (j:Nat) (u:Value),cy[j]?=some u->w.cell? ⟨q,0+j,none⟩=some u:=by
  intro j u hj
  rw [Nat.zero_add,Qk w q j _ _ (0,0) hq];simpa using hj
 have N:q<w.heap.size:=(Array.getElem?_eq_some_iff.1 hq).1
 by_cases he:i=xs.length
 ·subst he
  rw [Ho]
  refine insEndS S B w v xs css y _ c hO ⟨_,_,rfl,Ib,λ_=>⟨q,0,rfl,hqS,N,λj x hx=>?_⟩⟩ hl hB
  cases j with
  | zero=>
   simp at hx;subst hx
   refine ⟨cy,λm u hm=>?_,hy⟩
   have:=A m u hm
   simpa using this
  | succ j=>simp at hx
 have M:i<xs.length:=Ia
 have D:Cs Zh (But S v) w (Un css i cy) (Un xs i y):=(hO.cs.take i).app ((Cs.one hy).app (hO.cs.drop i))
 have I:(Un css i cy).flatten=(css.take i).flatten++cy++(css.drop i).flatten:=by unfold Un;simp
 have J:(Un css i cy).flatten.length=(xs.length+1)*Zh.k:=by rw [D.flat,Xo]
 rcases hO.row.2 with ⟨_,h0⟩ | ⟨g,cap,aH,rfl,aD,aE,aJ,aB,aK,aL⟩
 ·omega
 have aI:g<w.heap.size:=(Array.getElem?_eq_some_iff.1 aE).1
 have aF:q≠g:=λe=>hqS.2 (by rw [e];rfl)
 by_cases hr:xs.length+1<=cap
 ·refine (insRoomS S B w g xs.length cap i xs css y cy q 0 c hO rfl M hr aF hy A hl 9 cy.length (by unfold World.shape?;rw [hq];simp) (by simp [World.frozen?,hq]) (by simp [World.frozen?,hq])).mono ?_
  rintro e w' ⟨rfl,X,O,T,U,V,h5,Y⟩
  refine ⟨_,cap,Un css i cy,by rw [Xo],⟨?_,?_⟩,Y,.inl rfl⟩
  ·rw [Xo]
   exact ⟨J,.inr ⟨g,cap,X,rfl,aD,O,hr,aB,T.trans (Nat.mul_one _).symm,by rw [I,show Zh.k=1 from rfl,Nat.mul_one];exact U⟩⟩
  rw [Xo]
  exact D.move (λb hb _=>V b (λe=>hb.2 (by rw [e];rfl))) (λb _ hb=>⟨hb.1,λe=>hb.2 e⟩)
 have aC:cap=xs.length:=Ia
 subst aC
 refine (insGrowS S B w g xs.length i xs css y cy q 0 c hO rfl M hy A hl N).mono ?_
 rintro e w' ⟨G,rfl,Z,aA,X,O,T,U,V,h5,Y⟩
 refine ⟨_,G,Un css i cy,by rw [Xo],⟨?_,?_⟩,Y,.inr rfl⟩
 ·rw [Xo]
  exact ⟨J,.inr ⟨w.heap.size,G,X,rfl,hB,O,Z,aA,T.trans (Nat.mul_one _).symm,by rw [I,show Zh.k=1 from rfl,Nat.mul_one];exact U⟩⟩
 rw [Xo]
 refine D.move (λb _ hb=>V b hb) (λb hb hs=>⟨hs.1,λe=>?_⟩)
 have:b=w.heap.size:=by simpa [Value.ownBlock] using e
 omega
end Go.Proofs.YtdpibdpbgokmoaaGreatDoor
