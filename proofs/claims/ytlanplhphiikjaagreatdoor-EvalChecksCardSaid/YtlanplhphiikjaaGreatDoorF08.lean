import Derived.Test.YtlanplhphiikjaaGreatDoorF07
set_option maxRecDepth 100000
set_option maxHeartbeats 400000000
namespace Go.Proofs.YtlanplhphiikjaaGreatDoor
open Go.RowKit Go.Shelf Go.Lib Tryz
def Free (v:Value) (rvs:List Value):Nat->Prop:=fun b=>v.ownBlock≠some b/\∀ rv ∈ rvs,rv.ownBlock≠some b
def Yp (l:List Rel) (rvs:List Value):List (List Value):=List.zipWith (fun r rv=>[sv r.table,rv]) l rvs
structure Ue (B:Nat) (w:World) (v:Value) (l:List Rel) (rvs:List Value):Prop where
 len:rvs.length=l.length
 row:w.ownsRow B 42 2 v l.length (Yp l rvs).flatten
 tl:∀ r ∈ l,r.table.length<=1000000
 rows:∀ (i:Nat) (r:Rel) (rv:Value),l[i]?=some r->rvs[i]?=some rv->∃ css,Own Zc 48 (Free v rvs) B w rv r.rows css
 apart:∀ (i j:Nat) (a b:Value) (g:Nat),rvs[i]?=some a->rvs[j]?=some b->a.ownBlock=some g->b.ownBlock=some g->i=j
theorem Kn {l:List Rel} {rvs:List Value}:∀ c ∈ Yp l rvs,c.length=2:=by
 intro c G
 unfold Yp at G
 rw [List.mem_iff_getElem?] at G
 obtain ⟨i,D⟩:=G
 rw [List.getElem?_zipWith] at D
 split at D
 ·cases D;rfl
 cases D
theorem J8 {l:List Rel} {rvs:List Value} {i:Nat} {r:Rel} {rv:Value} (h1:l[i]?=some r) (h2:rvs[i]?=some rv):(Yp l rvs)[i]?=some [sv r.table,rv]:=by
 unfold Yp
 rw [List.getElem?_zipWith,h1,h2]
theorem Km {l:List Rel} {rvs:List Value} (h:rvs.length=l.length):(Yp l rvs).length=l.length:=by
 unfold Yp;rw [List.length_zipWith,h,Nat.min_self]
theorem Eg {l:List Rel} {rvs:List Value} {i:Nat} {r:Rel} (rv':Value) (zs:List Val) (hi:l[i]?=some r) (h:rvs.length=l.length):
  (Yp l rvs).flatten.set (i*2+1) rv'=(Yp (l.set i ⟨r.table,zs⟩) (rvs.set i rv')).flatten:=by
 induction l generalizing i rvs with
 | nil=>simp at hi
 | cons a l ih=>
  cases rvs with
  | nil=>simp at h
  | cons b rvs=>
   cases i with
   | zero=>
    simp at hi;subst hi
    simp [Yp]
   | succ i=>
    have:=ih (rvs:=rvs) (i:=i) (by simpa using hi) (by simpa using h)
    simp only [Yp,List.zipWith_cons_cons,List.flatten_cons,List.set_cons_succ] at this |-
    rw [<- this,show (i+1)*2+1=([sv a.table,b]:List Value).length+(i*2+1) by simp;omega,List.set_append_right _ _ (Nat.le_add_right _ _),Nat.add_sub_cancel_left]
theorem Ue.below {B:Nat} {w w':World} {v:Value} {l:List Rel} {rvs:List Value} (h:Ue B w v l rvs) (hb:Below w w w'):Ue B w' v l rvs:=
 ⟨h.len,Jr h.row hb,h.tl,fun i r rv h1 h2=>(h.rows i r rv h1 h2).imp fun _ ho=>ho.below hb,h.apart⟩
theorem Ue.sl {B:Nat} {w:World} {v:Value} {l:List Rel} {rvs:List Value} (h:Ue B w v l rvs) (hl:l.length<=1000000) (hr:∀ r ∈ l,r.rows.length<=1000000) (S':Nat->Prop) (h1:∀ b,B<=b->S' b) (h2:∀ b,b<w.heap.size->Free v rvs b->S' b):Sl Yd S' w v l:=by
 have J:Cs Yd S' w (Yp l rvs) l:=by
  refine ⟨Km h.len,fun i c x hc G=>?_⟩
  have hi:=(Qj G).1
  obtain ⟨I,D⟩:∃ I,rvs[i]?=some I:=⟨_,Qx (by rw [h.len];exact hi)⟩
  rw [J8 G D] at hc
  cases hc
  obtain ⟨css,ho⟩:=h.rows i x I G D
  exact ⟨I,rfl,h.tl x (Qy G),ho.sl (hr x (Qy G)) h1 h2⟩
 rcases h.row.2 with ⟨rfl,h0⟩ | ⟨g,cap,L,rfl,hB,hg,_,_,_,ht⟩
 ·rw [Zq h0];exact Sl.nil _ _ _
 refine Sl.of_css (css:=Yp l rvs) hl J (h1 g hB) (Array.getElem?_eq_some_iff.1 hg).1 (fun j u hu=>?_)
 rw [Nat.zero_add];exact B3 hg ht hu
theorem Ue.put {B:Nat} {w w1:World} {g cap:Nat} {l:List Rel} {rvs:List Value} {i:Nat} {r:Rel} {rv rv':Value} {zs:List Val} (h:Ue B w (.slice (some ⟨g,0,none⟩) l.length cap) l rvs) (hi:l[i]?=some r) (hrv:rvs[i]?=some rv)
  (ho:∃ css,Own Zc 48 (Free (.slice (some ⟨g,0,none⟩) l.length cap) rvs) B w1 rv' zs css) (hg:w.grownBy w1 rv.ownBlock) (hat:rv'.ownBlock=rv.ownBlock\/∀ g',rv'.ownBlock=some g'->w.heap.size<=g'):
  Ue B (w1.setCell ⟨g,i*2+1,none⟩ rv') (.slice (some ⟨g,0,none⟩) l.length cap) (l.set i ⟨r.table,zs⟩) (rvs.set i rv'):=by
 have J:=(Qj hi).1
 have aD:=(h.row.lt g rfl).2
 have aH:=(h.row.lt g rfl).1
 obtain ⟨aG,aE⟩:=h.rows i r rv hi hrv
 have Z:some g≠rv.ownBlock:=fun e=>Xb h.row aE.row Of rfl e.symm
 have aA:some g≠rv'.ownBlock:=by
  intro e
  rcases hat with D | D
  ·exact Z (e.trans D)
  have:=D g e.symm
  omega
 have T:w1.ownsRow B 42 2 (.slice (some ⟨g,0,none⟩) l.length cap) l.length (Yp l rvs).flatten:=by
  refine ⟨h.row.1,?_⟩
  rcases h.row.2 with hn | ⟨g',cap',cur,e,hB,hh,rest⟩
  ·exact .inl hn
  simp only [Ql,Qu,Addr.mk.injEq] at e
  obtain ⟨⟨rfl,_⟩,_,rfl⟩:=e
  exact .inr ⟨_,_,cur,rfl,hB,(hg.block _ aD Z).trans hh,rest⟩
 have O:∀ b,b<w.heap.size->Free (.slice (some ⟨g,0,none⟩) l.length cap) rvs b->Free (.slice (some ⟨g,0,none⟩) l.length cap) (rvs.set i rv') b:=by
  rintro b hb ⟨f1,f2⟩
  refine ⟨f1,fun u L=>?_⟩
  rcases List.mem_or_eq_of_mem_set L with D | rfl
  ·exact f2 u D
  intro e
  rcases hat with D | D
  ·exact f2 rv (Qy hrv) (D ▸ e)
  have:=D b e;omega
 refine ⟨by rw [List.length_set,List.length_set];exact h.len,?_,?_,?_,?_⟩
 ·rw [List.length_set,<- Eg rv' zs hi h.len]
  exact (T.stored (i*2+1) rv').1
 ·intro x I
  rcases List.mem_or_eq_of_mem_set I with D | rfl
  ·exact h.tl x D
  exact h.tl r (Qy hi)
 ·intro j x u I L
  by_cases e:j=i
  ·subst e
   rw [List.getElem?_set_self (by exact J)] at I
   rw [List.getElem?_set_self (by rw [h.len];exact J)] at L
   cases I;cases L
   obtain ⟨css,ho⟩:=ho
   refine ⟨css,⟨?_,?_⟩⟩
   ·refine ⟨ho.row.1,?_⟩
    rcases ho.row.2 with hn | ⟨g',cap',cur,e,hB,hh,rest⟩
    ·exact .inl hn
    refine .inr ⟨g',cap',cur,e,hB,?_,rest⟩
    rw [Z4 (by intro U;subst e;have e3:g'=g:=U;exact aA (by rw [<- e3];rfl))];exact hh
   refine ho.cs.move (fun b G Y=>Z4 (fun e=>G.1.1 (by rw [e];rfl))) (fun b hb G=>⟨⟨G.1.1,fun u L=>?_⟩,G.2⟩)
   rcases List.mem_or_eq_of_mem_set L with D | rfl
   ·exact G.1.2 u D
   exact fun e=>G.2 e.symm
  rw [List.getElem?_set_ne (Ne.symm e)] at I L
  obtain ⟨css,M⟩:=h.rows j x u I L
  have aF:u.ownBlock≠some g:=Xb h.row M.row Of rfl
  refine ⟨css,⟨?_,?_⟩⟩
  ·refine ⟨M.row.1,?_⟩
   rcases M.row.2 with hn | ⟨g',cap',cur,e1,hB,hh,rest⟩
   ·exact .inl hn
   refine .inr ⟨g',cap',cur,e1,hB,?_,rest⟩
   have aC:g'<w.heap.size:=(Array.getElem?_eq_some_iff.1 hh).1
   rw [Z4 (by intro U;subst e1;have e3:g'=g:=U;exact aF (by rw [<- e3];rfl)),hg.block g' aC (fun U=>e (h.apart j i u rv g' L hrv (by rw [e1];rfl) U.symm))]
   exact hh
  refine M.cs.move (fun b G Y=>?_) (fun b hb G=>⟨O b hb G.1,G.2⟩)
  rw [Z4 (fun e=>G.1.1 (by rw [e];rfl)),hg.block b Y (fun e=>G.1.2 rv (Qy hrv) e.symm)]
 intro j k a b g' N hb D V
 by_cases ej:j=i
 ·by_cases ek:k=i
  ·omega
  subst ej
  rw [List.getElem?_set_self (by rw [h.len];exact J)] at N
  rw [List.getElem?_set_ne (Ne.symm ek)] at hb
  cases N
  obtain ⟨x,I⟩:∃ x,l[k]?=some x:=⟨_,Qx (by rw [<- h.len];exact (Qj hb).1)⟩
  obtain ⟨css,M⟩:=h.rows k x b I hb
  have:=(M.row.lt g' V).2
  rcases hat with h3 | h3
  ·exact h.apart j k rv b g' hrv hb (h3 ▸ D) V
  have:=h3 g' D;omega
 rw [List.getElem?_set_ne (Ne.symm ej)] at N
 by_cases ek:k=i
 ·subst ek
  rw [List.getElem?_set_self (by rw [h.len];exact J)] at hb
  cases hb
  obtain ⟨x,I⟩:∃ x,l[j]?=some x:=⟨_,Qx (by rw [<- h.len];exact (Qj N).1)⟩
  obtain ⟨css,M⟩:=h.rows j x a I N
  have:=(M.row.lt g' D).2
  rcases hat with h3 | h3
  ·exact h.apart j k a rv g' N hrv D (h3 ▸ V)
  have:=h3 g' V;omega
 rw [List.getElem?_set_ne (Ne.symm ek)] at hb
 exact h.apart j k a b g' N hb D V
end Go.Proofs.YtlanplhphiikjaaGreatDoor
