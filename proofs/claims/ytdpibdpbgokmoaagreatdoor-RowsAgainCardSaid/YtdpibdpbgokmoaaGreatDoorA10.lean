import Derived.Test.YtdpibdpbgokmoaaGreatDoorA08
set_option maxRecDepth 100000
set_option maxHeartbeats 400000000
namespace Go.Proofs.YtdpibdpbgokmoaaGreatDoor
open Go.RowKit Go.Shelf Go.Lib Tryz
def Ll (v:Value) (rvs:List Value):Nat->Prop:=λb=>v.ownBlock≠some b/\∀ rv ∈ rvs,rv.ownBlock≠some b
def Yc (l:List Rel) (rvs:List Value):List (List Value):=List.zipWith (λr rv=>[sv r.table,rv]) l rvs
structure Ud (B:Nat) (w:World) (v:Value) (l:List Rel) (rvs:List Value):Prop where
 len:rvs.length=l.length
 row:w.ownsRow B 70 2 v l.length (Yc l rvs).flatten
 tl:∀ r ∈ l,r.table.length<=1000000
 rows:∀ (i:Nat) (r:Rel) (rv:Value),l[i]?=some r->rvs[i]?=some rv->∃ css,Own Zc 36 (Ll v rvs) B w rv r.rows css
 apart:∀ (i j:Nat) (a b:Value) (g:Nat),rvs[i]?=some a->rvs[j]?=some b->a.ownBlock=some g->b.ownBlock=some g->i=j
theorem Ka {l:List Rel} {rvs:List Value}:∀ c ∈ Yc l rvs,c.length=2:=by
 intro c D
 unfold Yc at D
 rw [List.mem_iff_getElem?] at D
 obtain ⟨i,A⟩:=D
 rw [List.getElem?_zipWith] at A
 split at A
 ·cases A;rfl
 cases A
theorem Dv {l:List Rel} {rvs:List Value} {i:Nat} {r:Rel} {rv:Value} (h1:l[i]?=some r) (h2:rvs[i]?=some rv):(Yc l rvs)[i]?=some [sv r.table,rv]:=by
 unfold Yc
 rw [List.getElem?_zipWith,h1,h2]
theorem J1 {l:List Rel} {rvs:List Value} (h:rvs.length=l.length):(Yc l rvs).length=l.length:=by
 unfold Yc;rw [List.length_zipWith,h,Nat.min_self]
theorem Pn {l:List Rel} {rvs:List Value} {i:Nat} {r:Rel} (rv':Value) (zs:List Val) (hi:l[i]?=some r) (h:rvs.length=l.length):
  (Yc l rvs).flatten.set (i*2+1) rv'=(Yc (l.set i ⟨r.table,zs⟩) (rvs.set i rv')).flatten:=by
 induction l generalizing i rvs with
 | nil=>simp at hi
 | cons a l ih=>
  cases rvs with
  | nil=>simp at h
  | cons b rvs=>
   cases i with
   | zero=>
    simp at hi;subst hi
    simp [Yc]
   | succ i=>
    have:=ih (rvs:=rvs) (i:=i) (by simpa using hi) (by simpa using h)
    simp only [Yc,List.zipWith_cons_cons,List.flatten_cons,List.set_cons_succ] at this |-
    rw [<- this,show (i+1)*2+1=([sv a.table,b]:List Value).length+(i*2+1) by simp;omega,List.set_append_right _ _ (Nat.le_add_right _ _),Nat.add_sub_cancel_left]
theorem Ud.below {B:Nat} {w w':World} {v:Value} {l:List Rel} {rvs:List Value} (h:Ud B w v l rvs) (hb:Below w w w'):Ud B w' v l rvs:=
 ⟨h.len,Dk h.row hb,h.tl,λi r rv h1 h2=>(h.rows i r rv h1 h2).imp λ_ ho=>ho.below hb,h.apart⟩
theorem Ud.sl {B:Nat} {w:World} {v:Value} {l:List Rel} {rvs:List Value} (h:Ud B w v l rvs) (hl:l.length<=1000000) (hr:∀ r ∈ l,r.rows.length<=1000000) (S':Nat->Prop) (h1:∀ b,B<=b->S' b) (h2:∀ b,b<w.heap.size->Ll v rvs b->S' b):Sl Yk S' w v l:=by
 have G:Cs Yk S' w (Yc l rvs) l:=by
  refine ⟨J1 h.len,λi c x hc D=>?_⟩
  have hi:=(Qj D).1
  obtain ⟨rv,A⟩:∃ rv,rvs[i]?=some rv:=⟨_,Qx (by rw [h.len];exact hi)⟩
  rw [Dv D A] at hc
  cases hc
  obtain ⟨css,ho⟩:=h.rows i x rv D A
  exact ⟨rv,rfl,h.tl x (Qy D),ho.sl (hr x (Qy D)) h1 h2⟩
 rcases h.row.2 with ⟨rfl,h0⟩ | ⟨g,cap,I,rfl,hB,hg,_,_,_,ht⟩
 ·rw [Zy h0];exact Sl.nil _ _ _
 refine Sl.of_css (css:=Yc l rvs) hl G (h1 g hB) (Array.getElem?_eq_some_iff.1 hg).1 (λj u hu=>?_)
 rw [Nat.zero_add];exact Hw hg ht hu
theorem Ud.put {B:Nat} {w w1:World} {g cap:Nat} {l:List Rel} {rvs:List Value} {i:Nat} {r:Rel} {rv rv':Value} {zs:List Val} (h:Ud B w (.slice (some ⟨g,0,none⟩) l.length cap) l rvs) (hi:l[i]?=some r) (hrv:rvs[i]?=some rv)
  (ho:∃ css,Own Zc 36 (Ll (.slice (some ⟨g,0,none⟩) l.length cap) rvs) B w1 rv' zs css) (hg:w.grownBy w1 rv.ownBlock) (hat:rv'.ownBlock=rv.ownBlock\/∀ g',rv'.ownBlock=some g'->w.heap.size<=g'):
  Ud B (w1.setCell ⟨g,i*2+1,none⟩ rv') (.slice (some ⟨g,0,none⟩) l.length cap) (l.set i ⟨r.table,zs⟩) (rvs.set i rv'):=by
 have I:=(Qj hi).1
 have aD:=(h.row.lt g rfl).2
 have aH:=(h.row.lt g rfl).1
 obtain ⟨aG,aE⟩:=h.rows i r rv hi hrv
 have Z:some g≠rv.ownBlock:=λe=>Yl h.row aE.row Ih rfl e.symm
 have aA:some g≠rv'.ownBlock:=by
  intro e
  rcases hat with A | A
  ·exact Z (e.trans A)
  have:=A g e.symm
  omega
 have T:w1.ownsRow B 70 2 (.slice (some ⟨g,0,none⟩) l.length cap) l.length (Yc l rvs).flatten:=by
  refine ⟨h.row.1,?_⟩
  rcases h.row.2 with hn | ⟨g',cap',cur,e,hB,hh,rest⟩
  ·exact .inl hn
  simp only [Qr,Zv,Addr.mk.injEq] at e
  obtain ⟨⟨rfl,_⟩,_,rfl⟩:=e
  exact .inr ⟨_,_,cur,rfl,hB,(hg.block _ aD Z).trans hh,rest⟩
 have O:∀ b,b<w.heap.size->Ll (.slice (some ⟨g,0,none⟩) l.length cap) rvs b->Ll (.slice (some ⟨g,0,none⟩) l.length cap) (rvs.set i rv') b:=by
  rintro b hb ⟨f1,f2⟩
  refine ⟨f1,λu J=>?_⟩
  rcases List.mem_or_eq_of_mem_set J with A | rfl
  ·exact f2 u A
  intro e
  rcases hat with A | A
  ·exact f2 rv (Qy hrv) (A ▸ e)
  have:=A b e;omega
 refine ⟨by rw [List.length_set,List.length_set];exact h.len,?_,?_,?_,?_⟩
 ·rw [List.length_set,<- Pn rv' zs hi h.len]
  exact (T.stored (i*2+1) rv').1
 ·intro x G
  rcases List.mem_or_eq_of_mem_set G with A | rfl
  ·exact h.tl x A
  exact h.tl r (Qy hi)
 ·intro j x u G J
  by_cases e:j=i
  ·subst e
   rw [List.getElem?_set_self (by exact I)] at G
   rw [List.getElem?_set_self (by rw [h.len];exact I)] at J
   cases G;cases J
   obtain ⟨css,ho⟩:=ho
   refine ⟨css,⟨?_,?_⟩⟩
   ·refine ⟨ho.row.1,?_⟩
    rcases ho.row.2 with hn | ⟨g',cap',cur,e,hB,hh,rest⟩
    ·exact .inl hn
    refine .inr ⟨g',cap',cur,e,hB,?_,rest⟩
    rw [Za (by intro U;subst e;have e3:g'=g:=U;exact aA (by rw [<- e3];rfl))];exact hh
   refine ho.cs.move (λb D Y=>Za (λe=>D.1.1 (by rw [e];rfl))) (λb hb D=>⟨⟨D.1.1,λu J=>?_⟩,D.2⟩)
   rcases List.mem_or_eq_of_mem_set J with A | rfl
   ·exact D.1.2 u A
   exact λe=>D.2 e.symm
  rw [List.getElem?_set_ne (Ne.symm e)] at G J
  obtain ⟨css,M⟩:=h.rows j x u G J
  have aF:u.ownBlock≠some g:=Yl h.row M.row Ih rfl
  refine ⟨css,⟨?_,?_⟩⟩
  ·refine ⟨M.row.1,?_⟩
   rcases M.row.2 with hn | ⟨g',cap',cur,e1,hB,hh,rest⟩
   ·exact .inl hn
   refine .inr ⟨g',cap',cur,e1,hB,?_,rest⟩
   have aC:g'<w.heap.size:=(Array.getElem?_eq_some_iff.1 hh).1
   rw [Za (by intro U;subst e1;have e3:g'=g:=U;exact aF (by rw [<- e3];rfl)),hg.block g' aC (λU=>e (h.apart j i u rv g' J hrv (by rw [e1];rfl) U.symm))]
   exact hh
  refine M.cs.move (λb D Y=>?_) (λb hb D=>⟨O b hb D.1,D.2⟩)
  rw [Za (λe=>D.1.1 (by rw [e];rfl)),hg.block b Y (λe=>D.1.2 rv (Qy hrv) e.symm)]
 intro j k a b g' N hb A V
 by_cases ej:j=i
 ·by_cases ek:k=i
  ·omega
  subst ej
  rw [List.getElem?_set_self (by rw [h.len];exact I)] at N
  rw [List.getElem?_set_ne (Ne.symm ek)] at hb
  cases N
  obtain ⟨x,G⟩:∃ x,l[k]?=some x:=⟨_,Qx (by rw [<- h.len];exact (Qj hb).1)⟩
  obtain ⟨css,M⟩:=h.rows k x b G hb
  have:=(M.row.lt g' V).2
  rcases hat with h3 | h3
  ·exact h.apart j k rv b g' hrv hb (h3 ▸ A) V
  have:=h3 g' A;omega
 rw [List.getElem?_set_ne (Ne.symm ej)] at N
 by_cases ek:k=i
 ·subst ek
  rw [List.getElem?_set_self (by rw [h.len];exact I)] at hb
  cases hb
  obtain ⟨x,G⟩:∃ x,l[j]?=some x:=⟨_,Qx (by rw [<- h.len];exact (Qj N).1)⟩
  obtain ⟨css,M⟩:=h.rows j x a G N
  have:=(M.row.lt g' A).2
  rcases hat with h3 | h3
  ·exact h.apart j k a rv g' N hrv A (h3 ▸ V)
  have:=h3 g' V;omega
 rw [List.getElem?_set_ne (Ne.symm ek)] at hb
 exact h.apart j k a b g' N hb A V
def X9 (code:Int) (p:Val->Bool) (rows:List Val):Ft:=match rows.findIdx? (λr=>!p r) with
 | none=>Ft.zero
 | some i=>⟨code,[],rows.getD i Val.zero,Val.zero⟩
theorem bad1_any (h:Nat) (lbh:Array Value) (eh:∀ args w,(callFunc h args).run prog w=.ok (.enter h args) w) (G:Nat) (S:Nat->Prop) (rows:List Val) (p:Val->Bool) (w:World) (hp:Uv prog h lbh Zc S rows p w) (hc:w.cell? ⟨G,0,none⟩=some (.func (.func h) #[] lbh)):
  Uv prog 80 #[Iv G] Zc S rows (λr=>!p r) w:=by
 intro W x cs hb hx J
 have I:W.cell? ⟨G,0,none⟩=some (.func (.func h) #[] lbh):=kD hb (Qv w _ hc) hc
 have D:=Qv W _ I
 have hG:G<W.heap.size:=D
 have HP:=Qq (λW' (h':Below W W W')=>hp W' x cs (hb.n h') hx (Zc.frame J (.f h')))
 obtain ⟨p3,k3,p4,k4,A,_⟩:=Z9.cells (show Z9 S W cs x from J)
 simp only [Il] at A
 subst A
 show Calls prog 80 #[.agg (Is x p3 k3 p4 k4),Iv G] W (λe w'=>e=.returned (.bool (!p x))/\Below W W w')
 generalize p x=b at HP |-
 clear hp hc hb hx J D
 go_enter func80,ntmps80
 go_wp2_with (go_at_fn h;refine (HP.o _ (Zg _ _)).mono ?_;rintro e w' ⟨rfl,hw⟩)
 go_ret
 exact ⟨rfl,(Zg _ _).n hw⟩
theorem Ns (code:Int) (h:Nat) (lbh:Array Value) (eh:∀ args w,(callFunc h args).run prog w=.ok (.enter h args) w) (S0:Nat->Prop) (v:Value) (rows:List Val) (p:Val->Bool) (w:World) (hv0:Sl Zc S0 w v rows) (hp:Uv prog h lbh Zc (λb=>S0 b/\b<w) rows p w):
  Calls prog 28 #[code,v,.func (.func h) #[] lbh] w (G5 S0 w (X9 code p rows)):=by
 have hv:=hv0.up
 obtain ⟨vp,bX,rfl,hl⟩:=hv.len
 have HI:=Qq (λW (hb:Below w w W) (hc:W.cell? ⟨w,0,none⟩=some (.func (.func h) #[] lbh))=>Fi Tryz.ixVal Zc isAgg36 sizeOf36 80 #[Iv w] (enters_of func80 Ir rfl) _ _ rows W _ (hv.below hb)
  (bad1_any h lbh eh w _ rows p W (λW' x cs h1 h2 h3=>hp W' x cs (hb.n h1) h2 h3) hc))
 have HV:=Qq hv
 clear hv hv0 hp
 have hB:∃ r,X9 code p rows=r:=⟨_,rfl⟩
 obtain ⟨r,hr⟩:=hB
 rw [hr]
 have A:X8 (λr=>!p r) rows=(match rows.findIdx? (λr=>!p r) with | some i=>(i:Int) | none=>-1):=by unfold X8;cases rows.findIdx? (λr=>!p r) <;> rfl
 cases hf:rows.findIdx? (λr=>!p r) with
 | none=>
  have M:r=Ft.zero:=by rw [<- hr];unfold X9;rw [hf]
  rw [hf] at A
  simp only at A
  rw [A] at HI
  have HR:=Qq M
  clear M hr A hf
  go_enter func28,ntmps28
  go_wp2_with fail
  refine (HI.o _ (Zs _ _ _) Ib).mono ?_
  rintro e w5 ⟨rfl,hw⟩
  have D:=(hw.block (w+1) Ib).trans (Q6 w _ _)
  have fz:=λj=>Qn _ _ j _ _ D
  have rr:=λj=>Qk _ _ j _ _ _ D
  obtain ⟨f0,f1,f2,f3,f4,f5,f6,f7,f8,f9,aC,aD⟩:=AJ fz
  obtain ⟨r0,r1,r2,r3,r4,r5,r6,r7,r8,r9,U,V⟩:=AJ rr
  simp only [Qf,Qg,Qh] at r0 r1 r2 r3 r4 r5 r6 r7 r8 r9 U V
  have Z:=Qq ((Zs w _ _).n hw);have aB:=Qq D
  clear fz rr D hw
  go_wp2_with fail
  obtain ⟨W,Y⟩:=eX (Y9 w5 (w+1) Ic Ig Ic Ic Ig Ie Ie Ic Ic Ig Ie Ie)
  have q:∀ j,W.cell? ⟨w+1,j,none⟩=zF[j]?:=λj=>by rw [<- Y];exact Ya aB.o j
  have G:Below w w W:=by rw [<- Y];exact Y1 Z.o Ia
  show bodyPost _ _ _ _ _ (Y9 w5 (w+1) Ic Ig Ic Ic Ig Ie Ie Ic Ic Ig Ie Ie)
  rw [Y]
  have J:=Qq G
  obtain ⟨q0,q1,q2,q3,q4,q5,q6,q7,q8,q9,O,T⟩:=AJ q
  simp only [Qf,Qg,Qh] at q0 q1 q2 q3 q4 q5 q6 q7 q8 q9 O T
  clear Y G q r0 r1 r2 r3 r4 r5 r6 r7 r8 r9 U V f0 f1 f2 f3 f4 f5 f6 f7 f8 f9 aC aD
  refine Q7 (v:=.agg zF) (by simp [results,results28,go_sem,q0,q1,q2,q3,q4,q5,q6,q7,q8,q9,O,T]) rfl ⟨[Ic,Ig,Ic,Ic,Ig,Ie,Ie,Ic,Ic,Ig,Ie,Ie],rfl,by rw [HR.o];exact Kt _ _,J.o⟩
 | some i=>
  obtain ⟨bU,_,_⟩:=List.findIdx?_eq_some_iff_getElem.1 hf
  obtain ⟨x,hx⟩:∃ x,rows[i]?=some x:=⟨_,Qx bU⟩
  have M:r=⟨code,[],x,Val.zero⟩:=by rw [<- hr];unfold X9;rw [hf];simp only;rw [Qs,hx];rfl
  rw [hf] at A
  simp only at A
  rw [A] at HI
  obtain ⟨xb,bY,p3,k3,p4,k4,rfl,N,aJ,d0,d1,d2,d3,d4⟩:=HV.o.val hx
  have bZ:(0:Int)<=(i:Int):=Ia
  have cA:(i:Int)<(rows.length:Int):=Ia
  have HR:=Qq M;have bM:=Qq aJ
  clear M hr A hf hx aJ
  go_enter func28,ntmps28
  go_wp2_with fail
  refine (HI.o _ (Zs _ _ _) Ib).mono ?_
  rintro e w5 ⟨rfl,hw⟩
  have D:=(hw.block (w+1) Ib).trans (Q6 w _ _)
  have I:=(Zs w _ _).n hw
  have e0:=kD I N d0;have e1:=kD I N d1;have e2:=kD I N d2;have e3:=kD I N d3;have e4:=kD I N d4
  have fz:=λj=>Qn _ _ j _ _ D
  have rr:=λj=>Qk _ _ j _ _ _ D
  obtain ⟨f0,f1,f2,f3,f4,f5,f6,f7,f8,f9,aC,aD⟩:=AJ fz
  obtain ⟨r0,r1,r2,r3,r4,r5,r6,r7,r8,r9,U,V⟩:=AJ rr
  simp only [Qf,Qg,Qh] at r0 r1 r2 r3 r4 r5 r6 r7 r8 r9 U V
  have Z:=Qq I;have aB:=Qq D
  clear fz rr D hw I d0 d1 d2 d3 d4
  go_wp2_with fail
  obtain ⟨W,Y⟩:=eX (Y9 w5 (w+1) code Ig x.kind x.n x.s (.slice p3 x.names.length k3) (.slice p4 x.kids.length k4) Ic Ic Ig Ie Ie)
  have q:∀ j,W.cell? ⟨w+1,j,none⟩=#[.int .i64 code,.string ⟨#[]⟩,.int .i64 x.kind,.int .i64 x.n,.string ⟨x.s.toArray⟩,.slice p3 x.names.length k3,.slice p4 x.kids.length k4,.int .i64 0,.int .i64 0,.string ⟨#[]⟩,.slice none 0 0,.slice none 0 0][j]?:=λj=>by rw [<- Y];exact Ya aB.o j
  have aA:∀ b,b<w.heap.size->W.heap[b]?=w5.heap[b]?:=λb hb=>by rw [<- Y];exact Xj Ia
  have G:Below w w W:=by rw [<- Y];exact Y1 Z.o Ia
  show bodyPost _ _ _ _ _ (Y9 w5 (w+1) code Ig x.kind x.n x.s (.slice p3 x.names.length k3) (.slice p4 x.kids.length k4) Ic Ic Ig Ie Ie)
  rw [Y]
  have J:=Qq G;have aG:=Qq aA
  obtain ⟨q0,q1,q2,q3,q4,q5,q6,q7,q8,q9,O,T⟩:=AJ q
  simp only [Qf,Qg,Qh] at q0 q1 q2 q3 q4 q5 q6 q7 q8 q9 O T
  clear Y G aA q r0 r1 r2 r3 r4 r5 r6 r7 r8 r9 U V f0 f1 f2 f3 f4 f5 f6 f7 f8 f9 aC aD e0 e1 e2 e3 e4
  refine Q7 (v:=.agg #[code,Ig,x.kind,x.n,x.s,.slice p3 x.names.length k3,.slice p4 x.kids.length k4,Ic,Ic,Ig,Ie,Ie]) (by simp [results,results28,go_sem,q0,q1,q2,q3,q4,q5,q6,q7,q8,q9,O,T]) rfl ⟨_,rfl,?_,J.o⟩
  rw [HR.o]
  refine ⟨Il x p3 k3 p4 k4,_,rfl,Ib,?_,Y2 _ _⟩
  exact Z9.move (S':=S0) bM.o (λb hb bV=>(aG.o b hb.2).trans (Z.o.block b bV)) (λ_ _ h=>h.1)
end Go.Proofs.YtdpibdpbgokmoaaGreatDoor
