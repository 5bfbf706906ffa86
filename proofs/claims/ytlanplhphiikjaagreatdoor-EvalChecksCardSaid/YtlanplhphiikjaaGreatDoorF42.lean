import Derived.Test.YtlanplhphiikjaaGreatDoorF41
set_option maxRecDepth 100000
set_option maxHeartbeats 400000000
namespace Go.Proofs.YtlanplhphiikjaaGreatDoor
open Go.RowKit Go.Shelf Go.Lib Tryz
theorem H9 (n:Nat) (ks:List Bs) (hd:∀ (i j:Nat) (a b:Bs),i<j->ks[i]?=some a->ks[j]?=some b->a≠b):∀ i,i<=ks.length->ust n ks i=(n,0)
 | 0,_=>rfl
 | i+1,hi=>by
  show J2 (ks.take i) (ust n ks i) (ks.getD i [])=(n,0)
  rw [H9 n ks hd i Oa]
  unfold J2
  have hk:ks[i]?=some ks[i]:=Qx Oa
  have:Yo (ks.take i) (ks.getD i [])=none:=by
   unfold Yo
   rw [List.findIdx?_eq_none_iff]
   intro x hx
   obtain ⟨j,D⟩:=Qt hx
   have G:=(Qj D).1
   rw [Qf] at G
   rw [List.getElem?_take_of_lt Oa] at D
   have:=hd j i x ks[i] Oa D hk
   rw [Qm,hk]
   simpa using this
  rw [this]
theorem Ov {rows:List Val} {ks:List Bs} (hl:ks.length=rows.length) (hd:∀ (i j:Nat) (a b:Bs),i<j->ks[i]?=some a->ks[j]?=some b->a≠b):Ui rows (ust rows.length ks rows.length)=Ft.zero:=by
 rw [H9 _ _ hd _ Oa]
 unfold Ui
 rw [if_pos rfl]
theorem Nw (us:List Sm) (B:Nat) (S0 S3:Nat->Prop) (ps:Option Addr) (ns nc:Nat) (t:Tbl) (ct:List Value) (rv:Value) (rows:List Val) (p:Val->Bool) (w:World) (hB0:w.cell? ⟨B,0,none⟩=some (.slice ps ns nc)) (ht:Zg.R S0 w ct t) (hr:Sl Zc S3 w rv rows)
  (hsm:Sl Vi (fun b=>b<w) w (.slice ps ns nc) us) (hl:t.columns.length<=19) (hne:t.columns≠[]) (hp:∀ x ∈ rows,Vj x/\Us us x (Ku (Eo t)) (p x)) (hK:X7 w):
  Calls prog 60 #[ct,rv,Om B] w (Gq S3 w (Ul 9 p rows)):=by
 have aH:=Qq (fun W (hb:Below w w W)=>rowG_any S0 t ct W (Zg.frame ht (.of_below hb)) hl hne)
 have bK:=Qv _ _ hB0
 have HU:=Qq (fun W Y M (hb:Below w w W) (hct:∀ j u,M[j]?=some u->W.cell? ⟨Y,j,none⟩=some u) (hY:Y<W) (D:Y6 (fun _=>True) W M (Ku (Eo t)))=>B5 9 63 #[Om B,Om Y] (enters_of func63 Og rfl) (fun b=>S3 b/\b<w) rv rows p W ((hr.mono (fun b hb h=>⟨h,hb⟩)).below hb)
  (fun W' x cs h1 h2 h3=>L7 us B Y (fun _=>True) ps ns nc (Ku (Eo t)) M rows p W (kD hb bK hB0) hct hY ((hsm.mono (fun _ _ _=>trivial)).below hb) D hp (hK.below hb) W' x cs h1 h2 (Z5.move h3 (.refl _ _) (fun _ _ _=>trivial))))
 obtain ⟨bT,bS,bY,bX,cG,cF,k9,cH,n9,cI,cC,bZ,bP,cD,cA,bQ,cE,cB,bR,a9,z9,J,_⟩:=Zr ht
 simp only [tcs] at J
 subst J
 obtain ⟨rp,rc,rfl,_⟩:=hr.len
 obtain ⟨f,hf⟩:=eX (Ul 9 p rows)
 rw [hf] at HU |-
 clear ht hr hf hp hK hl hne hB0 hsm
 go_enter func60,ntmps60
 go_wp2_with fail
 refine (aH.out _ (Zl _ _ _)).mono ?_
 rintro e w1 ⟨M,rfl,D,O⟩
 have G:=D
 rw [show (⟨t.name,Xl Xy t.columns,t.key,t.refs,t.check⟩:Tbl)=Eo t from rfl] at D G
 generalize hT:Ku (Eo t)=T at D G HU
 obtain ⟨tk,ts,tn,I,L⟩:=T
 obtain ⟨y3,m3,y4,m4,bL,_⟩:=G.cells'
 subst bL
 have bH:=Qq D;have bB:=Qq ((Zl w _ _).thn O)
 have bG:=Qq ((O.block (w+1) Od).trans (Q1 w _ _))
 have bJ:=Qq (show w+2<=w1.heap.size by have:=O.size;simp at this;omega)
 clear D G O hT
 go_upto_region 2 with fail
 obtain ⟨W2,N⟩:=eX (w1.alloc (.cells #[tk,ts,tn,.slice y3 I.length m3,.slice y4 L.length m4] 65))
 rw [N]
 have U:=eqB N (Zb _ _)
 have aD:=eqH (b:=w1.heap.size) N (Qw _ _)
 have aE:=Qq (bB.out.thn U)
 have aG:=Qq ((U.block (w+1) (Ob bJ.out)).trans bG.out)
 have bI:=Qq (HU.out W2 w1 [tk,ts,tn,.slice y3 I.length m3,.slice y4 L.length m4] aE.out (fun j u hj=>by rw [Qk _ _ j _ _ _ aD];simpa using hj) (Z3 aD) (bH.out.move (.of_below U) (fun _ _ _=>trivial)))
 clear N U aD HU
 go_wp2_with fail
 refine bI.out.mono ?_
 rintro e w5 ⟨bU,rfl,aJ,aC⟩
 obtain ⟨p3,k3,p4,k4,q3,l3,q4,l4,J,aK,aM,aL⟩:=Va aJ
 simp only [fcs] at J
 subst J
 have aB:=Qq ((aC.block (w+1) (Z3 aG.out)).trans aG.out)
 have bC:=Qq (aE.out.thn aC)
 obtain ⟨bF,bE,bD⟩:=Px aM aL aK
 have fz:=fun j=>Qg _ _ j _ _ aB.out
 have rr:=fun j=>Qk _ _ j _ _ _ aB.out
 obtain ⟨f0,f1,f2,f3,f4,f5,f6,f7,f8,f9,bV,bW⟩:=P5 fz
 obtain ⟨r0,r1,r2,r3,r4,r5,r6,r7,r8,r9,bM,bN⟩:=P5 rr
 simp only [Qa,Qb,Qc] at r0 r1 r2 r3 r4 r5 r6 r7 r8 r9 bM bN
 clear fz rr aJ aC aM aL aK
 go_wp2_with fail
 obtain ⟨W,hW⟩:=eX (Y8 w5 (w+1) f.code f.table f.row.kind f.row.n f.row.s (.slice p3 f.row.names.length k3) (.slice p4 f.row.kids.length k4) f.other.kind f.other.n f.other.s (.slice q3 f.other.names.length l3) (.slice q4 f.other.kids.length l4))
 have q:∀ j,W.cell? ⟨w+1,j,none⟩=#[.int .i64 f.code,.string ⟨f.table.toArray⟩,.int .i64 f.row.kind,.int .i64 f.row.n,.string ⟨f.row.s.toArray⟩,.slice p3 f.row.names.length k3,.slice p4 f.row.kids.length k4,.int .i64 f.other.kind,.int .i64 f.other.n,.string ⟨f.other.s.toArray⟩,.slice q3 f.other.names.length l3,.slice q4 f.other.kids.length l4][j]?:=fun j=>by rw [<- hW];exact Y4 aB.out j
 have aA:∀ b,b≠w.heap.size+1->W.heap[b]?=w5.heap[b]?:=fun b hb=>by rw [<- hW];exact Y9 hb
 have Z:Below w w W:=by rw [<- hW];exact Yq bC.out Oa
 show bodyPost _ _ _ _ _ (Y8 w5 (w+1) f.code f.table f.row.kind f.row.n f.row.s (.slice p3 f.row.names.length k3) (.slice p4 f.row.kids.length k4) f.other.kind f.other.n f.other.s (.slice q3 f.other.names.length l3) (.slice q4 f.other.kids.length l4))
 rw [hW]
 have aF:=Qq Z;have V:=Qq aA
 obtain ⟨q0,q1,q2,aP,aQ,q5,q6,q7,q8,q9,aN,aO⟩:=P5 q
 simp only [Qa,Qb,Qc] at q0 q1 q2 aP aQ q5 q6 q7 q8 q9 aN aO
 clear hW Z q aA
 refine Q2 (v:=.agg (Pz f.code f.table f.row p3 k3 p4 k4 f.other q3 l3 q4 l4)) (by simp [results,results60,go_sem,q0,q1,q2,aP,aQ,q5,q6,q7,q8,q9,aN,aO]) rfl ⟨_,rfl,?_,aF.out⟩
 exact ⟨_,_,rfl,bD.out,Z5.move bF.out (fun b hb _=>V.out b (by have:b<w.heap.size:=hb.2;omega)) (fun _ _ h=>h.1),Z5.move bE.out (fun b hb _=>V.out b (by have:b<w.heap.size:=hb.2;omega)) (fun _ _ h=>h.1)⟩
def Xk (t:Tbl):Tbl:=⟨t.name,t.columns,t.key,[],t.check⟩
def Ls (t:Tbl) (row:Val) (few:Bool) (c _:Nat):Ft:=
 match c with
 | 0=>con1 [row]
 | 1=>Ul 9 (fun _=>true) [row]
 | 2=>Ui [row] (ust [row].length ([row].map fun r=>kbV (E6 t r)) [row].length)
 | 3=>Ft.zero
 | _=>Ul 13 (fun r=>U7 t r few) [row]
theorem Bl {t:Tbl} (h:Uy t):t.columns.length<=19/\t.columns≠[]/\t.key.length<=1000:=by
 rcases h with ⟨a,b,rfl⟩ | ⟨a,r,c,rfl⟩ | ⟨r,k,rfl⟩
 ·exact ⟨by cases b <;> simp [G15.place],by simp [G15.place],by simp [G15.place]⟩
 ·exact ⟨by simp [G15.item],by simp [G15.item],by simp [G15.item]⟩
 exact ⟨by simp [G15.shop],by simp [G15.shop],by cases k <;> simp [G15.shop]⟩
theorem con15 (w:World) (S0 S1:Nat->Prop) (t:Tbl) (row:Val) (few:Bool) (ht:Uy t) (hr:Dj t row) (hf:t.check=if few then lt9 else Gen.yes) (cs:List Value) (lv:Value) (hs:Ug S0 w cs ⟨G15.sums,[Xk t]⟩) (hl:Sl Yd S1 w lv [⟨t.name,[row]⟩]) (hkw:X7 w):
  ConOk w ⟨G15.sums,[Xk t]⟩ cs lv [⟨t.name,[row]⟩] (Ls t row few):=by
 intro c hc i t' r' O aB aD B C W L T hb hB hC D I
 obtain ⟨Y,Z,N⟩:=Bl ht
 obtain rfl:i=0:=by have:=(Qj O).1;simp at this;exact this
 obtain rfl:Xk t=t':=by simpa using O
 obtain rfl:(⟨t.name,[row]⟩:Rel)=r':=by simpa using aB
 have aC:=hs.below hb
 have G:∀ x ∈ [row],Dj t x:=fun x J=>by rw [Z0] at J;exact J ▸ hr
 obtain ⟨uv,tv,rfl,hu,aE⟩:=hs
 have M:W.cell? ⟨B,0,none⟩=some uv:=by rw [Qk _ _ _ _ _ _ hB];rfl
 have V:W.cell? ⟨B,1,none⟩=some tv:=by rw [Qk _ _ _ _ _ _ hB];rfl
 match c,hc with
 | 0,_=>exact con1_any _ _ _ (Xk t) L T [row] W D I
 | 1,_=>
  obtain ⟨ps,U,rfl,_⟩:=hu.len
  exact Nw G15.sums B _ _ ps _ U (Xk t) L T [row] (fun _=>true) W M D I ((hu.below hb).mono (fun b hb _=>hb)) Y Z (fun x J=>⟨La ht (G x J),(show Us G15.sums x (Ku (Eo t)) true from Nb ht (G x J))⟩) (hkw.below hb)
 | 2,_=>
  have hk:=keys15 ht hr
  exact Ny _ _ (Xk t) L T [row] (E6 t) W D I ⟨hk.key,hk.bd,hk.len⟩ Od N
 | 3,_=>
  exact con4_any B C S0 S1 _ _ ⟨G15.sums,[Xk t]⟩ uv tv lv [⟨t.name,[row]⟩] (Xk t) L T [row] W M V hC aC (hl.below hb) D I (by intro x J;rw [Z0] at J;exact J ▸ N)
 | 4,_=>exact con5_any _ _ (Xk t) L T [row] (fun r=>U7 t r few) W D I (hkw.below hb) (fun x J=>sat15 ht (G x J) few hf)
theorem first15 {t:Tbl} {row:Val} {few:Bool} {nm:Nat->Bs} {f:Ft} (h:FirstF 1 (Ls t row few) nm f):(f.code==13)=!U7 t row few:=by
 have h0:(Ls t row few 0 0).code=0:=rfl
 have h1:(Ls t row few 1 0).code=0:=rfl
 have h2:(Ls t row few 2 0).code=0:=by
  show (Ui [row] (ust [row].length ([row].map fun r=>kbV (E6 t r)) [row].length)).code=0
  rw [Ov (rows:=[row]) Od (fun i j a b I ha hb=>by
   have:=(Qj hb).1
   simp at this
   omega)]
  rfl
 have h3:(Ls t row few 3 0).code=0:=rfl
 have h4:(Ls t row few 4 0).code=if U7 t row few then 0 else 13:=by
  show (Ul 13 (fun r=>U7 t r few) [row]).code=_
  unfold Ul
  cases G:U7 t row few <;> simp [List.findIdx?_cons,G,Ft.zero]
 rcases h with ⟨rfl,h⟩ | ⟨c,i,G,hi,D,rfl,_⟩
 ·have:=h 4 0 Of Of
  rw [h4] at this
  cases G:U7 t row few
  ·rw [G] at this
   exact absurd this Of
  rfl
 obtain rfl:i=0:=Oa
 match c,G with
 | 0,_=>exact absurd h0 D
 | 1,_=>exact absurd h1 D
 | 2,_=>exact absurd h2 D
 | 3,_=>exact absurd h3 D
 | 4,_=>
  rw [h4] at D |-
  cases G:U7 t row few
  ·rfl
  rw [G] at D
  exact absurd rfl D
def Code15 (w:World) (b:Bool) (e:Ending) (w':World):Prop:=∃ (q:Int) (a1:ByteArray) (a2 a3:Int) (a4:ByteArray) (p5:Option Addr) (m5 k5:Nat) (p6:Option Addr) (m6 k6:Nat) (a7 a8:Int) (a9:ByteArray) (p10:Option Addr) (m10 k10:Nat) (p11:Option Addr) (m11 k11:Nat),e=.returned (.agg #[q,.string a1,a2,a3,.string a4,.slice p5 m5 k5,.slice p6 m6 k6,a7,a8,.string a9,.slice p10 m10 k10,.slice p11 m11 k11])/\(q==13)=!b/\Below w w w'
theorem check15 (S0 S1:Nat->Prop) (t:Tbl) (row:Val) (few:Bool) (ht:Uy t) (hr:Dj t row) (hf:t.check=if few then lt9 else Gen.yes) (cs:List Value) (lv:Value) (w:World) (hs:Ug S0 w cs ⟨G15.sums,[Xk t]⟩) (hl:Sl Yd S1 w lv [⟨t.name,[row]⟩]) (hkw:X7 w):
  Calls prog 25 #[cs,lv] w (Code15 w (U7 t row few)):=by
 refine (Nh S0 S1 ⟨G15.sums,[Xk t]⟩ cs lv [⟨t.name,[row]⟩] w hs hl _ (con15 w S0 S1 t row few ht hr hf cs lv hs hl hkw)).mono ?_
 rintro e w' ⟨f,h1,_,I,rfl,G,hb⟩
 have hn:Kr ⟨G15.sums,[Xk t]⟩ [⟨t.name,[row]⟩]=true:=by simp [Kr,eqL,F9,Xk]
 have hq:=first15 (h1 hn)
 obtain ⟨p3,k3,p4,k4,q3,l3,q4,l4,D,_⟩:=Va G
 simp only [fcs] at D
 subst D
 exact ⟨_,_,_,_,_,_,_,_,_,_,_,_,_,_,_,_,_,_,_,_,rfl,hq,hb⟩
end Go.Proofs.YtlanplhphiikjaaGreatDoor
