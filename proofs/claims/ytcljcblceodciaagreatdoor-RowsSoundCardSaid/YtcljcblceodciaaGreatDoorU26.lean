import Derived.Test.YtcljcblceodciaaGreatDoorU20
import Derived.Test.YtcljcblceodciaaGreatDoorU19
set_option maxRecDepth 100000
set_option maxHeartbeats 400000000
namespace Go.Proofs.YtcljcblceodciaaGreatDoor
open Go.RowKit Go.Shelf Go.Lib Tryz
theorem A9 {l:List Tbl} {x:Bs} {k:Nat} {t:Tbl} (ht:l[k]?=some t) (he:t.name=x) (hne:∀ (j:Nat) (y:Tbl),j<k->l[j]?=some y->decide (y.name=x)=false):Yq l x=some t:=by
 obtain ⟨hk,rfl⟩:=Qj ht
 unfold Yq
 rw [List.find?_eq_some_iff_getElem]
 exact ⟨by simpa using he,k,hk,rfl,fun j hj=>by simpa using hne j _ hj (Qx C7)⟩
theorem Rh {l:List Tbl} {x:Bs} (hne:∀ (j:Nat) (y:Tbl),l[j]?=some y->decide (y.name=x)=false):Yq l x=none:=by
 unfold Yq
 rw [List.find?_eq_none]
 intro y hy
 obtain ⟨j,hj⟩:=Zk hy
 simpa using hne j y hj
def TabIs (S:Nat->Prop) (w:World) (o:Option Tbl) (e:Ending) (w':World):Prop:=∃ cs',e=.returned (.tuple #[.agg cs'.toArray,.bool o.isSome])/\Zm.R S w' cs' (o.getD Tbl.zero)/\Below w w w'
theorem Ek (S:Nat->Prop) (s:Sc) (cs:List Value) (x0:Bs) (w:World) (hs:Xt S w cs s):
  Calls prog 89 #[cs,sv x0] w (TabIs S w (Yq s.tables x0)):=by
 obtain ⟨uv,tv,rfl,hu,aZ⟩:=hs
 have ht:=aZ.up
 obtain ⟨up,uc,rfl,_⟩:=hu.len
 obtain ⟨tp,tc,rfl,bS⟩:=ht.len
 have HT:=Qq ht
 clear hu ht aZ
 obtain ⟨n,hn⟩:=eX (s.tables.length)
 rw [hn] at HT bS |-
 have HN:=Qq hn
 clear hn
 obtain ⟨r,hr⟩:=eX (Yq s.tables x0)
 rw [hr]
 have HR:=Qq hr
 clear hr
 unfold sv
 go_enter func89,ntmps89
 go_wp2_with fail
 generalize aC:(w.alloc _).alloc _=W1
 have aX:=eqB aC (Zu _ _ _)
 have aW:=eqH (b:=w.heap.size) aC (Q5 _ _ _)
 have aB:=eqH (b:=w.heap.size+1) aC (Q6 _ _ _)
 have aQ:=Qq aX;have aU:=Qq aB
 obtain ⟨c0,c1⟩:=row2 aW
 obtain ⟨r0,r1,r2,r3,r4,r5,r6,r7,r8,r9,cG,cH,cI⟩:=row13 aB
 obtain ⟨f0,f1,f2,f3,f4,f5,f6,f7,f8,f9,bY,bZ,cA⟩:=frz13 aB
 clear aC aX aW aB
 go_loop [6] (fun i=>∃ k:Nat,k<=n/\i=.int .i64 k/\Aside (∀ (j:Nat) (y:Tbl),j<k->s.tables[j]?=some y->decide (y.name=x0)=false)) (fun i=>n - (intOf i).toNat)
 case atStart=>exact ⟨0,Q8 _,rfl,fun j _ hj=>absurd hj (Z6 _)⟩
 obtain ⟨k,hk,rfl,A⟩:=hrel
 by_cases hlt:k<n
 ·have cD:(0:Int)<=(k:Int):=C7
  have cE:(k:Int)<(n:Int):=C7
  obtain ⟨y,hy⟩:∃ y,s.tables[k]?=some y:=⟨_,Qx (by rw [HN.out];exact hlt)⟩
  obtain ⟨b,cF,ct,rfl,cC,cB,_,hR,I⟩:=(HT.out.below aQ.out).elem hy
  have aV:=hR
  obtain ⟨aA,Z,aE,aD,aM,aL,k9,aN,n9,aO,aI,aF,U,aJ,aG,V,aK,aH,Y,a9,z9,aY,_⟩:=Zt hR
  simp only [tcs] at aY
  subst aY
  have d0:=I 0 _ rfl
  have d1:=I 1 _ rfl
  have d2:=I 2 _ rfl
  have d3:=I 3 _ rfl
  have d4:=I 4 _ rfl
  have d5:=I 5 _ rfl
  have d6:=I 6 _ rfl
  have d7:=I 7 _ rfl
  have d8:=I 8 _ rfl
  have d9:=I 9 _ rfl
  have bO:=I 10 _ rfl
  have bP:=I 11 _ rfl
  have bQ:=I 12 _ rfl
  simp only [show Zm.k=13 from rfl,Nat.add_zero] at d0 d1 d2 d3 d4 d5 d6 d7 d8 d9 bO bP bQ
  have bN:=Qq aV;have HY:=Qq hy
  clear hR aV I hy
  by_cases he:y.name=x0
  ·have hq:(y.name==x0)=true:=by rw [he];simp
   have aR:r=some y:=by rw [<- HR.out];exact A9 HY.out he A.out
   subst aR
   clear he A
   go_wp2_with fail
   obtain ⟨W,M⟩:=eX (Xi W1 (w+1) y.name (.slice aA y.columns.length Z) (.slice aE y.key.length aD) (.slice aM y.refs.length aL) k9 (.string aN) n9 (.string aO) (.slice aI aF U) (.slice aJ aG V) (.slice aK aH Y) a9 z9)
   have q:∀ j,W.cell? ⟨w+1,j,none⟩=#[.string ⟨y.name.toArray⟩,.slice aA y.columns.length Z,.slice aE y.key.length aD,.slice aM y.refs.length aL,.int .i64 k9,.string aN,.int .i64 n9,.string aO,.slice aI aF U,.slice aJ aG V,.slice aK aH Y,.int .i64 a9,.int .i64 z9][j]?:=fun j=>by rw [<- M];exact U0 aU.out j
   have G:∀ b,b≠w.heap.size+1->W.heap[b]?=W1.heap[b]?:=fun b hb=>by rw [<- M];exact V8 hb
   have D:Below w w W:=by rw [<- M];exact Xz aQ.out C7
   show bodyPost _ _ _ _ _ (Xi W1 (w+1) y.name (.slice aA y.columns.length Z) (.slice aE y.key.length aD) (.slice aM y.refs.length aL) k9 (.string aN) n9 (.string aO) (.slice aI aF U) (.slice aJ aG V) (.slice aK aH Y) a9 z9)
   rw [M]
   have J:=Qq D;have aP:=Qq G
   obtain ⟨q0,q1,q2,q3,q4,q5,q6,q7,q8,q9,N,O,T⟩:=Qjc q
   simp only [Qf,Qg,Qh] at q0 q1 q2 q3 q4 q5 q6 q7 q8 q9 N O T
   clear M D G q
   refine Q7 (v:=.tuple #[.agg (Co y aA Z aE aD aM aL k9 aN n9 aO aI aF U aJ aG V aK aH Y a9 z9),.bool true]) (by simp [results,results89,go_sem,q0,q1,q2,q3,q4,q5,q6,q7,q8,q9,N,O,T]) rfl ⟨_,rfl,Zm.mono (Zm.frame bN.out (fun b hb _=>aP.out b (by have:=hb.2;omega))) (fun b _ h=>h.1),J.out⟩
  have hq:(y.name==x0)=false:=by rw [<- Qt,beq_iff_eq];exact he
  have HE:=Qq he
  clear he
  go_wp2_with fail
  go_round
  case measure=>simp [intOf];omega
  case rel=>
   refine ⟨k+1,C7,by go_num,(show Aside _ from fun j z hj hz=>?_)⟩
   by_cases e:j=k
   ·subst e
    have:=HY.out
    rw [this] at hz
    cases hz
    simpa using HE.out
   exact A.out j z C7 hz
 have bX:¬ (k:Int)<(n:Int):=C7
 have:k=n:=C7
 subst this
 have aR:r=none:=by rw [<- HR.out];exact Rh (fun j y hy=>A.out j y (by have:=(Qj hy).1;have:=HN.out;omega) hy)
 subst aR
 clear A
 go_wp2_with fail
 obtain ⟨W,M⟩:=eX (Xi W1 (w+1) Cl Cm Cm Cm Ci Cl Ci Cl Cm Cm Cm Ci Ci)
 have q:∀ j,W.cell? ⟨w+1,j,none⟩=zT[j]?:=fun j=>by rw [<- M];exact U0 aU.out j
 have G:∀ b,b≠w.heap.size+1->W.heap[b]?=W1.heap[b]?:=fun b hb=>by rw [<- M];exact V8 hb
 have D:Below w w W:=by rw [<- M];exact Xz aQ.out C7
 show bodyPost _ _ _ _ _ (Xi W1 (w+1) Cl Cm Cm Cm Ci Cl Ci Cl Cm Cm Cm Ci Ci)
 rw [M]
 have J:=Qq D;have aP:=Qq G
 obtain ⟨q0,q1,q2,q3,q4,q5,q6,q7,q8,q9,N,O,T⟩:=Qjc q
 simp only [Qf,Qg,Qh] at q0 q1 q2 q3 q4 q5 q6 q7 q8 q9 N O T
 clear M D G q
 refine Q7 (v:=.tuple #[.agg zT,.bool false]) (by simp [results,results89,go_sem,q0,q1,q2,q3,q4,q5,q6,q7,q8,q9,N,O,T]) rfl ⟨[Cl,Cm,Cm,Cm,Ci,Cl,Ci,Cl,Cm,Cm,Cm,Ci,Ci],rfl,Db _ _,J.out⟩
namespace Inc
end Inc
def UpV (l:List Val):Prop:=l.Pairwise (fun a b=>Yv a b<0)
theorem hasV_iff {l:List Val} {x:Val}:Ha l x=true↔key x ∈ l.map key:=by
 unfold Ha
 rw [List.any_eq_true,List.mem_map]
 constructor
 ·rintro ⟨y,A,h⟩;exact ⟨y,A,B8.1 h⟩
 rintro ⟨y,A,h⟩;exact ⟨y,A,B8.2 h⟩
theorem Da {α:Type} (p:α->Bool):∀ (l:List α) (x:α),x ∈ l.take (l.takeWhile p).length->p x=true
 | [],x,h=>by simp at h
 | a::l,x,h=>by
  rw [List.takeWhile_cons] at h
  split at h
  ·rename_i hp
   rw [List.length_cons,List.take_succ_cons] at h
   rcases Z3.1 h with rfl | h
   ·exact hp
   exact Da p l x h
  simp at h
theorem Bo {α:Type} (p:α->Bool):∀ (l:List α) (y:α) (r:List α),l.drop (l.takeWhile p).length=y::r->p y=false
 | [],y,r,h=>by simp at h
 | a::l,y,r,h=>by
  rw [List.takeWhile_cons] at h
  split at h
  ·rw [List.length_cons,List.drop_succ_cons] at h
   exact Bo p l y r h
  rename_i hp
  simp at h
  rw [<- h.1];simpa using hp
theorem putV_up {l:List Val} (h:UpV l) (x:Val):UpV (Jd l x):=by
 by_cases hh:Ha l x=true
 ·unfold Jd;rw [if_pos hh];exact h
 rw [At _ _ (by simpa using hh)]
 have I:∀ y ∈ l,Yv y x≠0:=fun y D h0=>hh (hasV_iff.2 (List.mem_map.2 ⟨y,D,Gv.1 h0⟩))
 have h1:∀ y ∈ l.take (Uz l x),Yv y x<0:=fun y D=>by
  have:=Da _ _ _ D
  have h2:=of_decide_eq_true this
  have:=I y (List.mem_of_mem_take D)
  omega
 have A:=h
 unfold UpV at A |-
 rw [<- List.take_append_drop (Uz l x) l,List.pairwise_append] at A
 have hl:∀ a b:Val,Yv a b<0->∀ c,Yv b c<0->Yv a c<0:=fun a b h c h'=>by rw [F7] at *;exact Hu h h'
 have h2:∀ y ∈ l.drop (Uz l x),Yv x y<0:=by
  intro y D
  cases hd:l.drop (Uz l x) with
  | nil=>rw [hd] at D;cases D
  | cons z r=>
   have hz:=Bo _ _ _ _ hd
   have J:0<Yv z x:=by
    have:=of_decide_eq_false hz
    omega
   have G:Yv x z<0:=by
    rw [F7,Kp,<- F7];omega
   rw [hd] at D
   rcases Z3.1 D with rfl | D
   ·exact G
   have:=A.2.1
   rw [hd] at this
   exact hl _ _ G _ ((List.pairwise_cons.1 this).1 y D)
 rw [List.pairwise_append]
 refine ⟨A.1,List.pairwise_cons.2 ⟨h2,A.2.1⟩,fun a ha b hb=>?_⟩
 rcases Z3.1 hb with rfl | hb
 ·exact h1 a ha
 exact A.2.2 a ha b hb
theorem insRoomS (S:Nat->Prop) (B:Nat) (w:World) (g n cap i:Nat) (xs:List Bs) (css:List (List Value)) (y:Bs) (cy:List Value) (qb qo c:Nat) (hO:Own Zh 9 S B w (.slice (some ⟨g,0,none⟩) n cap) xs css) (hn:xs.length=n) (hi:i<n) (hroom:n+1<=cap) (hqb:qb≠g)
  (hy:Zh.R (But S (.slice (some ⟨g,0,none⟩) n cap)) w cy y) (hcy:∀ j u,cy[j]?=some u->w.cell? ⟨qb,qo+j,none⟩=some u) (hl:n<=100000)
  (tA:TypeId) (kA:Nat) (hsa:w.shape? qb=some (tA,kA)) (hfa:w.frozen? ⟨qb,qo,none⟩=false) (hfe:w.frozen? ⟨qb,kA,none⟩=false):
  Calls prog 171 #[Cg g 0 n cap,i,Cg qb qo 1 c] w (fun e w'=>e=.returned (.slice (some ⟨g,0,none⟩) (n+1) cap)/\∃ X,w'.heap[g]?=some (.cells X 9 (0,0))/\X.size=cap/\X.toList.take ((n+1))=(css.take i).flatten++cy++(css.drop i).flatten/\(∀ k,k≠g->w'.heap[k]?=w.heap[k]?)/\w'=w.heap.size/\w.grownBy w' (some g)):=by
 obtain ⟨i0,j1,j2,j3,j4⟩:=Y7 (P:=prog) (t:=9) (z:=.string ⟨#[]⟩) (n:=1) (b:=16) Cd
 have mixed:prog.follows .mixedOrders=true:=Cd
 have bB:(prog.info? 9).map (·.size)=some 1:=by rw [j1];simp [j3]
 rcases hO.row.2 with ⟨h,_⟩ | ⟨g',bK,I,hv,bR,aF,bT,bQ,O,U⟩
 ·cases h
 simp only [Qr,Zv,Addr.mk.injEq] at hv
 obtain ⟨⟨rfl,-,-⟩,-,rfl⟩:=hv
 have aO:=hO.cs.all
 have aD:=hO.cs.flat
 have aX:css.length=n:=by rw [hO.cs.len,hn]
 obtain ⟨A,hA⟩:=eX ((css.take i).flatten)
 obtain ⟨D,hD⟩:=eX ((css.drop i).flatten)
 have aM:css.flatten=A++D:=by rw [<- hA,<- hD,<- List.flatten_append,List.take_append_drop]
 have aN:A.length=i:=by rw [<- hA,Vm (fun c hc=>aO c (List.mem_of_mem_take hc)),Qm,aX,Z0 C7];exact Nat.mul_one _
 have aA:D.length=(n - i):=by rw [<- hD,Vm (fun c hc=>aO c (Zw hc)),Zq,aX];exact Nat.mul_one _
 have N:∀ j v,(A++D)[j]?=some v->w.cell? ⟨g,j,none⟩=some v:=by
  intro j v T
  rw [<- aM,<- U,List.getElem?_take] at T
  split at T
  ·rw [Qk w g j I _ (0,0) aF];simpa using T
  cases T
 have aT:∀ v ∈ D,v.oneCell'=true:=by
  intro u hu
  rw [<- hD] at hu
  obtain ⟨cc,aY,bI⟩:=List.mem_flatten.1 hu
  obtain ⟨j,T⟩:=Zk (Zw aY)
  have bF:=(Qj T).1
  exact Xw _ w cc _ (hO.cs.R j cc _ T (Qx (by rw [<- hO.cs.len];exact bF))) u bI
 have G:cy.length=1:=Zh.len hy
 have aU:∀ v ∈ cy,v.oneCell'=true:=Xw _ w cy y hy
 have bH:∀ lb cb,(callFunc 185 #[Cg qb qo 1 c,Cg g (i+1) lb cb]).run prog w=.ok (.value (.bool false)) w:=fun lb cb=>by
  rw [run_callFunc_extern func185 Cd Cd Cd (e:=Extern.SlicesOverlaps.overlaps #[33,33] #[4]) Cd,
   Lib.run_overlaps_apart w 33 4 9 underlying33 1 sizeOf9 ⟨qb,qo,none⟩ ⟨g,(i+1),none⟩ 1 c lb cb hqb tA 9 kA (cap) hsa (by unfold World.shape?;rw [aF];simp [O];exact Nat.mul_one _) C7 hfa hfe]
  rfl
 have bG:Zh.k=1:=rfl
 have aR:Nat.min (n+1 - i) (n+1 - (i+1))=n - i:=(show min (n+1 - i) (n+1 - (i+1))=n - i by omega)
 have aS:Nat.min 1 (n+1 - i)=1:=(show min 1 (n+1 - i)=1 by omega)
 rw [bG] at O U aD
 simp only [Nat.mul_one] at O U aD
 rw [hn] at U
 have M:I.toList.length=cap:=by simpa using O
 have aH:∀ j v,D[j]?=some v->w.cell? ⟨g,i+j,none⟩=some v:=fun j v T=>N _ v (by rw [Zx C7,aN,Nat.add_sub_cancel_left];exact T)
 obtain ⟨Y,aB⟩:∃ Y,Y=(I.toList.take ((i+1))++D++I.toList.drop ((i+1)+D.length)).toArray:=⟨_,rfl⟩
 have aJ:∀ ty dc sc,(Builtin.copy_ #[33,33] ty #[.slice (some ⟨g,(i+1),none⟩) (n+1 - (i+1)) dc,Cg g i (n+1 - i) sc]).run prog w.drew=.ok (goInt (n - i:Nat)) (w.drew.setRow g Y):=fun ty dc sc=>by
  have h:=Xa (P:=prog) 1 w.drew 33 33 ty 9 g ((i+1)) (n+1 - (i+1)) dc ⟨g,i,none⟩ (n+1 - i) sc I 9 D underlying33 bB aF (by rw [aA,aR,Nat.mul_one]) (fun j v T=>by rw [Addr.add_lit];exact aH j v T) (by simp only [aA,O];omega) aT
  rw [<- aB,aR] at h
  exact h
 obtain ⟨V,J⟩:∃ V,V=w.drew.setRow g Y:=⟨_,rfl⟩
 have aP:V.heap[g]?=some (.cells Y 9 (0,0)):=by rw [J];exact setRow_heap _ _ _ _ _ _ aF
 have aG:∀ k,k≠g->V.heap[k]?=w.heap[k]?:=fun k hk=>by rw [J,setRow_other _ _ _ _ hk];rfl
 rw [<- J] at aJ
 have aC:Y.toList.length=cap:=by rw [aB];simp only [Ql,Qm,Zq,M,aA];rw [Z0 C7];omega
 have aI:Y.size=cap:=by simpa using aC
 obtain ⟨Z,aE⟩:∃ Z,Z=(Y.toList.take (i)++cy++Y.toList.drop (i+cy.length)).toArray:=⟨_,rfl⟩
 have aZ:∀ ty dc,(Builtin.copy_ #[33,33] ty #[Cg g i (n+1 - i) dc,Cg qb qo 1 c]).run prog V=.ok (goInt 1) (V.setRow g Z):=fun ty dc=>by
  have h:=Xa (P:=prog) 1 V 33 33 ty 9 g (i) (n+1 - i) dc ⟨qb,qo,none⟩ 1 c Y 9 cy underlying33 bB aP (by rw [G,aS]) (fun j v T=>by rw [Addr.add_lit];exact (World.cell?_of_block (aG qb hqb)).trans (hcy j v T)) (by rw [G,aI];omega) aU
  rw [<- aE,aS] at h
  exact h
 have aK:(V.setRow g Z).heap[g]?=some (.cells Z 9 (0,0))/\Z.size=cap/\Z.toList.take ((n+1))=A++cy++D/\(∀ k,k≠g->(V.setRow g Z).heap[k]?=w.heap[k]?)/\(V.setRow g Z).heap.size=w.heap.size/\w.grownBy (V.setRow g Z) (some g):=by
  have bA:(V.setRow g Z).heap.size=w.heap.size:=by rw [J];simp [World.setRow]
  refine ⟨setRow_heap _ _ _ _ _ _ aP,?_,?_,fun k hk=>(setRow_other _ _ _ _ hk).trans (aG k hk),bA,⟨by rw [J];rfl,by rw [J];rfl,by rw [J];rfl,by rw [bA];exact Q9 _,fun k _ hk=>(setRow_other _ _ _ _ (fun e=>hk (by rw [e]))).trans (aG k (fun e=>hk (by rw [e])))⟩⟩
  ·rw [aE];simp only [List.size_toArray,Ql,Qm,Zq,aC,G];rw [Z0 C7];omega
  have bE:I.toList.take (i)=A:=by
   have:(I.toList.take (n)).take (i)=A:=by rw [U,aM,Z1 C7,Zj C7]
   rwa [List.take_take,Z0 C7] at this
  have e1:Y.toList.take (i)=A:=by
   rw [aB,List.toList_toArray,List.append_assoc,Z1 (by rw [Qm,M,Z0 C7];omega),List.take_take,Z0 C7,bE]
  have e2:Y.toList.drop (i+cy.length)=D++I.toList.drop ((i+1)+D.length):=by
   rw [aB,List.toList_toArray,List.append_assoc,G,List.drop_append_of_le_length (by rw [Qm,M,Z0 C7];omega),Qu (by rw [Qm,M,Z0 C7];omega),List.nil_append]
  rw [aE,List.toList_toArray,e1,e2,<- List.append_assoc,Z1 (by simp only [Ql,aN,G,aA];omega),Zj (by simp only [Ql,aN,G,aA];omega)]
 rw [show css.take i=css.take i from rfl] at hA
 rw [hA,hD]
 have HE:=Qq aK
 clear aK J aB aE aC aI aR aS aH N U O M aM hA hD hO aO hy hcy aT aU aG aP
 have bY:¬ ((i:Int)=(n:Int)):=C7
 have bW:IntKind.i64.wrap ((i:Int)+1)=(i:Int)+1:=by rw [IntKind.wrap_i64];omega
 have bX:IntKind.i64.wrap ((n:Int)+1)=(n:Int)+1:=by rw [IntKind.wrap_i64];omega
 have bU:¬ ((cap:Int)<(n:Int)+1):=C7
 have bM:(0:Int)<=(i:Int)+1:=C7
 have bL:(0:Int)<=(i:Int):=C7
 have bN:¬ (cap=i+1):=C7
 have bO:¬ (cap=i):=C7
 have bV:((i:Int)+1).toNat=i+1:=C7
 have bS:i<=n:=C7
 have bP:(i:Int)<=(n:Int)+1:=C7
 go_enter func171,ntmps171
 go_wp2_with (simp only [bH])
 go_region_law_o (refine step_copy_runI rfl _ _ 33 33 rfl _ _ (by simp [Act.eval,Act.put]) (by simp [Act.eval,Act.put]) (aJ _ (cap - (i+1)) (cap - i)) ?_)
 go_wp2_with (at_builtin;refine wpList_copy_runI _ rfl _ _ 33 33 rfl _ _ (by simp [Act.eval,Act.put]) (by simp [Act.eval,Act.put]) (aZ _ (cap - i)) ?_)
 go_ret
 exact ⟨rfl,_,HE.out⟩
theorem insGrowS (S:Nat->Prop) (B:Nat) (w:World) (g n i:Nat) (xs:List Bs) (css:List (List Value)) (y:Bs) (cy:List Value) (qb qo c:Nat) (hO:Own Zh 9 S B w (.slice (some ⟨g,0,none⟩) n n) xs css) (hn:xs.length=n) (hi:i<n)
  (hy:Zh.R (But S (.slice (some ⟨g,0,none⟩) n n)) w cy y) (hcy:∀ j u,cy[j]?=some u->w.cell? ⟨qb,qo+j,none⟩=some u) (hl:n<=100000)
  (hqw:qb<w):
  Calls prog 171 #[Cg g 0 n n,i,Cg qb qo 1 c] w (fun e w'=>∃ G,e=.returned (.slice (some ⟨w,0,none⟩) (n+1) G)/\n+1<=G/\G<=maxLen/\∃ X,w'.heap[w.heap.size]?=some (.cells X 9 (0,0))/\X.size=G/\X.toList.take ((n+1))=(css.take i).flatten++cy++(css.drop i).flatten/\(∀ k,k<w.heap.size->w'.heap[k]?=w.heap[k]?)/\w'=w.heap.size+1/\w.grownBy w' (some g)):=by
 obtain ⟨i0,j1,j2,j3,j4⟩:=Y7 (P:=prog) (t:=9) (z:=.string ⟨#[]⟩) (n:=1) (b:=16) Cd
 have mixed:prog.follows .mixedOrders=true:=Cd
 have bX:(prog.info? 9).map (·.size)=some 1:=by rw [j1];simp [j3]
 rcases hO.row.2 with ⟨h,_⟩ | ⟨g',cG,bH,hv,cQ,aZ,cS,cP,aM,aI⟩
 ·cases h
 simp only [Qr,Zv,Addr.mk.injEq] at hv
 obtain ⟨⟨rfl,-,-⟩,-,rfl⟩:=hv
 have aW:=hO.cs.all
 have aG:=hO.cs.flat
 have bP:css.length=n:=by rw [hO.cs.len,hn]
 obtain ⟨A,hA⟩:=eX ((css.take i).flatten)
 obtain ⟨D,hD⟩:=eX ((css.drop i).flatten)
 have bL:css.flatten=A++D:=by rw [<- hA,<- hD,<- List.flatten_append,List.take_append_drop]
 have U:A.length=i:=by rw [<- hA,Vm (fun c hc=>aW c (List.mem_of_mem_take hc)),Qm,bP,Z0 C7];exact Nat.mul_one _
 have aD:D.length=(n - i):=by rw [<- hD,Vm (fun c hc=>aW c (Zw hc)),Zq,bP];exact Nat.mul_one _
 have M:∀ j v,(A++D)[j]?=some v->w.cell? ⟨g,j,none⟩=some v:=by
  intro j v N
  rw [<- bL,<- aI,List.getElem?_take] at N
  split at N
  ·rw [Qk w g j bH _ (0,0) aZ];simpa using N
  cases N
 have bI:∀ v ∈ D,v.oneCell'=true:=by
  intro u hu
  rw [<- hD] at hu
  obtain ⟨cc,aF,bF⟩:=List.mem_flatten.1 hu
  obtain ⟨j,N⟩:=Zk (Zw aF)
  have bB:=(Qj N).1
  exact Xw _ w cc _ (hO.cs.R j cc _ N (Qx (by rw [<- hO.cs.len];exact bB))) u bF
 have J:cy.length=1:=Zh.len hy
 have bJ:∀ v ∈ cy,v.oneCell'=true:=Xw _ w cy y hy
 have cE:Zh.k=1:=rfl
 have aN:Nat.min (n+1 - i) (n+1 - (i+1))=n - i:=(show min (n+1 - i) (n+1 - (i+1))=n - i by omega)
 have aO:Nat.min 1 (n+1 - i)=1:=(show min 1 (n+1 - i)=1 by omega)
 rw [cE] at aM aI aG
 simp only [Nat.mul_one] at aM aI aG
 rw [hn] at aI
 have bR:bH.toList.length=n:=by simpa using aM
 have aP:∀ j v,D[j]?=some v->w.cell? ⟨g,i+j,none⟩=some v:=fun j v N=>M _ v (by rw [Zx C7,U,Nat.add_sub_cancel_left];exact N)
 have cB:∀ v ∈ A,v.oneCell'=true:=by
  intro u hu
  rw [<- hA] at hu
  obtain ⟨cc,aF,bF⟩:=List.mem_flatten.1 hu
  obtain ⟨j,N⟩:=Zk (List.mem_of_mem_take aF)
  have bB:=(Qj N).1
  exact Xw _ w cc _ (hO.cs.R j cc _ N (Qx (by rw [<- hO.cs.len];exact bB))) u bF
 have bS:g<w.heap.size:=(Array.getElem?_eq_some_iff.1 aZ).1
 have aU:(Builtin.firstCells i0.size i (.slice (some ⟨g,0,none⟩) i n)).run prog w.drew=.ok A.toArray w.drew:=by
  rw [j3]
  exact run_firstCells_some w.drew 1 i ⟨g,0,none⟩ i n A (by rw [U,Nat.mul_one]) (fun j v N=>by
   rw [Addr.add_lit,Nat.zero_add]
   exact M j v (by rw [List.getElem?_append_left (Qj N).1];exact N))
 have bA:i+(n+1 - i)=n+1:=C7
 have bT:(n:Int)+1 - (i:Int)=((n+1 - i:Nat):Int):=C7
 obtain ⟨G,hG⟩:∃ G,G=grownCap w (n+1) n 9:=⟨_,rfl⟩
 obtain ⟨I,Z⟩:∃ I:Array Value,I=A.toArray++Builtin.zeroCells (Value.string ⟨#[]⟩).cells (n+1 - i)++Builtin.zeroCells (Value.string ⟨#[]⟩).cells (G - (n+1)):=⟨_,rfl⟩
 have bU:∀ ty,(Builtin.append_ #[33,3] ty #[Cg g 0 i n,.int .i64 ((n:Int)+1 - (i:Int))]).run prog w=.ok (.slice (some ⟨w,0,none⟩) (n+1) G) (w.drew.alloc (.cells I 9)):=fun ty=>by
  have h:=Lib.run_append_grow_zeros w 33 3 ty 9 i0 _ .i64 .i64 underlying33 underlying3 j1 j2 (some ⟨g,0,none⟩) i n A aU (n+1 - i) C7 (by rw [j3];decide) C7 C7 (by rw [j4];omega) (by rw [j4,bA];exact growslice_fits C7 C7)
  rw [bA,<- hG,<- Z] at h
  rw [bT]
  exact h
 have cC:n+1<=G:=by rw [hG];exact grownCap_ge w _ _ _
 have bN:G<=maxLen:=by rw [hG];exact grownCap_le_maxLen w (n+1) n _ (by unfold maxLen;omega)
 have aV:I.size=G:=by
  rw [Z]
  simp [Builtin.zeroCells,Value.cells,U]
  omega
 have bO:I.toList.take (i)=A:=by
  rw [Z]
  simp only [Array.toList_append,List.append_assoc]
  rw [Z1 C7,Zj C7]
 obtain ⟨W1,aA⟩:∃ W1,W1=w.drew.alloc (.cells I 9):=⟨_,rfl⟩
 rw [<- aA] at bU
 have aX:W1.heap[w.heap.size]?=some (.cells I 9 (0,0)):=by rw [aA];exact Qw w.drew _
 have bC:∀ k,k<w.heap.size->W1.heap[k]?=w.heap[k]?:=fun k hk=>by rw [aA];exact Go.heap_alloc_old w.drew _ hk
 have bV:W1=w.heap.size+1:=by rw [aA];simp
 have O:w.grownBy W1 (some g):=by rw [aA];exact ⟨rfl,rfl,rfl,Ca,fun k hk _=>Go.heap_alloc_old w.drew _ hk⟩
 clear aA
 have aN:Nat.min 1 (n+1 - i)=1:=(show min 1 (n+1 - i)=1 by omega)
 have aO:Nat.min (n - i) (n+1 - (i+1))=n - i:=(show min (n - i) (n+1 - (i+1))=n - i by omega)
 obtain ⟨X1,aK⟩:∃ X1,X1=(I.toList.take (i)++cy++I.toList.drop (i+cy.length)).toArray:=⟨_,rfl⟩
 have aS:∀ ty,(Builtin.copy_ #[33,33] ty #[Cg w i (n+1 - i) (G - i),Cg qb qo 1 c]).run prog W1=.ok (goInt 1) (W1.setRow w X1):=fun ty=>by
  have h:=Xa (P:=prog) 1 W1 33 33 ty 9 w (i) (n+1 - i) (G - i) ⟨qb,qo,none⟩ 1 c I 9 cy underlying33 bX aX (by rw [J,aN]) (fun j v N=>by rw [Addr.add_lit];exact (World.cell?_of_block (bC qb hqw)).trans (hcy j v N)) (by rw [J,aV];omega) bJ
  rw [<- aK,aN] at h
  exact h
 have aE:X1.toList.length=G:=by
  have:I.toList.length=G:=by simpa using aV
  rw [aK];simp only [Ql,Qm,Zq,this,J];rw [Z0 C7];omega
 have aR:X1.size=G:=by simpa using aE
 have aQ:X1.toList.take (i+1)=A++cy:=by
  rw [aK,List.toList_toArray,bO,Z1 (by simp only [Ql,U,J];omega),Zj (by simp only [Ql,U,J];omega)]
 obtain ⟨Y,V⟩:∃ Y,Y=W1.setRow w X1:=⟨_,rfl⟩
 rw [<- V] at aS
 have aY:Y.heap[w.heap.size]?=some (.cells X1 9 (0,0)):=by rw [V];exact setRow_heap _ _ _ _ _ _ aX
 have bD:∀ k,k<w.heap.size->Y.heap[k]?=w.heap[k]?:=fun k hk=>by rw [V,setRow_other _ _ _ _ C7];exact bC k hk
 have bE:Y=w.heap.size+1:=by rw [V,<- bV];simp [World.setRow]
 have T:w.grownBy Y (some g):=by rw [V];exact ⟨O.os,O.tape,O.output,by rw [<- V,bE];omega,fun k hk h=>(setRow_other _ _ _ _ C7).trans (O.block k hk h)⟩
 clear V
 obtain ⟨X2,aL⟩:∃ X2,X2=(X1.toList.take ((i+1))++D++X1.toList.drop ((i+1)+D.length)).toArray:=⟨_,rfl⟩
 have bQ:∀ ty,(Builtin.copy_ #[33,33] ty #[.slice (some ⟨w,(i+1),none⟩) (n+1 - (i+1)) (G - (i+1)),Cg g i (n - i) (n - i)]).run prog Y.drew=.ok (goInt (n - i:Nat)) (Y.drew.setRow w X2):=fun ty=>by
  have h:=Xa (P:=prog) 1 Y.drew 33 33 ty 9 w ((i+1)) (n+1 - (i+1)) (G - (i+1)) ⟨g,i,none⟩ (n - i) (n - i) X1 9 D underlying33 bX aY (by rw [aD,aO,Nat.mul_one]) (fun j v N=>by rw [Addr.add_lit];exact (World.cell?_of_block (w:=w) (bD g bS)).trans (aP j v N)) (by rw [aD,aR];omega) bI
  rw [<- aL,aO] at h
  exact h
 have aT:(Y.drew.setRow w X2).heap[w.heap.size]?=some (.cells X2 9 (0,0))/\X2.size=G/\X2.toList.take ((n+1))=A++cy++D/\(∀ k,k<w.heap.size->(Y.drew.setRow w X2).heap[k]?=w.heap[k]?)/\(Y.drew.setRow w X2).heap.size=w.heap.size+1/\w.grownBy (Y.drew.setRow w X2) (some g):=by
  have bW:(Y.drew.setRow w X2).heap.size=w.heap.size+1:=by rw [<- bE];simp [World.setRow]
  refine ⟨setRow_heap _ _ _ _ _ _ aY,?_,?_,fun k hk=>(setRow_other _ _ _ _ C7).trans (bD k hk),bW,⟨T.os,T.tape,T.output,by rw [bW];omega,fun k hk h=>(setRow_other _ _ _ _ C7).trans (T.block k hk h)⟩⟩
  ·rw [aL];simp only [List.size_toArray,Ql,Qm,Zq,aE,aD];rw [Z0 C7];omega
  rw [aL,List.toList_toArray,show (i+1)=i+1 by omega,aQ,Z1 (by simp only [Ql,U,J,aD];omega),Zj (by simp only [Ql,U,J,aD];omega)]
 rw [hA,hD]
 have HE:=Qq aT
 have cX:¬ ((i:Int)=(n:Int)):=C7
 have cU:IntKind.i64.wrap ((i:Int)+1)=(i:Int)+1:=by rw [IntKind.wrap_i64];omega
 have cV:IntKind.i64.wrap ((n:Int)+1)=(n:Int)+1:=by rw [IntKind.wrap_i64];omega
 have cW:IntKind.i64.wrap ((n:Int)+1 - (i:Int))=(n:Int)+1 - (i:Int):=by rw [IntKind.wrap_i64];omega
 have cJ:(0:Int)<=(i:Int)+1:=C7
 have cI:(0:Int)<=(i:Int):=C7
 have cK:¬ (n=i):=C7
 have cM:¬ (G=i):=C7
 have cN:¬ (G=i+1):=C7
 have cT:((i:Int)+1).toNat=i+1:=C7
 have cR:i<=n:=C7
 have cL:(i:Int)<=(n:Int)+1:=C7
 have cO:(i:Int)<=(n:Int):=C7
 have cH:¬ (n=i):=C7
 have cA:=Qq cC;have bZ:=Qq bN
 clear aT aK aL aE aR aQ aN aO aP M aI aM bR bL hA hD hO aW hy hcy bI bJ cB bC aX bD aY bV bE O T aV bO Z hG aU bA bT bN bS hqw aZ
 go_enter func171,ntmps171
 go_wp2_with (first
  | (at_builtin;refine Lib.wpList_append_run _ rfl _ _ _ _ rfl _ _ rfl rfl _ _ (bU _) ?_)
  | (at_builtin;refine wpList_copy_runI _ rfl _ _ 33 33 rfl _ _ (by simp [Act.eval,Act.put]) (by simp [Act.eval,Act.put]) (aS _) ?_))
 go_region_law_o (refine step_copy_runI rfl _ _ 33 33 rfl _ _ (by simp [Act.eval,Act.put]) (by simp [Act.eval,Act.put]) (bQ _) ?_)
 go_wp2_with fail
 go_ret
 exact ⟨_,rfl,cA.out,bZ.out,_,HE.out⟩
def Rw (S:Nat->Prop) (B:Nat) (w:World) (v:Value) (xs:List Bs) (e:Ending) (w':World):Prop:=
 ∃ p cap css,e=.returned (.slice p xs.length cap)/\Own Zh 9 S B w' (.slice p xs.length cap) xs css/\w.grownBy w' v.ownBlock/\((Value.slice p xs.length cap).ownBlock=v.ownBlock\/(Value.slice p xs.length cap).ownBlock=some w.heap.size)
theorem insEndS (S:Nat->Prop) (B:Nat) (w:World) (v:Value) (xs:List Bs) (css:List (List Value)) (y:Bs) (q:Option Addr) (c:Nat) (hO:Own Zh 9 S B w v xs css) (hY:Sl Zh (But S v) w (.slice q 1 c) [y]) (hl:xs.length<=100000) (hB:B<=w):
  Calls prog 171 #[v,xs.length,.slice q 1 c] w (Rw S B w v (xs++[y])):=by
 obtain ⟨i0,j1,j2,j3,j4⟩:=Y7 (P:=prog) (t:=9) (z:=.string ⟨#[]⟩) (n:=1) (b:=16) Cd
 obtain ⟨HJ,Y,Z,aA⟩:=Qjz j1 j2 j3 j4
 obtain ⟨qb,qo,_,rfl,_,_,_,_,_⟩:=hY.elem (i:=0) (x:=y) rfl
 have M:∀ N A D V,Own Zh 9 S B V (.slice N (xs.length+1) A) (xs++[y]) D->w.grownBy V v.ownBlock->((Value.slice N (xs.length+1) A).ownBlock=v.ownBlock\/(Value.slice N (xs.length+1) A).ownBlock=some w.heap.size)->Rw S B w v (xs++[y]) (.returned (.slice N (xs.length+1) A)) V:=by
  intro N A D V h1 h2 h3
  refine ⟨N,A,D,by rw [Ql];rfl,by rw [Ql];exact h1,h2,by rw [Ql];exact h3⟩
 rcases hO.row.2 with ⟨rfl,h0⟩ | ⟨g,cap,aT,rfl,aU,_,aJ,aK,aN,_⟩
 ·have aH:xs=[]:=Zy h0
  obtain ⟨HO,HY,HE⟩:=Qjq hO hY M
  clear hO hY j1 j2 j3 j4 h0 M
  subst aH
  show Calls _ _ #[Cm,Ci,Cg qb qo 1 c] _ _
  go_enter func171,ntmps171
  go_wp2_with (at_builtin;refine Vp (r:=Zh) Cc rfl (.tmp 23) (.tmp 24) _ rfl 9 i0 (.string ⟨#[]⟩) 16 underlying33 HJ.out Y.out Z.out aA.out rfl C7 S B w (.slice none 0 0) [] css [y] (some ⟨qb,qo,none⟩) 1 c rfl HO.out rfl HY.out rfl Ca Xw (by simp only [List.length_cons,List.length_nil];omega) hB ?_;intro N A D V I J G;obtain ⟨U,T,O⟩:=Qjq I J G;clear I J G)
  go_ret
  exact HE.out N A D V U.out T.out O.out
 obtain ⟨HO,HY,HE⟩:=Qjq hO hY M
 clear hO hY j1 j2 j3 j4 aN aK M
 have aI:(xs.length:Int)<=(cap:Int):=C7
 obtain ⟨n,hn⟩:=eX (xs.length)
 rw [hn] at HO HY hl aJ aI |-
 have HN:=Qq hn
 have aW:xs.length<=100000:=C7
 clear hn
 have aV:(0:Int)<=(n:Int):=C7
 by_cases hcn:cap=n
 ·subst hcn
  have aL:(cap:Int)<=(cap:Int):=C7
  go_enter func171,ntmps171
  go_wp2_with (at_builtin;refine Vp (r:=Zh) Cc rfl (.tmp 23) (.tmp 24) _ rfl 9 i0 (.string ⟨#[]⟩) 16 underlying33 HJ.out Y.out Z.out aA.out rfl C7 S B w (.slice (some ⟨g,0,none⟩) cap cap) xs css [y] (some ⟨qb,qo,none⟩) 1 c rfl HO.out rfl HY.out rfl Ca Xw (by simp only [List.length_cons,List.length_nil];omega) hB ?_;intro N A D V I J G;obtain ⟨U,T,O⟩:=Qjq I J G;clear I J G)
  go_ret
  exact HE.out N A D V U.out T.out O.out
 have aL:(n:Int)<(cap:Int):=C7
 have hd:cap - n≠0:=C7
 go_enter func171,ntmps171
 go_wp2_with (at_builtin;refine Vp (r:=Zh) Cc rfl (.tmp 23) (.tmp 24) _ rfl 9 i0 (.string ⟨#[]⟩) 16 underlying33 HJ.out Y.out Z.out aA.out rfl C7 S B w (.slice (some ⟨g,0,none⟩) n cap) xs css [y] (some ⟨qb,qo,none⟩) 1 c rfl HO.out rfl HY.out rfl Ca Xw (by simp only [List.length_cons,List.length_nil];omega) hB ?_;intro N A D V I J G;obtain ⟨U,T,O⟩:=Qjq I J G;clear I J G)
 go_ret
 exact HE.out N A D V U.out T.out O.out
theorem insAnyS (S:Nat->Prop) (B:Nat) (w:World) (v:Value) (xs:List Bs) (css:List (List Value)) (y:Bs) (cy:List Value) (i q c:Nat) (hO:Own Zh 9 S B w v xs css) (hq:w.heap[q]?=some (.cells cy.toArray 9 (0,0))) (hqS:But S v q) (hy:Zh.R (But S v) w cy y) (hi:i<=xs.length) (hl:xs.length<=100000) (hB:B<=w):
  Calls prog 171 #[v,i,Cg q 0 1 c] w (Rw S B w v (J4 xs i y)):=by
 have A:∀ (j:Nat) (u:Value),cy[j]?=some u->w.cell? ⟨q,0+j,none⟩=some u:=by
  intro j u hj
  rw [Nat.zero_add,Qk w q j _ _ (0,0) hq];simpa using hj
 have N:q<w.heap.size:=(Array.getElem?_eq_some_iff.1 hq).1
 by_cases he:i=xs.length
 ·subst he
  rw [Nq]
  refine insEndS S B w v xs css y _ c hO ⟨_,_,rfl,Ca,fun _=>⟨q,0,rfl,hqS,N,fun j x hx=>?_⟩⟩ hl hB
  cases j with
  | zero=>
   simp at hx;subst hx
   refine ⟨cy,fun m u hm=>?_,hy⟩
   have:=A m u hm
   simpa using this
  | succ j=>simp at hx
 have M:i<xs.length:=C7
 have D:Cs Zh (But S v) w (J4 css i cy) (J4 xs i y):=(hO.cs.take i).app ((Cs.one hy).app (hO.cs.drop i))
 have I:(J4 css i cy).flatten=(css.take i).flatten++cy++(css.drop i).flatten:=by unfold J4;simp
 have J:(J4 css i cy).flatten.length=(xs.length+1)*Zh.k:=by rw [D.flat,Xo]
 rcases hO.row.2 with ⟨_,h0⟩ | ⟨g,cap,aH,rfl,aD,aE,aJ,aB,aK,aL⟩
 ·omega
 have aI:g<w.heap.size:=(Array.getElem?_eq_some_iff.1 aE).1
 have aF:q≠g:=fun e=>hqS.2 (by rw [e];rfl)
 by_cases hr:xs.length+1<=cap
 ·refine (insRoomS S B w g xs.length cap i xs css y cy q 0 c hO rfl M hr aF hy A hl 9 cy.length (by unfold World.shape?;rw [hq];simp) (by simp [World.frozen?,hq]) (by simp [World.frozen?,hq])).mono ?_
  rintro e w' ⟨rfl,X,O,T,U,V,h5,Y⟩
  refine ⟨_,cap,J4 css i cy,by rw [Xo],⟨?_,?_⟩,Y,.inl rfl⟩
  ·rw [Xo]
   exact ⟨J,.inr ⟨g,cap,X,rfl,aD,O,hr,aB,T.trans (Nat.mul_one _).symm,by rw [I,show Zh.k=1 from rfl,Nat.mul_one];exact U⟩⟩
  rw [Xo]
  exact D.move (fun b hb _=>V b (fun e=>hb.2 (by rw [e];rfl))) (fun b _ hb=>⟨hb.1,fun e=>hb.2 e⟩)
 have aC:cap=xs.length:=C7
 subst aC
 refine (insGrowS S B w g xs.length i xs css y cy q 0 c hO rfl M hy A hl N).mono ?_
 rintro e w' ⟨G,rfl,Z,aA,X,O,T,U,V,h5,Y⟩
 refine ⟨_,G,J4 css i cy,by rw [Xo],⟨?_,?_⟩,Y,.inr rfl⟩
 ·rw [Xo]
  exact ⟨J,.inr ⟨w.heap.size,G,X,rfl,hB,O,Z,aA,T.trans (Nat.mul_one _).symm,by rw [I,show Zh.k=1 from rfl,Nat.mul_one];exact U⟩⟩
 rw [Xo]
 refine D.move (fun b _ hb=>V b hb) (fun b hb hs=>⟨hs.1,fun e=>?_⟩)
 have:b=w.heap.size:=by simpa [Value.ownBlock] using e
 omega
def IsAr (o:Bs) (f:Int->Int->Int):Prop:=(o=[43]/\f=fun a b=>IntKind.i64.wrap (a+b))\/(o=[45]/\f=fun a b=>IntKind.i64.wrap (a - b))\/(o=[42]/\f=fun a b=>IntKind.i64.wrap (a*b))
theorem of_eq (k n:Int) (s:ByteArray) (p3 p4:Option Addr) (n3 k3 n4 k4:Nat) (w:World):Calls prog 139 #[k,.agg #[k,n,.string s,.slice p3 n3 k3,.slice p4 n4 k4]] w fun e w'=>e=.returned (.agg #[k,n,.string s,.slice p3 n3 k3,.slice p4 n4 k4])/\Below w w w':=by
 have HM:=Qq X9
 go_enter func139,ntmps139
 go_wp2_with (go_at_call 142;refine (HM.out _).mono ?_;rintro e w' ⟨rfl,rfl⟩)
 generalize hW:(w.alloc _).alloc _=W
 have hb:=eqB hW (Zu _ _ _)
 have hR:=eqH (b:=w.heap.size+1) hW (Q6 _ _ _)
 refine Q7 (v:=.agg #[k,n,.string s,.slice p3 n3 k3,.slice p4 n4 k4]) (by simp [results,results139,go_sem,Qk _ _ _ _ _ _ hR]) rfl ⟨rfl,hb⟩
theorem of_ne (k k' n:Int) (hk:k'≠k) (s:ByteArray) (p3 p4:Option Addr) (n3 k3 n4 k4:Nat) (w:World):Calls prog 139 #[k,.agg #[k',n,.string s,.slice p3 n3 k3,.slice p4 n4 k4]] w (Gt w):=by
 have HM:=Qq Fl
 have hq:(k'==k)=false:=by rw [beq_eq_false_iff_ne];exact hk
 clear hk
 go_enter func139,ntmps139
 go_wp2_with (go_at_call 142;refine (HM.out _).mono ?_;rintro e w' ⟨rfl,rfl⟩)
 exact ⟨rfl,rfl,Zu _ _ _⟩
theorem Oc (n:Int) (S:Nat->Prop) (w:World):Calls prog 172 #[n] w (Fz S w (.mk 0 n [] [] [])):=by
 go_enter func172,ntmps172
 go_wp2_with fail
 generalize hW:w.alloc _=W
 have hb:=eqB hW (Zg _ _)
 have hR:=eqH (b:=w.heap.size) hW (Qw _ _)
 refine Q7 (v:=.agg #[Ci,n,Cl,Cm,Cm]) (by simp [results,results172,go_sem,Qk _ _ _ _ _ _ hR]) rfl ⟨_,rfl,Y5 (s:=[]) Ca (Sl.nil _ _ _) (Sl.nil _ _ _),hb⟩
theorem op_ar (g:Nat) (lb:Array Value) (eg:∀ args w,(callFunc g args).run prog w=.ok (.enter g args) w) (S0:Nat->Prop) (o:Bs) (f:Int->Int->Int) (u v:Val) (w:World) (hS0:∀ b,S0 b->b≠w.heap.size) (ho:IsAr o f) (hku:u.kind=0) (hkv:v.kind=0)
  (h0:∀ W,Below w w W->w<W.heap.size->Calls prog g (#[.int .i64 0]++lb) W (Xy S0 W (some u))) (h1:∀ W,Below w w W->w<W.heap.size->Calls prog g (#[.int .i64 1]++lb) W (Xy S0 W (some v))):
  Calls prog 147 #[o,.func (.func g) #[] lb,.int .i64 2] w (Xy S0 w (some (.mk 0 (f u.n v.n) [] [] []))):=by
 obtain ⟨H0,H1,HM,bA⟩:=Qjz h0 h1 X9 hS0
 have aL:=Qq (Oc (f u.n v.n) S0)
 obtain ⟨r,hr⟩:=eX (Val.mk 0 (f u.n v.n) [] [] [])
 rw [hr] at aL |-
 have aV:=Qq (fun (n:Int) (s:ByteArray) (p3 p4:Option Addr) (n3 k3 n4 k4:Nat) W=>of_eq 0 n s p3 p4 n3 k3 n4 k4 W)
 have bN:=fun (n:Int) (s:ByteArray) (p3 p4:Option Addr) (n3 k3 n4 k4:Nat) W=>fld1 (.int .i64 0) (.int .i64 n) (.string s) (.slice p3 n3 k3) (.slice p4 n4 k4) W
 have aT:=Qq hku;have aU:=Qq hkv
 clear h0 h1 hr hS0 hku hkv
 rcases ho with ⟨rfl,rfl⟩ | ⟨rfl,rfl⟩ | ⟨rfl,rfl⟩
 all_goals
  go_enter func147,ntmps147
  go_wp2_with (go_at_call 142;refine (HM.out _).mono ?_;rintro e w' ⟨rfl,rfl⟩)
  refine (H0.out _ (Zg _ _) Ca).mono ?_
  rintro e w1 ⟨cu,rfl,hu,aE⟩
  obtain ⟨a3,I,a4,J,O,_⟩:=Z9.cells hu
  simp only [vcs] at O
  subst O
  obtain ⟨aC,aI,HU⟩:=Qjq ((aE.block w Ca).trans (Qw w _)) ((Zg w _).thn aE) hu
  clear hu aE
  go_wp2_with fail
  refine (H1.out _ aI.out (Z8 aC.out)).mono ?_
  rintro e w2 ⟨cv,rfl,hv,Y⟩
  obtain ⟨b3,M,b4,N,O,_⟩:=Z9.cells hv
  simp only [vcs] at O
  subst O
  have aD:=Qq ((Y.block w (Z8 aC.out)).trans aC.out);have aQ:=Qq (aI.out.thn Y)
  have bB:=Qq (Z9.move HU.out (.of_below Y) Qje);have bC:=Qq hv
  clear hv Y
  have bO:w.heap.size<w2.heap.size:=Z8 aD.out
  go_upto_region 10 with fail
  generalize V:(w2.alloc _).alloc _=w4
  have U:=eqB V (Zu _ _ _)
  have g1:=eqH (b:=w2.heap.size) V (Q5 _ _ _)
  have g2:=eqH (b:=w2.heap.size+1) V (Q6 _ _ _)
  have aY:=Qq ((U.block w (Z8 aD.out)).trans aD.out);have aR:=Qq (aQ.out.thn U)
  have bL:=Qq (Z9.move bB.out (.of_below U) Qje);have bM:=Qq (Z9.move bC.out (.of_below U) Qje)
  have x0:=rA0 g1;have A:=rA0 g2;have x1:=rA1 g1;have y1:=rA1 g2;have x2:=rA2 g1;have y2:=rA2 g2;have x3:=rA3 g1;have y3:=rA3 g2;have x4:=rA4 g1;have D:=rA4 g2
  clear U g1 g2 V
  rw [aT.out] at x0
  rw [aU.out] at A
  have HX:∀ w' Z,(fun w'=>(Qjg w' w2 Ci u.n u.s (.slice a3 u.names.length I) (.slice a4 u.kids.length J) ((Qjg w' (w2+1) Ci v.n v.s (.slice b3 v.names.length M) (.slice b4 v.kids.length N) ((∃ A y1 y2 y3 D,w'.heap[w.heap.size]?=some (.cells #[A,y1,y2,y3,D] 36 (0,0)))/\Below w w w'):Prop)):Prop)) w'->Below w' w' Z->(fun w'=>(Qjg w' w2 Ci u.n u.s (.slice a3 u.names.length I) (.slice a4 u.kids.length J) ((Qjg w' (w2+1) Ci v.n v.s (.slice b3 v.names.length M) (.slice b4 v.kids.length N) ((∃ A y1 y2 y3 D,w'.heap[w.heap.size]?=some (.cells #[A,y1,y2,y3,D] 36 (0,0)))/\Below w w w'):Prop)):Prop)) Z:=fun w' Z h h2=>by
   have G:∀ {b j:Nat} {u:Value},w'.cell? ⟨b,j,none⟩=some u->Z.cell? ⟨b,j,none⟩=some u:=fun hc=>kC h2 hc
   obtain ⟨A,y1,y2,y3,D,hy⟩:=h.2.2.2.2.2.2.2.2.2.2.1
   exact ⟨G h.1,G h.2.1,G h.2.2.1,G h.2.2.2.1,G h.2.2.2.2.1,G h.2.2.2.2.2.1,G h.2.2.2.2.2.2.1,G h.2.2.2.2.2.2.2.1,G h.2.2.2.2.2.2.2.2.1,G h.2.2.2.2.2.2.2.2.2.1,⟨A,y1,y2,y3,D,kB h2 hy⟩,h.2.2.2.2.2.2.2.2.2.2.2.thn h2⟩
  have HY:∀ w',(fun w'=>(Qjg w' w2 Ci u.n u.s (.slice a3 u.names.length I) (.slice a4 u.kids.length J) ((Qjg w' (w2+1) Ci v.n v.s (.slice b3 v.names.length M) (.slice b4 v.kids.length N) ((∃ A y1 y2 y3 D,w'.heap[w.heap.size]?=some (.cells #[A,y1,y2,y3,D] 36 (0,0)))/\Below w w w'):Prop)):Prop)) w'->(∃ A y1 y2 y3 D,w'.heap[w.heap.size]?=some (.cells #[A,y1,y2,y3,D] 36 (0,0))):=fun w' h=>h.2.2.2.2.2.2.2.2.2.2.1
  have aJ:∀ w',(fun w'=>(Qjg w' w2 Ci u.n u.s (.slice a3 u.names.length I) (.slice a4 u.kids.length J) ((Qjg w' (w2+1) Ci v.n v.s (.slice b3 v.names.length M) (.slice b4 v.kids.length N) ((∃ A y1 y2 y3 D,w'.heap[w.heap.size]?=some (.cells #[A,y1,y2,y3,D] 36 (0,0)))/\Below w w w'):Prop)):Prop)) w'->Below w w w':=fun w' h=>h.2.2.2.2.2.2.2.2.2.2.2
  have HP:∀ w' a b c d e,(fun w'=>(Qjg w' w2 Ci u.n u.s (.slice a3 u.names.length I) (.slice a4 u.kids.length J) ((Qjg w' (w2+1) Ci v.n v.s (.slice b3 v.names.length M) (.slice b4 v.kids.length N) ((∃ A y1 y2 y3 D,w'.heap[w.heap.size]?=some (.cells #[A,y1,y2,y3,D] 36 (0,0)))/\Below w w w'):Prop)):Prop)) w'->(fun w'=>(Qjg w' w2 Ci u.n u.s (.slice a3 u.names.length I) (.slice a4 u.kids.length J) ((Qjg w' (w2+1) Ci v.n v.s (.slice b3 v.names.length M) (.slice b4 v.kids.length N) ((∃ A y1 y2 y3 D,w'.heap[w.heap.size]?=some (.cells #[A,y1,y2,y3,D] 36 (0,0)))/\Below w w w'):Prop)):Prop)) (Zi w' w a b c d e):=fun w' a b c d e h=>by
   have G:∀ {g j:Nat} {u:Value},g≠w->w'.cell? ⟨g,j,none⟩=some u->(Zi w' w a b c d e).cell? ⟨g,j,none⟩=some u:=fun bH hc=>(World.cell?_of_block (Zf bH)).trans hc
   obtain ⟨A,y1,y2,y3,D,hy⟩:=h.2.2.2.2.2.2.2.2.2.2.1
   exact ⟨G C7 h.1,G C7 h.2.1,G C7 h.2.2.1,G C7 h.2.2.2.1,G C7 h.2.2.2.2.1,G C7 h.2.2.2.2.2.1,G C7 h.2.2.2.2.2.2.1,G C7 h.2.2.2.2.2.2.2.1,G C7 h.2.2.2.2.2.2.2.2.1,G C7 h.2.2.2.2.2.2.2.2.2.1,⟨a,b,c,d,e,Yw hy⟩,Zc (h.2.2.2.2.2.2.2.2.2.2.2) (Q9 _)⟩
  unfold Zi at HP
  have aM:=Qq (show (fun w'=>(Qjg w' w2 Ci u.n u.s (.slice a3 u.names.length I) (.slice a4 u.kids.length J) ((Qjg w' (w2+1) Ci v.n v.s (.slice b3 v.names.length M) (.slice b4 v.kids.length N) ((∃ A y1 y2 y3 D,w'.heap[w.heap.size]?=some (.cells #[A,y1,y2,y3,D] 36 (0,0)))/\Below w w w'):Prop)):Prop)) w4.drew from ⟨x0,x1,x2,x3,x4,A,y1,y2,y3,D,⟨_,_,_,_,_,aY.out⟩,aR.out.drew⟩)
  obtain ⟨aN,bE,aK,aX⟩:=Qjz HX HY aJ HP
  clear HX HY aJ HP x0 x1 x2 x3 x4 A y1 y2 y3 D
  go_wp2_with fail
  go_region_held3 (fun w'=>(Qjg w' w2 Ci u.n u.s (.slice a3 u.names.length I) (.slice a4 u.kids.length J) ((Qjg w' (w2+1) Ci v.n v.s (.slice b3 v.names.length M) (.slice b4 v.kids.length N) ((∃ A y1 y2 y3 D,w'.heap[w.heap.size]?=some (.cells #[A,y1,y2,y3,D] 36 (0,0)))/\Below w w w'):Prop)):Prop)) (first | with_reducible exact aM.out | with_reducible exact T | with_reducible exact aX.out _ _ _ _ _ _ T)
   (first
    | (go_at_call 172;refine (aL.out _).mono ?_;rintro e w6 ⟨cr,rfl,aF,aO⟩;obtain ⟨q3,l3,q4,l4,O,_⟩:=Z9.cells aF;simp only [vcs] at O;subst O;have T:=aN.out _ _ Ce aO;have bD:=Qq aF;obtain ⟨z0,z1,z2,z3,z4,r2⟩:=bE.out _ T;obtain ⟨f0,f1,f2,f3,f4⟩:=frz5 r2;obtain ⟨r0,r1,bP,r3,r4⟩:=row5 r2;have aZ:=Qq r2;clear r2;have aS:=Qq (aK.out _ T);clear aF aO)
    | (go_at_call 139;refine (aV.out _ _ _ _ _ _ _ _ _).mono ?_;rintro e w5 ⟨rfl,hb⟩;have T:=aN.out _ _ Ce hb;clear hb))
  all_goals
   go_wp2_with fail
   show bodyPost _ _ _ _ _ (Cu w6 w r q3 l3 q4 l4)
   refine Q7 (v:=.agg (Cn r q3 l3 q4 l4)) (by simp [results,results147,go_sem,Ze aZ.out]) rfl ⟨_,rfl,?_,Zc aS.out (Q9 _)⟩
   exact Z9.move bD.out (fun b hb _=>Zf (by have:=bA.out b hb;omega)) Qje
end Go.Proofs.YtcljcblceodciaaGreatDoor
