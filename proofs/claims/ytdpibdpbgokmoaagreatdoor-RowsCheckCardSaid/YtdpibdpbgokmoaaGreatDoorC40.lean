import Derived.Test.YtdpibdpbgokmoaaGreatDoorC36
set_option maxRecDepth 100000
set_option maxHeartbeats 400000000
namespace Go.Proofs.YtdpibdpbgokmoaaGreatDoor
open Go.RowKit Go.Shelf Go.Lib Tryz
theorem insRoomS (S:Nat→Prop) (B:Nat) (w:World) (g n cap i:Nat) (xs:List Bs) (css:List (List Value)) (y:Bs) (cy:List Value) (qb qo c:Nat) (hO:Own Zh 9 S B w (.slice (some ⟨g,0,none⟩) n cap) xs css) (hn:xs.length=n) (hi:i<n) (hroom:n+1≤cap) (hqb:qb≠g)
  (hy:Zh.R (But S (.slice (some ⟨g,0,none⟩) n cap)) w cy y) (hcy:∀ j u,cy[j]?=some u→w.cell? ⟨qb,qo+j,none⟩=some u) (hl:n≤100000)
  (tA:TypeId) (kA:Nat) (hsa:w.shape? qb=some (tA,kA)) (hfa:w.frozen? ⟨qb,qo,none⟩=false) (hfe:w.frozen? ⟨qb,kA,none⟩=false):
  Calls prog 169 #[Qqb g 0 n cap,i,Qqb qb qo 1 c] w (fun e w'=>e=.returned (.slice (some ⟨g,0,none⟩) (n+1) cap)∧∃ X,w'.heap[g]?=some (.cells X 9 (0,0))∧X.size=cap∧X.toList.take ((n+1))=(css.take i).flatten++cy++(css.drop i).flatten∧(∀ k,k≠g→w'.heap[k]?=w.heap[k]?)∧w'=w.heap.size∧w.grownBy w' (some g)):=by
 obtain ⟨i0,j1,j2,j3,j4⟩:=Y9 (P:=prog) (t:=9) (z:=.string ⟨#[]⟩) (n:=1) (b:=16) Qqy
 have mixed:prog.follows .mixedOrders=true:=Qqy
 have bB:(prog.info? 9).map (·.size)=some 1:=by rw [j1];simp [j3]
 rcases hO.row.2 with ⟨h,_⟩ | ⟨g',bK,I,hv,bR,aF,bT,bQ,O,U⟩
 ·cases h
 simp only [Qr,Zv,Addr.mk.injEq] at hv
 obtain ⟨⟨rfl,-,-⟩,-,rfl⟩:=hv
 have aO:=hO.cs.all
 have aD:=hO.cs.flat
 have aX:css.length=n:=by rw [hO.cs.len,hn]
 obtain ⟨A,hA⟩:=eX ((css.take i).flatten)
 obtain ⟨D,hD⟩:=eX ((css.drop i).flatten)
 have aM:css.flatten=A++D:=by rw [← hA,← hD,← List.flatten_append,List.take_append_drop]
 have aN:A.length=i:=by rw [← hA,Vu (fun c hc=>aO c (List.mem_of_mem_take hc)),Qm,aX,Z0 Qqj];exact Nat.mul_one _
 have aA:D.length=(n - i):=by rw [← hD,Vu (fun c hc=>aO c (Zw hc)),Zq,aX];exact Nat.mul_one _
 have N:∀ j v,(A++D)[j]?=some v→w.cell? ⟨g,j,none⟩=some v:=by
  intro j v T
  rw [← aM,← U,List.getElem?_take] at T
  split at T
  ·rw [Qk w g j I _ (0,0) aF];simpa using T
  cases T
 have aT:∀ v ∈ D,v.oneCell'=true:=by
  intro u hu
  rw [← hD] at hu
  obtain ⟨cc,aY,bI⟩:=List.mem_flatten.1 hu
  obtain ⟨j,T⟩:=Zk (Zw aY)
  have bF:=(Qj T).1
  exact Xx _ w cc _ (hO.cs.R j cc _ T (Qx (by rw [← hO.cs.len];exact bF))) u bI
 have G:cy.length=1:=Zh.len hy
 have aU:∀ v ∈ cy,v.oneCell'=true:=Xx _ w cy y hy
 have bH:∀ lb cb,(callFunc 184 #[Qqb qb qo 1 c,Qqb g (i+1) lb cb]).run prog w=.ok (.value (.bool false)) w:=fun lb cb=>by
  rw [run_callFunc_extern func184 Qqy Qqy Qqy (e:=Extern.SlicesOverlaps.overlaps #[33,33] #[4]) Qqy,
   Lib.run_overlaps_apart w 33 4 9 underlying33 1 sizeOf9 ⟨qb,qo,none⟩ ⟨g,(i+1),none⟩ 1 c lb cb hqb tA 9 kA (cap) hsa (by unfold World.shape?;rw [aF];simp [O];exact Nat.mul_one _) Qqj hfa hfe]
  rfl
 have bG:Zh.k=1:=rfl
 have aR:Nat.min (n+1 - i) (n+1 - (i+1))=n - i:=(show min (n+1 - i) (n+1 - (i+1))=n - i by omega)
 have aS:Nat.min 1 (n+1 - i)=1:=(show min 1 (n+1 - i)=1 by omega)
 rw [bG] at O U aD
 simp only [Nat.mul_one] at O U aD
 rw [hn] at U
 have M:I.toList.length=cap:=by simpa using O
 have aH:∀ j v,D[j]?=some v→w.cell? ⟨g,i+j,none⟩=some v:=fun j v T=>N _ v (by rw [Zx Qqj,aN,Nat.add_sub_cancel_left];exact T)
 obtain ⟨Y,aB⟩:∃ Y,Y=(I.toList.take ((i+1))++D++I.toList.drop ((i+1)+D.length)).toArray:=⟨_,rfl⟩
 have aJ:∀ ty dc sc,(Builtin.copy_ #[33,33] ty #[.slice (some ⟨g,(i+1),none⟩) (n+1 - (i+1)) dc,Qqb g i (n+1 - i) sc]).run prog w.drew=.ok (goInt (n - i:Nat)) (w.drew.setRow g Y):=fun ty dc sc=>by
  have h:=Xd (P:=prog) 1 w.drew 33 33 ty 9 g ((i+1)) (n+1 - (i+1)) dc ⟨g,i,none⟩ (n+1 - i) sc I 9 D underlying33 bB aF (by rw [aA,aR,Nat.mul_one]) (fun j v T=>by rw [Addr.add_lit];exact aH j v T) (by simp only [aA,O];omega) aT
  rw [← aB,aR] at h
  exact h
 obtain ⟨V,J⟩:∃ V,V=w.drew.setRow g Y:=⟨_,rfl⟩
 have aP:V.heap[g]?=some (.cells Y 9 (0,0)):=by rw [J];exact setRow_heap _ _ _ _ _ _ aF
 have aG:∀ k,k≠g→V.heap[k]?=w.heap[k]?:=fun k hk=>by rw [J,setRow_other _ _ _ _ hk];rfl
 rw [← J] at aJ
 have aC:Y.toList.length=cap:=by rw [aB];simp only [Ql,Qm,Zq,M,aA];rw [Z0 Qqj];omega
 have aI:Y.size=cap:=by simpa using aC
 obtain ⟨Z,aE⟩:∃ Z,Z=(Y.toList.take (i)++cy++Y.toList.drop (i+cy.length)).toArray:=⟨_,rfl⟩
 have aZ:∀ ty dc,(Builtin.copy_ #[33,33] ty #[Qqb g i (n+1 - i) dc,Qqb qb qo 1 c]).run prog V=.ok (goInt 1) (V.setRow g Z):=fun ty dc=>by
  have h:=Xd (P:=prog) 1 V 33 33 ty 9 g (i) (n+1 - i) dc ⟨qb,qo,none⟩ 1 c Y 9 cy underlying33 bB aP (by rw [G,aS]) (fun j v T=>by rw [Addr.add_lit];exact (World.cell?_of_block (aG qb hqb)).trans (hcy j v T)) (by rw [G,aI];omega) aU
  rw [← aE,aS] at h
  exact h
 have aK:(V.setRow g Z).heap[g]?=some (.cells Z 9 (0,0))∧Z.size=cap∧Z.toList.take ((n+1))=A++cy++D∧(∀ k,k≠g→(V.setRow g Z).heap[k]?=w.heap[k]?)∧(V.setRow g Z).heap.size=w.heap.size∧w.grownBy (V.setRow g Z) (some g):=by
  have bA:(V.setRow g Z).heap.size=w.heap.size:=by rw [J];simp [World.setRow]
  refine ⟨setRow_heap _ _ _ _ _ _ aP,?_,?_,fun k hk=>(setRow_other _ _ _ _ hk).trans (aG k hk),bA,⟨by rw [J];rfl,by rw [J];rfl,by rw [J];rfl,by rw [bA];exact Q9 _,fun k _ hk=>(setRow_other _ _ _ _ (fun e=>hk (by rw [e]))).trans (aG k (fun e=>hk (by rw [e])))⟩⟩
  ·rw [aE];simp only [List.size_toArray,Ql,Qm,Zq,aC,G];rw [Z0 Qqj];omega
  have bE:I.toList.take (i)=A:=by
   have:(I.toList.take (n)).take (i)=A:=by rw [U,aM,Z1 Qqj,Zj Qqj]
   rwa [List.take_take,Z0 Qqj] at this
  have e1:Y.toList.take (i)=A:=by
   rw [aB,List.toList_toArray,List.append_assoc,Z1 (by rw [Qm,M,Z0 Qqj];omega),List.take_take,Z0 Qqj,bE]
  have e2:Y.toList.drop (i+cy.length)=D++I.toList.drop ((i+1)+D.length):=by
   rw [aB,List.toList_toArray,List.append_assoc,G,List.drop_append_of_le_length (by rw [Qm,M,Z0 Qqj];omega),Qu (by rw [Qm,M,Z0 Qqj];omega),List.nil_append]
  rw [aE,List.toList_toArray,e1,e2,← List.append_assoc,Z1 (by simp only [Ql,aN,G,aA];omega),Zj (by simp only [Ql,aN,G,aA];omega)]
 rw [show css.take i=css.take i from rfl] at hA
 rw [hA,hD]
 have HE:=Qq aK
 clear aK J aB aE aC aI aR aS aH N U O M aM hA hD hO aO hy hcy aT aU aG aP
 have bY:¬ ((i:Int)=(n:Int)):=Qqj
 have bW:IntKind.i64.wrap ((i:Int)+1)=(i:Int)+1:=by rw [IntKind.wrap_i64];omega
 have bX:IntKind.i64.wrap ((n:Int)+1)=(n:Int)+1:=by rw [IntKind.wrap_i64];omega
 have bU:¬ ((cap:Int)<(n:Int)+1):=Qqj
 have bM:(0:Int)≤(i:Int)+1:=Qqj
 have bL:(0:Int)≤(i:Int):=Qqj
 have bN:¬ (cap=i+1):=Qqj
 have bO:¬ (cap=i):=Qqj
 have bV:((i:Int)+1).toNat=i+1:=Qqj
 have bS:i≤n:=Qqj
 have bP:(i:Int)≤(n:Int)+1:=Qqj
 go_enter func169,ntmps169
 go_wp2_with (simp only [bH])
 go_region_law_o (refine step_copy_runI rfl _ _ 33 33 rfl _ _ (by simp [Act.eval,Act.put]) (by simp [Act.eval,Act.put]) (aJ _ (cap - (i+1)) (cap - i)) ?_)
 go_wp2_with (at_builtin;refine wpList_copy_runI _ rfl _ _ 33 33 rfl _ _ (by simp [Act.eval,Act.put]) (by simp [Act.eval,Act.put]) (aZ _ (cap - i)) ?_)
 go_ret
 exact ⟨rfl,_,HE.out⟩
theorem insGrowS (S:Nat→Prop) (B:Nat) (w:World) (g n i:Nat) (xs:List Bs) (css:List (List Value)) (y:Bs) (cy:List Value) (qb qo c:Nat) (hO:Own Zh 9 S B w (.slice (some ⟨g,0,none⟩) n n) xs css) (hn:xs.length=n) (hi:i<n)
  (hy:Zh.R (But S (.slice (some ⟨g,0,none⟩) n n)) w cy y) (hcy:∀ j u,cy[j]?=some u→w.cell? ⟨qb,qo+j,none⟩=some u) (hl:n≤100000)
  (hqw:qb<w):
  Calls prog 169 #[Qqb g 0 n n,i,Qqb qb qo 1 c] w (fun e w'=>∃ G,e=.returned (.slice (some ⟨w,0,none⟩) (n+1) G)∧n+1≤G∧G≤maxLen∧∃ X,w'.heap[w.heap.size]?=some (.cells X 9 (0,0))∧X.size=G∧X.toList.take ((n+1))=(css.take i).flatten++cy++(css.drop i).flatten∧(∀ k,k<w.heap.size→w'.heap[k]?=w.heap[k]?)∧w'=w.heap.size+1∧w.grownBy w' (some g)):=by
 obtain ⟨i0,j1,j2,j3,j4⟩:=Y9 (P:=prog) (t:=9) (z:=.string ⟨#[]⟩) (n:=1) (b:=16) Qqy
 have mixed:prog.follows .mixedOrders=true:=Qqy
 have bX:(prog.info? 9).map (·.size)=some 1:=by rw [j1];simp [j3]
 rcases hO.row.2 with ⟨h,_⟩ | ⟨g',cG,bH,hv,cQ,aZ,cS,cP,aM,aI⟩
 ·cases h
 simp only [Qr,Zv,Addr.mk.injEq] at hv
 obtain ⟨⟨rfl,-,-⟩,-,rfl⟩:=hv
 have aW:=hO.cs.all
 have aG:=hO.cs.flat
 have bP:css.length=n:=by rw [hO.cs.len,hn]
 obtain ⟨A,hA⟩:=eX ((css.take i).flatten)
 obtain ⟨D,hD⟩:=eX ((css.drop i).flatten)
 have bL:css.flatten=A++D:=by rw [← hA,← hD,← List.flatten_append,List.take_append_drop]
 have U:A.length=i:=by rw [← hA,Vu (fun c hc=>aW c (List.mem_of_mem_take hc)),Qm,bP,Z0 Qqj];exact Nat.mul_one _
 have aD:D.length=(n - i):=by rw [← hD,Vu (fun c hc=>aW c (Zw hc)),Zq,bP];exact Nat.mul_one _
 have M:∀ j v,(A++D)[j]?=some v→w.cell? ⟨g,j,none⟩=some v:=by
  intro j v N
  rw [← bL,← aI,List.getElem?_take] at N
  split at N
  ·rw [Qk w g j bH _ (0,0) aZ];simpa using N
  cases N
 have bI:∀ v ∈ D,v.oneCell'=true:=by
  intro u hu
  rw [← hD] at hu
  obtain ⟨cc,aF,bF⟩:=List.mem_flatten.1 hu
  obtain ⟨j,N⟩:=Zk (Zw aF)
  have bB:=(Qj N).1
  exact Xx _ w cc _ (hO.cs.R j cc _ N (Qx (by rw [← hO.cs.len];exact bB))) u bF
 have J:cy.length=1:=Zh.len hy
 have bJ:∀ v ∈ cy,v.oneCell'=true:=Xx _ w cy y hy
 have cE:Zh.k=1:=rfl
 have aN:Nat.min (n+1 - i) (n+1 - (i+1))=n - i:=(show min (n+1 - i) (n+1 - (i+1))=n - i by omega)
 have aO:Nat.min 1 (n+1 - i)=1:=(show min 1 (n+1 - i)=1 by omega)
 rw [cE] at aM aI aG
 simp only [Nat.mul_one] at aM aI aG
 rw [hn] at aI
 have bR:bH.toList.length=n:=by simpa using aM
 have aP:∀ j v,D[j]?=some v→w.cell? ⟨g,i+j,none⟩=some v:=fun j v N=>M _ v (by rw [Zx Qqj,U,Nat.add_sub_cancel_left];exact N)
 have cB:∀ v ∈ A,v.oneCell'=true:=by
  intro u hu
  rw [← hA] at hu
  obtain ⟨cc,aF,bF⟩:=List.mem_flatten.1 hu
  obtain ⟨j,N⟩:=Zk (List.mem_of_mem_take aF)
  have bB:=(Qj N).1
  exact Xx _ w cc _ (hO.cs.R j cc _ N (Qx (by rw [← hO.cs.len];exact bB))) u bF
 have bS:g<w.heap.size:=(Array.getElem?_eq_some_iff.1 aZ).1
 have aU:(Builtin.firstCells i0.size i (.slice (some ⟨g,0,none⟩) i n)).run prog w.drew=.ok A.toArray w.drew:=by
  rw [j3]
  exact run_firstCells_some w.drew 1 i ⟨g,0,none⟩ i n A (by rw [U,Nat.mul_one]) (fun j v N=>by
   rw [Addr.add_lit,Nat.zero_add]
   exact M j v (by rw [List.getElem?_append_left (Qj N).1];exact N))
 have bA:i+(n+1 - i)=n+1:=Qqj
 have bT:(n:Int)+1 - (i:Int)=((n+1 - i:Nat):Int):=Qqj
 obtain ⟨G,hG⟩:∃ G,G=grownCap w (n+1) n 9:=⟨_,rfl⟩
 obtain ⟨I,Z⟩:∃ I:Array Value,I=A.toArray++Builtin.zeroCells (Value.string ⟨#[]⟩).cells (n+1 - i)++Builtin.zeroCells (Value.string ⟨#[]⟩).cells (G - (n+1)):=⟨_,rfl⟩
 have bU:∀ ty,(Builtin.append_ #[33,3] ty #[Qqb g 0 i n,.int .i64 ((n:Int)+1 - (i:Int))]).run prog w=.ok (.slice (some ⟨w,0,none⟩) (n+1) G) (w.drew.alloc (.cells I 9)):=fun ty=>by
  have h:=Lib.run_append_grow_zeros w 33 3 ty 9 i0 _ .i64 .i64 underlying33 underlying3 j1 j2 (some ⟨g,0,none⟩) i n A aU (n+1 - i) Qqj (by rw [j3];decide) Qqj Qqj (by rw [j4];omega) (by rw [j4,bA];exact growslice_fits Qqj Qqj)
  rw [bA,← hG,← Z] at h
  rw [bT]
  exact h
 have cC:n+1≤G:=by rw [hG];exact grownCap_ge w _ _ _
 have bN:G≤maxLen:=by rw [hG];exact grownCap_le_maxLen w (n+1) n _ (by unfold maxLen;omega)
 have aV:I.size=G:=by
  rw [Z]
  simp [Builtin.zeroCells,Value.cells,U]
  omega
 have bO:I.toList.take (i)=A:=by
  rw [Z]
  simp only [Array.toList_append,List.append_assoc]
  rw [Z1 Qqj,Zj Qqj]
 obtain ⟨W1,aA⟩:∃ W1,W1=w.drew.alloc (.cells I 9):=⟨_,rfl⟩
 rw [← aA] at bU
 have aX:W1.heap[w.heap.size]?=some (.cells I 9 (0,0)):=by rw [aA];exact Qw w.drew _
 have bC:∀ k,k<w.heap.size→W1.heap[k]?=w.heap[k]?:=fun k hk=>by rw [aA];exact Go.heap_alloc_old w.drew _ hk
 have bV:W1=w.heap.size+1:=by rw [aA];simp
 have O:w.grownBy W1 (some g):=by rw [aA];exact ⟨rfl,rfl,rfl,Qqk,fun k hk _=>Go.heap_alloc_old w.drew _ hk⟩
 clear aA
 have aN:Nat.min 1 (n+1 - i)=1:=(show min 1 (n+1 - i)=1 by omega)
 have aO:Nat.min (n - i) (n+1 - (i+1))=n - i:=(show min (n - i) (n+1 - (i+1))=n - i by omega)
 obtain ⟨X1,aK⟩:∃ X1,X1=(I.toList.take (i)++cy++I.toList.drop (i+cy.length)).toArray:=⟨_,rfl⟩
 have aS:∀ ty,(Builtin.copy_ #[33,33] ty #[Qqb w i (n+1 - i) (G - i),Qqb qb qo 1 c]).run prog W1=.ok (goInt 1) (W1.setRow w X1):=fun ty=>by
  have h:=Xd (P:=prog) 1 W1 33 33 ty 9 w (i) (n+1 - i) (G - i) ⟨qb,qo,none⟩ 1 c I 9 cy underlying33 bX aX (by rw [J,aN]) (fun j v N=>by rw [Addr.add_lit];exact (World.cell?_of_block (bC qb hqw)).trans (hcy j v N)) (by rw [J,aV];omega) bJ
  rw [← aK,aN] at h
  exact h
 have aE:X1.toList.length=G:=by
  have:I.toList.length=G:=by simpa using aV
  rw [aK];simp only [Ql,Qm,Zq,this,J];rw [Z0 Qqj];omega
 have aR:X1.size=G:=by simpa using aE
 have aQ:X1.toList.take (i+1)=A++cy:=by
  rw [aK,List.toList_toArray,bO,Z1 (by simp only [Ql,U,J];omega),Zj (by simp only [Ql,U,J];omega)]
 obtain ⟨Y,V⟩:∃ Y,Y=W1.setRow w X1:=⟨_,rfl⟩
 rw [← V] at aS
 have aY:Y.heap[w.heap.size]?=some (.cells X1 9 (0,0)):=by rw [V];exact setRow_heap _ _ _ _ _ _ aX
 have bD:∀ k,k<w.heap.size→Y.heap[k]?=w.heap[k]?:=fun k hk=>by rw [V,setRow_other _ _ _ _ Qqj];exact bC k hk
 have bE:Y=w.heap.size+1:=by rw [V,← bV];simp [World.setRow]
 have T:w.grownBy Y (some g):=by rw [V];exact ⟨O.os,O.tape,O.output,by rw [← V,bE];omega,fun k hk h=>(setRow_other _ _ _ _ Qqj).trans (O.block k hk h)⟩
 clear V
 obtain ⟨X2,aL⟩:∃ X2,X2=(X1.toList.take ((i+1))++D++X1.toList.drop ((i+1)+D.length)).toArray:=⟨_,rfl⟩
 have bQ:∀ ty,(Builtin.copy_ #[33,33] ty #[.slice (some ⟨w,(i+1),none⟩) (n+1 - (i+1)) (G - (i+1)),Qqb g i (n - i) (n - i)]).run prog Y.drew=.ok (goInt (n - i:Nat)) (Y.drew.setRow w X2):=fun ty=>by
  have h:=Xd (P:=prog) 1 Y.drew 33 33 ty 9 w ((i+1)) (n+1 - (i+1)) (G - (i+1)) ⟨g,i,none⟩ (n - i) (n - i) X1 9 D underlying33 bX aY (by rw [aD,aO,Nat.mul_one]) (fun j v N=>by rw [Addr.add_lit];exact (World.cell?_of_block (w:=w) (bD g bS)).trans (aP j v N)) (by rw [aD,aR];omega) bI
  rw [← aL,aO] at h
  exact h
 have aT:(Y.drew.setRow w X2).heap[w.heap.size]?=some (.cells X2 9 (0,0))∧X2.size=G∧X2.toList.take ((n+1))=A++cy++D∧(∀ k,k<w.heap.size→(Y.drew.setRow w X2).heap[k]?=w.heap[k]?)∧(Y.drew.setRow w X2).heap.size=w.heap.size+1∧w.grownBy (Y.drew.setRow w X2) (some g):=by
  have bW:(Y.drew.setRow w X2).heap.size=w.heap.size+1:=by rw [← bE];simp [World.setRow]
  refine ⟨setRow_heap _ _ _ _ _ _ aY,?_,?_,fun k hk=>(setRow_other _ _ _ _ Qqj).trans (bD k hk),bW,⟨T.os,T.tape,T.output,by rw [bW];omega,fun k hk h=>(setRow_other _ _ _ _ Qqj).trans (T.block k hk h)⟩⟩
  ·rw [aL];simp only [List.size_toArray,Ql,Qm,Zq,aE,aD];rw [Z0 Qqj];omega
  rw [aL,List.toList_toArray,show (i+1)=i+1 by omega,aQ,Z1 (by simp only [Ql,U,J,aD];omega),Zj (by simp only [Ql,U,J,aD];omega)]
 rw [hA,hD]
 have HE:=Qq aT
 have cX:¬ ((i:Int)=(n:Int)):=Qqj
 have cU:IntKind.i64.wrap ((i:Int)+1)=(i:Int)+1:=by rw [IntKind.wrap_i64];omega
 have cV:IntKind.i64.wrap ((n:Int)+1)=(n:Int)+1:=by rw [IntKind.wrap_i64];omega
 have cW:IntKind.i64.wrap ((n:Int)+1 - (i:Int))=(n:Int)+1 - (i:Int):=by rw [IntKind.wrap_i64];omega
 have cJ:(0:Int)≤(i:Int)+1:=Qqj
 have cI:(0:Int)≤(i:Int):=Qqj
 have cK:¬ (n=i):=Qqj
 have cM:¬ (G=i):=Qqj
 have cN:¬ (G=i+1):=Qqj
 have cT:((i:Int)+1).toNat=i+1:=Qqj
 have cR:i≤n:=Qqj
 have cL:(i:Int)≤(n:Int)+1:=Qqj
 have cO:(i:Int)≤(n:Int):=Qqj
 have cH:¬ (n=i):=Qqj
 have cA:=Qq cC;have bZ:=Qq bN
 clear aT aK aL aE aR aQ aN aO aP M aI aM bR bL hA hD hO aW hy hcy bI bJ cB bC aX bD aY bV bE O T aV bO Z hG aU bA bT bN bS hqw aZ
 go_enter func169,ntmps169
 go_wp2_with (first
  | (at_builtin;refine Lib.wpList_append_run _ rfl _ _ _ _ rfl _ _ rfl rfl _ _ (bU _) ?_)
  | (at_builtin;refine wpList_copy_runI _ rfl _ _ 33 33 rfl _ _ (by simp [Act.eval,Act.put]) (by simp [Act.eval,Act.put]) (aS _) ?_))
 go_region_law_o (refine step_copy_runI rfl _ _ 33 33 rfl _ _ (by simp [Act.eval,Act.put]) (by simp [Act.eval,Act.put]) (bQ _) ?_)
 go_wp2_with fail
 go_ret
 exact ⟨_,rfl,cA.out,bZ.out,_,HE.out⟩
def So (S:Nat→Prop) (B:Nat) (w:World) (v:Value) (xs:List Bs) (e:Ending) (w':World):Prop:=
 ∃ p cap css,e=.returned (.slice p xs.length cap)∧Own Zh 9 S B w' (.slice p xs.length cap) xs css∧w.grownBy w' v.ownBlock∧((Value.slice p xs.length cap).ownBlock=v.ownBlock∨(Value.slice p xs.length cap).ownBlock=some w.heap.size)
theorem insEndS (S:Nat→Prop) (B:Nat) (w:World) (v:Value) (xs:List Bs) (css:List (List Value)) (y:Bs) (q:Option Addr) (c:Nat) (hO:Own Zh 9 S B w v xs css) (hY:Sl Zh (But S v) w (.slice q 1 c) [y]) (hl:xs.length≤100000) (hB:B≤w):
  Calls prog 169 #[v,xs.length,.slice q 1 c] w (So S B w v (xs++[y])):=by
 obtain ⟨i0,j1,j2,j3,j4⟩:=Y9 (P:=prog) (t:=9) (z:=.string ⟨#[]⟩) (n:=1) (b:=16) Qqy
 obtain ⟨HJ,Y,Z,aA⟩:=Qqp j1 j2 j3 j4
 obtain ⟨qb,qo,_,rfl,_,_,_,_,_⟩:=hY.elem (i:=0) (x:=y) rfl
 have M:∀ N A D V,Own Zh 9 S B V (.slice N (xs.length+1) A) (xs++[y]) D→w.grownBy V v.ownBlock→((Value.slice N (xs.length+1) A).ownBlock=v.ownBlock∨(Value.slice N (xs.length+1) A).ownBlock=some w.heap.size)→So S B w v (xs++[y]) (.returned (.slice N (xs.length+1) A)) V:=by
  intro N A D V h1 h2 h3
  refine ⟨N,A,D,by rw [Ql];rfl,by rw [Ql];exact h1,h2,by rw [Ql];exact h3⟩
 rcases hO.row.2 with ⟨rfl,h0⟩ | ⟨g,cap,aT,rfl,aU,_,aJ,aK,aN,_⟩
 ·have aH:xs=[]:=Zy h0
  obtain ⟨HO,HY,HE⟩:=Qqo hO hY M
  clear hO hY j1 j2 j3 j4 h0 M
  subst aH
  show Calls _ _ #[Qqf,Qqd,Qqb qb qo 1 c] _ _
  go_enter func169,ntmps169
  go_wp2_with (at_builtin;refine Uk (r:=Zh) Qqx rfl (.tmp 23) (.tmp 24) _ rfl 9 i0 (.string ⟨#[]⟩) 16 underlying33 HJ.out Y.out Z.out aA.out rfl Qqj S B w (.slice none 0 0) [] css [y] (some ⟨qb,qo,none⟩) 1 c rfl HO.out rfl HY.out rfl Qqk Xx (by simp only [List.length_cons,List.length_nil];omega) hB ?_;intro N A D V I J G;obtain ⟨U,T,O⟩:=Qqo I J G;clear I J G)
  go_ret
  exact HE.out N A D V U.out T.out O.out
 obtain ⟨HO,HY,HE⟩:=Qqo hO hY M
 clear hO hY j1 j2 j3 j4 aN aK M
 have aI:(xs.length:Int)≤(cap:Int):=Qqj
 obtain ⟨n,hn⟩:=eX (xs.length)
 rw [hn] at HO HY hl aJ aI ⊢
 have HN:=Qq hn
 have aW:xs.length≤100000:=Qqj
 clear hn
 have aV:(0:Int)≤(n:Int):=Qqj
 by_cases hcn:cap=n
 ·subst hcn
  have aL:(cap:Int)≤(cap:Int):=Qqj
  go_enter func169,ntmps169
  go_wp2_with (at_builtin;refine Uk (r:=Zh) Qqx rfl (.tmp 23) (.tmp 24) _ rfl 9 i0 (.string ⟨#[]⟩) 16 underlying33 HJ.out Y.out Z.out aA.out rfl Qqj S B w (.slice (some ⟨g,0,none⟩) cap cap) xs css [y] (some ⟨qb,qo,none⟩) 1 c rfl HO.out rfl HY.out rfl Qqk Xx (by simp only [List.length_cons,List.length_nil];omega) hB ?_;intro N A D V I J G;obtain ⟨U,T,O⟩:=Qqo I J G;clear I J G)
  go_ret
  exact HE.out N A D V U.out T.out O.out
 have aL:(n:Int)<(cap:Int):=Qqj
 have hd:cap - n≠0:=Qqj
 go_enter func169,ntmps169
 go_wp2_with (at_builtin;refine Uk (r:=Zh) Qqx rfl (.tmp 23) (.tmp 24) _ rfl 9 i0 (.string ⟨#[]⟩) 16 underlying33 HJ.out Y.out Z.out aA.out rfl Qqj S B w (.slice (some ⟨g,0,none⟩) n cap) xs css [y] (some ⟨qb,qo,none⟩) 1 c rfl HO.out rfl HY.out rfl Qqk Xx (by simp only [List.length_cons,List.length_nil];omega) hB ?_;intro N A D V I J G;obtain ⟨U,T,O⟩:=Qqo I J G;clear I J G)
 go_ret
 exact HE.out N A D V U.out T.out O.out
theorem insAnyS (S:Nat→Prop) (B:Nat) (w:World) (v:Value) (xs:List Bs) (css:List (List Value)) (y:Bs) (cy:List Value) (i q c:Nat) (hO:Own Zh 9 S B w v xs css) (hq:w.heap[q]?=some (.cells cy.toArray 9 (0,0))) (hqS:But S v q) (hy:Zh.R (But S v) w cy y) (hi:i≤xs.length) (hl:xs.length≤100000) (hB:B≤w):
  Calls prog 169 #[v,i,Qqb q 0 1 c] w (So S B w v (Jh xs i y)):=by
 have A:∀ (j:Nat) (u:Value),cy[j]?=some u→w.cell? ⟨q,0+j,none⟩=some u:=by
  intro j u hj
  rw [Nat.zero_add,Qk w q j _ _ (0,0) hq];simpa using hj
 have N:q<w.heap.size:=(Array.getElem?_eq_some_iff.1 hq).1
 by_cases he:i=xs.length
 ·subst he
  rw [Pw]
  refine insEndS S B w v xs css y _ c hO ⟨_,_,rfl,Qqk,fun _=>⟨q,0,rfl,hqS,N,fun j x hx=>?_⟩⟩ hl hB
  cases j with
  | zero=>
   simp at hx;subst hx
   refine ⟨cy,fun m u hm=>?_,hy⟩
   have:=A m u hm
   simpa using this
  | succ j=>simp at hx
 have M:i<xs.length:=Qqj
 have D:Cs Zh (But S v) w (Jh css i cy) (Jh xs i y):=(hO.cs.take i).app ((Cs.one hy).app (hO.cs.drop i))
 have I:(Jh css i cy).flatten=(css.take i).flatten++cy++(css.drop i).flatten:=by unfold Jh;simp
 have J:(Jh css i cy).flatten.length=(xs.length+1)*Zh.k:=by rw [D.flat,Xs]
 rcases hO.row.2 with ⟨_,h0⟩ | ⟨g,cap,aH,rfl,aD,aE,aJ,aB,aK,aL⟩
 ·omega
 have aI:g<w.heap.size:=(Array.getElem?_eq_some_iff.1 aE).1
 have aF:q≠g:=fun e=>hqS.2 (by rw [e];rfl)
 by_cases hr:xs.length+1≤cap
 ·refine (insRoomS S B w g xs.length cap i xs css y cy q 0 c hO rfl M hr aF hy A hl 9 cy.length (by unfold World.shape?;rw [hq];simp) (by simp [World.frozen?,hq]) (by simp [World.frozen?,hq])).mono ?_
  rintro e w' ⟨rfl,X,O,T,U,V,h5,Y⟩
  refine ⟨_,cap,Jh css i cy,by rw [Xs],⟨?_,?_⟩,Y,.inl rfl⟩
  ·rw [Xs]
   exact ⟨J,.inr ⟨g,cap,X,rfl,aD,O,hr,aB,T.trans (Nat.mul_one _).symm,by rw [I,show Zh.k=1 from rfl,Nat.mul_one];exact U⟩⟩
  rw [Xs]
  exact D.move (fun b hb _=>V b (fun e=>hb.2 (by rw [e];rfl))) (fun b _ hb=>⟨hb.1,fun e=>hb.2 e⟩)
 have aC:cap=xs.length:=Qqj
 subst aC
 refine (insGrowS S B w g xs.length i xs css y cy q 0 c hO rfl M hy A hl N).mono ?_
 rintro e w' ⟨G,rfl,Z,aA,X,O,T,U,V,h5,Y⟩
 refine ⟨_,G,Jh css i cy,by rw [Xs],⟨?_,?_⟩,Y,.inr rfl⟩
 ·rw [Xs]
  exact ⟨J,.inr ⟨w.heap.size,G,X,rfl,hB,O,Z,aA,T.trans (Nat.mul_one _).symm,by rw [I,show Zh.k=1 from rfl,Nat.mul_one];exact U⟩⟩
 rw [Xs]
 refine D.move (fun b _ hb=>V b hb) (fun b hb hs=>⟨hs.1,fun e=>?_⟩)
 have:b=w.heap.size:=by simpa [Value.ownBlock] using e
 omega
theorem Kq {A B:Type} {p:A→B→Bool}:∀ {a:List A} {b:List B},eqL p a b=true→a.length=b.length∧∀ (j:Nat) (x:A) (y:B),a[j]?=some x→b[j]?=some y→p x y=true
 | [],[],_=>⟨rfl,fun _ _ _ h=>by simp at h⟩
 | [],_::_,h=>by cases h
 | _::_,[],h=>by cases h
 | x::s,y::t,h=>by
  have h':(p x y&&eqL p s t)=true:=h
  rw [Bool.and_eq_true] at h'
  obtain ⟨h1,h2⟩:=h'
  obtain ⟨h3,h4⟩:=Kq h2
  refine ⟨by rw [List.length_cons,List.length_cons,h3],fun j u v hu hv=>?_⟩
  cases j with
  | zero=>cases hu;cases hv;exact h1
  | succ j=>exact h4 j u v hu hv
theorem T1 {a b:List Bs} (h:eqL (fun x y=>decide (x=y)) a b=true):a=b:=by
 obtain ⟨h1,h2⟩:=Kq h
 refine List.ext_getElem? fun j=>?_
 cases ha:a[j]? with
 | none=>rw [List.getElem?_eq_none_iff] at ha;exact (List.getElem?_eq_none_iff.2 Qqj).symm
 | some x=>
  have hj:=(Qj ha).1
  have hb:b[j]?=some (b[j]'Qqj):=Qx Qqj
  rw [hb]
  have:=h2 j x _ ha hb
  rw [of_decide_eq_true this]
theorem Nk {A:Type} {p:A→A→Bool} (hp:∀ x,p x x=true):∀ l:List A,eqL p l l=true
 | []=>rfl
 | x::s=>by show (p x x&&eqL p s s)=true;rw [hp,Nk hp s];rfl
theorem eqv_refl (x:Val):eqv x x=true:=Ew.2 rfl
theorem eqv_int {a b:Int} (h:eqv (Y5 a) (Y5 b)=true):a=b:=by
 have h':=Ew.1 h
 simpa [Y5,key] using h'
theorem No:∀ {a b:List Int},eqL eqv (a.map Y5) (b.map Y5)=true→a=b
 | [],[],_=>rfl
 | [],_::_,h=>by cases h
 | _::_,[],h=>by cases h
 | x::s,y::t,h=>by
  have h':(eqv (Y5 x) (Y5 y)&&eqL eqv (s.map Y5) (t.map Y5))=true:=h
  rw [Bool.and_eq_true] at h'
  rw [eqv_int h'.1,No h'.2]
def J9 (us:List Sm) (t:Tbl) (v:Val):Bool:=A9 (Mh us) v (t.columns.map Col.name) (t.columns.map Col.type)
def N2 (t:Tbl) (v:Val):List Int:=((keyOf t.key v).getD []).map Val.n
structure Ar (s:Sc) (t:Tbl):Prop where
 srt:Srt Ks t.columns
 few:t.columns.length≤19
 some:t.columns≠[]
 keyc:∀ k ∈ t.key,∃ j c,V9 (t.columns.map Col.name) k=.some j∧t.columns[j]?=.some c∧c.type.kind=0
 keyl:t.key.length≤3
 keyn:0<t.key.length
 refs:∀ r ∈ t.refs,(Y0 s.tables r.table).isSome=true
theorem Y2.kind0 {v:Val} (h:Y2 v) (hk:v.kind=0):∃ n,v=Y5 n∧-1000000≤n∧n≤1000000:=by
 cases h with
 | int n hb=>exact ⟨n,rfl,hb⟩
 | text s=>cases hk
 | bool n hn=>cases hk
 | make s kids hs hl hk'=>cases hk
 | record names kids hl hn hs hk'=>cases hk
 | list kids hk'=>cases hk
theorem Y2.kidG {v:Val} (h:Y2 v):∀ x ∈ v.kids,Y2 x:=by
 cases h with
 | int n hb=>intro x A;simp [Val.kids] at A
 | text s=>intro x A;simp [Val.kids] at A
 | bool n hn=>intro x A;simp [Val.kids] at A
 | make s kids hs hl hk=>exact hk
 | record names kids hl hn hs hk=>exact hk
 | list kids hk=>exact hk
theorem Cl {us:List Sm} {s:Sc} {t:Tbl} (hT:Ar s t) {v:Val} (hv:Y2 v) (h:J9 us t v=true) {k:Bs} (hk:k ∈ t.key):∃ n,Ys v k=some (Y5 n)∧-1000000≤n∧n≤1000000:=by
 unfold J9 A9 at h
 rw [Bool.and_eq_true,Bool.and_eq_true] at h
 obtain ⟨⟨h1,h2⟩,h3⟩:=h
 have hn:=T1 h2
 obtain ⟨j,c,hj,hc,G⟩:=hT.keyc k hk
 obtain ⟨h4,h5⟩:=Kq h3
 have I:v.kind=4:=by simpa using h1
 have A:=(Qj hc).1
 have N:v.kids[j]?=some (v.kids[j]'(by rw [h4,Z7];exact A)):=Qx _
 have D:=h5 j _ _ N (by rw [List.getElem?_map,hc];rfl)
 have h7:(v.kids[j]'(by rw [h4,Z7];exact A)).kind=0:=by
  unfold Mh at D
  rw [if_neg Qqj,G] at D
  simpa using D
 obtain ⟨n,J,M⟩:=(hv.kidG _ (Qy N)).kind0 h7
 refine ⟨n,?_,M⟩
 unfold Ys
 rw [if_pos I,hn,hj]
 show v.kids[j]?=_
 rw [N,J]
theorem Hv {v:Val}:∀ {ks:List Bs},(∀ k ∈ ks,∃ n,Ys v k=some (Y5 n)∧-1000000≤n∧n≤1000000)→∃ l:List Int,keyOf ks v=some (l.map Y5)∧l.length=ks.length∧∀ x ∈ l,-1000000≤x∧x≤1000000
 | [],_=>⟨[],rfl,rfl,fun _ h=>by cases h⟩
 | k::ks,h=>by
  obtain ⟨n,h1,h2⟩:=h k Qqk
  obtain ⟨l,h3,h4,h5⟩:=Hv (ks:=ks) (fun k hk=>h k (by simp [hk]))
  refine ⟨n::l,?_,by simp [h4],?_⟩
  ·unfold keyOf;rw [h1,h3];rfl
  intro x A
  rcases Z3.1 A with rfl | A
  ·exact h2
  exact h5 x A
theorem Tj (l:List Int):(l.map Y5).map Val.n=l:=by
 rw [List.map_map]
 have:(Val.n ∘ Y5)=id:=rfl
 rw [this,List.map_id]
theorem Ez {us:List Sm} {s:Sc} {t:Tbl} (hT:Ar s t) {v:Val} (hv:Y2 v) (h:J9 us t v=true):keyOf t.key v=some ((N2 t v).map Y5)∧(N2 t v).length=t.key.length∧∀ x ∈ N2 t v,-1000000≤x∧x≤1000000:=by
 obtain ⟨l,h1,h2,h3⟩:=Hv (fun k hk=>Cl hT hv h hk)
 have:N2 t v=l:=by unfold N2;rw [h1];exact Tj l
 rw [this]
 exact ⟨h1,h2,h3⟩
theorem Rx {us:List Sm} {s:Sc} {t:Tbl} (hT:Ar s t) {rows:List Val} (hg:∀ v ∈ rows,Y2 v) (h:∀ v ∈ rows,J9 us t v=true):Ey t rows (N2 t) where
 key:=fun r A=>(Ez hT (hg r A) (h r A)).1
 bd:=fun r A x hx=>by have:=(Ez hT (hg r A) (h r A)).2.2 x hx;omega
 len:=fun r A=>by rw [(Ez hT (hg r A) (h r A)).2.1];exact hT.keyl
theorem Sl.valS {S:Nat→Prop} {w:World} {p:Option Addr} {n cap:Nat} {xs:List Val} (h:Sl Ze S w (.slice p n cap) xs) {i:Nat} {x:Val} (hx:xs[i]?=some x):
  ∃ b off p3 k3 p4 k4,p=some ⟨b,off,none⟩∧S b∧b<w.heap.size∧Z9 S w (vcs x p3 k3 p4 k4) x∧Qqa w b (off+i*5) x.kind∧Qqa w b (off+i*5+1) x.n∧Qqa w b (off+i*5+2) x.s ∧
   Qqa w b (off+i*5+3) (.slice p3 x.names.length k3)∧Qqa w b (off+i*5+4) (.slice p4 x.kids.length k4):=by
 obtain ⟨p',c',h1,_,h3⟩:=h
 simp only [Qr] at h1
 obtain ⟨rfl,_,_⟩:=h1
 obtain ⟨b,off,e,hS,hb,hc⟩:=h3 (by intro e;subst e;simp at hx)
 obtain ⟨cs,A,h5⟩:=hc i x hx
 obtain ⟨p3,k3,p4,k4,rfl,_⟩:=Z9.cells h5
 exact ⟨b,off,p3,k3,p4,k4,e,hS,hb,h5,A 0 _ rfl,A 1 _ rfl,A 2 _ rfl,A 3 _ rfl,A 4 _ rfl⟩
theorem Cx (nm:Bs) (n:Int) (s:Bs) (names binds:List Bs) (kids:List Ex) (a z:Int) (d:Nat) (ih:∀ x ∈ kids,Xn d x) (hk1:kids.length=names.length+1) (hb1:binds.length=names.length):∀ (S:Nat→Prop) (ce:List Value) (nv vv:Value) (ns:List Bs) (vs:List Val) (w:World),Yv S w ce (.mk 13 nm n s names binds kids a z)→Sl Zh S w nv ns→Sl Ze S w vv vs→ns.length≤vs.length→vs.length+(d+1)≤1000→(∀ v ∈ vs,Y3 v) →
  Calls prog 146 #[ce,nv,vv] w (X6 S w (Gl (Y1 d) names binds kids ns vs)):=by
 intro S ce nv vv ns vs w V eN eQ cP hd hb
 obtain ⟨r,hr⟩:=eX (Gl (Y1 d) names binds kids ns vs)
 rw [hr]
 have HR:=Qq hr
 clear hr
 have hx:Yv (fun b=>S b∧b<w) w ce (.mk 13 nm n s names binds kids a z):=V.move (.refl _ _) (fun b hb h=>⟨h,hb⟩)
 have hn:=eN.up
 have hv:=eQ.up
 obtain ⟨np,nc,rfl,_⟩:=hn.len
 obtain ⟨vp,vc,rfl,jM⟩:=hv.len
 have iO:=Qq hx
 obtain ⟨jR,bv,kv,rfl,jJ,jK,dH,dF,hk⟩:=Yx.1 hx
 obtain ⟨p1,c1,rfl,_⟩:=dH.len
 obtain ⟨p2,c2,rfl,_⟩:=dF.len
 obtain ⟨p3,c3,rfl,hR⟩:=hk.len
 obtain ⟨HN,HV,cT,dU,dT,HK,HI,aN⟩:=Qqu hn hv hb dH dF hk ih cP
 clear V eN eQ hx hn hv dH dF hk hb ih cP
 unfold sv at *
 obtain ⟨m,hm⟩:=eX (names.length)
 rw [hm] at hk1 hb1
 have iK:m+1≤1000000:=Qqj
 rw [hk1] at HK ⊢;rw [hm] at dU ⊢;rw [hb1] at dT ⊢
 obtain ⟨HM,gD,fX⟩:=Qqo hm hk1 hb1
 obtain ⟨x0,V⟩:∃ x,kids[0]?=some x:=⟨_,Qx Qqj⟩
 obtain ⟨I,J,iT,iV,iU,iW,iP,iY,jB,iQ,iZ,jC,iR,jA,jD,iS,iX,eP,cN,bP,aR,aT,aV,aX,aZ,bB,bD,bF,bH⟩:=HK.out.ex V
 subst eP
 simp only [Nat.zero_mul,Nat.add_zero] at aR aT aV aX aZ bB bD bF bH
 have fY:=Qq (fun W (hW:Below w w W)=>HI.out x0 (Qy V) (fun b=>S b∧b<w) _ _ _ ns vs W (bP.move (.of_below hW) Qzx) (HN.out.below hW) (HV.out.below hW) aN.out Qqj cT.out)
 obtain ⟨iJ,cB,iN⟩:=Qqo bP V (Qy V)
 have fW:=Qq (Qe cN (Qe aR (Qe aT (Qe aV (Qe aX (Qe aZ (Qe bB (Qe bD (Qe bF bH)))))))))
 clear bP V cN aR aT aV aX aZ bB bD bF bH
 clear hm hk1 hb1 hR
 have hO:(0:Int)<(m:Int)+1:=Qqj
 go_enter func146,ntmps146
 go_upto_region 1 with fail
 generalize cD:(w.alloc _).alloc _=W1
 have hb1:=eqB cD (Zt _ _ _)
 have eJ:=eqH (b:=w.heap.size) cD (Q5 _ _ _)
 have dD:=eqH (b:=w.heap.size+1) cD (Q6 _ _ _)
 obtain ⟨D,cC,aI⟩:=Qqo hb1 eJ dD
 have aB:=Z8 dD
 clear cD hb1 eJ dD
 have cL:=((Qq (Qz W1 W1)).out.block _ (Z8 cC.out)).trans cC.out
 have c6:=rA6 cL
 clear cL
 obtain ⟨M,q0,q1,q2,q3,q4,q5,q6,q7,q8⟩:=fW.out
 have aR:=kD D.out M q0;have aT:=kD D.out M q1;have aV:=kD D.out M q2;have aX:=kD D.out M q3;have aZ:=kD D.out M q4;have bB:=kD D.out M q5;have bD:=kD D.out M q6;have bF:=kD D.out M q7;have bH:=kD D.out M q8
 clear M q0 q1 q2 q3 q4 q5 q6 q7 q8
 go_upto_region 2 with (go_at_call 97;refine (fY.out _ D.out).mono ?_;rintro e w5 ⟨k5,n5,s5,Z,cF,Y,aA,cG,T,b5,rfl,eR,eK⟩;have cX:=Qq eR;have dS:=Qq eK;clear eR eK)
 generalize dC:w5.alloc _=W6
 have dE:=eqB dC (Zg _ _)
 have eH:=eqH (b:=w5.heap.size) dC (Qw _ _)
 obtain ⟨aG,aP,cI⟩:=Qqo (dS.out.thn dE) eH dE
 clear dC dE eH
 have iL:w.heap.size+1<W6.heap.size:=Qqq aG.out.size
 clear c6 aR aT aV aX aZ bB bD bF bH hO
 obtain ⟨v0,v1,v2,v3,v4⟩:=row5 aP.out
 have hY:b5=false∨(b5=true∧(k5 != 3)=true)∨(b5=true∧k5=3):=by
  cases b5 with
  | false=>exact .inl rfl
  | true=>
   by_cases h:k5=3
   ·exact .inr (.inr ⟨rfl,h⟩)
   exact .inr (.inl ⟨rfl,by simpa using h⟩)
 rcases hY with rfl | ⟨rfl,hq⟩ | ⟨rfl,hk3⟩
 ·clear v0 v1 v2 v3 v4
  obtain ⟨v0,v1,v2,v3,v4⟩:=row5 aP.out
  have G:=kE aG.out aB aI.out
  obtain ⟨y0,y1,y2,y3,y4⟩:=row5 G
  obtain ⟨f0,f1,f2,f3,f4⟩:=frz5 G
  have aQ:=Qq G
  clear G
  go_wp2_with fail
  show bodyPost _ _ _ _ _ (Zl W6 (w+1) k5 n5 (.string s5) (.slice Z cF Y) (.slice aA cG T))
  refine Q7 (v:=.tuple #[.agg #[k5,n5,.string s5,.slice Z cF Y,.slice aA cG T],.bool false]) (by simp [results,results146,go_sem,Zd aQ.out]) rfl (Vz Qqj (D.out.thn aG.out) (by rw [← HR.out];exact matV_no cB.out (cX.out.2 rfl)))
 ·have gJ:Hid (r=none):=Qq (by
   obtain ⟨v,bO,dI,cE⟩:=cX.out.1 rfl
   rw [← HR.out]
   exact Wo cB.out cE (by rw [bO.head.1];simpa using hq))
  have G:=kE aG.out aB aI.out
  obtain ⟨y0,y1,y2,y3,y4⟩:=row5 G
  obtain ⟨f0,f1,f2,f3,f4⟩:=frz5 G
  have aQ:=Qq G
  clear G
  go_wp2_with fail
  show bodyPost _ _ _ _ _ (Zl W6 (w+1) k5 n5 (.string s5) (.slice Z cF Y) (.slice aA cG T))
  refine Q7 (v:=.tuple #[.agg #[k5,n5,.string s5,.slice Z cF Y,.slice aA cG T],.bool false]) (by simp [results,results146,go_sem,Zd aQ.out]) rfl (Vz Qqj (D.out.thn aG.out) gJ.out)
 obtain ⟨v,bO,dI,cE⟩:=cX.out.1 rfl
 obtain ⟨a3,b3,a4,b4,eL,-,eS,jN⟩:=Z9.cells bO
 simp only [vcs,List.cons.injEq,Value.int.injEq,Value.string.injEq,Qr,true_and,and_true] at eL
 obtain ⟨rfl,rfl,rfl,⟨rfl,rfl,rfl⟩,rfl,rfl,rfl⟩:=eL
 have hq:(v.kind != 3)=false:=by rw [hk3];rfl
 obtain ⟨gP,gQ,gO⟩:=Qqo bO dI eS
 have gC:=Qq hk3;have dW:=Qq cE
 clear bO dI eS hk3 cE
 go_upto_region 5 with fail
 clear hq v0 v1 v2 v3 v4
 go_loopw [10] (fun i wr=>∃ j:Nat,j≤m∧i=.int .i64 j∧Aside (∀ y ∈ names.take j,y≠v.s)∧Aside (Below W6 W6 wr)) (fun i _=>m - (intOf i).toNat)
 case atStart=>exact ⟨0,Q8 _,rfl,(by intro y hy;simp at hy),Qz _ _⟩
 obtain ⟨j,hj,rfl,eO,eE⟩:=hrel
 have cU:=Qq (show ∀ y ∈ names.take j,y≠v.s from eO)
 clear eO
 have aL:=Qq (show Below W6 W6 wr from eE)
 clear eE
 have aC:=Qq (aG.out.thn aL.out)
 have aM:=Qq (D.out.thn aC.out)
 have cK:=kB aL.out aP.out
 have aO:=Qq cK
 clear cK
 have aD:=kB aC.out cC.out
 have c4:=rA4 aD;have c5:=rA5 aD;have c6:=rA6 aD
 clear aD
 by_cases hlt2:j<m
 ·have jE:(0:Int)≤(j:Int):=Qqj
  have jF:(j:Int)<(m:Int):=Qqj
  obtain ⟨y,hy⟩:∃ y,names[j]?=some y:=⟨_,Qx (by rw [HM.out];omega)⟩
  obtain ⟨nb,iM,rfl,iB,-⟩:=(dU.out.below aM.out).str hy
  have HY:=Qq hy
  clear hy
  have v2:=rA2 aO.out
  by_cases he:y=v.s
  ·subst he
   have hq:(v.s != v.s)=false:=Qqk
   have hU:(v.s==v.s)=true:=Qqk
   obtain ⟨z,hz⟩:∃ z,binds[j]?=some z:=⟨_,Qx (by rw [fX.out];omega)⟩
   obtain ⟨bb,cJ,hM,bT,iD⟩:=dT.out.str hz
   subst hM
   have cM:=Qv _ _ bT
   have hN:bb≠w.heap.size+1:=by have h:bb<w.heap.size:=cM;omega
   have gR:=Qq bT;have gS:=Qq hz
   clear hz bT
   go_upto_region 7 with fail
   go_quiet (fail)
   obtain ⟨wq,dJ⟩:=eX (wr.drewN nq)
   have aK:Below wr wr wq:=by rw [← dJ];exact Yq _ _
   rw [dJ]
   have aH:=Qq (aC.out.thn aK);have A:=Qq (aM.out.thn aK)
   have eI:=kB aK aO.out
   have cZ:=Qq eI
   have hS:w.heap.size+1<wq.heap.size:=Qqq aH.out.size
   have dV:=Qq (gP.out.move (.of_below (cI.out.thn (aL.out.thn aK))) Qzx)
   have cH:=Qq (gO.out.below (cI.out.thn (aL.out.thn aK)))
   clear dJ aK eI iB hq c4 c5 c6 v2
   have bJ:=kB aH.out cC.out
   have c5:=rA5 bJ;have c6:=rA6 bJ
   clear bJ
   have eU:=kD A.out cM gR.out
   obtain ⟨x1,bR⟩:∃ x,kids[j+1]?=some x:=⟨_,Qx (by rw [gD.out];omega)⟩
   obtain ⟨jP,jQ,gY,hA,gZ,hB,gU,hD,hI,gV,hF,hJ,gW,hH,hK,gX,hC,cQ,cO,bQ,aS,aU,aW,aY,bA,bC,bE,bG,bI⟩:=HK.out.ex bR
   simp only [Zv,Addr.mk.injEq,and_true] at cQ
   obtain ⟨rfl,rfl⟩:=cQ
   have fZ:=Qq (fun W (hW:Below w w W)=>HI.out x1 (Qy bR) (fun b=>S b∧b<w) _ _ _ ns vs W (bQ.move (.of_below hW) Qzx) (HN.out.below hW) (HV.out.below hW) aN.out Qqj cT.out)
   obtain ⟨cV,dX,gE⟩:=Qqo (HR.out.symm.trans (matV_at (f:=Y1 d) cB.out dW.out gC.out (Tv HY.out cU.out) bR gS.out)) bQ (Qy bR)
   have dR:=Qq (Qe cO (Qe aS (Qe aU (Qe aW (Qe aY (Qe bA (Qe bC (Qe bE (Qe bG bI)))))))))
   clear bQ bR cO aS aU aW aY bA bC bE bG bI
   obtain ⟨M,q0,q1,q2,q3,q4,q5,q6,q7,q8⟩:=dR.out
   have aS:=kD A.out M q0;have aU:=kD A.out M q1;have aW:=kD A.out M q2;have aY:=kD A.out M q3;have bA:=kD A.out M q4;have bC:=kD A.out M q5;have bE:=kD A.out M q6;have bG:=kD A.out M q7;have bI:=kD A.out M q8
   clear M q0 q1 q2 q3 q4 q5 q6 q7 q8
   have jO:IntKind.i64.wrap ((j:Int)+1)=(j:Int)+1:=by rw [IntKind.wrap_i64];omega
   have jG:(0:Int)≤(j:Int)+1:=Qqj
   have jH:(j:Int)+1<(m:Int)+1:=Qqj
   have jI:((j:Int)+1).toNat=j+1:=Qqj
   cases z with
   | nil=>
    go_wp2_with (go_at_call 97;refine (fZ.out _ A.out).mono ?_;rintro e w7 ⟨k7,n7,s7,bY,bW,bU,bZ,bX,bV,b7,rfl,bN,aJ⟩;have N:=kE (aH.out.thn aJ) aB aI.out;obtain ⟨y0,y1,y2,y3,y4⟩:=row5 N;obtain ⟨f0,f1,f2,f3,f4⟩:=frz5 N;have dA:=Qq N;clear N;have cY:=Qq bN;have cS:=Qq aJ;clear bN aJ)
    show bodyPost _ _ _ _ _ (Zl w7 (w+1) k7 n7 (.string s7) (.slice bY bW bU) (.slice bZ bX bV))
    refine Q7 (v:=.tuple #[.agg #[k7,n7,.string s7,.slice bY bW bU,.slice bZ bX bV],.bool b7]) (by simp [results,results146,go_sem,Zd dA.out]) rfl (X6.of_eq (cV.out.trans (if_pos Qqx)) (Jk A.out Qqj hS cY.out cS.out))
   | cons c z=>
    by_cases h1:v.kids.length=1
    ·obtain ⟨y,hy⟩:∃ y,v.kids[0]?=some y:=⟨_,Qx Qqj⟩
     obtain ⟨ub,cR,t3,l3,t4,l4,hZ,eG,jL,eT,u0,u1,u2,u3,u4⟩:=cH.out.valS hy
     subst hZ
     have cW:Hid (r=Y1 d x1 (ns++[c::z]) (vs++[y])):=Qq (by
      obtain ⟨y',eM⟩:=List.length_eq_one_iff.1 h1
      rw [eM] at hy
      obtain rfl:y'=y:=Qb hy
      rw [cV.out,if_neg Qqk,eM])
     rw [h1] at cZ dV cH
     simp only [Nat.zero_mul,Nat.add_zero] at u0 u1 u2 u3 u4
     have bM:ub≠w.heap.size+1:=by rcases eG with h | h;exact (by have:=h.2;omega);exact (by have h':W1.heap.size≤ub:=h;omega)
     have hE:=Qq (fun W (hW:Below wq wq W)=>En d x1 (HI.out x1 gE.out) (fun c=>(S c∧c<w)∨W1≤c) _ _ _ ns vs (c::z) y (Qqg y t3 l3 t4 l4) W (dX.out.move (.of_below (A.out.thn hW)) (fun _ _ h=>.inl h)) ((HN.out.below (A.out.thn hW)).mono (fun _ _ h=>.inl h)) ((HV.out.below (A.out.thn hW)).mono (fun _ _ h=>.inl h)) aN.out Qqj cT.out iD (eT.move (.of_below hW) Qzx) (gQ.out.kids y (Qy hy)))
     unfold sv at hE
     have hV:((1:Int) != 1)=false:=rfl
     have v4:=rA4 cZ.out
     go_upto_region 12 with fail
     have O:I≠w.heap.size+1:=by have:=dR.out.1;omega
     have hL:w5≠w.heap.size+1:=Qqq dS.out.size
     refine let_mvar% ?Lq1:=fun w':World=>Qqa w' w 5 (Qqb bb cJ m c2)∧Qqa w' w 6 (Qqb I J (m+1) c3)∧Qqa w' bb (cJ+j) (.string ⟨(c::z).toArray⟩)∧Qqa w' w5 4 (Qqb ub cR 1 T)∧Qqa w' I (J+(j+1)*9) gY∧Qqa w' I (J+(j+1)*9+1) (.string hA)∧Qqa w' I (J+(j+1)*9+2) gZ∧Qqa w' I (J+(j+1)*9+3) (.string hB)∧Qqa w' I (J+(j+1)*9+4) (.slice gU hD hI)∧Qqa w' I (J+(j+1)*9+5) (.slice gV hF hJ)∧Qqa w' I (J+(j+1)*9+6) (.slice gW hH hK)∧Qqa w' I (J+(j+1)*9+7) gX∧Qqa w' I (J+(j+1)*9+8) hC∧Qzh w' ub cR y.kind y.n y.s (.slice t3 y.names.length l3) (.slice t4 y.kids.length l4);?_
     have HS:∀ w',Below wq wq w'→?Lq1 w':=by
      intro w' h
      have U:∀ {b j:Nat} {u:Value},wq.cell? ⟨b,j,none⟩=some u→w'.cell? ⟨b,j,none⟩=some u:=fun hc=>kC h hc
      exact ⟨U c5,U c6,U eU,U v4,U aS,U aU,U aW,U aY,U bA,U bC,U bE,U bG,U bI,U u0,U u1,U u2,U u3,U u4⟩
     have HP:∀ w' x0 x1 x2 x3 x4,?Lq1 w'→?Lq1 (Zl w' (w+1) x0 x1 x2 x3 x4):=fun w' x0 x1 x2 x3 x4 h=>⟨Zm Qqj h.1,Zm Qqj h.2.1,Zm hN h.2.2.1,Zm hL h.2.2.2.1,Zm O h.2.2.2.2.1,Zm O h.2.2.2.2.2.1,Zm O h.2.2.2.2.2.2.1,Zm O h.2.2.2.2.2.2.2.1,Zm O h.2.2.2.2.2.2.2.2.1,Zm O h.2.2.2.2.2.2.2.2.2.1,Zm O h.2.2.2.2.2.2.2.2.2.2.1,Zm O h.2.2.2.2.2.2.2.2.2.2.2.1,Zm O h.2.2.2.2.2.2.2.2.2.2.2.2.1,Zm bM h.2.2.2.2.2.2.2.2.2.2.2.2.2.1,Zm bM h.2.2.2.2.2.2.2.2.2.2.2.2.2.2.1,Zm bM h.2.2.2.2.2.2.2.2.2.2.2.2.2.2.2.1,Zm bM h.2.2.2.2.2.2.2.2.2.2.2.2.2.2.2.2.1,Zm bM h.2.2.2.2.2.2.2.2.2.2.2.2.2.2.2.2.2⟩
     unfold Zl at HP
     obtain ⟨gL,gM,gI⟩:=Qqo (HS wq.drew (Qz _ _).drew) HS HP
     clear HS HP c5 c6 eU v4 aS aU aW aY bA bC bE bG bI u0 u1 u2 u3 u4 eG eT hy
     go_region_held3 ?Lq1 (first | with_reducible exact gL.out | with_reducible exact eF | with_reducible exact gI.out _ _ _ _ _ _ eF)
      (first
       | (go_at_call 145;refine (hE.out _ (Qz _ _).drew).mono ?_;rintro e w7 ⟨k7,n7,s7,bY,bW,bU,bZ,bX,bV,b7,rfl,bN,aJ⟩;have bL:=(Qz _ wq).drew.thn aJ;have eF:=gM.out w7 bL;have bK:=aH.out.thn bL;have N:=kE (bK) aB aI.out;obtain ⟨y0,y1,y2,y3,y4⟩:=row5 N;obtain ⟨f0,f1,f2,f3,f4⟩:=frz5 N;have dA:=Qq N;clear N;have cY:=Qq bN;have cS:=Qq bK;clear bN aJ bK bL))
     all_goals
      go_wp2_with fail
      show bodyPost _ _ _ _ _ (Zl w7 (w+1) k7 n7 (.string s7) (.slice bY bW bU) (.slice bZ bX bV))
      refine Q7 (v:=.tuple #[.agg #[k7,n7,.string s7,.slice bY bW bU,.slice bZ bX bV],.bool b7]) (by simp [results,results146,go_sem,Zd dA.out]) rfl (X6.of_eq cW.out (Jk D.out Qqj aB (cY.out.map fun v h1=>h1.move (.refl _ _) (fun c _ hc=>by
        rcases hc with hc | hc
        ·exact hc
        exact .inr (by have:=aH.out.size;have h':wq.heap.size≤c:=hc;omega))) cS.out))
    have cW:Hid (r=none):=Qq (by
     rw [cV.out,if_neg Qqk]
     split
     ·rename_i e;rw [e] at h1;exact absurd rfl h1
     rfl)
    have hV:((v.kids.length:Int) != 1)=true:=by simp;omega
    obtain ⟨v0,v1,v2,v3,v4⟩:=row5 cZ.out
    have aE:=kE aH.out aB aI.out
    obtain ⟨y0,y1,y2,y3,y4⟩:=row5 aE
    obtain ⟨f0,f1,f2,f3,f4⟩:=frz5 aE
    have dY:=Qq aE
    clear aE
    go_wp2_with fail
    show bodyPost _ _ _ _ _ (Qqm wq (w+1) v Z Y aA T)
    refine Q7 (v:=.tuple #[.agg (Qqg v Z Y aA T),.bool false]) (by simp [results,results146,go_sem,Zd dY.out]) rfl (Vz Qqj A.out cW.out)
  have hq:(y != v.s)=true:=by rw [bne_iff_ne];exact he
  have hU:(y==v.s)=false:=by rw [← Qt,beq_iff_eq];exact he
  have gG:Hid (∀ x ∈ names.take (j+1),x≠v.s):=Qq (by
   intro x hx
   rw [Fm HY.out] at hx
   rcases Z4.1 hx with h | h
   ·exact cU.out x h
   rw [Z5.1 h];exact he)
  clear he
  go_upto_region 7 with fail
  go_quiet (fail)
  go_wp2_with fail
  go_roundw
  case measure=>simp [intOf];omega
  case rel=>exact ⟨j+1,Qqj,by go_num,gG.out,aL.out.thn (Yq _ _)⟩
 have hP:j=m:=Qqj
 subst hP
 obtain ⟨v0,v1,v2,v3,v4⟩:=row5 aO.out
 have aF:=kE aC.out aB aI.out
 obtain ⟨y0,y1,y2,y3,y4⟩:=row5 aF
 obtain ⟨f0,f1,f2,f3,f4⟩:=frz5 aF
 have dZ:=Qq aF
 clear aF
 go_wp2_with fail
 show bodyPost _ _ _ _ _ (Qqm wr (w+1) v Z Y aA T)
 refine Q7 (v:=.tuple #[.agg (Qqg v Z Y aA T),.bool false]) (by simp [results,results146,go_sem,Zd dZ.out]) rfl (Vz Qqj aM.out (by
  have h9:=cU.out
  rw [← HM.out,List.take_length] at h9
  rw [← HR.out];exact Cq cB.out dW.out (P0 h9)))
end Go.Proofs.YtdpibdpbgokmoaaGreatDoor
