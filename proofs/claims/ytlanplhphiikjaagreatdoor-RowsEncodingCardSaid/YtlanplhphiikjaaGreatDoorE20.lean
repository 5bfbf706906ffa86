import Derived.Test.YtlanplhphiikjaaGreatDoorE16
set_option maxRecDepth 100000
set_option maxHeartbeats 400000000
namespace Go.Proofs.YtlanplhphiikjaaGreatDoor
open Go.RowKit Go.Shelf Go.Lib Go.WideMaps Go.Maps
def Y9 (W:World) (R:Nat) (a0 a1 a2 a3 a4 a5 a6 a7 a8 a9 a10 a11:Value):World:=((((((((((((W.setCell ⟨R,0,none⟩ a0).setCell ⟨R,1,none⟩ a1).setCell ⟨R,2,none⟩ a2).setCell ⟨R,3,none⟩ a3).setCell ⟨R,4,none⟩ a4).setCell ⟨R,5,none⟩ a5).setCell ⟨R,6,none⟩ a6).setCell ⟨R,7,none⟩ a7).setCell ⟨R,8,none⟩ a8).setCell ⟨R,9,none⟩ a9).setCell ⟨R,10,none⟩ a10).setCell ⟨R,11,none⟩ a11)
theorem Lq {W:World} {R:Nat} {a0 a1 a2 a3 a4 a5 a6 a7 a8 a9 a10 a11 x0 x1 x2 x3 x4 x5 x6 x7 x8 x9 x10 x11:Value} {t:TypeId} (h:W.heap[R]?=some (.cells #[x0,x1,x2,x3,x4,x5,x6,x7,x8,x9,x10,x11] t (0,0))):(Y9 W R a0 a1 a2 a3 a4 a5 a6 a7 a8 a9 a10 a11).heap[R]?=some (.cells #[a0,a1,a2,a3,a4,a5,a6,a7,a8,a9,a10,a11] t (0,0)):=by
 have A:=Qi _ _ 0 _ _ a0 h;have A:=Qi _ _ 1 _ _ a1 A;have A:=Qi _ _ 2 _ _ a2 A;have A:=Qi _ _ 3 _ _ a3 A;have A:=Qi _ _ 4 _ _ a4 A;have A:=Qi _ _ 5 _ _ a5 A;have A:=Qi _ _ 6 _ _ a6 A;have A:=Qi _ _ 7 _ _ a7 A;have A:=Qi _ _ 8 _ _ a8 A;have A:=Qi _ _ 9 _ _ a9 A;have A:=Qi _ _ 10 _ _ a10 A;have A:=Qi _ _ 11 _ _ a11 A
 simpa [Y9] using A
theorem Ya {W:World} {R:Nat} {a0 a1 a2 a3 a4 a5 a6 a7 a8 a9 a10 a11 x0 x1 x2 x3 x4 x5 x6 x7 x8 x9 x10 x11:Value} {t:TypeId} (h:W.heap[R]?=some (.cells #[x0,x1,x2,x3,x4,x5,x6,x7,x8,x9,x10,x11] t (0,0))) (j:Nat):(Y9 W R a0 a1 a2 a3 a4 a5 a6 a7 a8 a9 a10 a11).cell? ⟨R,j,none⟩=#[a0,a1,a2,a3,a4,a5,a6,a7,a8,a9,a10,a11][j]?:=
 Qk _ _ _ _ _ _ (Lq h)
theorem Xz {W:World} {R k:Nat} {a0 a1 a2 a3 a4 a5 a6 a7 a8 a9 a10 a11:Value} (h:k≠R):(Y9 W R a0 a1 a2 a3 a4 a5 a6 a7 a8 a9 a10 a11).heap[k]?=W.heap[k]?:=by
 unfold Y9
 repeat rw [Z9 h]
theorem Yv {B R:Nat} {w W:World} {a0 a1 a2 a3 a4 a5 a6 a7 a8 a9 a10 a11:Value} (h:Below B w W) (hR:B<=R):Below B w (Y9 W R a0 a1 a2 a3 a4 a5 a6 a7 a8 a9 a10 a11):=
 (((((((((((h.setCell (p:=⟨R,0,none⟩) hR _).setCell (p:=⟨R,1,none⟩) hR _).setCell (p:=⟨R,2,none⟩) hR _).setCell (p:=⟨R,3,none⟩) hR _).setCell (p:=⟨R,4,none⟩) hR _).setCell (p:=⟨R,5,none⟩) hR _).setCell (p:=⟨R,6,none⟩) hR _).setCell (p:=⟨R,7,none⟩) hR _).setCell (p:=⟨R,8,none⟩) hR _).setCell (p:=⟨R,9,none⟩) hR _).setCell (p:=⟨R,10,none⟩) hR _).setCell (p:=⟨R,11,none⟩) hR _
def X9 (P:List Bs) (k:Bs):Option Nat:=P.findIdx? (fun y=>decide (y=k))
theorem Bj (P:List Bs) (k s:Bs):X9 (P++[k]) s=(match X9 P s with | some a=>some a | none=>if k=s then some P.length else none):=by
 unfold X9
 rw [List.findIdx?_append]
 cases P.findIdx? (fun y=>decide (y=s)) with
 | some a=>rfl
 | none=>by_cases h:k=s <;> simp [h]
def Km (P:List Bs) (st:Nat × Nat) (k:Bs):Nat × Nat:=match X9 P k with
 | none=>st
 | some a=>if a<st.1 then (a,P.length) else st
def ust (n:Nat) (ks:List Bs):Nat->Nat × Nat
 | 0=>(n,0)
 | i+1=>Km (ks.take i) (ust n ks i) (ks.getD i [])
theorem M4 {P:List Bs} {k:Bs} {a:Nat} (h:X9 P k=some a):a<P.length:=by
 unfold X9 at h
 rw [List.findIdx?_eq_some_iff_getElem] at h
 exact h.1
theorem ust_bd (n:Nat) (ks:List Bs):∀ i,i<=ks.length->(ust n ks i).1=n\/((ust n ks i).1<i/\(ust n ks i).2<i)
 | 0,_=>.inl rfl
 | i+1,hi=>by
  have ih:=ust_bd n ks i Qvu
  have hl:(ks.take i).length=i:=by rw [Qm];omega
  have e:ust n ks (i+1)=Km (ks.take i) (ust n ks i) (ks.getD i []):=rfl
  rw [e]
  generalize ust n ks i=st at ih |-
  unfold Km
  cases hf:X9 (ks.take i) (ks.getD i []) with
  | none=>
   rcases ih with h | h
   ·exact .inl h
   exact .inr ⟨by show st.1<i+1;omega,by show st.2<i+1;omega⟩
  | some a=>
   have ha:=M4 hf
   by_cases hlt:a<st.1
   ·simp only [if_pos hlt]
    exact .inr ⟨Qvu,Qvu⟩
   simp only [if_neg hlt]
   rcases ih with h | h
   ·exact .inl h
   exact .inr ⟨Qvu,Qvu⟩
def Qjf (D:DataW Unit) (P:List Bs):Prop:=IsMap D/\∀ s:Bs,Maps.has D (.string s)=(X9 P s).isSome/\∀ a,X9 P s=some a->D.atKey (.string s) (.lit (.int .i64 0))=.lit (.int .i64 (a:Nat))
theorem invD_nil:Qjf (.map []) []:=⟨isMap_empty,fun _=>⟨rfl,fun _ h=>by cases h⟩⟩
theorem keyLit (s:Bs):WideAt.IsKeyLit (.string s):=by simp [WideAt.IsKeyLit]
theorem invD_new {D:DataW Unit} {P:List Bs} {k:Bs} (h:Qjf D P) (hk:X9 P k=none):Qjf (D.put (.string k) (.lit (.int .i64 (P.length:Nat)))) (P++[k]):=by
 refine ⟨h.1.put _ _,fun s=>?_⟩
 rw [Bj]
 by_cases hs:s=k
 ·subst hs
  rw [hk]
  simp only [if_true]
  refine ⟨has_put_same h.1 (keyLit _) _,fun a J=>?_⟩
  cases J
  exact atKey_put_same h.1 (keyLit _) _ _
 have A:(Lit.string s)≠.string k:=fun e=>hs (by injection e)
 rw [has_put_other A,atKey_put_other A]
 have I:=(h.2 s)
 cases hf:X9 P s with
 | none=>rw [hf] at I;simp only [if_neg (fun e=>hs (Eq.symm e))];exact ⟨I.1,fun a J=>by cases J⟩
 | some a=>rw [hf] at I;exact I
theorem Rj {D:DataW Unit} {P:List Bs} {k:Bs} {a:Nat} (h:Qjf D P) (hk:X9 P k=some a):Qjf D (P++[k]):=by
 refine ⟨h.1,fun s=>?_⟩
 rw [Bj]
 have A:=h.2 s
 cases hf:X9 P s with
 | some b=>rw [hf] at A;exact A
 | none=>
  have hs:k≠s:=fun e=>by subst e;rw [hf] at hk;cases hk
  rw [hf] at A
  simp only [if_neg hs]
  exact A
theorem Oc {w w':World} {k:TypeId} {R:Value->Option (DataW Unit × List MemPlace)} {b n:Nat} {D:DataW Unit} (h:w.ownsMap Tryz.prog k R b n D) (e:w'.heap[b]?=w.heap[b]?):w'.ownsMap Tryz.prog k R b n D:=by
 obtain ⟨es,c,h1,h2⟩:=h
 exact ⟨es,c,e.trans h1,h2⟩
theorem M7 {w:World} {k:TypeId} {R:Value->Option (DataW Unit × List MemPlace)} {b n:Nat} {D:DataW Unit} (h:w.ownsMap Tryz.prog k R b n D):b<w.heap.size:=by
 obtain ⟨es,c,h1,h2⟩:=h
 exact Z8 h1
def kb (l:List Int):Bs:=(l.map De).flatten
structure Ob (t:Tbl) (rows:List Val) (K:Val->List Int):Prop where
 key:∀ row ∈ rows,keyOf t.key row=some ((K row).map Vr)
 bd:∀ row ∈ rows,∀ x ∈ K row,-2305843009213693952<=x/\x<2305843009213693952
 len:∀ row ∈ rows,(K row).length<=3
def Kj (rows:List Val) (st:Nat × Nat):Ft:=if st.1=rows.length then Ft.zero else ⟨11,[],rows.getD st.1 Val.zero,rows.getD st.2 Val.zero⟩
structure UMid (w W1:World) (ks:List Bs) (k:Nat) (wr:World):Prop where
 below:Below w w wr
 keep:∀ b,b<w.heap.size+2->wr.heap[b]?=W1.heap[b]?
 map:∃ D,wr.ownsMap Tryz.prog 9 (plainElem Tryz.prog 3) (w+2) k D/\Qjf D (ks.take k)
theorem law9:Keyed Tryz.prog 9:=string_keyed Tryz.underlying9
theorem zero3 (w:World):(zeroValue 3).run Tryz.prog w=.ok (.int .i64 0) w:=Qxx
theorem Tu (S S':Nat->Prop) (t:Tbl) (rows:List Val) (K:Val->List Int) (ct:List Value) (v:Value) (w:World) (ht:Zl.R S w ct t) (hv0:Sl Zc S' w v rows) (hK:Ob t rows K) (hl:rows.length<=100000) (hkl:t.key.length<=1000):
  Calls Tryz.prog 66 #[ct,v] w (Gx S' w (Kj rows (ust rows.length (rows.map fun r=>kb (K r)) rows.length))):=by
 have gV:=@run_makeMap Tryz.prog
 have hv:=hv0.up
 have bC:=Qq (fun row cr (hm:row ∈ rows) W (hb:Below w w W) (hr:Za (fun b=>S' b/\b<w) W cr row)=>(hK.key row hm) ▸ Ch S (fun b=>S' b/\b<w) t row ct cr W (Zl.frame ht (.of_below hb)) hr hkl)
 have cI:=Qq (fun (n:Int) cs W (h0:-2305843009213693952<=n) (h1:n<2305843009213693952) (h:Za (fun _=>True) W cs (Vr n))=>Cq _ n [] [] cs W h h0 h1)
 obtain ⟨bS,bR,bZ,bY,cB,cA,k0,s1,n0,s2,p1,n1,c1,p2,n2,c2,p3,n3,c3,a0,z0,rfl,_,_,_,_,_⟩:=Yj ht
 obtain ⟨vp,gR,rfl,_⟩:=hv.len
 unfold tcs at bC |-
 have HV:=Qq hv;have cK:=Qq hK
 obtain ⟨i5,j1,j2,j3,j4⟩:=Y4 (P:=Tryz.prog) (t:=5) (z:=.int .u8 0) (n:=1) (b:=1) Qxx
 obtain ⟨HJ,eM,eN,eO⟩:=Qxo j1 j2 j3 j4
 clear ht hv hv0 hK j1 j2 j3 j4
 obtain ⟨J,bB⟩:=eX ((rows.map fun r=>kb (K r)))
 rw [bB]
 have bV:J.length=rows.length:=by rw [<- bB,Z7]
 obtain ⟨n,hn⟩:=eX (rows.length)
 rw [hn] at HV hl bV |-
 obtain ⟨HN,eP,cL⟩:=Qxn hn bB bV
 clear hn bB bV
 go_enter Tryz.func66,Tryz.ntmps66
 go_wp2_with fail
 generalize aM:((w.alloc (.cells (Qxg t bS bR bZ bY cB cA k0 s1 n0 s2 p1 n1 c1 p2 n2 c2 p3 n3 c3 a0 z0) 61)).alloc (.cells zF 69)).alloc (.map #[] 0)=W1
 have cT:UMid w W1 J 0 W1:=by
  refine ⟨by rw [<- aM];exact U8 _ _ _ _,fun _ _=>rfl,.map [],?_,invD_nil⟩
  rw [<- aM]
  have e:((w.alloc (.cells (Qxg t bS bR bZ bY cB cA k0 s1 n0 s2 p1 n1 c1 p2 n2 c2 p3 n3 c3 a0 z0) 61)).alloc (.cells zF 69)).heap.size=w.heap.size+2:=Qxz
  rw [<- e]
  exact World.ownsMap_made _ _ _ _
 have dA:W1.heap[w.heap.size]?=some (.cells (Qxg t bS bR bZ bY cB cA k0 s1 n0 s2 p1 n1 c1 p2 n2 c2 p3 n3 c3 a0 z0) 61 (0,0)):=by rw [<- aM,Below.heap_alloc _ _ _ (by simp;omega)];exact Q5 _ _ _
 have cY:W1.heap[w.heap.size+1]?=some (.cells zF 69 (0,0)):=by rw [<- aM,Below.heap_alloc _ _ _ Qxz];exact Q6 _ _ _
 obtain ⟨eQ,fA,eV⟩:=Qxn cT dA cY
 clear cT dA cY aM
 go_loopw [6,7,21] (fun fB gC i wr=>∃ (k:Nat) (st:Nat × Nat),k<=n/\i=.int .i64 k/\Aside (ust n J k=st)/\fB=.int .i64 (st.1:Nat)/\gC=.int .i64 (st.2:Nat)/\UMid w W1 J k wr) (fun _ _ i _=>n - (intOf i).toNat)
 case atStart=>exact ⟨0,(n,0),Q8 _,rfl,rfl,rfl,rfl,eQ.out⟩
 obtain ⟨k,st,hk,rfl,dN,rfl,rfl,hM⟩:=hrel
 have HM:=Qq hM;have aZ:=Qq dN.out
 have hX:=(hM.keep _ Qvu).trans fA.out
 have hR:=(hM.keep _ Qvu).trans eV.out
 have dP:w.heap.size+2<wr.heap.size:=by
  obtain ⟨D,hD,_⟩:=hM.map
  exact M7 hD
 clear dN
 have gY:w.heap.size<wr.heap.size:=Qvu
 have hA:w.heap.size≠wr.heap.size:=Qvu
 by_cases hlt:k<n
 ·have fO:(0:Int)<=(k:Int):=Qvu
  have fP:(k:Int)<(n:Int):=Qvu
  obtain ⟨row,aE⟩:∃ row,rows[k]?=some row:=⟨_,Qx (by rw [HN.out];exact hlt)⟩
  obtain ⟨hC,gS,O,M,T,N,rfl,gX,dS,d0,d1,d2,d3,d4⟩:=(HV.out.below hM.below).val aE
  obtain ⟨y0,y1,y2,y3,y4,y5,y6,y7,y8,y9,gI,gJ,gK⟩:=row13 hX
  have aD:=Qy aE
  have aL:=bC.out row (vcs row O M T N) aD (wr.alloc (.cells (Qxf row O M T N) 48)) (hM.below.thn (Ze _ _)) (dS.move (.of_below (Ze _ _)) Qyv)
  have V:=Qq aL
  have Z:=cK.out.bd row aD
  have bW:=cK.out.len row aD
  have bG:J[k]?=some (kb (K row)):=by rw [<- eP.out,List.getElem?_map,aE];rfl
  have cH:=Qq Z;have aJ:=Qq bG
  clear aE dS aD aL Z bG hM hX hR
  obtain ⟨L,hL⟩:=eX (K row)
  rw [hL] at V cH aJ bW
  clear hL
  go_wp2_with fail
  unfold vcs at V
  refine V.out.mono ?_
  rintro e w5 ⟨kp,kn,gP,rfl,bH,aQ,dF⟩
  rw [Option.getD_some,Z7] at bH
  subst bH
  rw [Option.getD_some] at aQ
  have aN:Below wr wr w5:=(Ze _ _).thn dF
  have cO:=Qq (aQ.mono (S':=fun _=>True) (fun _ _ _=>trivial));have aH:=Qq aN
  have gM:=aN.size
  clear aQ dF aN y0 y1 y2 y3 y4 y5 y6 y7 y8 y9 gI gJ gK d0 d1 d2 d3 d4
  go_wp2_with fail
  go_loopw [11,31] (fun b j wv=>∃ (q:Nat) (A:Bs) (p:Option Addr) (cap:Nat),q<=L.length/\j=.int .i64 q/\b=.slice p A.length cap/\Aside (A=kb (L.take q))/\Below w5 w5 wv/\A.length<=20*q /\
   ∃ css,Own Zt 5 (fun _=>True) w5 wv (.slice p A.length cap) A css) (fun _ j _=>L.length - (intOf j).toNat)
  case atStart=>exact ⟨0,[],none,0,Q8 _,rfl,rfl,rfl,Qz _ _,Qxz,[],Own.nil _ _ _ _ _⟩
  obtain ⟨q,A,p,cap,hq,rfl,rfl,hE,bT,gT,css,hO⟩:=hrel
  obtain ⟨aI,HO,HE⟩:=Qxn bT hO hE.out
  have gO:=bT.size
  clear bT hO hE
  by_cases hql:q<L.length
  ·have fQ:(0:Int)<=(q:Int):=Qvu
   have fR:(q:Int)<(L.length:Int):=Qvu
   obtain ⟨x,hx⟩:∃ x,L[q]?=some x:=⟨_,Qx hql⟩
   have dW:(L.map Vr)[q]?=some (Vr x):=by rw [List.getElem?_map,hx];rfl
   have dO:=(cO.out.below aI.out).val dW
   simp only [Vr,Val.kind,Val.n,Val.s,Val.names,Val.kids,List.length_nil] at dO
   obtain ⟨ub,gQ,q3,l3,q4,l4,rfl,gW,bX,e0,e1,e2,e3,e4⟩:=dO
   simp only [vcs,Val.kind,Val.n,Val.s,Val.names,Val.kids,List.length_nil] at bX
   have HX:=Qq hx
   have aO:=cH.out x (Qy hx)
   have cS:=cI.out x _ (wr.alloc (.cells #[Qxc,x,Qxd,.slice q3 0 l3,.slice q4 0 l4] 48)) aO.1 aO.2 (Za.move bX (.of_below (Ze _ _)) Qyv)
   have eK:=Qq cS
   have gU:=Rv aO.1 aO.2
   have dM:De x≠[]:=by
    unfold De
    intro e
    have:=congrArg List.length e
    rw [Ql] at this
    have h2:vb (zz 0)=[0]:=by rw [show zz 0=0 from rfl,Kg Qvu];rfl
    rw [h2] at this
    simp at this
   have eR:=Qq dM
   clear hx dW bX aO cS dM
   go_wp2_with fail
   refine eK.out.mono ?_
   rintro e w6 ⟨ep,aK,fE,rfl,bA,dG⟩
   have aA:Below wr wr w6:=(Ze _ _).thn dG
   have cW:Own Zt 5 (fun _=>True) w5 w6 (.slice p A.length cap) A css:=HO.out.below aA
   have hY:Sl Zt (But (fun _=>True) (.slice p A.length cap)) w6 (.slice ep (De x).length aK) (De x):=by
    have cU:Own Zt 5 (fun _=>False) _ w6 (.slice ep (De x).length aK) (De x) fE:=⟨bA.row,⟨bA.cs.len,fun i c y hc hy=>bA.cs.R i c y hc hy⟩⟩
    refine cU.sl Qvu (fun b hb=>⟨trivial,fun e=>?_⟩) (fun b hb h=>h.elim)
    have h1:=(HO.out.row.lt b e.symm).2
    have h2:wr.heap.size+1<=b:=by simpa using hb
    omega
   obtain ⟨eJ,cN,HY⟩:=Qxn aA cW hY
   have gN:=aA.size
   clear bA dG aA cW hY e0 e1 e2 e3 e4
   go_wp2_with (at_builtin;refine Dv (r:=Zt) Qxv rfl (.tmp 35) (.tmp 37) _ rfl 5 i5 (.int .u8 0) 1 Tryz.underlying23 HJ.out eM.out eN.out eO.out rfl Qvu (fun _=>True) w5 w6 (.slice p A.length cap) A css (De x) ep (De x).length aK rfl cN.out rfl HY.out rfl eR.out Bz Qvu Qvu ?_;intro p7 cP cQ w7 cV dH dC;have eT:=Qq cV;have eL:=Qq dH;clear cV dH dC)
   go_roundw
   case measure=>simp [intOf];omega
   case rel=>
    refine ⟨q+1,A++De x,p7,cP,Qvu,by go_num,by rw [Ql],(show Aside _ from ?_),(aI.out.thn eJ.out).grown eL.out Qvu (fun g hg=>(cN.out.row.lt g hg).1),by rw [Ql];omega,cQ,by rw [Ql];exact eT.out⟩
    have:A++De x=kb (L.take (q+1)):=by
     obtain ⟨fU,rfl⟩:=Qj HX.out
     rw [HE.out,Zz fU]
     unfold kb
     rw [List.map_append,List.flatten_append]
     simp only [List.map_cons,List.map_nil,List.flatten_cons,List.flatten_nil,List.append_nil]
    exact this
  have fV:q=L.length:=Qvu
  subst fV
  have bU:A=kb L:=by rw [HE.out,Zj (Q9 _)]
  have fM:=Mj HO.out
  obtain ⟨D,hD,hI⟩:=HM.out.map
  have cR:wr.ownsMap Tryz.prog 9 (plainElem Tryz.prog 3) (w+2) k D:=Oc hD (by rw [aI.out.block _ Qvu,aH.out.block _ dP])
  have dK:Go.keyOf Tryz.prog 9 (.string ⟨A.toArray⟩)=some (.string A):=keyOf_string_mk Tryz.underlying9 (by rw [Xn];unfold maxLen;omega)
  have Zb:∀ b,b<w.heap.size+2->wr.heap[b]?=W1.heap[b]?:=fun b hb=>by
   rw [aI.out.block _ Qvu,aH.out.block _ Qvu]
   exact HM.out.keep b hb
  have aB:Below w w wr:=HM.out.below.thn (aH.out.thn aI.out)
  have dL:(J.take k).length=k:=by rw [Qm,cL.out];omega
  have dQ:J.take (k+1)=J.take k++[A]:=by
   obtain ⟨fS,e⟩:=Qj aJ.out
   rw [Zz fS,e,bU]
  have dR:ust n J (k+1)=Km (J.take k) st A:=by
   show Km (J.take k) (ust n J k) (J.getD k [])=_
   rw [aZ.out,Qs,aJ.out,Option.getD_some,bU]
  obtain ⟨HD,HI,aY,U,I,bM,bO,bQ⟩:=Qxt cR hI dK Zb aB dL dQ dR
  have dV:(Lit.int .i64 (k:Int)).wf=true:=WalkArith.wf_i64 Qvu
  have eZ:=Qq dV
  clear bU hD hI cR dK Zb aB dL dQ dR dV
  cases hf:X9 (J.take k) A with
  | none=>
   have dI:Maps.has D (.string A)=false:=by rw [(HI.out.2 A).1,hf];rfl
   have HF:=Qq hf
   clear hf
   go_wp2_with (first | (at_lookup;refine wpList_lookup_own_ok_int _ rfl (.tmp 41) (.tmp 43) _ rfl 9 3 .i64 law9 Tryz.underlying175 Tryz.underlying3 (zero3 _) (w+2) k D rfl HD.out (.string ⟨A.toArray⟩) (.string A) rfl aY.out ?_;intro c Y aS;clear Y aS) | (at_mapUpdate;refine wpList_mapUpdate_own _ rfl (.tmp 49) (.tmp 51) (.tmp 52) _ rfl 9 3 law9 Tryz.underlying175 _ (w+2) k D rfl HD.out (by unfold maxLen;omega) (.string ⟨A.toArray⟩) (.int .i64 k) (.string A) rfl rfl aY.out _ [] (plainElem_int Tryz.underlying3 eZ.out) ?_;intro w8 aP aC;have eU:=Qq aP;have cJ:=Qq aC;clear aP aC))
   go_roundw
   case measure=>simp [intOf];omega
   case rel=>
    have gL:=M7 HD.out
    refine ⟨k+1,st,Qvu,by go_num,(show Aside _ from ?_),rfl,rfl,⟨I.out.grown cJ.out I.out.size (fun g hg=>by have:=Qb hg;omega),fun b hb=>?_,_,eU.out,?_⟩⟩
    ·have:ust n J (k+1)=st:=by rw [bQ.out];unfold Km;rw [HF.out]
     exact this
    ·rw [cJ.out.block b Qvu (fun e=>by have:=Qb e;omega)];exact U.out b hb
    rw [bO.out]
    have:=invD_new HI.out HF.out
    rwa [bM.out] at this
  | some a=>
   have dI:Maps.has D (.string A)=true:=by rw [(HI.out.2 A).1,hf];rfl
   have cG:=Qq ((HI.out.2 A).2 a hf)
   have fL:=M4 hf
   rw [bM.out] at fL
   have HF:=Qq hf
   clear hf
   by_cases hab:a<st.1
   ·have dB:(a:Int)<(st.1:Int):=Qvu
    go_wp2_with (at_lookup;refine wpList_lookup_own_ok_int _ rfl (.tmp 41) (.tmp 43) _ rfl 9 3 .i64 law9 Tryz.underlying175 Tryz.underlying3 (zero3 _) (w+2) k D rfl HD.out (.string ⟨A.toArray⟩) (.string A) rfl aY.out ?_;intro c Y aS;obtain rfl:c=(a:Int):=(by have h1:=Y.symm.trans cG.out;simpa using h1);clear Y aS)
    go_roundw
    case measure=>simp [intOf];omega
    case rel=>
     refine ⟨k+1,(a,k),Qvu,by go_num,(show Aside _ from ?_),rfl,rfl,⟨I.out,U.out,D,?_,?_⟩⟩
     ·have:ust n J (k+1)=(a,k):=by rw [bQ.out];unfold Km;rw [HF.out];simp only [if_pos hab,bM.out]
      exact this
     ·obtain ⟨es,cl,h1,h2,h3,h4⟩:=HD.out
      exact ⟨es,cl,h1,h2,Qvu,h4⟩
     rw [bO.out];exact Rj HI.out HF.out
   have dB:¬ ((a:Int)<(st.1:Int)):=Qvu
   go_wp2_with (at_lookup;refine wpList_lookup_own_ok_int _ rfl (.tmp 41) (.tmp 43) _ rfl 9 3 .i64 law9 Tryz.underlying175 Tryz.underlying3 (zero3 _) (w+2) k D rfl HD.out (.string ⟨A.toArray⟩) (.string A) rfl aY.out ?_;intro c Y aS;obtain rfl:c=(a:Int):=(by have h1:=Y.symm.trans cG.out;simpa using h1);clear Y aS)
   go_roundw
   case measure=>simp [intOf];omega
   case rel=>
    refine ⟨k+1,st,Qvu,by go_num,(show Aside _ from ?_),rfl,rfl,⟨I.out,U.out,D,?_,?_⟩⟩
    ·have:ust n J (k+1)=st:=by rw [bQ.out];unfold Km;rw [HF.out];simp only [if_neg hab]
     exact this
    ·obtain ⟨es,cl,h1,h2,h3,h4⟩:=HD.out
     exact ⟨es,cl,h1,h2,Qvu,h4⟩
    rw [bO.out];exact Rj HI.out HF.out
 have dJ:k=n:=Qvu
 subst dJ
 have fz:=fun j=>Qn _ _ j _ _ hR
 have rr:=fun j=>Qk _ _ j _ _ _ hR
 have r0:=rr 0;have f0:=fz 0;have r1:=rr 1;have f1:=fz 1;have r2:=rr 2;have f2:=fz 2;have r3:=rr 3;have f3:=fz 3;have r4:=rr 4;have f4:=fz 4;have r5:=rr 5;have f5:=fz 5;have r6:=rr 6;have f6:=fz 6;have r7:=rr 7;have f7:=fz 7;have r8:=rr 8;have f8:=fz 8;have r9:=rr 9;have f9:=fz 9;have eA:=rr 10;have fH:=fz 10;have eB:=rr 11;have fI:=fz 11
 simp only [Qf,Qg,Qh] at r0 r1 r2 r3 r4 r5 r6 r7 r8 r9 eA eB
 have HR:=Qq hR
 have Z:=ust_bd k J k (by rw [cL.out];exact Q9 _)
 rw [aZ.out] at Z
 clear fz rr hR hX hM
 by_cases hz:st.1=k
 ·have hq:((st.1:Int)==(k:Int))=true:=by rw [hz];simp
  have aR:Kj rows (ust k J k)=Ft.zero:=by rw [aZ.out];unfold Kj;rw [if_pos (by rw [HN.out];exact hz)]
  have bP:=Qq aR
  clear aR Z
  have HZ:=Qq hz
  clear hz
  go_wp2_with fail
  show bodyPost _ _ _ _ _ (Y9 wr _ _ _ _ _ _ _ _ _ _ _ _ _)
  refine Q7 (v:=.agg zF) (by simp [results,Tryz.results66,go_sem,Ya HR.out]) rfl ⟨[Qxc,Qxd,Qxc,Qxc,Qxd,Qxe,Qxe,Qxc,Qxc,Qxd,Qxe,Qxe],rfl,by rw [bP.out];exact Ks _ _,Yv HM.out.below Qvu⟩
 obtain ⟨dD,dE⟩:=Z.resolve_left hz
 have hq:((st.1:Int)==(k:Int))=false:=by rw [<- Qt,beq_iff_eq];omega
 obtain ⟨x,hx⟩:∃ x,rows[st.1]?=some x:=⟨_,Qx (by rw [HN.out];exact dD)⟩
 obtain ⟨y,hy⟩:∃ y,rows[st.2]?=some y:=⟨_,Qx (by rw [HN.out];exact dE)⟩
 have aR:Kj rows (ust k J k)=⟨11,[],x,y⟩:=by
  rw [aZ.out]
  unfold Kj
  rw [if_neg (by rw [HN.out];exact hz),Qs,Qs,hx,hy];rfl
 have bP:=Qq aR
 obtain ⟨xb,eD,O,M,T,N,rfl,gZ,dT,d0,d1,d2,d3,d4⟩:=(HV.out.below HM.out.below).val hx
 obtain ⟨yb,eE,aV,aT,aW,aU,he,hB,dU,e0,e1,e2,e3,e4⟩:=(HV.out.below HM.out.below).val hy
 obtain ⟨rfl,rfl,-⟩:xb=yb/\eD=eE/\True:=by simpa using he
 have fO:(0:Int)<=(st.1:Int):=Qvu
 have fP:(st.1:Int)<(k:Int):=Qvu
 have fQ:(0:Int)<=(st.2:Int):=Qvu
 have fR:(st.2:Int)<(k:Int):=Qvu
 have eW:=Qq dT;have eY:=Qq dU
 clear aR Z hz hx hy he dT dU dD dE
 go_wp2_with fail
 go_region
 go_wp2_with fail
 obtain ⟨W,hW⟩:=eX (Y9 wr (w+1) (.int .i64 11) Qxd x.kind x.n x.s (.slice O x.names.length M) (.slice T x.kids.length N) y.kind y.n y.s (.slice aV y.names.length aT) (.slice aW y.kids.length aU))
 have q:∀ j,W.cell? ⟨w+1,j,none⟩=#[.int .i64 11,.string ⟨#[]⟩,.int .i64 x.kind,.int .i64 x.n,.string ⟨x.s.toArray⟩,.slice O x.names.length M,.slice T x.kids.length N,.int .i64 y.kind,.int .i64 y.n,.string ⟨y.s.toArray⟩,.slice aV y.names.length aT,.slice aW y.kids.length aU][j]?:=fun j=>by rw [<- hW];exact Ya HR.out j
 have bI:∀ b,b<w.heap.size->W.heap[b]?=wr.heap[b]?:=fun b hb=>by rw [<- hW];exact Xz Qvu
 have bF:Below w w W:=by rw [<- hW];exact Yv HM.out.below Qvu
 show bodyPost _ _ _ _ _ (World.drew (Y9 wr (w+1) (.int .i64 11) Qxd x.kind x.n x.s (.slice O x.names.length M) (.slice T x.kids.length N) y.kind y.n y.s (.slice aV y.names.length aT) (.slice aW y.kids.length aU)))
 rw [hW]
 have bD:=Qq bI;have I:=Qq bF
 obtain ⟨q0,q1,q2,q3,q4,q5,q6,q7,q8,q9,dY,dZ⟩:=Qyq q
 simp only [Qf,Qg,Qh] at q0 q1 q2 q3 q4 q5 q6 q7 q8 q9 dY dZ
 clear hW bI bF q r0 r1 r2 r3 r4 r5 r6 r7 r8 r9 eA eB f0 f1 f2 f3 f4 f5 f6 f7 f8 f9 fH fI
 refine Q7 (v:=.agg (Qxi (.int .i64 11) Qxd x O M T N y aV aT aW aU)) (by simp [results,Tryz.results66,go_sem,q0,q1,q2,q3,q4,q5,q6,q7,q8,q9,dY,dZ]) rfl ⟨_,rfl,?_,I.out.drew⟩
 rw [bP.out]
 refine ⟨vcs x O M T N,vcs y aV aT aW aU,rfl,Qxz,?_,?_⟩
 ·exact Za.move (S':=S') eW.out (fun b hb _=>bD.out b hb.2) (fun _ _ h=>h.1)
 exact Za.move (S':=S') eY.out (fun b hb _=>bD.out b hb.2) (fun _ _ h=>h.1)
open Go.RowKit Go.Shelf Go.Lib Tryz
def He:List Bs:=[[61,61],[33,61],[60],[60,61],[43],[45],[42],[43,43],[97,110,100],[111,114],[110,111,116]]
structure Mv (k:Int) (nm:Bs) (names binds:List Bs) (n:Nat):Prop where
 few:n<=1000
 fewn:names.length<=1000
 words:k=6->(∀ x ∈ names,V8 x)/\names.Nodup
 one:k=7->names.length=1/\n=2
 fld:k=8->1<=n
 two:k=11->n=2
 three:k=12->n=3
 mtch:k=13->n=names.length+1/\binds.length=names.length
 op:k=14->nm ∈ He/\n=if nm=[110,111,116] then 1 else 2
inductive WfE:Nat->Ex->Prop
 | mk (d:Nat) (k:Int) (nm:Bs) (n:Int) (s:Bs) (names binds:List Bs) (kids:List Ex) (a z:Int) (hn:Mv k nm names binds kids.length) (hk:∀ x ∈ kids,WfE d x):WfE (d+1) (.mk k nm n s names binds kids a z)
theorem Qvs (k:Int) (nm:Bs) (hk:k<=5\/k=9):Mv k nm [] [] 0:=⟨Qvu,Qxz,fun h=>Qvu,fun h=>Qvu,fun h=>Qvu,fun h=>Qvu,fun h=>Qvu,fun h=>Qvu,fun h=>Qvu⟩
theorem Gl (d:Nat) (k:Int) (nm:Bs) (n:Int) (s:Bs) (hk:k<=5\/k=9):WfE (d+1) (.mk k nm n s [] [] [] 0 0):=.mk _ _ _ _ _ _ _ _ _ _ (Qvs k nm hk) (fun x h=>by simp at h)
theorem wf_2 {d:Nat} {a b:Ex} (ha:WfE d a) (hb:WfE d b):∀ x ∈ [a,b],WfE d x:=by
 intro x hx
 simp only [Z3,Z2,or_false] at hx
 rcases hx with rfl | rfl
 ·exact ha
 exact hb
theorem wf_1 {d:Nat} {a:Ex} (ha:WfE d a):∀ x ∈ [a],WfE d x:=by
 intro x hx
 simp only [Z3,Z2,or_false] at hx
 subst hx;exact ha
theorem wf_3 {d:Nat} {a b c:Ex} (ha:WfE d a) (hb:WfE d b) (hc:WfE d c):∀ x ∈ [a,b,c],WfE d x:=by
 intro x hx
 simp only [Z3,Z2,or_false] at hx
 rcases hx with rfl | rfl | rfl
 ·exact ha
 ·exact hb
 exact hc
theorem Vb {d:Nat} {o:Bs} {a b:Ex} (ho:o ∈ He/\o≠[110,111,116]) (ha:WfE d a) (hb:WfE d b):WfE (d+1) (Gen.op o [a,b]):=
 .mk _ _ _ _ _ _ _ _ _ _ ⟨Qxz,Qxz,fun h=>Qvu,fun h=>Qvu,fun h=>Qvu,fun h=>Qvu,fun h=>Qvu,fun h=>Qvu,fun _=>⟨ho.1,by rw [if_neg ho.2];rfl⟩⟩ (wf_2 ha hb)
theorem wf_not {d:Nat} {a:Ex} (ha:WfE d a):WfE (d+1) (Gen.op [110,111,116] [a]):=
 .mk _ _ _ _ _ _ _ _ _ _ ⟨Qxz,Qxz,fun h=>Qvu,fun h=>Qvu,fun h=>Qvu,fun h=>Qvu,fun h=>Qvu,fun h=>Qvu,fun _=>⟨by simp [He],Qxz⟩⟩ (wf_1 ha)
theorem Xx (d:Nat) (x:Bs):WfE (d+1) (Gen.var x):=Gl _ _ _ _ _ Qvu
theorem Hr (d:Nat) (n:Int):WfE (d+1) (Gen.int n):=Gl _ _ _ _ _ Qvu
theorem B3 (d:Nat) (n:Int):WfE (d+1) (Gen.bool n):=Gl _ _ _ _ _ Qvu
theorem wf_str (d:Nat) (x:Bs):WfE (d+1) (Gen.str x):=Gl _ _ _ _ _ Qvu
theorem word_x:∀ x ∈ ([[121],[120]]:List Bs),V8 x:=by
 intro x hx
 simp only [Z3,Z2,or_false] at hx
 rcases hx with rfl | rfl
 all_goals exact ⟨Qxv,Qxv,Qxv,Qxv,Qxv⟩
theorem wf_rec (d:Nat):WfE (d+2) Gen.rec:=
 .mk _ _ _ _ _ _ _ _ _ _ ⟨Qxz,Qxz,fun _=>⟨word_x,Qxv⟩,fun h=>Qvu,fun h=>Qvu,fun h=>Qvu,fun h=>Qvu,fun h=>Qvu,fun h=>Qvu⟩ (wf_2 (Xx _ _) (Xx _ _))
theorem wf_wth (d:Nat):WfE (d+3) Gen.wth:=
 .mk _ _ _ _ _ _ _ _ _ _ ⟨Qxz,Qxz,fun h=>Qvu,fun _=>⟨rfl,rfl⟩,fun h=>Qvu,fun h=>Qvu,fun h=>Qvu,fun h=>Qvu,fun h=>Qvu⟩ (wf_2 (wf_rec _) (Hr _ _))
theorem wf_fld {d:Nat} (x:Bs) {a:Ex} (ha:WfE d a):WfE (d+1) (.mk 8 x 0 [] [] [] [a] 0 0):=
 .mk _ _ _ _ _ _ _ _ _ _ ⟨Qxz,Qxz,fun h=>Qvu,fun h=>Qvu,fun _=>Qxz,fun h=>Qvu,fun h=>Qvu,fun h=>Qvu,fun h=>Qvu⟩ (wf_1 ha)
theorem Qjk {d:Nat} {a b:Ex} (ha:WfE d a) (hb:WfE d b):WfE (d+1) (.mk 9 [] 0 [] [] [] [a,b] 0 0):=
 .mk _ _ _ _ _ _ _ _ _ _ ⟨Qxz,Qxz,fun h=>Qvu,fun h=>Qvu,fun h=>Qvu,fun h=>Qvu,fun h=>Qvu,fun h=>Qvu,fun h=>Qvu⟩ (wf_2 ha hb)
theorem wf_check:∀ k:Nat,WfE 8 (Gen.check k)
 | 0=>B3 _ _
 | 1=>B3 _ _
 | 2=>B3 _ _
 | 3=>Vb Qxv (Xx _ _) (Vb Qxv (Xx _ _) (Vb Qxv (Hr _ _) (Hr _ _)))
 | 4=>Vb Qxv (Xx _ _) (Vb Qxv (Xx _ _) (wf_str _ _))
 | 5=>.mk _ _ _ _ _ _ _ _ _ _ ⟨Qxz,Qxz,fun h=>Qvu,fun h=>Qvu,fun h=>Qvu,fun h=>Qvu,fun _=>rfl,fun h=>Qvu,fun h=>Qvu⟩ (wf_3 (Xx _ _) (Vb Qxv (Xx _ _) (Xx _ _)) (Vb Qxv (Xx _ _) (Xx _ _)))
 | 6=>.mk _ _ _ _ _ _ _ _ _ _ ⟨Qxz,Qxz,fun h=>Qvu,fun h=>Qvu,fun h=>Qvu,fun h=>Qvu,fun h=>Qvu,fun _=>⟨rfl,rfl⟩,fun h=>Qvu⟩ (wf_3 (Xx _ _) (B3 _ _) (Vb Qxv (Xx _ _) (Xx _ _)))
 | 7=>Vb Qxv (wf_fld _ (wf_wth _)) (wf_fld _ (wf_rec _))
 | 8=>.mk _ _ _ _ _ _ _ _ _ _ ⟨Qxz,Qxz,fun h=>Qvu,fun h=>Qvu,fun h=>Qvu,fun _=>rfl,fun h=>Qvu,fun h=>Qvu,fun h=>Qvu⟩ (wf_2 (Vb Qxv (Xx _ _) (Xx _ _)) (Vb Qxv (Vb Qxv (Xx _ _) (Hr _ _)) (wf_not (Xx _ _))))
 | 9=>Vb Qxv (Vb Qxv (Xx _ _) (Xx _ _)) (wf_str _ _)
 | 10=>Vb Qxv (Xx _ _) (Vb Qxv (Xx _ _) (Xx _ _))
 | 11=>Vb Qxv (Qjk (Xx _ _) (Xx _ _)) (Qjk (Hr _ _) (Xx _ _))
 | (k+12)=>.mk _ _ _ _ _ _ _ _ _ _ ⟨Qxz,Qxz,fun h=>Qvu,fun h=>Qvu,fun h=>Qvu,fun h=>Qvu,fun h=>Qvu,fun h=>Qvu,fun h=>Qvu⟩ (wf_1 (Gl _ _ _ _ _ Qvu))
theorem wf_yes (d:Nat):WfE (d+1) Gen.yes:=B3 _ _
theorem Qjh {l:List Tbl} {x:Bs} {k:Nat} {t:Tbl} (ht:l[k]?=some t) (he:t.name=x) (hne:∀ (j:Nat) (y:Tbl),j<k->l[j]?=some y->decide (y.name=x)=false):Yy l x=some t:=by
 obtain ⟨hk,rfl⟩:=Qj ht
 unfold Yy
 rw [List.find?_eq_some_iff_getElem]
 exact ⟨by simpa using he,k,hk,rfl,fun j hj=>by simpa using hne j _ hj (Qx Qvu)⟩
theorem Ax {l:List Tbl} {x:Bs} (hne:∀ (j:Nat) (y:Tbl),l[j]?=some y->decide (y.name=x)=false):Yy l x=none:=by
 unfold Yy
 rw [List.find?_eq_none]
 intro y hy
 obtain ⟨j,hj⟩:=Zk hy
 simpa using hne j y hj
def TabIs (S:Nat->Prop) (w:World) (o:Option Tbl) (e:Ending) (w':World):Prop:=∃ cs',e=.returned (.tuple #[.agg cs'.toArray,.bool o.isSome])/\Zl.R S w' cs' (o.getD Tbl.zero)/\Below w w w'
theorem Mf (S:Nat->Prop) (s:Sc) (cs:List Value) (x0:Bs) (w:World) (hs:Vj S w cs s):
  Calls prog 80 #[cs,sv x0] w (TabIs S w (Yy s.tables x0)):=by
 obtain ⟨uv,tv,rfl,hu,bA⟩:=hs
 have ht:=bA.up
 obtain ⟨up,uc,rfl,_⟩:=hu.len
 obtain ⟨tp,tc,rfl,bT⟩:=ht.len
 have HT:=Qq ht
 clear hu ht bA
 obtain ⟨n,hn⟩:=eX (s.tables.length)
 rw [hn] at HT bT |-
 have HN:=Qq hn
 clear hn
 obtain ⟨r,hr⟩:=eX (Yy s.tables x0)
 rw [hr]
 have HR:=Qq hr
 clear hr
 unfold sv
 go_enter func80,ntmps80
 go_wp2_with fail
 generalize aD:(w.alloc _).alloc _=W1
 have aY:=eqB aD (Zu _ _ _)
 have aX:=eqH (b:=w.heap.size) aD (Q5 _ _ _)
 have aC:=eqH (b:=w.heap.size+1) aD (Q6 _ _ _)
 have aR:=Qq aY;have aV:=Qq aC
 obtain ⟨c0,c1⟩:=row2 aX
 obtain ⟨r0,r1,r2,r3,r4,r5,r6,r7,r8,r9,cG,cH,cI⟩:=row13 aC
 obtain ⟨f0,f1,f2,f3,f4,f5,f6,f7,f8,f9,bZ,cA,cB⟩:=frz13 aC
 clear aD aY aX aC
 go_loop [6] (fun i=>∃ k:Nat,k<=n/\i=.int .i64 k/\Aside (∀ (j:Nat) (y:Tbl),j<k->s.tables[j]?=some y->decide (y.name=x0)=false)) (fun i=>n - (intOf i).toNat)
 case atStart=>exact ⟨0,Q8 _,rfl,fun j _ hj=>absurd hj (Z6 _)⟩
 obtain ⟨k,hk,rfl,A⟩:=hrel
 by_cases hlt:k<n
 ·have cE:(0:Int)<=(k:Int):=Qvu
  have cF:(k:Int)<(n:Int):=Qvu
  obtain ⟨y,hy⟩:∃ y,s.tables[k]?=some y:=⟨_,Qx (by rw [HN.out];exact hlt)⟩
  obtain ⟨b,off,ct,rfl,cD,cC,_,hR,J⟩:=(HT.out.below aR.out).elem hy
  have aW:=hR
  obtain ⟨aB,aA,aF,aE,aN,aM,k9,aO,n9,aP,aJ,aG,V,aK,aH,Y,aL,aI,Z,a9,z9,aZ,_⟩:=Yj hR
  simp only [tcs] at aZ
  subst aZ
  have d0:=J 0 _ rfl
  have d1:=J 1 _ rfl
  have d2:=J 2 _ rfl
  have d3:=J 3 _ rfl
  have d4:=J 4 _ rfl
  have d5:=J 5 _ rfl
  have d6:=J 6 _ rfl
  have d7:=J 7 _ rfl
  have d8:=J 8 _ rfl
  have d9:=J 9 _ rfl
  have bP:=J 10 _ rfl
  have bQ:=J 11 _ rfl
  have bR:=J 12 _ rfl
  simp only [show Zl.k=13 from rfl,Nat.add_zero] at d0 d1 d2 d3 d4 d5 d6 d7 d8 d9 bP bQ bR
  have bO:=Qq aW;have HY:=Qq hy
  clear hR aW J hy
  by_cases he:y.name=x0
  ·have hq:(y.name==x0)=true:=by rw [he];simp
   have aS:r=some y:=by rw [<- HR.out];exact Qjh HY.out he A.out
   subst aS
   clear he A
   go_wp2_with fail
   obtain ⟨W,N⟩:=eX (Vn W1 (w+1) y.name (.slice aB y.columns.length aA) (.slice aF y.key.length aE) (.slice aN y.refs.length aM) k9 (.string aO) n9 (.string aP) (.slice aJ aG V) (.slice aK aH Y) (.slice aL aI Z) a9 z9)
   have q:∀ j,W.cell? ⟨w+1,j,none⟩=#[.string ⟨y.name.toArray⟩,.slice aB y.columns.length aA,.slice aF y.key.length aE,.slice aN y.refs.length aM,.int .i64 k9,.string aO,.int .i64 n9,.string aP,.slice aJ aG V,.slice aK aH Y,.slice aL aI Z,.int .i64 a9,.int .i64 z9][j]?:=fun j=>by rw [<- N];exact Uo aV.out j
   have I:∀ b,b≠w.heap.size+1->W.heap[b]?=W1.heap[b]?:=fun b hb=>by rw [<- N];exact J0 hb
   have D:Below w w W:=by rw [<- N];exact Xo aR.out Qvu
   show bodyPost _ _ _ _ _ (Vn W1 (w+1) y.name (.slice aB y.columns.length aA) (.slice aF y.key.length aE) (.slice aN y.refs.length aM) k9 (.string aO) n9 (.string aP) (.slice aJ aG V) (.slice aK aH Y) (.slice aL aI Z) a9 z9)
   rw [N]
   have M:=Qq D;have aQ:=Qq I
   obtain ⟨q0,q1,q2,q3,q4,q5,q6,q7,q8,q9,O,T,U⟩:=Qyz q
   simp only [Qf,Qg,Qh] at q0 q1 q2 q3 q4 q5 q6 q7 q8 q9 O T U
   clear N D I q
   refine Q7 (v:=.tuple #[.agg (Qxg y aB aA aF aE aN aM k9 aO n9 aP aJ aG V aK aH Y aL aI Z a9 z9),.bool true]) (by simp [results,results80,go_sem,q0,q1,q2,q3,q4,q5,q6,q7,q8,q9,O,T,U]) rfl ⟨_,rfl,Zl.mono (Zl.frame bO.out (fun b hb _=>aQ.out b (by have:=hb.2;omega))) (fun b _ h=>h.1),M.out⟩
  have hq:(y.name==x0)=false:=by rw [<- Qt,beq_iff_eq];exact he
  have HE:=Qq he
  clear he
  go_wp2_with fail
  go_round
  case measure=>simp [intOf];omega
  case rel=>
   refine ⟨k+1,Qvu,by go_num,(show Aside _ from fun j z hj hz=>?_)⟩
   by_cases e:j=k
   ·subst e
    have:=HY.out
    rw [this] at hz
    cases hz
    simpa using HE.out
   exact A.out j z Qvu hz
 have bY:¬ (k:Int)<(n:Int):=Qvu
 have:k=n:=Qvu
 subst this
 have aS:r=none:=by rw [<- HR.out];exact Ax (fun j y hy=>A.out j y (by have:=(Qj hy).1;have:=HN.out;omega) hy)
 subst aS
 clear A
 go_wp2_with fail
 obtain ⟨W,N⟩:=eX (Vn W1 (w+1) Qxd Qxe Qxe Qxe Qxc Qxd Qxc Qxd Qxe Qxe Qxe Qxc Qxc)
 have q:∀ j,W.cell? ⟨w+1,j,none⟩=zT[j]?:=fun j=>by rw [<- N];exact Uo aV.out j
 have I:∀ b,b≠w.heap.size+1->W.heap[b]?=W1.heap[b]?:=fun b hb=>by rw [<- N];exact J0 hb
 have D:Below w w W:=by rw [<- N];exact Xo aR.out Qvu
 show bodyPost _ _ _ _ _ (Vn W1 (w+1) Qxd Qxe Qxe Qxe Qxc Qxd Qxc Qxd Qxe Qxe Qxe Qxc Qxc)
 rw [N]
 have M:=Qq D;have aQ:=Qq I
 obtain ⟨q0,q1,q2,q3,q4,q5,q6,q7,q8,q9,O,T,U⟩:=Qyz q
 simp only [Qf,Qg,Qh] at q0 q1 q2 q3 q4 q5 q6 q7 q8 q9 O T U
 clear N D I q
 refine Q7 (v:=.tuple #[.agg zT,.bool false]) (by simp [results,results80,go_sem,q0,q1,q2,q3,q4,q5,q6,q7,q8,q9,O,T,U]) rfl ⟨[Qxd,Qxe,Qxe,Qxe,Qxc,Qxd,Qxc,Qxd,Qxe,Qxe,Qxe,Qxc,Qxc],rfl,Gw _ _,M.out⟩
def RKeyIs (S:Nat->Prop) (w:World) (l:List Val) (e:Ending) (w':World):Prop:=∃ p cap,e=.returned (.slice p l.length cap)/\Sl Zc (fun b=>S b\/w<=b) w' (.slice p l.length cap) l/\Below w w w'
def GotMid (S:Nat->Prop) (w:World) (u:Val) (b:Bool) (t7 t8:Value) (wx:World):Prop:=
 ∃ G q3 m3 q4 m4,t7=.pointer (some ⟨G,0,none⟩)/\t8=.bool b/\wx.heap[G]?=some (.cells (Qxf u q3 m3 q4 m4) 48 (0,0))/\Za S wx (vcs u q3 m3 q4 m4) u/\Below w w wx/\w.heap.size<=G
theorem Bk (S S0:Nat->Prop) (t:Tbl) (row:Val) (ct cr:List Value) (w:World) (ht:Zl.R S w ct t) (hr0:Za S0 w cr row) (hkl:t.key.length<=1000):
  Calls prog 81 #[ct,cr] w (RKeyIs S0 w ((keyOf t.key row).getD [])):=by
 have hr:Za (fun b=>S0 b/\b<w) w cr row:=hr0.move (.refl _ _) (fun b hb h=>⟨h,hb⟩)
 clear hr0
 have HG:=Qq (fun x W (hb:Below w w W)=>Hp _ row cr x W (hr.move (.of_below hb) Qyv))
 obtain ⟨cO,cN,cT,bR,dA,cZ,k0,dB,n0,dC,cW,cU,cK,cX,n20,cL,cY,cV,cM,a0,z0,rfl,_,_,aD,_,_⟩:=Yj ht
 obtain ⟨r3,l3,r4,l4,bG,_⟩:=Za.cells hr
 simp only [vcs] at bG
 subst bG
 unfold tcs
 have HK:=Qq aD
 obtain ⟨i0,j1,j2,j3,j4⟩:=Y4 (P:=prog) (t:=48) (z:=.agg zV) (n:=5) (b:=80) Qxx
 obtain ⟨HJ,bX,bY,bZ⟩:=Qxo j1 j2 j3 j4
 clear j1 j2 j3 j4
 clear ht hr aD
 obtain ⟨n,hn⟩:=eX (t.key.length)
 rw [hn] at HK hkl |-
 have HN:=Qq hn
 clear hn
 obtain ⟨r,hr⟩:=eX (keyOf t.key row)
 rw [hr]
 have HR:=Qq hr
 clear hr
 unfold sv at HG
 go_enter func81,ntmps81
 go_wp2_with fail
 generalize aA:(w.alloc _).alloc _=W1
 have bD:=eqB aA (Zu _ _ _)
 have bA:W1.heap[w.heap.size]?=some (.cells (Qxg t cO cN cT bR dA cZ k0 dB n0 dC cW cU cK cX n20 cL cY cV cM a0 z0) 61 (0,0)):=by rw [<- aA,HN.out];exact Q5 _ _ _
 have bC:=eqH (b:=w.heap.size+1) aA (Q6 _ _ _)
 obtain ⟨bU,cJ,aT⟩:=Qxn bD bA bC
 clear aA bD bA bC
 go_loopw [5,6,7,8] (fun o i _ _ wr=>∃ (k:Nat) (l:List Val) (p:Option Addr) (cap:Nat),k<=n/\i=.int .i64 k/\o=.slice p k cap/\l.length=k/\Aside (keyOf (t.key.take k) row=some l)/\Below (w+2) W1 wr /\
  (∃ css,Own Zc 48 (fun b=>(S0 b/\b<w)\/w+2<=b) (w+2) wr (.slice p k cap) l css)) (fun _ i _ _ _=>n - (intOf i).toNat)
 case atStart=>exact ⟨0,[],none,0,Q8 _,rfl,rfl,rfl,rfl,Qz _ _,[],Own.nil _ _ _ _ _⟩
 obtain ⟨k,l,p,cap,dN,rfl,rfl,bK,hE,I,css,hO⟩:=hrel
 have dP:=Z8 aT.out
 have bB:=kE I Qvu cJ.out
 have M:=kE I Qvu aT.out
 have c2:=Qk _ _ 2 _ _ _ bB;have y0:=rA0 M;have y1:=rA1 M;have y2:=rA2 M;have y3:=rA3 M;have y4:=rA4 M
 simp only [Qf,Qg,Qh,HN.out] at c2
 have bF:Below w w wr:=bU.out.trans (I.mono Qvu)
 have dO:=I.size
 obtain ⟨bV,Y,HO,HE,Z⟩:=Qxp I bF hO hE.out bK
 clear bB M I bF hO hE bK
 by_cases aL:k<n
 ·have dL:(0:Int)<=(k:Int):=Qvu
  have dM:(k:Int)<(n:Int):=Qvu
  have aB:k<t.key.length:=by rw [HN.out];exact aL
  obtain ⟨x,hx⟩:∃ x,t.key[k]?=some x:=⟨_,Qx aB⟩
  have bN:t.key.take (k+1)=t.key.take k++[x]:=by rw [Zz aB];rw [Qx aB] at hx;cases hx;rfl
  obtain ⟨kb,aE,cR,aK,-⟩:=(HK.out.below Y.out).str hx
  subst cR
  have bI:=Qv _ _ aK
  have HX:=Qq hx;have cG:=Qq bN
  clear hx bN aB
  obtain ⟨kc,aC⟩:=eX (bR)
  rw [aC] at c2
  clear aC
  go_upto_region 5 with fail
  obtain ⟨u,hu⟩:=eX ((Xj row x).getD Val.zero)
  obtain ⟨b,hb⟩:=eX ((Xj row x).isSome)
  have HU:=Qq hu;have aG:=Qq hb
  refine let_mvar% ?Lq1:=fun w':World=>Qxw w' w 2 (Qxa kb aE n kc)/\Qyy w' (w+1) row.kind row.n row.s (.slice r3 row.names.length l3) (.slice r4 row.kids.length l4) (Qxw w' kb (aE+k) x/\Below wr wr w');?_
  have HS:∀ w',Below wr wr w'->?Lq1 w':=by
   intro w' h
   have hh:∀ {b j:Nat} {u:Value},b<wr->wr.cell? ⟨b,j,none⟩=some u->w'.cell? ⟨b,j,none⟩=some u:=fun aL hc=>kD h aL hc
   exact ⟨hh Qvu c2,hh Qvu y0,hh Qvu y1,hh Qvu y2,hh Qvu y3,hh Qvu y4,hh bI aK,h⟩
  have A:∀ w',?Lq1 w'->Below wr wr w':=fun w' h=>h.2.2.2.2.2.2.2
  have HA:∀ w' o,?Lq1 w'->?Lq1 (w'.alloc o):=fun w' o h=>HS _ ((A w' h).alloc (A w' h).size o)
  have HP:∀ w' a b c d e,?Lq1 w'->?Lq1 (Zp w' wr a b c d e):=fun w' a b c d e h=>HS _ (Zf (A w' h) (Q9 _))
  unfold Zp at HP
  have HC:=Qq (fun W' (h':?Lq1 W')=>(HG.out x W' (Y.out.thn (A _ h'))).mono (R':=fun e w2=>∃ T N U O,e=.returned (.tuple #[.agg (Qxf u T N U O),.bool b])/\Za (fun b=>S0 b/\b<w) w2 (vcs u T N U O) u/\Below W' W' w2/\?Lq1 w2) (by
   rintro e w2 ⟨dI,rfl,h3,h4⟩
   rw [HU.out] at h3
   rw [aG.out]
   obtain ⟨T,N,U,O,cQ,_⟩:=Za.cells h3
   subst cQ
   exact ⟨T,N,U,O,rfl,h3,h4,HS _ ((A _ h').thn h4)⟩))
  obtain ⟨aQ,aR,aN,D,aF,aO⟩:=Qxr (HS wr.drew (Qz _ _).drew) (HS wr (Qz _ _)) (fun w' (h:?Lq1 w')=>HS w'.drew (A w' h).drew) A HA HP
  clear HS A HA HP c2 y0 y1 y2 y3 y4 aK hu hb
  go_cut [7,8] from 9 to 31 (fun t7 t8 wx=>GotMid (fun b=>S0 b/\b<w) wr u b t7 t8 wx)
  case first=>
   go_region_held3 ?Lq1 (first | with_reducible exact aQ.out | with_reducible exact J | with_reducible exact aN.out _ (aF.out _ _ aR.out) | with_reducible exact aF.out _ _ J | with_reducible exact aO.out _ _ _ _ _ _ J)
    (first
     | (go_at_call 55;refine (HC.out _ Qxy).mono ?_;rintro e w2 ⟨T,N,U,O,rfl,bO,aI,J⟩;(try (have r2:w2.heap[wr.heap.size]?=some (.cells zV 48 (0,0)):=(aI.block wr Qxz).trans (Qw wr _);obtain ⟨y0,y1,y2,y3,y4⟩:=row5 r2;obtain ⟨g0,g1,g2,g3,g4⟩:=frz5 r2;have aP:=Qq r2;clear r2));have aS:=Qq bO;have dG:=Qq aI;clear bO aI))
   all_goals
    go_wp2_with fail
    go_meet
    first
     | (have h9:=aP.out;clear h9;exact ⟨wr.heap.size,T,N,U,O,rfl,rfl,Vx aP.out,Za.move aS.out (fun b hb _=>Zi (by have:=hb.2;omega)) Qyv,Zf (D.out _ J) (Q9 _),Q9 _⟩)
     | exact ⟨w2.heap.size,T,N,U,O,rfl,rfl,Qw _ _,Za.move aS.out (.of_below (Ze _ _)) Qyv,(D.out _ J).thn (Ze _ _),(D.out _ J).size⟩
  obtain ⟨G,T,N,U,O,rfl,rfl,hG,bP,bE,dJ⟩:=hcut
  obtain ⟨dH,cI,V⟩:=Qxn hG bP bE
  have dK:=Z8 hG
  clear HC aQ aR aN D aF aO
  obtain ⟨g0,g1,g2,g3,g4⟩:=row5 hG
  clear hG bP bE
  cases b with
  | false=>
   have bL:Xj row x=none:=by have:=aG.out;cases hq:Xj row x with
    | none=>rfl
    | some _=>rw [hq] at this;cases this
   have hr0:r=none:=by rw [<- HR.out];exact Lh (Qy HX.out) bL
   subst hr0
   clear bL
   go_wp2_with fail
   go_ret
   exact ⟨none,0,rfl,Sl.nil _ _ _,Y.out.thn V.out⟩
  | true=>
   have bH:Xj row x=some u:=by
    have h1:=aG.out;have h2:=HU.out
    cases hq:Xj row x with
    | none=>rw [hq] at h1;cases h1
    | some v=>rw [hq] at h2;rw [<- h2];rfl
   have bW:=Qq bH
   clear bH
   have aX:=HO.out.below V.out
   have aZ:Zc.R (But (fun b=>(S0 b/\b<w)\/w+2<=b) (.slice p k cap)) wc (Qxf u T N U O) u:=Za.move cI.out (.refl _ _) (fun b _ hb=>⟨.inl hb,fun e=>by
    have:=(HO.out.row.lt b e.symm).1
    have:=hb.2
    omega⟩)
   have cC:=Qq aX;have cH:=Qq aZ
   have dF:=V.out.size
   clear aX aZ
   go_wp2_with (at_builtin;refine Yf (r:=Zc) Qxv rfl (.tmp 28) (.tmp 30) _ rfl 48 i0 (.agg zV) 80 underlying40 HJ.out bX.out bY.out bZ.out rfl Qvu (fun b=>(S0 b/\b<w)\/w+2<=b) (w+2) wc (.slice p k cap) l css (Qxf u T N U O) u rfl cC.out rfl cH.out (by simp [Value.oneCell']) k Z.out Qvu Qvu ?_;intro p7 aU aV w7 aY aW;have cD:=Qq aY;have cA:=Qq aW;clear aY aW)
   go_roundw
   case measure=>simp [intOf];omega
   case rel=>
    refine ⟨k+1,l++[u],p7,aU,Qvu,by go_num,rfl,by have:=Z.out;simp [this],(show Aside _ from ?_),(bV.out.trans (V.out.mono Qvu)).trans cA.out.below,aV,cD.out⟩
    have:keyOf (t.key.take (k+1)) row=some (l++[u]):=by rw [cG.out,Ls,HE.out,bW.out]
    exact this
 have bJ:k=n:=Qvu
 subst bJ
 have bM:r=some l:=by
  rw [<- HR.out,<- HE.out,Zj (by rw [HN.out];exact Q9 _)]
 have cF:=Qq bM
 clear bM
 go_wp2_with fail
 go_ret
 unfold RKeyIs
 rw [cF.out,Option.getD_some,Z.out]
 exact ⟨p,cap,rfl,HO.out.sl (Qxj Z.out) (fun b hb=>.inr Qvu) (fun b _ hb=>by
  rcases hb with h | h
  ·exact .inl h.1
  exact .inr Qvu),Y.out⟩
def Xa (S:Nat->Prop) (w:World) (v:Value) (xs:List Int):Prop:=
 ∃ p cap,v=.slice p xs.length cap/\xs.length<=9223372036854775807/\(xs≠[]->∃ b off,p=some ⟨b,off,none⟩/\S b/\b<w.heap.size/\∀ i x,xs[i]?=some x->w.cell? ⟨b,off+i,none⟩=some (.int .i64 x))
theorem Xa.len {S:Nat->Prop} {w:World} {v:Value} {xs:List Int} (h:Xa S w v xs):∃ p cap,v=.slice p xs.length cap/\xs.length<=9223372036854775807:=by
 obtain ⟨p,cap,h1,h2,_⟩:=h;exact ⟨p,cap,h1,h2⟩
theorem Xa.below {S:Nat->Prop} {w w':World} {v:Value} {xs:List Int} (h:Xa S w v xs) (hb:Below w w w'):Xa S w' v xs:=by
 obtain ⟨p,cap,h1,h2,h3⟩:=h
 refine ⟨p,cap,h1,h2,fun D=>?_⟩
 obtain ⟨b,off,e,hS,A,hc⟩:=h3 D
 exact ⟨b,off,e,hS,Qa A hb.size,fun i x hx=>(hb.cell (p:=⟨b,off+i,none⟩) A).trans (hc i x hx)⟩
theorem Yr (S:Nat->Prop) (v:Value) (l:List Int) (i:Nat) (m:Int) (w:World) (hs:Xa S w v l) (hi:Uh l) (hm:1<=m) (hm2:m<=1000000000):
  Calls prog 28 #[v,i,m] w fun e w'=>e=.returned (.int .i64 (Yo l i m))/\w=w':=by
 have J:decide ((i:Int)<0)=false:=Qxz
 obtain ⟨p,cap,rfl,hl,A⟩:=hs
 by_cases h:i<l.length
 ·obtain ⟨n,D⟩:∃ n,l[i]?=some n:=⟨_,Qx h⟩
  obtain ⟨b,off,rfl,_,hb,A⟩:=A (fun e=>by rw [e] at h;exact absurd h (Z6 i))
  have c0:=A i n D
  have HA:=Qq (fun W=>Ma n m W (hi n (Qy D)).1 (hi n (Qy D)).2 hm Qvu)
  have I:Yo l i m=Vh n m:=by unfold Yo;rw [D]
  rw [I]
  generalize Vh n m=r at HA |-
  have h1:(i:Int)<(l.length:Int):=Qvu
  have h2:decide ((l.length:Int)<=(i:Int))=false:=by simp;omega
  clear hi D A I
  go_enter func28,ntmps28
  go_wp2_with (go_at_call 17;refine (HA.out _).mono ?_;rintro e w' ⟨rfl,rfl⟩)
  go_ret
  exact ⟨rfl,rfl⟩
 have I:Yo l i m=0:=by unfold Yo;rw [List.getElem?_eq_none Qvu]
 rw [I]
 have h2:decide ((l.length:Int)<=(i:Int))=true:=by simp;omega
 clear hi I A
 go_enter func28,ntmps28
 go_wp2_with fail
 go_ret
 exact ⟨rfl,rfl⟩
theorem Um {S:World->Prop} {W:World} (hS:∀ w',Below W W w'->S w') (hB:∀ w',S w'->Below W W w'):Hid (S W.drew)/\Hid (S W)/\Hid (∀ w',S w'->S w'.drew)/\Hid (∀ w',S w'->Below W W w')/\Hid (∀ w' o,S w'->S (w'.alloc o))/\Hid (∀ w',Below W W w'->S w'):=
 ⟨Qq (hS _ (Qz _ _).drew),Qq (hS _ (Qz _ _)),Qq (fun w' h=>hS _ (hB w' h).drew),Qq hB,Qq (fun w' o h=>hS _ ((hB w' h).alloc (hB w' h).size o)),Qq hS⟩
theorem Oe (w:World) (g o:Nat) (vs:List Value) (cur:Array Value) (t:TypeId) (hg:w.heap[g]?=some (.cells cur t (0,0))) (hfit:o+vs.length<=cur.size) (h1:∀ v ∈ vs,v.oneCell'=true):
  w.setCells g o vs=w.setRow g (cur.toList.take o++vs++cur.toList.drop (o+vs.length)).toArray:=by
 have ha:=run_storeCells_at prog g o t vs 0 cur w hg (by simpa using hfit) h1
 have hb:=run_storeCells_cells (P:=prog) g o vs 0 w (fun j hj=>by rw [Qk _ _ _ _ _ _ hg,Array.getElem?_eq_getElem Qvu];rfl) (fun j hj=>Qn _ _ _ _ _ hg) h1
 rw [ha] at hb
 simp only [Nat.add_zero] at hb
 injection hb with _ h
 exact h.symm
end Go.Proofs.YtlanplhphiikjaaGreatDoor
