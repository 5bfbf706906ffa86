import Derived.Test.YtlanplhphiikjaaGreatDoorF30
set_option maxRecDepth 100000
set_option maxHeartbeats 400000000
namespace Go.Proofs.YtlanplhphiikjaaGreatDoor
open Go.RowKit Go.Shelf Go.Lib Go.WideMaps Go.Maps
def kbV (l:List Val):Bs:=(l.map Y0).flatten
structure Bb (t:Tbl) (rows:List Val) (K:Val->List Val):Prop where
 key:∀ row ∈ rows,keyOf t.key row=some (K row)
 bd:∀ row ∈ rows,∀ x ∈ K row,WOk x/\(Y0 x).length<=20/\Y0 x≠[]
 len:∀ row ∈ rows,(K row).length<=3
theorem H8 (S S':Nat->Prop) (t:Tbl) (rows:List Val) (K:Val->List Val) (ct:List Value) (v:Value) (w:World) (ht:Zg.R S w ct t) (hv0:Sl Zc S' w v rows) (hK:Bb t rows K) (hl:rows.length<=100000) (hkl:t.key.length<=1000):
  Calls Tryz.prog 66 #[ct,v] w (Gq S' w (Ui rows (ust rows.length (rows.map fun r=>kbV (K r)) rows.length))):=by
 have gW:=@run_makeMap Tryz.prog
 have hv:=hv0.up
 have bD:=Qq (fun row cr (hm:row ∈ rows) W (hb:Below w w W) (hr:Z5 (fun b=>S' b/\b<w) W cr row)=>(hK.key row hm) ▸ Mo S (fun b=>S' b/\b<w) t row ct cr W (Zg.frame ht (.of_below hb)) hr hkl)
 have cH:=Qq (fun (x:Val) cs W (h0:WOk x) (h1:(Y0 x).length<=20) (h:Z5 (fun _=>True) W cs x)=>My _ x cs W h0 h Oa)
 obtain ⟨bT,bS,bZ,bY,cB,cA,k0,s1,n0,s2,p1,n1,c1,p2,n2,c2,p3,n3,c3,a0,z0,rfl,_,_,_,_,_⟩:=Zr ht
 obtain ⟨vp,gS,rfl,_⟩:=hv.len
 unfold tcs at bD |-
 have HV:=Qq hv;have cJ:=Qq hK
 obtain ⟨i5,j1,j2,j3,j4⟩:=Y3 (P:=Tryz.prog) (t:=5) (z:=.int .u8 0) (n:=1) (b:=1) Og
 obtain ⟨HJ,eK,eL,eM⟩:=Py j1 j2 j3 j4
 clear ht hv hv0 hK j1 j2 j3 j4
 obtain ⟨M,bC⟩:=eX ((rows.map fun r=>kbV (K r)))
 rw [bC]
 have bW:M.length=rows.length:=by rw [<- bC,Z2]
 obtain ⟨n,hn⟩:=eX (rows.length)
 rw [hn] at HV hl bW |-
 obtain ⟨HN,eN,cK⟩:=Px hn bC bW
 clear hn bC bW
 go_enter Tryz.func66,Tryz.ntmps66
 go_wp2_with fail
 generalize aN:((w.alloc (.cells (Pj t bT bS bZ bY cB cA k0 s1 n0 s2 p1 n1 c1 p2 n2 c2 p3 n3 c3 a0 z0) 61)).alloc (.cells zF 69)).alloc (.map #[] 0)=W1
 have cR:UMid w W1 M 0 W1:=by
  refine ⟨by rw [<- aN];exact Yr _ _ _ _,fun _ _=>rfl,.map [],?_,invD_nil⟩
  rw [<- aN]
  have e:((w.alloc (.cells (Pj t bT bS bZ bY cB cA k0 s1 n0 s2 p1 n1 c1 p2 n2 c2 p3 n3 c3 a0 z0) 61)).alloc (.cells zF 69)).heap.size=w.heap.size+2:=Od
  rw [<- e]
  exact World.ownsMap_made _ _ _ _
 have cY:W1.heap[w.heap.size]?=some (.cells (Pj t bT bS bZ bY cB cA k0 s1 n0 s2 p1 n1 c1 p2 n2 c2 p3 n3 c3 a0 z0) 61 (0,0)):=by rw [<- aN,Below.heap_alloc _ _ _ (by simp;omega)];exact Q0 _ _ _
 have cW:W1.heap[w.heap.size+1]?=some (.cells zF 69 (0,0)):=by rw [<- aN,Below.heap_alloc _ _ _ Od];exact Q1 _ _ _
 obtain ⟨eO,eY,eT⟩:=Px cR cY cW
 clear cR cY cW aN
 go_loopw [6,7,21] (fun eZ gD i wr=>∃ (k:Nat) (I:Nat × Nat),k<=n/\i=.int .i64 k/\Aside (ust n M k=I)/\eZ=.int .i64 (I.1:Nat)/\gD=.int .i64 (I.2:Nat)/\UMid w W1 M k wr) (fun _ _ i _=>n - (intOf i).toNat)
 case atStart=>exact ⟨0,(n,0),Q3 _,rfl,rfl,rfl,rfl,eO.out⟩
 obtain ⟨k,I,hk,rfl,dL,rfl,rfl,hM⟩:=hrel
 have HM:=Qq hM;have aZ:=Qq dL.out
 have hX:=(hM.keep _ Oa).trans eY.out
 have hR:=(hM.keep _ Oa).trans eT.out
 have dM:w.heap.size+2<wr.heap.size:=by
  obtain ⟨D,hD,_⟩:=hM.map
  exact Fo hD
 clear dL
 have gZ:w.heap.size<wr.heap.size:=Oa
 have hB:w.heap.size≠wr.heap.size:=Oa
 by_cases hlt:k<n
 ·have fO:(0:Int)<=(k:Int):=Oa
  have fP:(k:Int)<(n:Int):=Oa
  obtain ⟨row,aF⟩:∃ row,rows[k]?=some row:=⟨_,Qx (by rw [HN.out];exact hlt)⟩
  obtain ⟨hF,gT,T,N,U,O,rfl,gY,dQ,d0,d1,d2,d3,d4⟩:=(HV.out.below hM.below).val aF
  obtain ⟨y0,y1,y2,y3,y4,y5,y6,y7,y8,y9,gJ,gK,gL⟩:=row13 hX
  have aE:=Qy aF
  have aM:=bD.out row (vcs row T N U O) aE (wr.alloc (.cells (Ou row T N U O) 48)) (hM.below.thn (Zb _ _)) (dQ.move (.of_below (Zb _ _)) P8)
  have Y:=Qq aM
  have aA:=cJ.out.bd row aE
  have bX:=cJ.out.len row aE
  have bH:M[k]?=some (kbV (K row)):=by rw [<- eN.out,List.getElem?_map,aF];rfl
  have cG:=Qq aA;have aK:=Qq bH
  clear aF dQ aE aM aA bH hM hX hR
  obtain ⟨L,hL⟩:=eX (K row)
  rw [hL] at Y cG aK bX
  clear hL
  go_wp2_with fail
  unfold vcs at Y
  refine Y.out.mono ?_
  rintro e w5 ⟨kp,kn,gQ,rfl,bI,aR,dD⟩
  rw [Option.getD_some] at bI
  subst bI
  rw [Option.getD_some] at aR
  have aO:Below wr wr w5:=(Zb _ _).thn dD
  have cN:=Qq (aR.mono (S':=fun _=>True) (fun _ _ _=>trivial));have aI:=Qq aO
  have gN:=aO.size
  clear aR dD aO y0 y1 y2 y3 y4 y5 y6 y7 y8 y9 gJ gK gL d0 d1 d2 d3 d4
  go_wp2_with fail
  go_loopw [11,31] (fun b j wv=>∃ (q:Nat) (G:Bs) (p:Option Addr) (cap:Nat),q<=L.length/\j=.int .i64 q/\b=.slice p G.length cap/\Aside (G=kbV (L.take q))/\Below w5 w5 wv/\G.length<=20*q /\
   ∃ css,Own Yl 5 (fun _=>True) w5 wv (.slice p G.length cap) G css) (fun _ j _=>L.length - (intOf j).toNat)
  case atStart=>exact ⟨0,[],none,0,Q3 _,rfl,rfl,rfl,Qz _ _,Od,[],Own.nil _ _ _ _ _⟩
  obtain ⟨q,G,p,cap,hq,rfl,rfl,hE,bU,gU,css,hO⟩:=hrel
  obtain ⟨aJ,HO,HE⟩:=Px bU hO hE.out
  have gP:=bU.size
  clear bU hO hE
  by_cases hql:q<L.length
  ·have fQ:(0:Int)<=(q:Int):=Oa
   have fR:(q:Int)<(L.length:Int):=Oa
   obtain ⟨x,hx⟩:∃ x,L[q]?=some x:=⟨_,Qx hql⟩
   have fW:=(cN.out.below aJ.out).val hx
   obtain ⟨ub,gR,q3,l3,q4,l4,rfl,gX,dP,e0,e1,e2,e3,e4⟩:=fW
   have HX:=Qq hx
   have aP:=cG.out x (Qy hx)
   have cQ:=cH.out x _ (wr.alloc (.cells (Ou x q3 l3 q4 l4) 48)) aP.1 aP.2.1 (Z5.move dP (.of_below (Zb _ _)) P8)
   have eI:=Qq cQ
   have gV:=aP.2.1
   have dK:=aP.2.2
   have eP:=Qq dK
   clear hx dP aP cQ dK
   go_wp2_with fail
   refine eI.out.mono ?_
   rintro e w6 ⟨ep,aL,fE,rfl,bB,dE⟩
   have aB:Below wr wr w6:=(Zb _ _).thn dE
   have cU:Own Yl 5 (fun _=>True) w5 w6 (.slice p G.length cap) G css:=HO.out.below aB
   have hY:Sl Yl (But (fun _=>True) (.slice p G.length cap)) w6 (.slice ep (Y0 x).length aL) (Y0 x):=by
    have cS:Own Yl 5 (fun _=>False) _ w6 (.slice ep (Y0 x).length aL) (Y0 x) fE:=⟨bB.row,⟨bB.cs.len,fun i c y hc hy=>bB.cs.R i c y hc hy⟩⟩
    refine cS.sl Oa (fun b hb=>⟨trivial,fun e=>?_⟩) (fun b hb h=>h.elim)
    have h1:=(HO.out.row.lt b e.symm).2
    have h2:wr.heap.size+1<=b:=by simpa using hb
    omega
   obtain ⟨eH,cM,HY⟩:=Px aB cU hY
   have gO:=aB.size
   clear bB dE aB cU hY e0 e1 e2 e3 e4
   go_wp2_with (at_builtin;refine L4 (r:=Yl) Of rfl (.tmp 35) (.tmp 37) _ rfl 5 i5 (.int .u8 0) 1 Tryz.underlying23 HJ.out eK.out eL.out eM.out rfl Oa (fun _=>True) w5 w6 (.slice p G.length cap) G css (Y0 x) ep (Y0 x).length aL rfl cM.out rfl HY.out rfl eP.out Es Oa Oa ?_;intro p7 cO css7 w7 cT dF dA;have eR:=Qq cT;have eJ:=Qq dF;clear cT dF dA)
   go_roundw
   case measure=>simp [intOf];omega
   case rel=>
    refine ⟨q+1,G++Y0 x,p7,cO,Oa,by go_num,by rw [Qe],(show Aside _ from ?_),(aJ.out.thn eH.out).grown eJ.out Oa (fun g hg=>(cM.out.row.lt g hg).1),by rw [Qe];omega,css7,by rw [Qe];exact eR.out⟩
    have:G++Y0 x=kbV (L.take (q+1)):=by
     obtain ⟨fU,rfl⟩:=Qj HX.out
     rw [HE.out,Qs fU]
     unfold kbV
     rw [List.map_append,List.flatten_append]
     simp only [List.map_cons,List.map_nil,List.flatten_cons,List.flatten_nil,List.append_nil]
    exact this
  have fV:q=L.length:=Oa
  subst fV
  have bV:G=kbV L:=by rw [HE.out,Qp (Q4 _)]
  have fM:=conv_own HO.out
  obtain ⟨D,hD,hI⟩:=HM.out.map
  have cP:wr.ownsMap Tryz.prog 9 (plainElem Tryz.prog 3) (w+2) k D:=Bg hD (by rw [aJ.out.block _ Oa,aI.out.block _ dM])
  have dI:Go.keyOf Tryz.prog 9 (.string ⟨G.toArray⟩)=some (.string G):=keyOf_string_mk Tryz.underlying9 (by rw [V0];unfold maxLen;omega)
  have Zh:∀ b,b<w.heap.size+2->wr.heap[b]?=W1.heap[b]?:=fun b hb=>by
   rw [aJ.out.block _ Oa,aI.out.block _ Oa]
   exact HM.out.keep b hb
  have aC:Below w w wr:=HM.out.below.thn (aI.out.thn aJ.out)
  have dJ:(M.take k).length=k:=by rw [Qf,cK.out];omega
  have dN:M.take (k+1)=M.take k++[G]:=by
   obtain ⟨fS,e⟩:=Qj aK.out
   rw [Qs fS,e,bV]
  have dO:ust n M (k+1)=J2 (M.take k) I G:=by
   show J2 (M.take k) (ust n M k) (M.getD k [])=_
   rw [aZ.out,Qm,aK.out,Option.getD_some,bV]
  obtain ⟨HD,HI,aY,V,J,bN,bP,bR⟩:=P2 cP hI dI Zh aC dJ dN dO
  have dT:(Lit.int .i64 (k:Int)).wf=true:=WalkArith.wf_i64 Oa
  have eW:=Qq dT
  clear bV hD hI cP dI Zh aC dJ dN dO dT
  cases hf:Yo (M.take k) G with
  | none=>
   have dG:Maps.has D (.string G)=false:=by rw [(HI.out.2 G).1,hf];rfl
   have HF:=Qq hf
   clear hf
   go_wp2_with (first | (at_lookup;refine wpList_lookup_own_ok_int _ rfl (.tmp 41) (.tmp 43) _ rfl 9 3 .i64 law9 Tryz.underlying175 Tryz.underlying3 (zero3 _) (w+2) k D rfl HD.out (.string ⟨G.toArray⟩) (.string G) rfl aY.out ?_;intro c Z aT;clear Z aT) | (at_mapUpdate;refine wpList_mapUpdate_own _ rfl (.tmp 49) (.tmp 51) (.tmp 52) _ rfl 9 3 law9 Tryz.underlying175 _ (w+2) k D rfl HD.out (by unfold maxLen;omega) (.string ⟨G.toArray⟩) (.int .i64 k) (.string G) rfl rfl aY.out _ [] (plainElem_int Tryz.underlying3 eW.out) ?_;intro w8 aQ aD;have eS:=Qq aQ;have cI:=Qq aD;clear aQ aD))
   go_roundw
   case measure=>simp [intOf];omega
   case rel=>
    have gM:=Fo HD.out
    refine ⟨k+1,I,Oa,by go_num,(show Aside _ from ?_),rfl,rfl,⟨J.out.grown cI.out J.out.size (fun g hg=>by have:=Q6 hg;omega),fun b hb=>?_,_,eS.out,?_⟩⟩
    ·have:ust n M (k+1)=I:=by rw [bR.out];unfold J2;rw [HF.out]
     exact this
    ·rw [cI.out.block b Oa (fun e=>by have:=Q6 e;omega)];exact V.out b hb
    rw [bP.out]
    have:=invD_new HI.out HF.out
    rwa [bN.out] at this
  | some a=>
   have dG:Maps.has D (.string G)=true:=by rw [(HI.out.2 G).1,hf];rfl
   have cF:=Qq ((HI.out.2 G).2 a hf)
   have fL:=Fl hf
   rw [bN.out] at fL
   have HF:=Qq hf
   clear hf
   by_cases hab:a<I.1
   ·have cZ:(a:Int)<(I.1:Int):=Oa
    go_wp2_with (at_lookup;refine wpList_lookup_own_ok_int _ rfl (.tmp 41) (.tmp 43) _ rfl 9 3 .i64 law9 Tryz.underlying175 Tryz.underlying3 (zero3 _) (w+2) k D rfl HD.out (.string ⟨G.toArray⟩) (.string G) rfl aY.out ?_;intro c Z aT;obtain rfl:c=(a:Int):=(by have h1:=Z.symm.trans cF.out;simpa using h1);clear Z aT)
    go_roundw
    case measure=>simp [intOf];omega
    case rel=>
     refine ⟨k+1,(a,k),Oa,by go_num,(show Aside _ from ?_),rfl,rfl,⟨J.out,V.out,D,?_,?_⟩⟩
     ·have:ust n M (k+1)=(a,k):=by rw [bR.out];unfold J2;rw [HF.out];simp only [if_pos hab,bN.out]
      exact this
     ·obtain ⟨es,cl,h1,h2,h3,h4⟩:=HD.out
      exact ⟨es,cl,h1,h2,Oa,h4⟩
     rw [bP.out];exact Er HI.out HF.out
   have cZ:¬ ((a:Int)<(I.1:Int)):=Oa
   go_wp2_with (at_lookup;refine wpList_lookup_own_ok_int _ rfl (.tmp 41) (.tmp 43) _ rfl 9 3 .i64 law9 Tryz.underlying175 Tryz.underlying3 (zero3 _) (w+2) k D rfl HD.out (.string ⟨G.toArray⟩) (.string G) rfl aY.out ?_;intro c Z aT;obtain rfl:c=(a:Int):=(by have h1:=Z.symm.trans cF.out;simpa using h1);clear Z aT)
   go_roundw
   case measure=>simp [intOf];omega
   case rel=>
    refine ⟨k+1,I,Oa,by go_num,(show Aside _ from ?_),rfl,rfl,⟨J.out,V.out,D,?_,?_⟩⟩
    ·have:ust n M (k+1)=I:=by rw [bR.out];unfold J2;rw [HF.out];simp only [if_neg hab]
     exact this
    ·obtain ⟨es,cl,h1,h2,h3,h4⟩:=HD.out
     exact ⟨es,cl,h1,h2,Oa,h4⟩
    rw [bP.out];exact Er HI.out HF.out
 have dH:k=n:=Oa
 subst dH
 have fz:=fun j=>Qg _ _ j _ _ hR
 have rr:=fun j=>Qk _ _ j _ _ _ hR
 have r0:=rr 0;have f0:=fz 0;have r1:=rr 1;have f1:=fz 1;have r2:=rr 2;have f2:=fz 2;have r3:=rr 3;have f3:=fz 3;have r4:=rr 4;have f4:=fz 4;have r5:=rr 5;have f5:=fz 5;have r6:=rr 6;have f6:=fz 6;have r7:=rr 7;have f7:=fz 7;have r8:=rr 8;have f8:=fz 8;have r9:=rr 9;have f9:=fz 9;have dX:=rr 10;have fH:=fz 10;have dY:=rr 11;have fI:=fz 11
 simp only [Qa,Qb,Qc] at r0 r1 r2 r3 r4 r5 r6 r7 r8 r9 dX dY
 have HR:=Qq hR
 have aA:=ust_bd k M k (by rw [cK.out];exact Q4 _)
 rw [aZ.out] at aA
 clear fz rr hR hX hM
 by_cases hz:I.1=k
 ·have hq:((I.1:Int)==(k:Int))=true:=by rw [hz];simp
  have aS:Ui rows (ust k M k)=Ft.zero:=by rw [aZ.out];unfold Ui;rw [if_pos (by rw [HN.out];exact hz)]
  have bQ:=Qq aS
  clear aS aA
  have HZ:=Qq hz
  clear hz
  go_wp2_with fail
  show bodyPost _ _ _ _ _ (Y8 wr _ _ _ _ _ _ _ _ _ _ _ _ _)
  refine Q2 (v:=.agg zF) (by simp [results,Tryz.results66,go_sem,Y4 HR.out]) rfl ⟨[On,Oo,On,On,Oo,Ot,Ot,On,On,Oo,Ot,Ot],rfl,by rw [bQ.out];exact U1 _ _,Yq HM.out.below Oa⟩
 obtain ⟨dB,dC⟩:=aA.resolve_left hz
 have hq:((I.1:Int)==(k:Int))=false:=by rw [<- Qn,beq_iff_eq];omega
 obtain ⟨x,hx⟩:∃ x,rows[I.1]?=some x:=⟨_,Qx (by rw [HN.out];exact dB)⟩
 obtain ⟨y,hy⟩:∃ y,rows[I.2]?=some y:=⟨_,Qx (by rw [HN.out];exact dC)⟩
 have aS:Ui rows (ust k M k)=⟨11,[],x,y⟩:=by
  rw [aZ.out]
  unfold Ui
  rw [if_neg (by rw [HN.out];exact hz),Qm,Qm,hx,hy];rfl
 have bQ:=Qq aS
 obtain ⟨xb,eA,T,N,U,O,rfl,hA,dR,d0,d1,d2,d3,d4⟩:=(HV.out.below HM.out.below).val hx
 obtain ⟨yb,eB,aW,aU,aX,aV,he,hC,dS,e0,e1,e2,e3,e4⟩:=(HV.out.below HM.out.below).val hy
 obtain ⟨rfl,rfl,-⟩:xb=yb/\eA=eB/\True:=by simpa using he
 have fO:(0:Int)<=(I.1:Int):=Oa
 have fP:(I.1:Int)<(k:Int):=Oa
 have fQ:(0:Int)<=(I.2:Int):=Oa
 have fR:(I.2:Int)<(k:Int):=Oa
 have eU:=Qq dR;have eV:=Qq dS
 clear aS aA hz hx hy he dR dS dB dC
 go_wp2_with fail
 go_region
 go_wp2_with fail
 obtain ⟨W,hW⟩:=eX (Y8 wr (w+1) (.int .i64 11) Oo x.kind x.n x.s (.slice T x.names.length N) (.slice U x.kids.length O) y.kind y.n y.s (.slice aW y.names.length aU) (.slice aX y.kids.length aV))
 have q:∀ j,W.cell? ⟨w+1,j,none⟩=#[.int .i64 11,.string ⟨#[]⟩,.int .i64 x.kind,.int .i64 x.n,.string ⟨x.s.toArray⟩,.slice T x.names.length N,.slice U x.kids.length O,.int .i64 y.kind,.int .i64 y.n,.string ⟨y.s.toArray⟩,.slice aW y.names.length aU,.slice aX y.kids.length aV][j]?:=fun j=>by rw [<- hW];exact Y4 HR.out j
 have bJ:∀ b,b<w.heap.size->W.heap[b]?=wr.heap[b]?:=fun b hb=>by rw [<- hW];exact Y9 Oa
 have bG:Below w w W:=by rw [<- hW];exact Yq HM.out.below Oa
 show bodyPost _ _ _ _ _ (World.drew (Y8 wr (w+1) (.int .i64 11) Oo x.kind x.n x.s (.slice T x.names.length N) (.slice U x.kids.length O) y.kind y.n y.s (.slice aW y.names.length aU) (.slice aX y.kids.length aV)))
 rw [hW]
 have bE:=Qq bJ;have J:=Qq bG
 obtain ⟨q0,q1,q2,q3,q4,q5,q6,q7,q8,q9,dV,dW⟩:=P5 q
 simp only [Qa,Qb,Qc] at q0 q1 q2 q3 q4 q5 q6 q7 q8 q9 dV dW
 clear hW bJ bG q r0 r1 r2 r3 r4 r5 r6 r7 r8 r9 dX dY f0 f1 f2 f3 f4 f5 f6 f7 f8 f9 fH fI
 refine Q2 (v:=.agg (Pz (.int .i64 11) Oo x T N U O y aW aU aX aV)) (by simp [results,Tryz.results66,go_sem,q0,q1,q2,q3,q4,q5,q6,q7,q8,q9,dV,dW]) rfl ⟨_,rfl,?_,J.out.drew⟩
 rw [bQ.out]
 refine ⟨vcs x T N U O,vcs y aW aU aX aV,rfl,Od,?_,?_⟩
 ·exact Z5.move (S':=S') eU.out (fun b hb _=>bE.out b hb.2) (fun _ _ h=>h.1)
 exact Z5.move (S':=S') eV.out (fun b hb _=>bE.out b hb.2) (fun _ _ h=>h.1)
theorem Ny (S0 S1:Nat->Prop) (t:Tbl) (ct:List Value) (rv:Value) (rows:List Val) (K:Val->List Val) (w:World) (ht:Zg.R S0 w ct t) (hr:Sl Zc S1 w rv rows) (hK:Bb t rows K) (hl:rows.length<=100000) (hkl:t.key.length<=1000):
  Calls Tryz.prog 65 #[ct,rv] w (Gq S1 w (Ui rows (ust rows.length (rows.map fun r=>kbV (K r)) rows.length))):=by
 have HU:=Qq (fun W (hb:Below w w W)=>H8 S0 (fun b=>S1 b/\b<w) t rows K ct rv W (Zg.frame ht (.of_below hb)) ((hr.mono (fun b hb h=>⟨h,hb⟩)).below hb) hK hl hkl)
 obtain ⟨aW,aV,bB,bA,bJ,bI,k9,bK,n9,bL,bF,bC,aS,bG,bD,aT,bH,bE,aU,a9,z9,D,_⟩:=Zr ht
 simp only [tcs] at D
 subst D
 obtain ⟨rp,rc,rfl,_⟩:=hr.len
 obtain ⟨f,hf⟩:=eX (Ui rows (ust rows.length (rows.map fun r=>kbV (K r)) rows.length))
 rw [hf] at HU |-
 clear ht hr hK hf
 go_enter Tryz.func65,Tryz.ntmps65
 go_wp2_with fail
 refine (HU.out _ (Zl _ _ _)).mono ?_
 rintro e w5 ⟨aX,rfl,T,M⟩
 obtain ⟨p3,k3,p4,k4,q3,l3,q4,l4,D,U,Y,V⟩:=Va T
 simp only [fcs] at D
 subst D
 have L:=Qq ((M.block (w+1) Od).trans (Q1 w _ _))
 have aL:=Qq ((Zl w _ _).thn M)
 obtain ⟨aO,aN,aM⟩:=Px Y V U
 have fz:=fun j=>Qg _ _ j _ _ L.out
 have rr:=fun j=>Qk _ _ j _ _ _ L.out
 obtain ⟨f0,f1,f2,f3,f4,f5,f6,f7,f8,f9,aY,aZ⟩:=P5 fz
 obtain ⟨r0,r1,r2,r3,r4,r5,r6,r7,r8,r9,aP,aQ⟩:=P5 rr
 simp only [Qa,Qb,Qc] at r0 r1 r2 r3 r4 r5 r6 r7 r8 r9 aP aQ
 clear fz rr T M Y V U
 go_wp2_with fail
 obtain ⟨W,O⟩:=eX (Y8 w5 (w+1) f.code f.table f.row.kind f.row.n f.row.s (.slice p3 f.row.names.length k3) (.slice p4 f.row.kids.length k4) f.other.kind f.other.n f.other.s (.slice q3 f.other.names.length l3) (.slice q4 f.other.kids.length l4))
 have q:∀ j,W.cell? ⟨w+1,j,none⟩=#[.int .i64 f.code,.string ⟨f.table.toArray⟩,.int .i64 f.row.kind,.int .i64 f.row.n,.string ⟨f.row.s.toArray⟩,.slice p3 f.row.names.length k3,.slice p4 f.row.kids.length k4,.int .i64 f.other.kind,.int .i64 f.other.n,.string ⟨f.other.s.toArray⟩,.slice q3 f.other.names.length l3,.slice q4 f.other.kids.length l4][j]?:=fun j=>by rw [<- O];exact Y4 L.out j
 have J:∀ b,b≠w.heap.size+1->W.heap[b]?=w5.heap[b]?:=fun b hb=>by rw [<- O];exact Y9 hb
 have I:Below w w W:=by rw [<- O];exact Yq aL.out Oa
 show bodyPost _ _ _ _ _ (Y8 w5 (w+1) f.code f.table f.row.kind f.row.n f.row.s (.slice p3 f.row.names.length k3) (.slice p4 f.row.kids.length k4) f.other.kind f.other.n f.other.s (.slice q3 f.other.names.length l3) (.slice q4 f.other.kids.length l4))
 rw [O]
 have N:=Qq I;have G:=Qq J
 obtain ⟨q0,q1,q2,aB,aC,q5,q6,q7,q8,q9,Z,aA⟩:=P5 q
 simp only [Qa,Qb,Qc] at q0 q1 q2 aB aC q5 q6 q7 q8 q9 Z aA
 clear O I q J
 refine Q2 (v:=.agg (Pz f.code f.table f.row p3 k3 p4 k4 f.other q3 l3 q4 l4)) (by simp [results,Tryz.results65,go_sem,q0,q1,q2,aB,aC,q5,q6,q7,q8,q9,Z,aA]) rfl ⟨_,rfl,?_,N.out⟩
 exact ⟨_,_,rfl,aM.out,Z5.move aO.out (fun b hb _=>G.out b (by have:b<w.heap.size:=hb.2;omega)) (fun _ _ h=>h.1),Z5.move aN.out (fun b hb _=>G.out b (by have:b<w.heap.size:=hb.2;omega)) (fun _ _ h=>h.1)⟩
open Go.RowKit Go.Shelf Go.Lib Tryz
theorem B8 (w:World) (q:Nat) (F cur:Array Value) (E:TypeId) (fz:Nat × Nat) (h:w.heap[q]?=some (.cells cur E fz)):(Sort.putRow id w q 0 F).heap[q]?=some (.cells (Sort.putCells id 0 F cur) E fz):=by
 unfold Sort.putRow Sort.mapBlock
 simp only [Array.getElem?_modify,if_true,h,Option.map_some,Sort.onCells]
section
variable {P:Program} {ρ:Ren} {T:Type} [Inhabited T]
theorem insGen (L:SlLaysF0.n20 P ρ) (r:Rd T) (hk0:0<r.k) (E:TypeId) (aE:∀ w,(isAgg (ρ.t 24)).run P w=.ok true w) (zE:∀ w,(Go.sizeOf (ρ.t 24)).run P w=.ok r.k w) (h1:∀ S w cs x,r.R S w cs x->∀ u ∈ cs,u.oneCell'=true)
  (cf:T->T->Int) (g:Nat) (eg:∀ args w,(callFunc g args).run P w=.ok (.enter g args) w) (S:Nat->Prop) (B:Nat) (w:World) (q cap:Nat) (xs:List T) (css:List (List Value)) (hO:Own r E S B w (.slice (some ⟨q,0,none⟩) xs.length cap) xs css)
  (hne:xs≠[]) (hc:CmpOn P g r (But S (.slice (some ⟨q,0,none⟩) xs.length cap)) cf) (hS:Sort.SWO (fun x y:T=>decide (cf x y<0))) (hl:xs.length<=1000000):
  Calls P (ρ.f 20) #[Ol q 0 xs.length cap,.int .i64 (0:Nat),xs.length,.func (.func g) #[] #[]] w fun e w'=>e=.returned (.tuple #[])/\∃ ys css',ys=Xl cf xs/\ys.Perm xs/\ys.Pairwise (fun a b=>0<=cf b a) /\
   Own r E S B w' (.slice (some ⟨q,0,none⟩) xs.length cap) ys css'/\Below B w w'/\w<=w'.heap.size/\∀ b,b<w.heap.size->b≠q->w'.heap[b]?=w.heap[b]?:=by
 obtain ⟨l,aH,aL⟩:=Um xs.length (fun i (e:El r (But S (.slice (some ⟨q,0,none⟩) xs.length cap)) w)=>css[i]?=some e.1.1/\xs[i]?=some e.1.2) (fun i hi=>by
  have h1:=Qx (l:=css) (i:=i) (by rw [hO.cs.len];exact hi)
  have h2:=Qx hi
  exact ⟨⟨(_,_),hO.cs.R i _ _ h1 h2⟩,h1,h2⟩)
 have aX:0<xs.length:=List.length_pos_iff.2 hne
 haveI:Inhabited (El r (But S (.slice (some ⟨q,0,none⟩) xs.length cap)) w):=⟨l[0]'Oa⟩
 have G:l.toArray.size=xs.length:=by simpa using aH
 have aD:∀ i,i<xs.length->css[i]?=some (l.toArray[i]!).1.1/\xs[i]?=some (l.toArray[i]!).1.2:=by
  intro i hi
  refine aL i _ ?_
  rw [Qx Oa]
  simp [aH,hi]
 have hq:=(hO.row.lt q rfl).2
 have hH:Sort.HoldsK (fun e:El r (But S (.slice (some ⟨q,0,none⟩) xs.length cap)) w=>e.1.1) r.k w q 0 l.toArray:=by
  intro j hj
  rw [Sort.size_flatK,G] at hj
  have aK:j / r.k<xs.length:=Nat.div_lt_of_lt_mul (by rwa [Nat.mul_comm])
  have hg:=aD _ aK
  refine ⟨?_,by rw [Nat.zero_add];exact hO.row.frozenAt j⟩
  rw [Nat.zero_add,hO.row.cellAt j hj]
  have I:j % r.k<(l.toArray[j / r.k]!).1.1.length:=by rw [r.len (l.toArray[j / r.k]!).2];exact Nat.mod_lt _ hk0
  have:=X8 hO.cs.all hg.1 (Qx I)
  rw [Nat.div_add_mod' j r.k] at this
  rw [this,Sort.get_flatK _ _ _ _ (by rw [G];exact hj),getElem!_pos ((l.toArray[j / r.k]!).1.1) (j % r.k) I]
  rfl
 have aJ:CmpLays P g #[] (fun e:El r (But S (.slice (some ⟨q,0,none⟩) xs.length cap)) w=>e.1.1) r.k (fun x y=>cf x.1.2 y.1.2) q 0 l.toArray.size w:=by
  intro m os dk _ x y
  have hA:Ys (But S (.slice (some ⟨q,0,none⟩) xs.length cap)) w (sortWorldK (fun e:El r (But S (.slice (some ⟨q,0,none⟩) xs.length cap)) w=>e.1.1) r.k w q 0 m dk os):=fun b hb aI=>Vk _ _ _ _ _ _ _ b aI (fun e=>hb.2 (by rw [e];rfl))
  exact hc _ x.1.2 y.1.2 _ _ (r.frame x.2 hA) (r.frame y.2 hA)
 have U:=AnyQ.insertionSortCmpFunc (ρ:=ρ) L r.k aE zE (fun e:El r (But S (.slice (some ⟨q,0,none⟩) xs.length cap)) w=>e.1.1) (fun e=>r.len e.2) (fun e=>h1 _ _ _ _ e.2) (fun x y=>cf x.1.2 y.1.2) g #[] q 0 cap 0 xs.length l.toArray w eg aJ hH hq (Q3 _) (by rw [G];exact Q4 _) (by rw [G];omega)
 rw [G] at U
 have aO:Sort.SWO (ltOf fun (x y:El r (But S (.slice (some ⟨q,0,none⟩) xs.length cap)) w)=>cf x.1.2 y.1.2):=⟨fun x=>hS.irrefl _,fun x y z=>hS.trans _ _ _,fun x y z=>hS.ntrans _ _ _⟩
 obtain ⟨N,J⟩:=Sort.insertionSort_holds aO l.toArray 0 xs.length (Q3 _) (by rw [G];exact Q4 _)
 have V:=Jc (fun e:El r (But S (.slice (some ⟨q,0,none⟩) xs.length cap)) w=>e.1.2) (ltOf cf) l.toArray 0 xs.length (by rw [G];exact Q4 _)
 change (Sort.insertionSort (ltOf fun (x y:El r (But S (.slice (some ⟨q,0,none⟩) xs.length cap)) w)=>cf x.1.2 y.1.2) l.toArray 0 xs.length).map _=_ at V
 generalize Sort.insertionSort (ltOf fun (x y:El r (But S (.slice (some ⟨q,0,none⟩) xs.length cap)) w)=>cf x.1.2 y.1.2) l.toArray 0 xs.length=d at U N J V
 have Z:d.size=xs.length:=N.1.trans G
 have aU:d.toList.Perm l:=by
  have:=N.2.2
  rwa [Array.extract_eq_self_of_le (by rw [Z];exact Q4 _),Array.extract_eq_self_of_le (by rw [G];exact Q4 _)] at this
 have aM:l.map (fun e=>e.1.2)=xs:=by
  apply List.ext_getElem?
  intro i
  by_cases hi:i<xs.length
  ·rw [(aD i hi).2,List.getElem?_map,Qx Oa]
   simp [aH,hi]
  rw [List.getElem?_eq_none (by rw [Z2];omega),List.getElem?_eq_none Oa]
 refine U.mono ?_
 rintro e w' ⟨rfl,m,os,rfl⟩
 have O:d.toList.length=xs.length:=by rw [Array.length_toList];exact Z
 have D:∀ b,b<w.heap.size->b≠q->(sortWorldK (fun e:El r (But S (.slice (some ⟨q,0,none⟩) xs.length cap)) w=>e.1.1) r.k w q 0 m d os).heap[b]?=w.heap[b]?:=fun b hb hne=>Vk _ _ _ _ _ _ _ b hb hne
 have hA:Ys (But S (.slice (some ⟨q,0,none⟩) xs.length cap)) w (sortWorldK (fun e:El r (But S (.slice (some ⟨q,0,none⟩) xs.length cap)) w=>e.1.1) r.k w q 0 m d os):=fun b hb aI=>D b aI (fun e=>hb.2 (by rw [e];rfl))
 have aG:Cs r (But S (.slice (some ⟨q,0,none⟩) xs.length cap)) (sortWorldK (fun e:El r (But S (.slice (some ⟨q,0,none⟩) xs.length cap)) w=>e.1.1) r.k w q 0 m d os) (d.toList.map fun e=>e.1.1) (d.toList.map fun e=>e.1.2):=by
  refine ⟨Od,fun i c x hc hx=>?_⟩
  rw [List.getElem?_map] at hc hx
  cases hd:d.toList[i]? with
  | none=>rw [hd] at hc;cases hc
  | some e0=>
   rw [hd] at hc hx
   cases hc;cases hx
   exact r.frame e0.2 hA
 refine ⟨rfl,d.toList.map (fun e=>e.1.2),d.toList.map (fun e=>e.1.1),?_,aM ▸ aU.map _,?_,⟨?_,aG⟩,?_,?_,D⟩
 ·rw [<- Array.toList_map,V]
  unfold Xl
  rw [List.map_toArray,aM]
 ·rw [List.pairwise_map,List.pairwise_iff_getElem]
  intro i j hi hj aS
  have aT:j<xs.length:=by rw [<- O];exact hj
  have:=J i j (Q3 _) aS aT
  rw [getElem!_pos d i Oa,getElem!_pos d j Oa] at this
  simp only [ltOf,decide_eq_false_iff_not] at this
  simp only [Array.getElem_toList]
  omega
 ·rcases hO.row.2 with ⟨h,_⟩ | ⟨g',aW,Y,he,hB,hg,aB,aN,aC,ht⟩
  ·cases h
  simp only [Ql,Qu,Addr.mk.injEq,and_true,true_and] at he
  obtain ⟨rfl,rfl⟩:=he
  have M:=aG.flat
  rw [Z2,O] at M
  refine ⟨by rw [Z2,O];exact M,.inr ⟨q,cap,Sort.putCells id 0 (Sort.flatK (fun e:El r (But S (.slice (some ⟨q,0,none⟩) xs.length cap)) w=>e.1.1) r.k d) Y,by rw [Z2,O],hB,?_,by rw [Z2,O];exact aB,aN,?_,?_⟩⟩
  ·unfold sortWorldK Sort.putRowK Sort.grow
   rw [Array.getElem?_append_left (by unfold Sort.putRow Sort.mapBlock Sort.ahead;simpa using hq)]
   exact B8 _ _ _ _ _ _ hg
  ·rw [show (Sort.putCells id 0 (Sort.flatK (fun e:El r (But S (.slice (some ⟨q,0,none⟩) xs.length cap)) w=>e.1.1) r.k d) Y).size=Y.size by simp [Sort.putCells]]
   exact aC
  rw [Z2,O]
  have aZ:xs.length*r.k<=Y.size:=by rw [aC];exact Nat.mul_le_mul_right _ aB
  apply List.ext_getElem?
  intro j
  by_cases hj:j<xs.length*r.k
  ·rw [List.getElem?_take_of_lt hj,Array.getElem?_toList,Sort.putCells,Array.getElem?_mapIdx,Array.getElem?_eq_getElem Oa]
   have aK:j / r.k<xs.length:=Nat.div_lt_of_lt_mul (by rwa [Nat.mul_comm])
   have I:j % r.k<(d[j / r.k]!).1.1.length:=by rw [r.len (d[j / r.k]!).2];exact Nat.mod_lt _ hk0
   have aQ:(d.toList.map fun e=>e.1.1)[j / r.k]?=some (d[j / r.k]!).1.1:=by
    rw [List.getElem?_map,Array.getElem?_toList,Array.getElem?_eq_getElem Oa,getElem!_pos d _ Oa]
    rfl
   have:=X8 aG.all aQ (Qx I)
   rw [Nat.div_add_mod' j r.k] at this
   rw [this]
   simp only [Option.map_some,Q3,true_and,Nat.zero_add,Sort.size_flatK,Z,hj,if_true,id,Nat.sub_zero,Qu]
   rw [Sort.get_flatK _ _ _ _ (by rw [Z];exact hj),getElem!_pos ((d[j / r.k]!).1.1) (j % r.k) I]
  rw [List.getElem?_eq_none (by rw [Qf];omega),List.getElem?_eq_none (by rw [M];omega)]
 ·have aY:=(hO.row.lt q rfl).1
  refine ⟨rfl,rfl,rfl,?_,fun b hb=>D b Oa Oa⟩
  unfold sortWorldK Sort.putRowK Sort.putRow Sort.mapBlock Sort.grow Sort.ahead
  simp
 unfold sortWorldK Sort.putRowK Sort.putRow Sort.mapBlock Sort.grow Sort.ahead
 simp
end
end Go.Proofs.YtlanplhphiikjaaGreatDoor
