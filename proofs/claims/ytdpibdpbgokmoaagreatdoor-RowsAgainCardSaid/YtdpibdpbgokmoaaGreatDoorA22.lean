import Derived.Test.YtdpibdpbgokmoaaGreatDoorA21
set_option maxRecDepth 100000
set_option maxHeartbeats 400000000
namespace Go.Proofs.YtdpibdpbgokmoaaGreatDoor
open Go.RowKit Go.Shelf Go.Lib Tryz
theorem Cs.take {T:Type} {r:Rd T} {S:Nat->Prop} {w:World} {css:List (List Value)} {xs:List T} (h:Cs r S w css xs) (i:Nat):Cs r S w (css.take i) (xs.take i):=by
 refine ⟨by rw [Qm,Qm,h.len],λj c x A D=>?_⟩
 rw [List.getElem?_take] at A D
 by_cases hj:j<i
 ·rw [if_pos hj] at A D;exact h.R j c x A D
 rw [if_neg hj] at A;cases A
theorem Cs.drop {T:Type} {r:Rd T} {S:Nat->Prop} {w:World} {css:List (List Value)} {xs:List T} (h:Cs r S w css xs) (i:Nat):Cs r S w (css.drop i) (xs.drop i):=by
 refine ⟨by rw [Zq,Zq,h.len],λj c x hc hx=>?_⟩
 rw [List.getElem?_drop] at hc hx
 exact h.R _ c x hc hx
def Un {T:Type} (xs:List T) (i:Nat) (y:T):List T:=xs.take i++([y]++xs.drop i)
theorem Xo {T:Type} (xs:List T) (i:Nat) (y:T):(Un xs i y).length=xs.length+1:=by
 unfold Un;simp;omega
theorem Ho {T:Type} (xs:List T) (y:T):Un xs xs.length y=xs++[y]:=by unfold Un;simp
theorem insAny (S:Nat->Prop) (B:Nat) (w:World) (v:Value) (xs:List Val) (css:List (List Value)) (y:Val) (cy:List Value) (i q c:Nat) (hO:Own Zc 36 S B w v xs css) (hq:w.heap[q]?=some (.cells cy.toArray 36 (0,0))) (hqS:But S v q) (hy:Z9 (But S v) w cy y) (hi:i<=xs.length) (hl:xs.length<=100000) (hB:B<=w):
  Calls prog 62 #[v,i,Io q 0 1 c] w (InsIs S B w v (Un xs i y)):=by
 have A:∀ (j:Nat) (u:Value),cy[j]?=some u->w.cell? ⟨q,0+j,none⟩=some u:=by
  intro j u hj
  rw [Nat.zero_add,Qk w q j _ _ (0,0) hq];simpa using hj
 have N:q<w.heap.size:=(Array.getElem?_eq_some_iff.1 hq).1
 by_cases he:i=xs.length
 ·subst he
  rw [Ho]
  refine insEnd S B w v xs css y _ c hO ⟨_,_,rfl,Ib,λ_=>⟨q,0,rfl,hqS,N,λj x hx=>?_⟩⟩ hl hB
  cases j with
  | zero=>
   simp at hx;subst hx
   refine ⟨cy,λm u hm=>?_,hy⟩
   have:=A m u hm
   simpa using this
  | succ j=>simp at hx
 have M:i<xs.length:=Ia
 have D:Cs Zc (But S v) w (Un css i cy) (Un xs i y):=(hO.cs.take i).app ((Cs.one hy).app (hO.cs.drop i))
 have I:(Un css i cy).flatten=(css.take i).flatten++cy++(css.drop i).flatten:=by unfold Un;simp
 have J:(Un css i cy).flatten.length=(xs.length+1)*Zc.k:=by rw [D.flat,Xo]
 rcases hO.row.2 with ⟨_,h0⟩ | ⟨g,cap,aH,rfl,aD,aE,aJ,aB,aK,aL⟩
 ·omega
 have aI:g<w.heap.size:=(Array.getElem?_eq_some_iff.1 aE).1
 have aF:q≠g:=λe=>hqS.2 (by rw [e];rfl)
 by_cases hr:xs.length+1<=cap
 ·refine (insRoom S B w g xs.length cap i xs css y cy q 0 c hO rfl M hr aF hy A hl 36 cy.length (by unfold World.shape?;rw [hq];simp) (by simp [World.frozen?,hq]) (by simp [World.frozen?,hq])).mono ?_
  rintro e w' ⟨rfl,X,O,T,U,V,h5,Y⟩
  refine ⟨_,cap,Un css i cy,by rw [Xo],⟨?_,?_⟩,Y,.inl rfl⟩
  ·rw [Xo]
   exact ⟨J,.inr ⟨g,cap,X,rfl,aD,O,hr,aB,T,by rw [I];exact U⟩⟩
  rw [Xo]
  exact D.move (λb hb _=>V b (λe=>hb.2 (by rw [e];rfl))) (λb _ hb=>⟨hb.1,λe=>hb.2 e⟩)
 have aC:cap=xs.length:=Ia
 subst aC
 refine (insGrow S B w g xs.length i xs css y cy q 0 c hO rfl M hy A hl N).mono ?_
 rintro e w' ⟨G,rfl,Z,aA,X,O,T,U,V,h5,Y⟩
 refine ⟨_,G,Un css i cy,by rw [Xo],⟨?_,?_⟩,Y,.inr rfl⟩
 ·rw [Xo]
  exact ⟨J,.inr ⟨w.heap.size,G,X,rfl,hB,O,Z,aA,T,by rw [I];exact U⟩⟩
 rw [Xo]
 refine D.move (λb _ hb=>V b hb) (λb hb hs=>⟨hs.1,λe=>?_⟩)
 have:b=w.heap.size:=by simpa [Value.ownBlock] using e
 omega
def Va (w:World) (l:List Rel) (e:Ending) (w':World):Prop:=∃ p cap,e=.returned (.slice p l.length cap)/\Sl Yk (λ_=>True) w' (.slice p l.length cap) l/\Below w w w'
theorem Da (S0 S1:Nat->Prop) (lv:Value) (l:List Rel) (tn:Bs) (x:Val) (cx:List Value) (w:World) (i:Nat) (o:Rel) (hl0:Sl Yk S0 w lv l) (hx0:Z9 S1 w cx x) (hf:l.findIdx? (λr=>decide (r.table=tn))=some i) (ho:l[i]?=some o)
  (hne:∀ y ∈ o.rows,eqv y x=false) (hgr:∀ y ∈ o.rows,decide (0<Zu y x)=false) (hrl:∀ r ∈ l,r.rows.length<=10000):
  Calls prog 16 #[lv,sv tn,cx] w (Va w (l.set i ⟨o.table,o.rows++[x]⟩)):=by
 have hx:Z9 (λb=>b<w) w cx x:=hx0.move (.refl _ _) (λb hb _=>hb)
 have aG:=Qq (λW (hb:Below w w W)=>Um S0 lv l W (hl0.below hb))
 have cG:X8 (λr=>decide (r.table=tn)) l=i:=by unfold X8;rw [hf]
 have aH:=Qq (λv W (hs:Sl Yk (λ_=>True) W v l)=>U7 _ v l tn W hs)
 rw [cG] at aH
 have cF:i<l.length:=(Qj ho).1
 have cH:l.length<=1000000:=by obtain ⟨_,_,_,h⟩:=hl0.len;exact h
 obtain ⟨lp,lc,rfl,_⟩:=hl0.len
 obtain ⟨HX,HO,bQ⟩:=Im hx ho hrl
 have dQ:=hrl o (Qy ho)
 have aY:o.rows.any (λv=>eqv v x)=false:=by rw [List.any_eq_false];intro y hy;rw [hne y hy];decide
 have aZ:X8 (λv=>decide (0<Zu v x)) o.rows=-1:=U9 (λj y hy=>hgr y (Qy hy))
 obtain ⟨x3,aS,x4,aT,cD,_⟩:=Z9.cells hx
 simp only [Il] at cD
 have HB:=Qq (λv W (hb:Below w w W) (hs:Sl Zc (λ_=>True) W v o.rows) (hc:∀ j u,cx[j]?=some u->W.cell? ⟨w,j,none⟩=some u) (hR:w<W.heap.size)=>Ph Tryz.cfVal Zc isAgg36 sizeOf36 58 #[Iv w] (enters_of func58 Ir rfl) (λ_=>True) v o.rows W _ hs
  (Hg w (λ_=>True) x cx o.rows W hc hR (hx.move (.f hb) (λ_ _ _=>trivial))))
 have HI:=Qq (λv W (hb:Below w w W) (hs:Sl Zc (λ_=>True) W v o.rows) (hc:∀ j u,cx[j]?=some u->W.cell? ⟨w,j,none⟩=some u) (hR:w<W.heap.size)=>Fi Tryz.ixVal Zc isAgg36 sizeOf36 60 #[Iv w] (enters_of func60 Ir rfl) (λ_=>True) v o.rows W _ hs
  (R8 w (λ_=>True) x cx o.rows W hc hR (hx.move (.f hb) (λ_ _ _=>trivial))))
 rw [aY] at HB
 rw [aZ] at HI
 subst cD
 clear hx hx0 hl0 hf cG hne hgr hrl aY aZ ho
 unfold sv at aH |-
 obtain ⟨n,hn⟩:=eX (l.length)
 unfold Jm at aG
 rw [hn] at aG cF cH |-
 have HN:=Qq hn
 clear hn
 have dN:(0:Int)<=(i:Int):=Ia
 have dO:(i:Int)<(n:Int):=Ia
 have dP:decide ((i:Int)<0)=false:=Ib
 go_enter func16,ntmps16
 go_wp2_with fail
 obtain ⟨W1,aJ⟩:=eX (w.alloc (.cells (Is x x3 aS x4 aT) 36))
 have bC:=Iq aJ (Zg _ _)
 have bX:=Ik (b:=w.heap.size) aJ (Qw _ _)
 have aF:=Qq bC;have bU:=Qq bX
 rw [aJ]
 have cC:=aG.o W1 bC
 clear aJ bC bX
 refine cC.mono ?_
 rintro e w2 ⟨p,cap,rvs,rfl,I,cA⟩
 obtain ⟨g,dE,hv,dL,dM⟩:=I.row.form (by rw [HN.o];omega)
 simp only [Qr] at hv
 obtain ⟨rfl,-,rfl⟩:=hv
 obtain ⟨bH,aB⟩:∃ bH,rvs[i]?=some bH:=⟨_,Qx (by rw [I.len,HN.o];exact cF)⟩
 obtain ⟨css,A⟩:=I.rows i o bH HO.o aB
 obtain ⟨aD,aC,rfl⟩:=A.form
 obtain ⟨bR,bJ,G⟩:=Im I cA aB
 have bO:=Qq (aH.o _ w2 (I.sl (by rw [HN.o];omega) (λr hr=>by have:=bQ.o r hr;omega) _ (λ_ _=>trivial) (λ_ _ _=>trivial)))
 clear I cA A aB cC aG aH
 go_wp2_with fail
 refine bO.o.mono ?_
 rintro e w3 ⟨rfl,aN⟩
 have U:=bR.o.below aN
 have aL:=kB aN (kE bJ.o (Z8 bU.o) bU.o)
 obtain ⟨aI,D,-,J⟩:=U.at HO.o G.o
 have c1:=Qk _ _ (i*2+1) _ _ _ D
 rw [J] at c1
 obtain ⟨css,A⟩:=U.rows i o _ HO.o G.o
 have aU:=Qq (aF.o.trans ((bJ.o.n aN).mono aF.o.size))
 have cQ:=Qq (HB.o _ w3 aU.o (A.sl Ia (λ_ _=>trivial) (λ_ _ _=>trivial)) (λj u hu=>by rw [Qk _ _ j _ _ _ aL];simpa using hu) (Z8 aL))
 have bS:=Qq U;have cW:=Qq aL
 clear U aL D J A aN aI HB
 go_wp2_with fail
 refine cQ.o.mono ?_
 rintro e w4 ⟨rfl,aO⟩
 have V:=bS.o.below aO
 have aM:=kB aO cW.o
 obtain ⟨aI,D,-,J⟩:=V.at HO.o G.o
 have c4:=Qk _ _ (i*2+1) _ _ _ D
 rw [J] at c4
 obtain ⟨css,A⟩:=V.rows i o _ HO.o G.o
 have aV:=Qq (aU.o.n aO)
 have cU:=Qq (HI.o _ w4 aV.o (A.sl Ia (λ_ _=>trivial) (λ_ _ _=>trivial)) (λj u hu=>by rw [Qk _ _ j _ _ _ aM];simpa using hu) (Z8 aM))
 have bT:=Qq V;have cX:=Qq aM
 clear V aM D J A aO aI HI c1
 go_wp2_with fail
 refine cU.o.mono ?_
 rintro e w5 ⟨rfl,aP⟩
 have N:=bT.o.below aP
 have O:=kB aP cX.o
 obtain ⟨aI,D,-,J⟩:=N.at HO.o G.o
 have c5:=Qk _ _ (i*2+1) _ _ _ D
 rw [J] at c5
 have x0:=AB O;have x1:=AA O;have x2:=AM O;have dR:=AH O;have dS:=Iz O
 obtain ⟨css,A⟩:=N.rows i o _ HO.o G.o
 have aW:=Qq (aV.o.n aP)
 have cE:=Z8 D
 have dJ:=Z8 O
 have cI:g≠w5.heap.size:=Ia
 have dF:w.heap.size≠w5.heap.size:=Ia
 have cJ:some g≠(Value.slice aD o.rows.length aC).ownBlock:=λe=>Yl N.row A.row Ih rfl e.symm
 obtain ⟨M,T,bL,cR⟩:=It N A D J
 have cL:Z9 (But (Ll (.slice (some ⟨g,0,none⟩) n cap) rvs) (.slice aD o.rows.length aC)) w5 (Is x x3 aS x4 aT) x:=by
  refine HX.o.move (.f aW.o) (λb _ hb=>?_)
  have dK:b<w.heap.size:=hb
  have dH:=aF.o.size
  refine ⟨⟨λe=>?_,λu hu e=>?_⟩,λe=>?_⟩
  ·have:g=b:=Qb e
   omega
  ·obtain ⟨j,hj⟩:=Zk hu
   obtain ⟨y,hy⟩:∃ y,l[j]?=some y:=⟨_,Qx (by rw [<- M.o.len];exact (Qj hj).1)⟩
   obtain ⟨_,bF⟩:=M.o.rows j y u hy hj
   have:=(bF.row.lt b e).1
   omega
  have:=(T.o.row.lt b e.symm).1
  omega
 have cY:=Qq cL
 clear N O D J A aP cL c4
 obtain ⟨W8,aK⟩:=eX ((w5.alloc (.cells (Is x x3 aS x4 aT) 36)).drew)
 have Y:Below w5 w5 W8:=by rw [<- aK];exact (Zg _ _).drew
 have bB:W8.heap[w5.heap.size]?=some (.cells (Is x x3 aS x4 aT) 36 (0,0)):=by rw [<- aK,heap_drew];exact Qw _ _
 have bA:W8=w5.heap.size+1:=by rw [<- aK];simp
 have bY:Sl Zc (But (Ll (.slice (some ⟨g,0,none⟩) n cap) rvs) (.slice aD o.rows.length aC)) W8 (.slice (some ⟨w5,0,none⟩) 1 1) [x]:=by
  refine ⟨_,1,rfl,Ib,λ_=>⟨w5.heap.size,0,rfl,?_,Z8 bB,λj u hj=>?_⟩⟩
  ·refine ⟨⟨λe=>?_,λu hu e=>?_⟩,λe=>?_⟩
   ·exact cI (Qb e)
   ·obtain ⟨j,hj⟩:=Zk hu
    obtain ⟨y,hy⟩:∃ y,l[j]?=some y:=⟨_,Qx (by rw [<- M.o.len];exact (Qj hj).1)⟩
    obtain ⟨_,bF⟩:=M.o.rows j y u hy hj
    have:=(bF.row.lt _ e).2
    omega
   have:=(T.o.row.lt _ e.symm).2
   omega
  have h0:=(Qj hj).1
  simp at h0
  subst h0
  simp at hj
  subst hj
  refine ⟨_,λj u hu=>?_,cY.o.move (.f Y) Ij⟩
  rw [Nat.zero_mul,Nat.zero_add,Qk _ _ j _ _ _ bB]
  simpa using hu
 have bN:=Qq (insEnd _ W1 W8 (.slice aD o.rows.length aC) o.rows css x (some ⟨w5,0,none⟩) 1 (T.o.below Y) bY Ia Ia)
 have cS:=Qq (λ(w6:World) (hg:W8.grownBy w6 (Value.slice aD o.rows.length aC).ownBlock)=>(hg.block g Ia cJ).trans ((Y.block g cE).trans bL.o))
 have c8:=kD Y cE c5
 have bK:=Qq Y;have dD:=Qq bA
 have dG:=Qq aK
 clear bY bB Y bA
 go_wp2_with fail
 go_region_with (first | (go_at_call 62;refine bN.o.mono ?_;rintro e w6 ⟨p6,c6,bV,rfl,Z,bE,bZ⟩;have bD:=cS.o w6 bE;have f6:=Qn _ _ (i*2+1) _ _ bD;have k6:=Qk _ _ (i*2+1) _ _ _ bD;rw [cR.o] at k6;obtain ⟨cV,bM,cO⟩:=Im Z bE bZ;clear bD Z bE bZ))
 all_goals
  go_wp2_with fail
  go_ret
  have Z:=cV.o;have bW:=cO.o
  simp only [Ql,List.length_cons,List.length_nil,Nat.zero_add] at Z bW
  have hP:=(M.o.below bK.o).put' HN.o HO.o G.o ⟨bV,Z⟩ bM.o (by
   rcases bW with h | h
   ·exact .inl h
   exact .inr λg' e=>by rw [h] at e;exact Nat.le_of_eq (Qb e))
  have aA:(l.set i ⟨o.table,o.rows++[x]⟩).length=n:=by rw [List.length_set];exact HN.o
  have dB:∀ r ∈ l.set i ⟨o.table,o.rows++[x]⟩,r.rows.length<=1000000:=by
   intro r hr
   rcases List.mem_or_eq_of_mem_set hr with h | rfl
   ·have:=bQ.o r h;omega
   simp;omega
  refine ⟨some ⟨g,0,none⟩,cap,by rw [aA];rfl,by rw [aA];exact hP.sl (by rw [aA];exact cH) dB _ (λ_ _=>trivial) (λ_ _ _=>trivial),?_⟩
  have cB:=aW.o.n bK.o
  have dI:=aF.o.size
  refine (cB.grown bM.o cB.size (λb hb=>?_)).setCell (p:=⟨g,i*2+1,none⟩) (by show w<=g;omega) _
  have:=(T.o.row.lt b hb).1
  omega
def AllAt (S:Nat->Prop) (w:World) (n:Nat):Option (List Val)->Ending->World->Prop
 | some vs=>λe w'=>∃ p cap css,e=.returned (.slice p n cap)/\Own Zc 36 S w.heap.size w' (.slice p n cap) vs css/\vs.length=n/\Below w.heap.size w w'
 | none=>Ep w
theorem O7 (V:Nat) (S0 S':Nat->Prop) (kp:Option Addr) (kc:Nat) (kids:List Ex) (p:Value) (env:List (Bs × Val)) (f:Ex->Option Val) (w:World) (hk:Sl Vz S' w (.slice kp kids.length kc) kids) (hV:w.cell? ⟨V,0,none⟩=some p)
  (hSn:∀ b,w.heap.size<=b->S0 b) (hkw:Xs w) (he0:Xy S0 w p env) (hev:∀ e ∈ kids,EvO e env (f e)):Calls prog 133 #[.slice kp kids.length kc,Iv V] w (AllAt S0 w kids.length (J2 f kids)):=by
 obtain ⟨i0,j1,j2,j3,j4⟩:=Y8 (P:=prog) (t:=36) (z:=.agg zV) (n:=5) (b:=80) Ir
 obtain ⟨HJ,aP,aQ,aR⟩:=It j1 j2 j3 j4
 clear j1 j2 j3 j4
 obtain ⟨q,rfl⟩:=he0.ptr
 have he:Xy (λb=>S0 b/\b<w.heap.size) w (.pointer q) env:=he0.move (.refl _ _) (λb hb h=>⟨h,hb⟩)
 have bE:kids.length<=1000000:=by obtain ⟨_,_,_,h⟩:=hk.len;exact h
 obtain ⟨m,hm⟩:=eX (kids.length)
 obtain ⟨R,hR⟩:=eX (J2 f kids)
 rw [hR]
 obtain ⟨HK,HE,aX,aS,aN,HR,aZ⟩:=BN hk he hSn hkw hev hR hV
 rw [hm] at bE HK |-
 have HM:=Qq hm
 clear hk he he0 hSn hev hR hV hm hkw
 go_enter func133,ntmps133
 go_wp2_with fail
 go_loopw [4,9] (λo i wr=>∃ (k:Nat) (l:List Val) (Z:Option Addr) (cap:Nat),k<=m/\i=.int .i64 k/\o=.slice Z k cap/\l.length=k/\Aside (J2 f (kids.take k)=some l)/\Below w w wr/\(∃ css,Own Zc 36 S0 w wr (.slice Z k cap) l css)) (λ_ i _=>m - (intOf i).toNat)
 case atStart=>exact ⟨0,[],none,0,Q8 _,rfl,rfl,rfl,rfl,Qz _ _,[],Own.nil _ _ _ _ _⟩
 obtain ⟨k,l,Z,cap,bZ,rfl,rfl,aJ,hA,aE,css,hO⟩:=hrel
 obtain ⟨N,HO,HA,O⟩:=It aE hO hA.o aJ
 clear aE hO hA aJ
 by_cases hlt:k<m
 ·have bX:(0:Int)<=(k:Int):=Ia
  have bY:(k:Int)<(m:Int):=Ia
  have M:k<kids.length:=by rw [HM.o];exact hlt
  obtain ⟨x,hx⟩:∃ x,kids[k]?=some x:=⟨_,Qx M⟩
  have aL:kids.take (k+1)=kids.take k++[x]:=by rw [Zz M];rw [Qx M] at hx;cases hx;rfl
  obtain ⟨xb,bL,cs,bF,cB,_,_,hr,D⟩:=HK.o.elem hx
  subst bF
  obtain ⟨ek,bV,en,bW,bS,bP,bM,bT,bQ,bN,bU,bR,bO,ea,ez,J⟩:=Yx.cells (show Yx S' w cs x from hr)
  subst J
  have I:∀ {b j:Nat} {u:Value},w.cell? ⟨b,j,none⟩=some u->wr.cell? ⟨b,j,none⟩=some u:=λD=>kC N.o D
  have d0:=I (D 0 _ rfl)
  have d1:=I (D 1 _ rfl)
  have d2:=I (D 2 _ rfl)
  have d3:=I (D 3 _ rfl)
  have d4:=I (D 4 _ rfl)
  have d5:=I (D 5 _ rfl)
  have d6:=I (D 6 _ rfl)
  have d7:=I (D 7 _ rfl)
  have d8:=I (D 8 _ rfl)
  simp only [show Vz.k=9 from rfl,Nat.add_zero] at d0 d1 d2 d3 d4 d5 d6 d7 d8
  obtain ⟨HX,aY,aO,aW⟩:=It hx aL hr (aN.o x (Qy hx))
  clear hx aL M D I hr
  go_upto_region 5 with fail
  generalize U:World.alloc wr _=w1
  have Y:=Iq U (Zg _ _)
  have aH:=Ik (b:=wr.heap.size) U (Qw _ _)
  obtain ⟨z0,z1,z2,z3,z4,z5,z6,z7,z8⟩:=AC aH
  have A:=Qq (N.o.n Y)
  have hv:=kC A.o aZ.o
  have G:=HO.o.below Y
  have T:=Qq G
  have aK:=A.o.size
  have HC:=Qq (aW.o (But S0 (.slice Z k cap)) S' _ (.pointer q) w1 (λb hb=>⟨aX.o b Ia,λe=>by have:=(T.o.row.lt b e.symm).2;omega⟩) (aS.o.below A.o) (Yx.move aO.o (.f A.o) Ij) (HE.o.move (.f A.o) (λb _ h=>⟨h.1,λe=>by have:=(T.o.row.lt b e.symm).1;have:=h.2;omega⟩)))
  clear U aH Y G d0 d1 d2 d3 d4 d5 d6 d7 d8
  cases hfx:f x with
  | none=>
   rw [hfx] at HC
   have bD:none=R:=by rw [<- HR.o];exact (Ba f x hfx kids (Qy HX.o)).symm
   subst bD
   clear hfx
   go_wp2_with (go_at_call 91;refine HC.o.mono ?_;rintro e w5 ⟨rfl,hb⟩)
   exact ⟨rfl,rfl,A.o.n hb⟩
  | some u=>
   rw [hfx] at HC
   have HF:=Qq hfx
   clear hfx
   have cA:w.heap.size<=w1.heap.size:=aK
   go_wp2_with (first
    | (at_builtin;refine Yo (r:=Zc) Ih rfl (.tmp 13) (.tmp 17) _ rfl 36 i0 (.agg zV) 80 underlying34 HJ.o aP.o aQ.o aR.o rfl Ia S0 w w5 (.slice Z k cap) l css (Is u a3 bA a4 bB) u rfl aU.o rfl HU.o (by simp [Value.oneCell']) k O.o Ia Ia ?_;intro p7 aC aD w7 aG aF;have aV:=Qq aG;have aT:=Qq aF;clear aG aF)
    | (go_at_call 91;refine HC.o.mono ?_;rintro e w5 ⟨cu,rfl,hu,hb⟩;obtain ⟨a3,bA,a4,bB,J,_⟩:=Z9.cells hu;simp only [Il] at J;subst J;obtain ⟨HU,aM,aU⟩:=Im hu hb (T.o.below hb);have bK:=hb.size;clear hu hb;clear HC))
   go_roundw
   case measure=>simp [intOf];omega
   case rel=>
    refine ⟨k+1,l++[u],p7,aC,Ia,by go_num,rfl,by have:=O.o;simp [this],(show Aside _ from ?_),(A.o.n aM.o).trans aT.o.below,aD,aV.o⟩
    have:J2 f (kids.take (k+1))=some (l++[u]):=by rw [aY.o];exact Bm f x u HF.o _ _ HA.o
    exact this
 have aI:k=m:=Ia
 subst aI
 have bI:some l=R:=by rw [<- HR.o,<- HA.o,Zj (by rw [HM.o];exact Q9 _)]
 subst bI
 go_wp2_with fail
 go_ret
 exact ⟨Z,cap,css,rfl,HO.o,O.o,N.o⟩
end Go.Proofs.YtdpibdpbgokmoaaGreatDoor
