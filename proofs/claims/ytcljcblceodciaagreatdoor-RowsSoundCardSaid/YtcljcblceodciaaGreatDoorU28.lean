import Derived.Test.YtcljcblceodciaaGreatDoorU26
import Derived.Test.YtcljcblceodciaaGreatDoorU21
set_option maxRecDepth 100000
set_option maxHeartbeats 400000000
namespace Go.Proofs.YtcljcblceodciaaGreatDoor
open Go.RowKit Go.Shelf Go.Lib Tryz
def RKeyIs (S:Nat->Prop) (w:World) (l:List Val) (e:Ending) (w':World):Prop:=∃ p cap,e=.returned (.slice p l.length cap)/\Sl Zd (fun b=>S b\/w<=b) w' (.slice p l.length cap) l/\Below w w w'
def Mv (S:Nat->Prop) (w:World) (u:Val) (b:Bool) (t7 t8:Value) (wx:World):Prop:=
 ∃ G q3 m3 q4 m4,t7=.pointer (some ⟨G,0,none⟩)/\t8=.bool b/\wx.heap[G]?=some (.cells (Cn u q3 m3 q4 m4) 36 (0,0))/\Z9 S wx (vcs u q3 m3 q4 m4) u/\Below w w wx/\w.heap.size<=G
theorem Dt (S S0:Nat->Prop) (t:Tbl) (row:Val) (ct cr:List Value) (w:World) (ht:Zm.R S w ct t) (hr0:Z9 S0 w cr row) (hkl:t.key.length<=1000):
  Calls prog 48 #[ct,cr] w (RKeyIs S0 w ((keyOf t.key row).getD [])):=by
 have hr:Z9 (fun b=>S0 b/\b<w) w cr row:=hr0.move (.refl _ _) (fun b hb h=>⟨h,hb⟩)
 clear hr0
 have HG:=Qq (fun x W (hb:Below w w W)=>Bu _ row cr x W (hr.move (.of_below hb) Qje))
 obtain ⟨cP,cO,cU,bR,dB,dA,k0,dC,n0,dD,cX,cV,cL,cY,n20,cM,cZ,cW,cN,a0,z0,rfl,_,_,aD,_,_⟩:=Zt ht
 obtain ⟨r3,l3,r4,l4,bG,_⟩:=Z9.cells hr
 simp only [vcs] at bG
 subst bG
 unfold tcs
 have HK:=Qq aD
 obtain ⟨i0,j1,j2,j3,j4⟩:=Y7 (P:=prog) (t:=36) (z:=.agg zV) (n:=5) (b:=80) Cd
 obtain ⟨HJ,bY,bZ,cA⟩:=Qjz j1 j2 j3 j4
 clear j1 j2 j3 j4
 clear ht hr aD
 obtain ⟨n,hn⟩:=eX (t.key.length)
 rw [hn] at HK hkl |-
 have HN:=Qq hn
 clear hn
 obtain ⟨r,hr⟩:=eX (keyOf t.key row)
 rw [hr]
 have HR:=Qq hr
 clear hr
 unfold sv at HG
 go_enter func48,ntmps48
 go_wp2_with fail
 generalize aA:(w.alloc _).alloc _=W1
 have bD:=eqB aA (Zu _ _ _)
 have bA:W1.heap[w.heap.size]?=some (.cells (Co t cP cO cU bR dB dA k0 dC n0 dD cX cV cL cY n20 cM cZ cW cN a0 z0) 48 (0,0)):=by rw [<- aA,HN.out];exact Q5 _ _ _
 have bC:=eqH (b:=w.heap.size+1) aA (Q6 _ _ _)
 obtain ⟨bV,cK,aT⟩:=Qjq bD bA bC
 clear aA bD bA bC
 go_loopw [5,6,7,8] (fun o i _ _ wr=>∃ (k:Nat) (l:List Val) (p:Option Addr) (cap:Nat),k<=n/\i=.int .i64 k/\o=.slice p k cap/\l.length=k/\Aside (keyOf (t.key.take k) row=some l)/\Below (w+2) W1 wr /\
  (∃ css,Own Zd 36 (fun b=>(S0 b/\b<w)\/w+2<=b) (w+2) wr (.slice p k cap) l css)) (fun _ i _ _ _=>n - (intOf i).toNat)
 case atStart=>exact ⟨0,[],none,0,Q8 _,rfl,rfl,rfl,rfl,Qz _ _,[],Own.nil _ _ _ _ _⟩
 obtain ⟨k,l,p,cap,dO,rfl,rfl,bK,hE,I,css,hO⟩:=hrel
 have dQ:=Z8 aT.out
 have bB:=kE I C7 cK.out
 have M:=kE I C7 aT.out
 have c2:=Qk _ _ 2 _ _ _ bB;have y0:=rA0 M;have y1:=rA1 M;have y2:=rA2 M;have y3:=rA3 M;have y4:=rA4 M
 simp only [Qf,Qg,Qh,HN.out] at c2
 have bF:Below w w wr:=bV.out.trans (I.mono C7)
 have dP:=I.size
 obtain ⟨bW,Y,HO,HE,Z⟩:=Qjk I bF hO hE.out bK
 clear bB M I bF hO hE bK
 by_cases aL:k<n
 ·have dM:(0:Int)<=(k:Int):=C7
  have dN:(k:Int)<(n:Int):=C7
  have aB:k<t.key.length:=by rw [HN.out];exact aL
  obtain ⟨x,hx⟩:∃ x,t.key[k]?=some x:=⟨_,Qx aB⟩
  have bN:t.key.take (k+1)=t.key.take k++[x]:=by rw [Zz aB];rw [Qx aB] at hx;cases hx;rfl
  obtain ⟨kb,aE,cS,aK,-⟩:=(HK.out.below Y.out).str hx
  subst cS
  have bI:=Qv _ _ aK
  have HX:=Qq hx;have cH:=Qq bN
  clear hx bN aB
  obtain ⟨kc,aC⟩:=eX (bR)
  rw [aC] at c2
  clear aC
  go_upto_region 5 with fail
  obtain ⟨u,hu⟩:=eX ((Yt row x).getD Val.zero)
  obtain ⟨b,hb⟩:=eX ((Yt row x).isSome)
  have HU:=Qq hu;have aG:=Qq hb
  refine let_mvar% ?Lq1:=fun w':World=>Cf w' w 2 (Cg kb aE n kc)/\Qjg w' (w+1) row.kind row.n row.s (.slice r3 row.names.length l3) (.slice r4 row.kids.length l4) (Cf w' kb (aE+k) x/\Below wr wr w');?_
  have HS:∀ w',Below wr wr w'->?Lq1 w':=by
   intro w' h
   have hh:∀ {b j:Nat} {u:Value},b<wr->wr.cell? ⟨b,j,none⟩=some u->w'.cell? ⟨b,j,none⟩=some u:=fun aL hc=>kD h aL hc
   exact ⟨hh C7 c2,hh C7 y0,hh C7 y1,hh C7 y2,hh C7 y3,hh C7 y4,hh bI aK,h⟩
  have A:∀ w',?Lq1 w'->Below wr wr w':=fun w' h=>h.2.2.2.2.2.2.2
  have HA:∀ w' o,?Lq1 w'->?Lq1 (w'.alloc o):=fun w' o h=>HS _ ((A w' h).alloc (A w' h).size o)
  have HP:∀ w' a b c d e,?Lq1 w'->?Lq1 (Zi w' wr a b c d e):=fun w' a b c d e h=>HS _ (Zc (A w' h) (Q9 _))
  unfold Zi at HP
  have HC:=Qq (fun W' (h':?Lq1 W')=>(HG.out x W' (Y.out.thn (A _ h'))).mono (R':=fun e w2=>∃ T N U O,e=.returned (.tuple #[.agg (Cn u T N U O),.bool b])/\Z9 (fun b=>S0 b/\b<w) w2 (vcs u T N U O) u/\Below W' W' w2/\?Lq1 w2) (by
   rintro e w2 ⟨dJ,rfl,h3,h4⟩
   rw [HU.out] at h3
   rw [aG.out]
   obtain ⟨T,N,U,O,cR,_⟩:=Z9.cells h3
   subst cR
   exact ⟨T,N,U,O,rfl,h3,h4,HS _ ((A _ h').thn h4)⟩))
  obtain ⟨aQ,aR,aN,D,aF,aO⟩:=Qjv (HS wr.drew (Qz _ _).drew) (HS wr (Qz _ _)) (fun w' (h:?Lq1 w')=>HS w'.drew (A w' h).drew) A HA HP
  clear HS A HA HP c2 y0 y1 y2 y3 y4 aK hu hb
  go_cut [7,8] from 9 to 31 (fun t7 t8 wx=>Mv (fun b=>S0 b/\b<w) wr u b t7 t8 wx)
  case first=>
   go_region_held3 ?Lq1 (first | with_reducible exact aQ.out | with_reducible exact J | with_reducible exact aN.out _ (aF.out _ _ aR.out) | with_reducible exact aF.out _ _ J | with_reducible exact aO.out _ _ _ _ _ _ J)
    (first
     | (go_at_call 49;refine (HC.out _ Ce).mono ?_;rintro e w2 ⟨T,N,U,O,rfl,bO,aI,J⟩;(try (have r2:w2.heap[wr.heap.size]?=some (.cells zV 36 (0,0)):=(aI.block wr Ca).trans (Qw wr _);obtain ⟨y0,y1,y2,y3,y4⟩:=row5 r2;obtain ⟨g0,g1,g2,g3,g4⟩:=frz5 r2;have aP:=Qq r2;clear r2));have aS:=Qq bO;have dH:=Qq aI;clear bO aI))
   all_goals
    go_wp2_with fail
    go_meet
    first
     | (have h9:=aP.out;clear h9;exact ⟨wr.heap.size,T,N,U,O,rfl,rfl,Yw aP.out,Z9.move aS.out (fun b hb _=>Zf (by have:=hb.2;omega)) Qje,Zc (D.out _ J) (Q9 _),Q9 _⟩)
     | exact ⟨w2.heap.size,T,N,U,O,rfl,rfl,Qw _ _,Z9.move aS.out (.of_below (Zg _ _)) Qje,(D.out _ J).thn (Zg _ _),(D.out _ J).size⟩
  obtain ⟨G,T,N,U,O,rfl,rfl,hG,bP,bE,dK⟩:=hcut
  obtain ⟨dI,cJ,V⟩:=Qjq hG bP bE
  have dL:=Z8 hG
  clear HC aQ aR aN D aF aO
  obtain ⟨g0,g1,g2,g3,g4⟩:=row5 hG
  clear hG bP bE
  cases b with
  | false=>
   have bL:Yt row x=none:=by have:=aG.out;cases hq:Yt row x with
    | none=>rfl
    | some _=>rw [hq] at this;cases this
   have hr0:r=none:=by rw [<- HR.out];exact Ef (Qy HX.out) bL
   subst hr0
   clear bL
   go_wp2_with fail
   go_ret
   exact ⟨none,0,rfl,Sl.nil _ _ _,Y.out.thn V.out⟩
  | true=>
   have bH:Yt row x=some u:=by
    have h1:=aG.out;have h2:=HU.out
    cases hq:Yt row x with
    | none=>rw [hq] at h1;cases h1
    | some v=>rw [hq] at h2;rw [<- h2];rfl
   have bX:=Qq bH
   clear bH
   have aX:=HO.out.below V.out
   have aZ:Zd.R (But (fun b=>(S0 b/\b<w)\/w+2<=b) (.slice p k cap)) wc (Cn u T N U O) u:=Z9.move cJ.out (.refl _ _) (fun b _ hb=>⟨.inl hb,fun e=>by
    have:=(HO.out.row.lt b e.symm).1
    have:=hb.2
    omega⟩)
   have cD:=Qq aX;have cI:=Qq aZ
   have dG:=V.out.size
   clear aX aZ
   go_wp2_with (at_builtin;refine Yg (r:=Zd) Cc rfl (.tmp 28) (.tmp 30) _ rfl 36 i0 (.agg zV) 80 underlying34 HJ.out bY.out bZ.out cA.out rfl C7 (fun b=>(S0 b/\b<w)\/w+2<=b) (w+2) wc (.slice p k cap) l css (Cn u T N U O) u rfl cD.out rfl cI.out (by simp [Value.oneCell']) k Z.out C7 C7 ?_;intro p7 aU aV w7 aY aW;have cE:=Qq aY;have cB:=Qq aW;clear aY aW)
   go_roundw
   case measure=>simp [intOf];omega
   case rel=>
    refine ⟨k+1,l++[u],p7,aU,C7,by go_num,rfl,by have:=Z.out;simp [this],(show Aside _ from ?_),(bW.out.trans (V.out.mono C7)).trans cB.out.below,aV,cE.out⟩
    have:keyOf (t.key.take (k+1)) row=some (l++[u]):=by rw [cH.out,Bd,HE.out,bX.out]
    exact this
 have bJ:k=n:=C7
 subst bJ
 have bM:r=some l:=by
  rw [<- HR.out,<- HE.out,Zj (by rw [HN.out];exact Q9 _)]
 have cG:=Qq bM
 clear bM
 go_wp2_with fail
 go_ret
 unfold RKeyIs
 rw [cG.out,Option.getD_some,Z.out]
 exact ⟨p,cap,rfl,HO.out.sl (C8 Z.out) (fun b hb=>.inr C7) (fun b _ hb=>by
  rcases hb with h | h
  ·exact .inl h.1
  exact .inr C7),Y.out⟩
def Jc (f:Ex->Option Val):List Ex->Option (List Val)
 | []=>some []
 | e::es=>match f e,Jc f es with
  | some v,some vs=>some (v::vs)
  | _,_=>none
theorem Lw (f:Ex->Option Val) (e:Ex) (v:Val) (hv:f e=some v):∀ (es:List Ex) (l:List Val),Jc f es=some l->Jc f (es++[e])=some (l++[v])
 | [],l,h=>by simp only [Jc,Zv] at h;subst h;simp [Jc,hv]
 | x::es,l,h=>by
  simp only [Jc] at h
  cases hx:f x with
  | none=>rw [hx] at h;cases h
  | some u=>
   cases hs:Jc f es with
   | none=>rw [hx,hs] at h;cases h
   | some vs=>
    rw [hx,hs] at h
    simp only [Zv] at h
    subst h
    simp [Jc,hx,Lw f e v hv es vs hs]
theorem Le (f:Ex->Option Val) (e:Ex) (hv:f e=none):∀ (es:List Ex),e ∈ es->Jc f es=none
 | [],h=>by cases h
 | x::es,h=>by
  rcases Z3.1 h with rfl | h
  ·simp [Jc,hv]
  simp only [Jc,Le f e hv es h];cases f x <;> rfl
def AllAt (S:Nat->Prop) (w:World) (n:Nat):Option (List Val)->Ending->World->Prop
 | some vs=>fun e w'=>∃ p cap css,e=.returned (.slice p n cap)/\Own Zd 36 S w.heap.size w' (.slice p n cap) vs css/\vs.length=n/\Below w.heap.size w w'
 | none=>Gt w
theorem Ml (V:Nat) (S0 S':Nat->Prop) (kp:Option Addr) (kc:Nat) (kids:List Ex) (p:Value) (env:List (Bs × Val)) (f:Ex->Option Val) (w:World) (hk:Sl Xp S' w (.slice kp kids.length kc) kids) (hV:w.cell? ⟨V,0,none⟩=some p)
  (hSn:∀ b,w.heap.size<=b->S0 b) (hkw:Xh w) (he0:Xk S0 w p env) (hev:∀ e ∈ kids,EvO e env (f e)):Calls prog 141 #[.slice kp kids.length kc,Ch V] w (AllAt S0 w kids.length (Jc f kids)):=by
 obtain ⟨i0,j1,j2,j3,j4⟩:=Y7 (P:=prog) (t:=36) (z:=.agg zV) (n:=5) (b:=80) Cd
 obtain ⟨HJ,aP,aQ,aR⟩:=Qjz j1 j2 j3 j4
 clear j1 j2 j3 j4
 obtain ⟨q,rfl⟩:=he0.ptr
 have he:Xk (fun b=>S0 b/\b<w.heap.size) w (.pointer q) env:=he0.move (.refl _ _) (fun b hb h=>⟨h,hb⟩)
 have bE:kids.length<=1000000:=by obtain ⟨_,_,_,h⟩:=hk.len;exact h
 obtain ⟨m,hm⟩:=eX (kids.length)
 obtain ⟨R,hR⟩:=eX (Jc f kids)
 rw [hR]
 obtain ⟨HK,HE,aX,aS,aN,HR,aZ⟩:=Qjx hk he hSn hkw hev hR hV
 rw [hm] at bE HK |-
 have HM:=Qq hm
 clear hk he he0 hSn hev hR hV hm hkw
 go_enter func141,ntmps141
 go_wp2_with fail
 go_loopw [4,9] (fun o i wr=>∃ (k:Nat) (l:List Val) (Z:Option Addr) (cap:Nat),k<=m/\i=.int .i64 k/\o=.slice Z k cap/\l.length=k/\Aside (Jc f (kids.take k)=some l)/\Below w w wr/\(∃ css,Own Zd 36 S0 w wr (.slice Z k cap) l css)) (fun _ i _=>m - (intOf i).toNat)
 case atStart=>exact ⟨0,[],none,0,Q8 _,rfl,rfl,rfl,rfl,Qz _ _,[],Own.nil _ _ _ _ _⟩
 obtain ⟨k,l,Z,cap,bZ,rfl,rfl,aJ,hA,aE,css,hO⟩:=hrel
 obtain ⟨N,HO,HA,O⟩:=Qjz aE hO hA.out aJ
 clear aE hO hA aJ
 by_cases hlt:k<m
 ·have bX:(0:Int)<=(k:Int):=C7
  have bY:(k:Int)<(m:Int):=C7
  have M:k<kids.length:=by rw [HM.out];exact hlt
  obtain ⟨x,hx⟩:∃ x,kids[k]?=some x:=⟨_,Qx M⟩
  have aL:kids.take (k+1)=kids.take k++[x]:=by rw [Zz M];rw [Qx M] at hx;cases hx;rfl
  obtain ⟨xb,bL,cs,bF,cB,_,_,hr,D⟩:=HK.out.elem hx
  subst bF
  obtain ⟨ek,bV,en,bW,bS,bP,bM,bT,bQ,bN,bU,bR,bO,ea,ez,J⟩:=Yx.cells (show Yx S' w cs x from hr)
  subst J
  have I:∀ {b j:Nat} {u:Value},w.cell? ⟨b,j,none⟩=some u->wr.cell? ⟨b,j,none⟩=some u:=fun D=>kC N.out D
  have d0:=I (D 0 _ rfl)
  have d1:=I (D 1 _ rfl)
  have d2:=I (D 2 _ rfl)
  have d3:=I (D 3 _ rfl)
  have d4:=I (D 4 _ rfl)
  have d5:=I (D 5 _ rfl)
  have d6:=I (D 6 _ rfl)
  have d7:=I (D 7 _ rfl)
  have d8:=I (D 8 _ rfl)
  simp only [show Xp.k=9 from rfl,Nat.add_zero] at d0 d1 d2 d3 d4 d5 d6 d7 d8
  obtain ⟨HX,aY,aO,aW⟩:=Qjz hx aL hr (aN.out x (Qy hx))
  clear hx aL M D I hr
  go_upto_region 5 with fail
  generalize U:World.alloc wr _=w1
  have Y:=eqB U (Zg _ _)
  have aH:=eqH (b:=wr.heap.size) U (Qw _ _)
  obtain ⟨z0,z1,z2,z3,z4,z5,z6,z7,z8⟩:=row9 aH
  have A:=Qq (N.out.thn Y)
  have hv:=kC A.out aZ.out
  have G:=HO.out.below Y
  have T:=Qq G
  have aK:=A.out.size
  have HC:=Qq (aW.out (But S0 (.slice Z k cap)) S' _ (.pointer q) w1 (fun b hb=>⟨aX.out b C7,fun e=>by have:=(T.out.row.lt b e.symm).2;omega⟩) (aS.out.below A.out) (Yx.move aO.out (.of_below A.out) Qje) (HE.out.move (.of_below A.out) (fun b _ h=>⟨h.1,fun e=>by have:=(T.out.row.lt b e.symm).1;have:=h.2;omega⟩)))
  clear U aH Y G d0 d1 d2 d3 d4 d5 d6 d7 d8
  cases hfx:f x with
  | none=>
   rw [hfx] at HC
   have bD:none=R:=by rw [<- HR.out];exact (Le f x hfx kids (Qy HX.out)).symm
   subst bD
   clear hfx
   go_wp2_with (go_at_call 103;refine HC.out.mono ?_;rintro e w5 ⟨rfl,hb⟩)
   exact ⟨rfl,rfl,A.out.thn hb⟩
  | some u=>
   rw [hfx] at HC
   have HF:=Qq hfx
   clear hfx
   have cA:w.heap.size<=w1.heap.size:=aK
   go_wp2_with (first
    | (at_builtin;refine Yg (r:=Zd) Cc rfl (.tmp 13) (.tmp 17) _ rfl 36 i0 (.agg zV) 80 underlying34 HJ.out aP.out aQ.out aR.out rfl C7 S0 w w5 (.slice Z k cap) l css (Cn u a3 bA a4 bB) u rfl aU.out rfl HU.out (by simp [Value.oneCell']) k O.out C7 C7 ?_;intro p7 aC aD w7 aG aF;have aV:=Qq aG;have aT:=Qq aF;clear aG aF)
    | (go_at_call 103;refine HC.out.mono ?_;rintro e w5 ⟨cu,rfl,hu,hb⟩;obtain ⟨a3,bA,a4,bB,J,_⟩:=Z9.cells hu;simp only [vcs] at J;subst J;obtain ⟨HU,aM,aU⟩:=Qjq hu hb (T.out.below hb);have bK:=hb.size;clear hu hb;clear HC))
   go_roundw
   case measure=>simp [intOf];omega
   case rel=>
    refine ⟨k+1,l++[u],p7,aC,C7,by go_num,rfl,by have:=O.out;simp [this],(show Aside _ from ?_),(A.out.thn aM.out).trans aT.out.below,aD,aV.out⟩
    have:Jc f (kids.take (k+1))=some (l++[u]):=by rw [aY.out];exact Lw f x u HF.out _ _ HA.out
    exact this
 have aI:k=m:=C7
 subst aI
 have bI:some l=R:=by rw [<- HR.out,<- HA.out,Zj (by rw [HM.out];exact Q9 _)]
 subst bI
 go_wp2_with fail
 go_ret
 exact ⟨Z,cap,css,rfl,HO.out,O.out,N.out⟩
theorem Own.wide {T:Type} {r:Rd T} {E:TypeId} {S S':Nat->Prop} {B:Nat} {w:World} {v:Value} {xs:List T} {css:List (List Value)} (h:Own r E S B w v xs css) (hS:∀ b,b<w.heap.size->S b->S' b):Own r E S' B w v xs css:=
 ⟨h.row,h.cs.move (.refl _ _) (fun b hb h=>⟨hS b hb h.1,h.2⟩)⟩
def CloneOwn (k n:Int) (s:Bs) (ns:List Bs) (ks:List Val) (w:World) (e:Ending) (w':World):Prop:=
 ∃ np ncap kp kcap css,e=.returned (.agg #[k,n,s,.slice np ns.length ncap,.slice kp ks.length kcap])/\Own Zd 36 (fun b=>w<=b) w w' (.slice kp ks.length kcap) ks css/\Below w w w'/\Sl Zh (fun b=>w<=b/\some b≠(Value.slice kp ks.length kcap).ownBlock) w' (.slice np ns.length ncap) ns
theorem cloneOwn (k n:Int) (s:Bs) (ns:List Bs) (ks:List Val) (S0:Nat->Prop) (cs:List Value) (w:World) (hx0:Z9 S0 w cs (.mk k n s ns ks)):Calls prog 70 #[cs] w (CloneOwn k n s ns ks w):=by
 have ih:∀ x ∈ ks,B7 x:=fun x _=>Fj x
 have hx:Z9 (fun b=>b<w) w cs (.mk k n s ns ks):=hx0.move (.refl _ _) (fun b hb _=>hb)
 clear hx0
 obtain ⟨nv,kv,rfl,hs,hn,hk⟩:=Vg.1 hx
 have cP:ns.length<=1000000:=by obtain ⟨_,_,_,h⟩:=hn.len;exact h
 have dZ:ks.length<=1000000:=by obtain ⟨_,_,_,h⟩:=hk.len;exact h
 obtain ⟨HN,HK,HI⟩:=Qjq hn hk ih
 clear hx hn hk ih
 unfold sv
 go_enter func70,ntmps70
 go_upto_region 1 with fail
 go_cut [12] (fun _ wx=>∃ np I kp A U,Jx w k n s ns ks np I kp A U 0 wx/\Cs Zd (fun b=>b<w) w U ks)
 case first=>
  go_region_with (first | (go_at_call 73;refine (Hq _ nv ns _ (HN.out.below (by first | exact (Zu _ _ _).drew | exact (Zu _ _ _).drew.thn aP.out | exact (Zu _ _ _).drew.thn aQ.out))).mono ?_;rintro e w1 ⟨np,I,eA,rfl,bK,aL⟩;obtain ⟨aE,aG⟩:=Hw aL;have cR:=aL.size;have aP:=Qq aL;have cB:=Qq bK;clear aL bK;(try simp at cR);have cM:w.heap.size<w1.heap.size:=C7;have cO:w.heap.size+1<w1.heap.size:=C7;have dK:w1.cell? ⟨w,3,none⟩=some nv:=(by first | (rw [aE _ _ (by simp;omega)];simp) | (rw [aE _ _ Ce];assumption));have dP:w1.frozen? ⟨w,3,none⟩=false:=(by first | (rw [aG _ _ (by simp;omega)];simp) | (rw [aG _ _ Ce];assumption));have dL:w1.cell? ⟨w,4,none⟩=some kv:=(by first | (rw [aE _ _ (by simp;omega)];simp) | (rw [aE _ _ Ce];assumption));have dQ:w1.frozen? ⟨w,4,none⟩=false:=(by first | (rw [aG _ _ (by simp;omega)];simp) | (rw [aG _ _ Ce];assumption));clear aE aG) | (go_at_call 55;refine (Fc _ kv ks _ (HK.out.below (by first | exact (Zu _ _ _).drew | exact (Zu _ _ _).drew.thn aP.out | exact (Zu _ _ _).drew.thn aQ.out))).mono ?_;rintro e w2 ⟨kp,A,U,rfl,bL,aM⟩;obtain ⟨aF,aH⟩:=Hw aM;have cS:=aM.size;have aQ:=Qq aM;have aS:=Qq bL;clear aM bL;(try simp only [World.size_drew,World.size_alloc] at cS);have dT:w.heap.size<w2.heap.size:=C7;have dX:w.heap.size+1<w2.heap.size:=C7;have dM:w2.cell? ⟨w,3,none⟩=some nv:=(by first | (rw [aF _ _ (by simp;omega)];simp) | (rw [aF _ _ Ce];assumption));have dR:w2.frozen? ⟨w,3,none⟩=false:=(by first | (rw [aH _ _ (by simp;omega)];simp) | (rw [aH _ _ Ce];assumption));have dN:w2.cell? ⟨w,4,none⟩=some kv:=(by first | (rw [aF _ _ (by simp;omega)];simp) | (rw [aF _ _ Ce];assumption));have dS:w2.frozen? ⟨w,4,none⟩=false:=(by first | (rw [aH _ _ (by simp;omega)];simp) | (rw [aH _ _ Ce];assumption));clear aF aH))
  all_goals
   go_wp2_with fail
   go_meet
   have b1:=aP.out
   have b2:=aQ.out
   have bE:=b1.block w (by simp;omega)
   have aO:=b1.block (w+1) Ca
   rw [heap_drew,Q5] at bE
   rw [heap_drew,Q6] at aO
   have cL:=kE b2 cM bE
   have bF:=kE b2 cO aO
   have bH:Below w w w2:=(Zu _ _ _).drew.thn (b1.thn b2)
   refine ⟨np,I,kp,A,U,⟨(bH.setCell (p:=⟨w,3,none⟩) (Q9 _) _).setCell (p:=⟨w,4,none⟩) (Q9 _) _,?_,?_,?_,⟨[],rfl,?_,⟨rfl,fun i c x hc=>by simp at hc⟩⟩⟩,?_⟩
   ·exact Qi _ _ _ _ _ _ (Qi _ _ _ _ _ _ cL)
   ·rw [Za Ca,Za Ca];exact bF
   ·refine ((sl_str cB.out cP Ca).mono (S':=fun b=>w+2<=b/\some b≠(Value.slice kp ks.length A).ownBlock) (fun b hb h=>⟨h,fun e=>?_⟩)).frame (fun b hb aA=>?_)
    ·have:=(aS.out.row.lt b e.symm).1
     omega
    rw [Za (by show b≠w;omega),Za (by show b≠w;omega)]
    exact b2.block b aA
   ·refine Vk aS.out.row C7 (fun b hb aA=>?_)
    rw [Za (by show b≠w;omega),Za (by show b≠w;omega)]
   exact (aS.out.cs.move (S':=fun b=>b<w) (.refl _ _) (fun b _ h=>h.1)).move (fun b hb _=>(bH.block b hb).symm) (fun b _ h=>h)
 obtain ⟨np,I,kp,A,U,T,bD⟩:=hcut
 have HC:=Qq bD;have HM:=Qq T
 obtain ⟨c0,c1,c2,c3,c4⟩:=row5 T.box
 clear bD T
 go_wp2_with fail
 go_loopw [16] (fun i wr=>∃ M:Nat,M<=ks.length/\i=.int .i64 M/\Jx w k n s ns ks np I kp A U M wr) (fun i _=>ks.length - (intOf i).toNat)
 case atStart=>exact ⟨0,Q8 _,rfl,HM.out⟩
 obtain ⟨M,dY,rfl,T⟩:=hrel
 have c0:=Qk _ _ 0 _ _ _ T.box;have c1:=Qk _ _ 1 _ _ _ T.box;have c2:=Qk _ _ 2 _ _ _ T.box;have c3:=Qk _ _ 3 _ _ _ T.box;have c4:=Qk _ _ 4 _ _ _ T.box
 have r0:=Qk _ _ 0 _ _ _ T.res;have r1:=Qk _ _ 1 _ _ _ T.res;have r2:=Qk _ _ 2 _ _ _ T.res;have r3:=Qk _ _ 3 _ _ _ T.res;have r4:=Qk _ _ 4 _ _ _ T.res
 have fr:=fun j=>Qn _ _ j _ _ T.res
 have dD:=(Array.getElem?_eq_some_iff.1 T.res).1
 simp only [Qf,Qg,Qh] at c0 c1 c2 c3 c4 r0 r1 r2 r3 r4
 have Y:=Qq T
 by_cases aA:M<ks.length
 ·obtain ⟨x,hx⟩:∃ x,ks[M]?=some x:=⟨_,Qx aA⟩
  obtain ⟨V,aI,G,D⟩:=T.kids
  obtain ⟨g,cap,bJ,dU,O⟩:=G.form C7
  simp only [Qr] at bJ
  obtain ⟨rfl,-,rfl⟩:=bJ
  obtain ⟨oc,aV⟩:∃ oc,U[M]?=some oc:=⟨_,Qx (by rw [HC.out.len];exact aA)⟩
  have aX:=HC.out.R M oc x aV hx
  obtain ⟨p3,k3,p4,k4,rfl,_⟩:=Z9.cells (show Z9 _ w oc x from aX)
  have aD:∀ y ∈ V++U.drop M,y.length=5:=by
   intro y hy
   rcases Z4.1 hy with h | h
   ·exact D.all y h
   exact HC.out.all y (Zw h)
  have aT:(V++U.drop M)[M]?=some (vcs x p3 k3 p4 k4):=by
   rw [Zx C7,List.getElem?_drop,aI,Nat.sub_self,Nat.add_zero];exact aV
  have J:∀ (j:Nat) u,(vcs x p3 k3 p4 k4)[j]?=some u->wr.cell? ⟨g,M*5+j,none⟩=some u:=by
   intro j u hu
   have h5:j<5:=(Qj hu).1
   rw [G.cellAt _ C7]
   exact Vv aD aT hu
  have d0:=J 0 _ rfl;have d1:=J 1 _ rfl;have d2:=J 2 _ rfl;have d3:=J 3 _ rfl;have d4:=J 4 _ rfl
  rw [Nat.add_zero] at d0
  have fz:=fun j=>G.frozenAt j
  have dV:(0:Int)<=(M:Int):=C7
  have dW:(M:Int)<(ks.length:Int):=C7
  have dE:w.heap.size≠wr.heap.size:=C7
  have dF:w.heap.size+1≠wr.heap.size:=C7
  have dG:g≠wr.heap.size:=C7
  obtain ⟨HX,HV,HA,dH,HR⟩:=Qjk hx aX aD aT G;obtain ⟨dJ,HL,aB,dI⟩:=Qjz D aI fz fr
  clear hx aX aD aT G D aI J aV T fz fr r0 r1 r2 r3 r4 c0 c1 c2 c3
  go_upto_region 5 with fail
  obtain ⟨W5,aK⟩:=eX (wr.alloc (.cells (Cn x p3 k3 p4 k4) 36))
  have aU:=eqB aK (Zg _ _)
  have bM:=eqH (b:=wr.heap.size) aK (Qw _ _)
  rw [aK]
  obtain ⟨x0,x1,x2,x3,x4⟩:=row5 bM
  have c5:=kD aU C7 c4
  have aR:=Qq aU
  have cF:=c4
  clear aK aU bM c4
  go_region_with (first | (go_at_call 70;refine (HI.out x (Qy HX.out) _ (vcs x p3 k3 p4 k4) _ (Z9.move HV.out (.of_below (Y.out.below.thn aR.out.drew)) Qje)).mono ?_;rintro e w4 ⟨dO,rfl,aW,bG⟩;obtain ⟨q3,l3,q4,l4,bI,_⟩:=Z9.cells aW;simp only [vcs] at bI;subst bI;have N:=Qq (aR.out.drew.thn bG);have cC:=Qq aW;clear aW bG;have e4:=kD N.out C7 cF;have g0:=kD N.out O d0;have g1:=kD N.out O d1;have g2:=kD N.out O d2;have g3:=kD N.out O d3;have g4:=kD N.out O d4;have f0:=(N.out.frozen (p:=⟨g,M*5,none⟩) O).trans (aB.out (M*5));have f1:=(N.out.frozen (p:=⟨g,M*5+1,none⟩) O).trans (aB.out (M*5+1));have f2:=(N.out.frozen (p:=⟨g,M*5+2,none⟩) O).trans (aB.out (M*5+2));have f3:=(N.out.frozen (p:=⟨g,M*5+3,none⟩) O).trans (aB.out (M*5+3));have f4:=(N.out.frozen (p:=⟨g,M*5+4,none⟩) O).trans (aB.out (M*5+4))))
  all_goals
   go_wp2_with fail
   go_roundw
   case measure=>simp [intOf];omega
   case rel=>exact ⟨M+1,C7,by go_num,Y.out.next HX.out HC.out N.out (aR.out.size) cC.out⟩
 obtain rfl:M=ks.length:=C7
 obtain ⟨cG,cH,cI,cJ,cK⟩:=Qjw fr
 clear fr
 go_wp2_with fail
 have Z:=Qi _ _ 4 _ _ (.slice kp ks.length A) (Qi _ _ 3 _ _ (.slice np ns.length I) (Qi _ _ 2 _ _ (.string ⟨s.toArray⟩) (Qi _ _ 1 _ _ (.int .i64 n) (Qi _ _ 0 _ _ (.int .i64 k) Y.out.res))))
 have q0:=Qk _ _ 0 _ _ _ Z;have q1:=Qk _ _ 1 _ _ _ Z;have q2:=Qk _ _ 2 _ _ _ Z;have q3:=Qk _ _ 3 _ _ _ Z;have q4:=Qk _ _ 4 _ _ _ Z
 simp only [List.setIfInBounds_toArray,List.set_cons_zero,List.set_cons_succ,Qf,Qg,Qh] at q0 q1 q2 q3 q4
 obtain ⟨V,aI,G,D⟩:=Y.out.kids
 rw [Qu (by rw [HC.out.len];exact Q9 _),List.append_nil] at G
 rw [Zj (Q9 _)] at D
 have bC:Hid (Own Zd 36 (fun b=>w+2<=b) (w+2) wr (.slice kp ks.length A) ks V):=Qq ⟨G,D⟩
 clear aI G D
 obtain ⟨WF,aC⟩:=eX ((((((wr.setCell ⟨w+1,0,none⟩ (.int .i64 k)).setCell ⟨w+1,1,none⟩ (.int .i64 n)).setCell ⟨w+1,2,none⟩ (.string ⟨s.toArray⟩)).setCell ⟨w+1,3,none⟩ (.slice np ns.length I)).setCell ⟨w+1,4,none⟩ (.slice kp ks.length A)))
 rw [aC] at q0 q1 q2 q3 q4 |-
 have cD:=Qq aC
 clear Z aC c0 c1 c2 c3 c4 r0 r1 r2 r3 r4 cG cH cI cJ cK
 refine Q7 (v:=.agg #[k,n,s,.slice np ns.length I,.slice kp ks.length A]) (by simp [results,results70,go_sem,q0,q1,q2,q3,q4]) rfl ⟨np,I,kp,A,V,rfl,?_,?_,?_⟩
 all_goals rw [<- cD.out]
 ·refine bC.out.move C7 (fun b hb h=>?_) |>.wide (fun b _ h=>?_)
  ·exact Xn (by
    rcases h with h | h
    ·have:w.heap.size+2<=b:=h
     omega
    have:=(bC.out.row.lt b h).1
    omega)
  have:w.heap.size+2<=b:=h
  show w<=b
  omega
 ·exact ((((Y.out.below.setCell (p:=⟨w+1,0,none⟩) (Nat.le_succ _) _).setCell (p:=⟨w+1,1,none⟩) (Nat.le_succ _) _).setCell (p:=⟨w+1,2,none⟩) (Nat.le_succ _) _).setCell (p:=⟨w+1,3,none⟩) (Nat.le_succ _) _).setCell (p:=⟨w+1,4,none⟩) (Nat.le_succ _) _
 refine (Y.out.names.frame (fun b hS aA=>?_)).mono (fun b _ hS=>?_)
 ·exact Xn (by have:w.heap.size+2<=b:=hS.1;omega)
 have:w.heap.size+2<=b:=hS.1
 exact ⟨C7,hS.2⟩
theorem Au (g:Nat) (lb:Array Value) (eg:∀ args w,(callFunc g args).run prog w=.ok (.enter g args) w) (S0:Nat->Prop) (o:Bs) (f:Int->Int->Int) (u v:Val) (w:World) (ho:IsAr o f) (hku:u.kind=0) (hkv:v.kind≠0)
  (h0:∀ W,Below w w W->w<W.heap.size->Calls prog g (#[.int .i64 0]++lb) W (Xy S0 W (some u))) (h1:∀ W,Below w w W->w<W.heap.size->Calls prog g (#[.int .i64 1]++lb) W (Xy S0 W (some v))):
  Calls prog 147 #[o,.func (.func g) #[] lb,.int .i64 2] w (Gt w):=by
 obtain ⟨H0,H1,HM⟩:=Qjq h0 h1 X9
 have aG:=Qq (fun (n:Int) (s:ByteArray) (p3 p4:Option Addr) (n3 k3 n4 k4:Nat) W=>of_eq 0 n s p3 p4 n3 k3 n4 k4 W)
 have I:=Qq (fun (s:ByteArray) (p3 p4:Option Addr) (n3 k3 n4 k4:Nat) W=>of_ne 0 v.kind v.n hkv s p3 p4 n3 k3 n4 k4 W)
 have aS:=fun (n:Int) (s:ByteArray) (p3 p4:Option Addr) (n3 k3 n4 k4:Nat) W=>fld1 (.int .i64 0) (.int .i64 n) (.string s) (.slice p3 n3 k3) (.slice p4 n4 k4) W
 have aF:=Qq hku
 clear h0 h1 hku hkv
 rcases ho with ⟨rfl,rfl⟩ | ⟨rfl,rfl⟩ | ⟨rfl,rfl⟩
 all_goals
  go_enter func147,ntmps147
  go_wp2_with (go_at_call 142;refine (HM.out _).mono ?_;rintro e w' ⟨rfl,rfl⟩)
  refine (H0.out _ (Zg _ _) Ca).mono ?_
  rintro e w1 ⟨cu,rfl,hu,U⟩
  obtain ⟨a3,aO,a4,aP,M,_⟩:=Z9.cells hu
  simp only [vcs] at M
  subst M
  obtain ⟨T,aA,HU⟩:=Qjq ((U.block w Ca).trans (Qw w _)) ((Zg w _).thn U) hu
  clear hu U
  go_wp2_with fail
  refine (H1.out _ aA.out (Z8 T.out)).mono ?_
  rintro e w2 ⟨cv,rfl,hv,O⟩
  obtain ⟨b3,aQ,b4,aR,M,_⟩:=Z9.cells hv
  simp only [vcs] at M
  subst M
  have aB:=Qq ((O.block w (Z8 T.out)).trans T.out);have aD:=Qq (aA.out.thn O)
  have aH:=Qq (Z9.move HU.out (.of_below O) Qje);have aI:=Qq hv
  clear hv O
  go_upto_region 10 with fail
  generalize N:(w2.alloc _).alloc _=w4
  have J:=eqB N (Zu _ _ _)
  have V:=eqH (b:=w2.heap.size) N (Q5 _ _ _)
  have Y:=eqH (b:=w2.heap.size+1) N (Q6 _ _ _)
  have aL:=Qq ((J.block w (Z8 aB.out)).trans aB.out);have aE:=Qq (aD.out.thn J)
  have aM:=Qq (Z9.move aH.out (.of_below J) Qje);have aN:=Qq (Z9.move aI.out (.of_below J) Qje)
  have x0:=rA0 V;have y0:=rA0 Y;have x1:=rA1 V;have y1:=rA1 Y;have x2:=rA2 V;have y2:=rA2 Y;have x3:=rA3 V;have y3:=rA3 Y;have x4:=rA4 V;have y4:=rA4 Y
  clear J V Y N
  rw [aF.out] at x0
  go_wp2_with fail
  go_region_dies
  all_goals
   rename_i K A
   refine (aG.out _ _ _ _ _ _ _ _ _).mono ?_
   rintro e w5 ⟨rfl,hb⟩
   have G:=Qq (aE.out.thn ((Qz _ _).drew.thn hb))
   have Z:∀ {b j:Nat} {u:Value},w4.cell? ⟨b,j,none⟩=some u->w5.cell? ⟨b,j,none⟩=some u:=fun hc=>kC ((Qz _ _).drew.thn hb) hc
   replace y0:=Z y0;replace y1:=Z y1;replace y2:=Z y2;replace y3:=Z y3;replace y4:=Z y4
   clear hb Z x0 x1 x2 x3 x4
   dsimp only
   refine A _ _ ?_
   clear A K
   first
   | (
     refine wpAny_ready (rs:=[3,5]) (by decide +kernel) Ca ?_
     refine AllReady.cons rfl (fun K A=>?_) ?_
     ·go_simp
      refine A _ _ ?_
      clear A K
      refine wpAny_ready (rs:=[5]) (by decide +kernel) Ca ?_
      refine AllReady.cons rfl (fun K A=>?_) ?_
      ·go_simp
       refine (I.out _ _ _ _ _ _ _ _).mono ?_
       rintro e w6 ⟨rfl,D⟩
       exact ⟨rfl,rfl,G.out.thn D⟩
      exact AllReady.nil
     refine AllReady.cons rfl (fun K A=>?_) ?_
     ·go_simp
      refine (I.out _ _ _ _ _ _ _ _).mono ?_
      rintro e w6 ⟨rfl,D⟩
      exact ⟨rfl,rfl,G.out.thn D⟩
     exact AllReady.nil)
   | (
     refine wpAny_ready (rs:=[3,4]) (by decide +kernel) Ca ?_
     refine AllReady.cons rfl (fun K A=>?_) ?_
     ·go_simp
      refine A _ _ ?_
      clear A K
      refine wpAny_ready (rs:=[4]) (by decide +kernel) Ca ?_
      refine AllReady.cons rfl (fun K A=>?_) ?_
      ·go_simp
       refine A _ _ ?_
       clear A K
       refine wpAny_ready (rs:=[5]) (by decide +kernel) Ca ?_
       refine AllReady.cons rfl (fun K A=>?_) ?_
       ·go_simp
        refine (I.out _ _ _ _ _ _ _ _).mono ?_
        rintro e w6 ⟨rfl,D⟩
        exact ⟨rfl,rfl,G.out.thn D⟩
       exact AllReady.nil
      exact AllReady.nil
     refine AllReady.cons rfl (fun K A=>?_) ?_
     ·go_simp
      refine A _ _ ?_
      clear A K
      refine wpAny_ready (rs:=[3,5]) (by decide +kernel) Ca ?_
      refine AllReady.cons rfl (fun K A=>?_) ?_
      ·go_simp
       refine A _ _ ?_
       clear A K
       refine wpAny_ready (rs:=[5]) (by decide +kernel) Ca ?_
       refine AllReady.cons rfl (fun K A=>?_) ?_
       ·go_simp
        refine (I.out _ _ _ _ _ _ _ _).mono ?_
        rintro e w6 ⟨rfl,D⟩
        exact ⟨rfl,rfl,G.out.thn D⟩
       exact AllReady.nil
      refine AllReady.cons rfl (fun K A=>?_) ?_
      ·go_simp
       refine (I.out _ _ _ _ _ _ _ _).mono ?_
       rintro e w6 ⟨rfl,D⟩
       exact ⟨rfl,rfl,G.out.thn D⟩
      exact AllReady.nil
     exact AllReady.nil)
end Go.Proofs.YtcljcblceodciaaGreatDoor
