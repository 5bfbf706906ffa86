import Derived.Test.YtdpibdpbgokmoaaGreatDoorA35
set_option maxRecDepth 100000
set_option maxHeartbeats 400000000
namespace Go.Proofs.YtdpibdpbgokmoaaGreatDoor
open Go.RowKit Go.Shelf Go.Lib Tryz
def listR:Option (List Val)->Option Val
 | some vs=>some (.mk 5 0 [] [] vs)
 | none=>none
theorem ev_list (nm:Bs) (n:Int) (s:Bs) (names binds:List Bs) (kids:List Ex) (a z:Int) (env:List (Bs × Val)) (f:Ex->Option Val) (hlen:kids.length<=4096) (hev:∀ e ∈ kids,EvO e env (f e)):EvO (.mk 9 nm n s names binds kids a z) env (listR (J2 f kids)):=by
 obtain ⟨L,hL⟩:=eX (J2 f kids)
 rw [hL]
 intro S0 S' cs p w O aA Z Y
 have aI:=Qq aA
 clear aA
 have he:Xy (λb=>S0 b/\b<w) w p env:=Y.move (.refl _ _) (λb hb h=>⟨h,hb⟩)
 obtain ⟨nv,bv,kv,rfl,bA,aC,hn,hb,hk⟩:=Yy.1 Z
 obtain ⟨np,nc,rfl,_⟩:=hn.len
 obtain ⟨bp,bc,rfl,_⟩:=hb.len
 obtain ⟨kp,kc,rfl,aT⟩:=hk.len
 obtain ⟨q,rfl⟩:=he.ptr
 obtain ⟨HE,HK,aK,aG⟩:=It he hk hn hb
 obtain ⟨kl,A⟩:=eX (kids.length)
 rw [A] at HK aT
 have N:=Qq A
 clear Z he Y hn hb hk
 unfold sv
 rw [A]
 clear A
 go_enter func91,ntmps91
 go_upto_region 3 with fail
 generalize J:((w.alloc _).alloc _).alloc _=w3
 have D:=Iq J (Xt _ _ _ _)
 have M:=Ik (b:=w.heap.size) J (Zp _ _ _ _)
 have h1:=Ik (b:=w.heap.size+1) J (Zo _ _ _ _)
 have h2:=Ik (b:=w.heap.size+1+1) J (Zi _ _ _ _)
 have bB:w.heap.size+1+1<w3.heap.size:=Z8 h2
 have c0:=AB M;have c1:=AA M;have c2:=AM M;have c3:=AH M;have c4:=Iz M;have c5:=AY M;have c6:=AK M
 obtain ⟨H0,H1,H2,U⟩:=It M h1 h2 D
 have G:=Qq (λW (hW:Below w3 w3 W)=>O7 (w+1) (λb=>S0 b/\b≠w+1+1) S' kp kc kids (.pointer q) env f W (by rw [N.o];exact (HK.o.below D).below hW) ((Qk _ _ 0 _ _ _ (kB hW h1)).trans rfl) (λb hb=>⟨O b (BC D.size hW.size),by have:=hW.size;omega⟩) (aI.o.below (D.n hW)) ((HE.o.move (.f D) Ij).move (.f hW) (λb _ h=>⟨h.1,by have:=h.2;omega⟩)) hev)
 rw [hL,N.o] at G
 have aY:((kl:Int)<=4096):=Ix N.o
 have aZ:kl<=1000000:=Ia
 have HM:=Qq Xf
 have aM:=Qq O
 clear M h1 h2 D J HE HK hev hlen hL c1 c2 c3 c4 c5 aK aG O
 cases L with
 | none=>
  go_wp2_with (first
   | (go_at_call 134;refine (HM.o _).mono ?_;rintro e w' ⟨rfl,rfl⟩)
   | (go_at_call 133;refine (G.o _ (Qz _ _)).mono ?_;rintro e w5 ⟨rfl,hb⟩))
  exact ⟨rfl,rfl,U.o.n hb⟩
 | some vs=>
  go_wp2_with (first
   | (go_at_call 134;refine (HM.o _).mono ?_;rintro e w' ⟨rfl,rfl⟩)
   | (go_at_call 133;refine (G.o _ (Qz _ _)).mono ?_;rintro e w4 ⟨p4,I,aX,rfl,V,aB,T⟩;have aL:=Qq V;have aJ:=Qq aB;clear V aB;have hR:=kB T H2.o;have aF:=Qq (U.o.n T);have HR:=Qq hR;have fz:=λj=>Qn _ _ j _ _ hR;obtain ⟨f0,f1,f2,f3,f4⟩:=Iw fz;have rr:=λj=>Qk _ _ j _ _ _ hR;obtain ⟨r0,r1,r2,r3,r4⟩:=Iw rr;simp only [Qf,Qg,Qh] at r0 r1 r2 r3 r4;clear fz rr T hR))
  show bodyPost _ _ _ _ _ (Zl w4 (w+1+1) (.int .i64 5) Ic Ig Ie (.slice p4 kl I))
  refine Q7 (v:=.agg #[.int .i64 5,Ic,Ig,Ie,.slice p4 kl I]) (by simp [results,results91,go_sem,Ze HR.o]) rfl ⟨_,rfl,?_,Zd aF.o Ia⟩
  have aC:Sl Zc (λb=>S0 b/\b≠w+1+1) w4 (.slice p4 kl I) vs:=aL.o.sl (Ix aJ.o) (λb hb=>⟨aM.o b Ia,Ia⟩) Ij
  exact Yb (s:=[]) Ib (Sl.nil _ _ _) ((aC.frame (λb hb _=>Zf hb.2)).mono (λ_ _ h=>h.1))
structure Gq (t:Tbl):Prop where
 few:t.columns.length<=900
 refs:t.refs.length<=1000
 words:∀ c ∈ t.columns,Vi c.name
 once:(t.columns.map Col.name).Nodup
 types:∀ c ∈ t.columns,K8 c.type\/c.type.kind=3
theorem L7 (l:List Int) (i:Nat) (m:Int) (hm:1<=m):0<=Xk l i m/\Xk l i m<m:=by
 unfold Xk
 split
 ·exact Dh _ m Ia
 omega
theorem Tm (s:Sc) (hsg:Kw s.sums) (t:Ty) (hl:K8 t\/t.kind=3) (n:Int) (hn0:0<=n) (hn1:n<=1000000) (S0 S1:Nat->Prop) (cs ct:List Value) (w:World) (hs:Ve S0 w cs s) (ht:Xl S1 w ct t):
  Calls prog 66 #[cs,ct,n] w (Do w):=by
 rcases hl with h | h
 ·exact Eo s t h n hn0 S0 S1 cs ct w hs ht
 obtain ⟨k,nm,tn,names,kids⟩:=t
 cases (show k=3 from h)
 exact Tn s hsg nm tn names kids n hn0 hn1 S0 S1 cs ct w hs ht
theorem Nz:∀ {ks:List Bs} {row:Val} {l:List Val},keyOf ks row=some l->∀ v ∈ l,v ∈ row.kids
 | [],row,l,h,v,hv=>by
  simp only [keyOf,Zv] at h
  subst h;simp at hv
 | k::ks,row,l,h,v,hv=>by
  unfold keyOf at h
  split at h
  ·rename_i u l' h1 h2
   obtain rfl:=Qb h
   rcases Z3.1 hv with rfl | hv
   ·unfold Yp at h1
    split at h1
    ·split at h1
     ·exact Qy h1
     cases h1
    cases h1
   exact Nz h2 v hv
  cases h
theorem Y7.kid {v:Val} (h:Y7 v):∀ x ∈ v.kids,Y7 x:=by
 cases h with
 | int n=>intro x A;simp [Val.kids] at A
 | text s=>intro x A;simp [Val.kids] at A
 | bool n _=>intro x A;simp [Val.kids] at A
 | make s kids _ _ hk=>exact hk
 | record names kids _ _ _ hk=>exact hk
 | list kids hk=>exact hk
def RowGen (S:Nat->Prop) (w:World) (m:Nat) (e:Ending) (w':World):Prop:=∃ v p3 k3 p4 k4,e=.returned (.agg (Il v p3 k3 p4 k4).toArray)/\Y7 v/\(v.kids.length<=m/\v.kids.length<=k4)/\Z9 (λb=>S b\/w<=b) w' (Il v p3 k3 p4 k4) v/\Below w w w'
theorem Tx {l:List Rel} {x:Bs} {v:Val} (h:v ∈ Yg l x):∃ r ∈ l,v ∈ r.rows:=by
 unfold Yg at h
 split at h
 ·rename_i i hi
  unfold Yr at hi
  have hl:=(List.findIdx?_eq_some_iff_getElem.1 hi).1
  rw [Qs,Qx hl,Option.getD_some] at h
  exact ⟨_,Qd hl,h⟩
 simp at h
structure Uf (S:Nat->Prop) (W1 wr:World) (nv vv:Value) (xs:List Bs) (vals:List Val):Prop where
 old:∀ b,S b->b<W1.heap.size
 below:Below W1 W1 wr
 names:∃ css,Own Zh 9 (λ_=>True) W1 wr nv xs css
 vals:∃ css,Own Zc 36 (λb=>(S b\/W1.heap.size<=b)/\some b≠nv.ownBlock) W1 wr vv vals css
theorem Uf.grow {S:Nat->Prop} {W1 wr wr':World} {nv vv:Value} {xs:List Bs} {vals:List Val} (h:Uf S W1 wr nv vv xs vals) (hb:Below wr wr wr'):Uf S W1 wr' nv vv xs vals:=by
 obtain ⟨h0,h1,⟨c1,h2⟩,⟨c2,h3⟩⟩:=h
 exact ⟨h0,h1.n hb,⟨c1,h2.below hb⟩,⟨c2,h3.below hb⟩⟩
theorem Uf.addName {S:Nat->Prop} {W1 w w1:World} {nv vv nv':Value} {xs xs':List Bs} {vals:List Val} {css:List (List Value)} (h:Uf S W1 w nv vv xs vals) (hO:Own Zh 9 (λ_=>True) W1 w1 nv' xs' css) (hL:M8 W1 w w1 nv nv'):Uf S W1 w1 nv' vv xs' vals:=by
 obtain ⟨h0,h1,⟨c1,h2⟩,⟨c2,A⟩⟩:=h
 refine ⟨h0,h1.trans hL.below,⟨_,hO⟩,⟨c2,Jj A.row (λb hb hv=>hL.other b hb (λe=>Yl A.row h2.row Ih hv e.symm)),?_⟩⟩
 refine A.cs.move (λb hb D=>hL.other b D hb.1.2) (λb hb h=>⟨⟨h.1.1,λe=>?_⟩,h.2⟩)
 rcases hL.at' with e' | ⟨g,e',hg⟩
 ·exact h.1.2 (by rw [e,e'])
 rw [e'] at e
 have:=Qb e
 omega
theorem Uf.addVal {S:Nat->Prop} {W1 w w1:World} {nv vv vv':Value} {xs:List Bs} {vals vals':List Val} {css:List (List Value)} (h:Uf S W1 w nv vv xs vals) (hO:Own Zc 36 (λb=>(S b\/W1<=b)/\some b≠nv.ownBlock) W1 w1 vv' vals' css) (hL:M8 W1 w w1 vv vv'):Uf S W1 w1 nv vv' xs vals':=by
 obtain ⟨h0,h1,⟨c1,h2⟩,⟨c2,h3⟩⟩:=h
 exact ⟨h0,h1.trans hL.below,⟨c1,Gl h2 (λb hb hv=>hL.other b hb (λe=>Yl h2.row h3.row Ih hv e.symm))⟩,⟨_,hO⟩⟩
def ValMid (wr:World) (t15:Value) (wx:World):Prop:=∃ G v q3 m3 q4 m4,t15=.pointer (some ⟨G,0,none⟩)/\wx.heap[G]?=some (.cells (Is v q3 m3 q4 m4) 36 (0,0))/\Y7 v/\Z9 (λb=>wr<=b/\b≠G) wx (Il v q3 m3 q4 m4) v/\Below wr wr wx/\wr.heap.size<=G
def Mm (S5:Nat->Prop) (wo:World) (G:Nat) (wr:World):Prop:=Below wo wo wr/\∃ v q3 m3 q4 m4,wr.heap[G]?=some (.cells (Is v q3 m3 q4 m4) 36 (0,0))/\Y7 v/\Z9 S5 wr (Il v q3 m3 q4 m4) v
theorem Mm.grow {S5:Nat->Prop} {wo:World} {G:Nat} {wr wr':World} (h:Mm S5 wo G wr) (hb:Below wr wr wr'):Mm S5 wo G wr':=by
 obtain ⟨h1,v,q3,m3,q4,m4,h2,h3,h4⟩:=h
 exact ⟨h1.n hb,v,q3,m3,q4,m4,kB hb h2,h3,h4.move (.f hb) Ij⟩
def TabMid (S:Nat->Prop) (wr:World) (T:Tbl) (b:Bool) (t18 t19:Value) (wx:World):Prop:=∃ G cp9 cc9 kp9 kc9 rp9 rc9 k9 s19 n9 s29 p19 n19 c19 p29 n29 c29 p39 n39 c39 a9 z9,t18=.pointer (some ⟨G,0,none⟩)/\t19=.bool b/\wx.heap[G]?=some (.cells (AR T cp9 cc9 kp9 kc9 rp9 rc9 k9 s19 n9 s29 p19 n19 c19 p29 n29 c29 p39 n39 c39 a9 z9) 48 (0,0))/\Zn.R S wx (AR T cp9 cc9 kp9 kc9 rp9 rc9 k9 s19 n9 s29 p19 n19 c19 p29 n29 c29 p39 n39 c39 a9 z9) T/\Below wr wr wx/\wr.heap.size<=G
def KeyMid (S:Nat->Prop) (wr:World) (l:List Val) (t20:Value) (wx:World):Prop:=∃ p c,t20=.slice p l.length c/\Sl Zc (λb=>S b\/wr<=b) wx (.slice p l.length c) l/\Below wr wr wx
theorem Qjh (S0 S1 S2 S3:Nat->Prop) (s:Sc) (cs:List Value) (lv:Value) (l:List Rel) (t:Tbl) (ct:List Value) (nv:Value) (ns:List Int) (at':Nat) (w:World) (hs0:Ve S0 w cs s) (hl0:∃ p c,lv=.slice p l.length c) (HRo:Hid (∀ tn W,Below w w W->Calls prog 67 #[lv,sv tn] W (RowsIs (λb=>S1 b/\b<w) W (Yg l tn)))) (ht:Zn.R S2 w ct t) (hn0:V5 S3 w nv ns) (hi:Kz ns) (hat:at'<=1000) (hT:Gq t) (hsg:Kw s.sums) (hk:∀ t ∈ s.tables,t.key.length<=1000) (hR:∀ r ∈ l,∀ v ∈ r.rows,Y7 v):
  Calls prog 21 #[cs,lv,ct,nv,at'] w (RowGen S1 w t.columns.length):=by
 have hs:Ve (λb=>S0 b/\b<w) w cs s:=by
  obtain ⟨uv,tv,h1,h2,h3⟩:=hs0
  exact ⟨uv,tv,h1,h2.mono (λb hb h=>⟨h,hb⟩),h3.mono (λb hb h=>⟨h,hb⟩)⟩
 clear hs0
 have mQ:=Qq hs
 have fM:=Qq (λ(ty:Ty) (hty:K8 ty\/ty.kind=3) (q:Int) (cP:0<=q) (cQ:q<=1000000) (S':Nat->Prop) (cty:List Value) W (hW:Below w w W) (hc:Xl S' W cty ty)=>Tm s hsg ty hty q cP cQ (λb=>S0 b/\b<w) S' cs cty W (hs.below hW) hc)
 have cZ:=Qq (λtn W (hW:Below w w W)=>Hp (λb=>S0 b/\b<w) s cs tn W (hs.below hW))
 have eZ:=Qq (λ(k:Nat) W (hW:Below w w W)=>Ys S3 nv ns (at'+k) 100000 W (hn0.below hW) hi Ia Ia)
 obtain ⟨HK,HR,cJ⟩:=Im hk hR hT
 obtain ⟨uv,tv,rfl,hu,hK⟩:=hs
 obtain ⟨up,uc,rfl,_⟩:=hu.len
 obtain ⟨tp,tc,rfl,_⟩:=hK.len
 obtain ⟨lp,lc,rfl⟩:=hl0
 obtain ⟨np,nc,rfl,_⟩:=hn0.len
 obtain ⟨mV,kL,nQ,nP,nW,lM,k0,nX,n0,nY,nT,nR,mS,nU,n20,mT,nV,nS,mU,a0,z0,rfl,_,bY,_,cB,_⟩:=Yq ht
 unfold AL
 obtain ⟨n,hn⟩:=eX (t.columns.length)
 obtain ⟨m,hm⟩:=eX (t.refs.length)
 have nH:n<=900:=Ix hT.few
 have nG:m<=1000:=Ix hT.refs
 rw [hn] at bY |-
 rw [hm] at cB |-
 obtain ⟨HC,jY,HN,HM⟩:=It bY cB hn hm
 clear ht hn0 hu hK bY cB hn hm hT hsg hk hR
 simp only [Int.natCast_add] at eZ
 obtain ⟨i0,j1,j2,j3,j4⟩:=Y8 (P:=prog) (t:=36) (z:=.agg zV) (n:=5) (b:=80) Ir
 obtain ⟨HJ,jL,jM,jN⟩:=It j1 j2 j3 j4
 clear j1 j2 j3 j4
 obtain ⟨i9,j1,j2,j3,j4⟩:=Y8 (P:=prog) (t:=9) (z:=.string ⟨#[]⟩) (n:=1) (b:=16) Ir
 obtain ⟨HI,jI,jJ,jK⟩:=It j1 j2 j3 j4
 clear j1 j2 j3 j4
 unfold sv at HRo cZ
 go_enter func21,ntmps21
 go_wp2_with fail
 generalize bC:((w.alloc _).alloc _).alloc _=W1
 have gN:=Iq bC (Xt _ _ _ _)
 have gE:=Ik (b:=w.heap.size) bC (Zp _ _ _ _)
 have gH:=Ik (b:=w.heap.size+1) bC (Zo _ _ _ _)
 have gL:=Ik (b:=w.heap.size+1+1) bC (Zi _ _ _ _)
 have hY:W1=w.heap.size+3:=by rw [<- bC];simp
 obtain ⟨iT,fE,fG,kI,kK⟩:=AO gN gE gH gL hY
 have hJ:Uf (λb=>S1 b/\b<w) W1 W1 (.slice none 0 0) (.slice none 0 0) [] []:=⟨λb hb=>by have:=hb.2;omega,Qz _ _,⟨[],Own.nil _ _ _ _ _⟩,⟨[],Own.nil _ _ _ _ _⟩⟩
 clear bC gN gE gH gL hY
 go_loopw [11,12,13,14,15,16,17,18,19,20] (λlN lO eK _ _ _ _ _ _ _ wr=>∃ (k:Nat) (p3:Option Addr) (aQ:Nat) (p4:Option Addr) (aA:Nat) (vals:List Val),k<=n/\lN=.slice p3 k aQ/\lO=.slice p4 k aA/\eK=.int .i64 k/\Aside (vals.length=k/\(∀ v ∈ vals,Y7 v)/\Uf (λb=>S1 b/\b<w) W1 wr (.slice p3 k aQ) (.slice p4 k aA) ((t.columns.take k).map Col.name) vals)) (λ_ _ eK _ _ _ _ _ _ _ _=>n - (intOf eK).toNat)
 case atStart=>exact ⟨0,none,0,none,0,[],Q8 _,rfl,rfl,rfl,rfl,(λv h=>by simp at h),hJ⟩
 clear hJ
 obtain ⟨k,p3,aQ,p4,aA,vals,dY,rfl,rfl,rfl,hA⟩:=hrel
 obtain ⟨hP,hO,h2⟩:=hA.o
 obtain ⟨cL,fO,H2⟩:=Im hP hO h2
 have bI:=Qq h2.below;have bR:=Qq (iT.o.n h2.below)
 have nO:=kK.o
 have lH:=h2.below.size
 clear hA hP hO h2
 have bB:=kB bI.o fE.o
 have aW:=kB bI.o fG.o
 have gM:=kB bI.o kI.o
 obtain ⟨fF,kD,fQ⟩:=Im bB aW gM
 obtain ⟨s0,s1⟩:=AF bB
 have c1:=AA aW
 clear bB aW gM
 by_cases bD:k<n
 ·have nD:(0:Int)<=(k:Int):=Ia
  have nE:(k:Int)<(n:Int):=Ia
  obtain ⟨c,hc⟩:∃ c,t.columns[k]?=some c:=⟨_,Qx (by rw [HN.o];exact bD)⟩
  have hI:=Lp hc
  obtain ⟨cb,N,tk,ts,tn,t3,n3,l3,t4,n4,l4,kS,nB,nC,gQ,dG,d0,d1,d2,d3,d4,d5⟩:=(HC.o.below bR.o).col hc
  subst kS
  have hF:=L7 ns (at'+k) 100000 Ia
  obtain ⟨q,hq⟩:=eX (Xk ns (at'+k) 100000)
  have fA:=Qq (eZ.o k)
  rw [hq] at fA hF
  obtain ⟨cP,cQ⟩:=hF
  obtain ⟨fI,jZ,jB,jA⟩:=It dG hI gQ (Qy hc)
  have HD:=Qq d0
  clear hq hc hI dG gQ
  have nF:k<900:=Ia
  go_upto_region 7 with (go_at_call 18;refine (fA.o _ bR.o).mono ?_;rintro e w' ⟨rfl,rfl⟩)
  refine let_mvar% ?Lq1:=λw':World=>Ii w' w 0 (.slice up s.sums.length uc)/\Ii w' w 1 (.slice tp s.tables.length tc)/\Ii w' (w+1) 1 (Io cb N n kL)/\Ii w' cb (N+k*6+1) tk/\Ii w' cb (N+k*6+2) (.string ts)/\Ii w' cb (N+k*6+3) (.int .i64 tn)/\Ii w' cb (N+k*6+4) (.slice t3 n3 l3)/\Ii w' cb (N+k*6+5) (.slice t4 n4 l4)/\Below wr wr w';?_
  have HS:∀ w',Below wr wr w'->?Lq1 w':=by
   intro w' h
   have D:∀ {b j:Nat} {u:Value},wr.cell? ⟨b,j,none⟩=some u->w'.cell? ⟨b,j,none⟩=some u:=λhc=>kC h hc
   exact ⟨D s0,D s1,D c1,D d1,D d2,D d3,D d4,D d5,h⟩
  obtain ⟨bO,bP,bJ,A,aU,aV⟩:=Jg HS (λw' h=>h.2.2.2.2.2.2.2.2)
  have HP:=λw' x0 x1 x2 x3 x4 h=>aV.o (Zl w' wr x0 x1 x2 x3 x4) (Zd (A.o w' h) (Q9 _))
  unfold Zl at HP
  have bL:=Qq HP
  clear HS HP s0 s1 c1 d1 d2 d3 d4 d5
  have fN:=Qq (λW' (h':Below wr wr W')=>(fM.o c.type (cJ.o.types c jA.o) q cP Ia _ [tk,.string ts,.int .i64 tn,.slice t3 n3 l3,.slice t4 n4 l4] W' (bR.o.n h') (fI.o.move (.f h') Ij)).mono (R':=λe w2=>∃ v q3 m3 q4 m4,e=.returned (.agg (Is v q3 m3 q4 m4))/\Y7 v/\Z9 (λb=>W'<=b) w2 (Il v q3 m3 q4 m4) v/\Below W' W' w2/\Below wr wr w2) (by
   rintro e w2 ⟨v,q3,m3,q4,m4,rfl,g1,_,g2,g3⟩
   exact ⟨v,q3,m3,q4,m4,rfl,g1,g2,g3,h'.n g3⟩))
  go_cut [15] from 23 to 118 (λlP wx=>ValMid wr lP wx)
  case first=>
   go_region_held3 ?Lq1 (first | with_reducible exact bO.o | with_reducible exact I | with_reducible exact bJ.o _ (aU.o _ _ bP.o) | with_reducible exact aU.o _ _ I | with_reducible exact bL.o _ _ _ _ _ _ I)
    (first
     | (go_at_call 66;refine (fN.o _ (A.o _ AN)).mono ?_;rintro e w2 ⟨v,q3,m3,q4,m4,rfl,gU,hN,M,eC⟩;have I:=aV.o _ eC;(try (have r2:w2.heap[wr.heap.size]?=some (.cells zV 36 (0,0)):=(M.block wr Ib).trans (Qw wr _);obtain ⟨y0,y1,y2,y3,y4⟩:=If r2;obtain ⟨g0,g1,g2,g3,g4⟩:=Ip r2;have bM:=Qq r2;clear r2));obtain ⟨cF,fK,dL⟩:=Im gU hN M;clear gU hN M))
   all_goals
    go_wp2_with fail
    go_meet
    first
     | (have h9:=bM.o;clear h9;exact ⟨wr.heap.size,v,q3,m3,q4,m4,rfl,Yd bM.o,cF.o,Z9.move fK.o (λb hb _=>Zf (by have h:(wr.alloc _).drew.heap.size<=b:=hb;simp at h;omega)) (λb _ hb=>by have h:(wr.alloc _).drew.heap.size<=b:=hb;simp at h;exact ⟨Ia,Ia⟩),Zd (A.o _ I) (Q9 _),Q9 _⟩)
     | exact ⟨w2.heap.size,v,q3,m3,q4,m4,rfl,Qw _ _,cF.o,Z9.move fK.o (.f (Zg _ _)) (λb hb h=>⟨by have h:wr.drew.heap.size<=b:=h;simpa using h,Ia⟩),(A.o _ I).n (Zg _ _),(A.o _ I).size⟩
  obtain ⟨G,v0,z3,y3,z4,y4,rfl,hG,gT,hM,bW,fY⟩:=hcut
  obtain ⟨HG,eU,fJ,iV⟩:=It hG gT hM bW
  clear hG gT hM bW fN
  clear bO bP bJ A aU bL aV
  obtain ⟨wo,rfl⟩:∃ wo,wo=wr:=⟨_,rfl⟩
  have eS:=Qq bI.o
  have dI:Mm (λb=>(S1 b/\b<w)\/(wo<=b/\b≠G)) wo G wc:=⟨iV.o,v0,z3,y3,z4,y4,HG.o,eU.o,fJ.o.move (.refl _ _) (λb _ h=>.inr h)⟩
  have nA:w.heap.size+3<=G:=Ia
  clear fJ HG eU fI fF kD fQ lH
  go_wp2_with fail
  go_loopw [16,17,18,19,20] (λeL _ _ _ _ wr=>∃ r:Nat,r<=m/\eL=.int .i64 r/\Aside (Mm (λb=>(S1 b/\b<w)\/(wo<=b/\b≠G)) wo G wr)) (λeL _ _ _ _ _=>m - (intOf eL).toNat)
  case atStart=>exact ⟨0,Q8 _,rfl,dI⟩
  clear dI
  obtain ⟨r,nL,rfl,hA⟩:=hrel
  have cG:=Qq hA.o
  have iW:=Qq hA.o.1;have bQ:=Qq (bR.o.n hA.o.1)
  have cM:Below W1 W1 wr:=bI.o.n hA.o.1
  clear hA
  have bB:=kB cM fE.o
  have aW:=kB cM fG.o
  have iU:=Qq cM
  clear cM
  obtain ⟨s0,s1⟩:=AF bB
  have c1:=AA aW;have c3:=AH aW
  clear bB aW
  by_cases hlr:r<m
  ·have nI:(0:Int)<=(r:Int):=Ia
   have nJ:(r:Int)<(m:Int):=Ia
   obtain ⟨f,hf⟩:∃ f,t.refs[r]?=some f:=⟨_,Qx (by rw [HM.o];exact hlr)⟩
   obtain ⟨fb,dC,mY,kU,kT,_,_,⟨gS,mL,mM⟩,dX⟩:=(jY.o.below bQ.o).elem hf
   subst kU;subst gS
   have e0:=dX 0 _ rfl;have e1:=dX 1 _ rfl
   rw [show Di.k=2 from rfl] at e0 e1
   rw [Nat.add_zero] at e0
   unfold sv at e0 e1
   obtain ⟨rows,aX⟩:=eX (Yg l f.table)
   have bN:=Qq (HRo.o f.table wr bQ.o)
   rw [aX] at bN
   have dO:=Qq aX
   obtain ⟨T,hT⟩:=eX ((Yw s.tables f.table).getD Tbl.zero)
   obtain ⟨b,hb⟩:=eX ((Yw s.tables f.table).isSome)
   have cK:=Qq (cZ.o f.table)
   unfold TabIs at cK
   rw [hT,hb] at cK
   have gJ:T.key.length<=1000:=by
    rw [<- hT]
    cases h:Yw s.tables f.table with
    | none=>exact Q8 _
    | some t=>exact HK.o t (List.mem_of_find?_eq_some h)
   have kA:=Qq gJ
   clear hf dX kT aX hT hb gJ
   go_upto_region 12 with (go_at_call 67;refine bN.o.mono ?_;rintro e w' ⟨rp,rc,rfl,hH,rfl⟩;have fC:=Qq hH;clear hH)
   obtain ⟨n2,dZ⟩:=eX (rows.length)
   rw [dZ] at fC |-
   have jS:=Qq dZ
   clear dZ bN
   obtain ⟨jC,iY,iZ⟩:=Im e0 c1 c3
   clear e0 c1
   refine let_mvar% ?Lq2:=λw':World=>Ii w' w 0 (.slice up s.sums.length uc)/\Ii w' w 1 (.slice tp s.tables.length tc)/\Ii w' (w+1) 3 (Io fb dC m lM)/\Ii w' fb (dC+r*2+1) f.table/\Below wr wr w';?_
   have HS:∀ w',Below wr wr w'->?Lq2 w':=by
    intro w' h
    have D:∀ {b j:Nat} {u:Value},wr.cell? ⟨b,j,none⟩=some u->w'.cell? ⟨b,j,none⟩=some u:=λhc=>kC h hc
    exact ⟨D s0,D s1,D c3,D e1,h⟩
   obtain ⟨bO,bP,bJ,A,aU,aV⟩:=Jg HS (λw' h=>h.2.2.2.2)
   have HP:=λw' x0 x1 x2 x3 x4 x5 x6 x7 x8 x9 lW lX lY h=>aV.o (U5 w' wr x0 x1 x2 x3 x4 x5 x6 x7 x8 x9 lW lX lY) (V9 (A.o w' h) (Q9 _))
   unfold U5 at HP
   have bL:=Qq HP
   clear HS HP s0 s1 c3 e1
   have fH:=Qq (λW' (h':Below wr wr W')=>(cK.o W' (bQ.o.n h')).mono (R':=λe w2=>∃ Z Y aC aB aK aJ k9 aL n9 aM aG aD O aH aE U aI aF V a9 z9,e=.returned (.tuple #[.agg (AR T Z Y aC aB aK aJ k9 aL n9 aM aG aD O aH aE U aI aF V a9 z9),.bool b])/\Zn.R (λb=>S0 b/\b<w) w2 (AR T Z Y aC aB aK aJ k9 aL n9 aM aG aD O aH aE U aI aF V a9 z9) T/\Below W' W' w2/\Below wr wr w2) (by
    rintro e w2 ⟨mW,rfl,g1,g2⟩
    obtain ⟨Z,Y,aC,aB,aK,aJ,k9,aL,n9,aM,aG,aD,O,aH,aE,U,aI,aF,V,a9,z9,gR,_⟩:=Yq g1
    simp only [AL] at gR
    subst gR
    exact ⟨Z,Y,aC,aB,aK,aJ,k9,aL,n9,aM,aG,aD,O,aH,aE,U,aI,aF,V,a9,z9,rfl,g1,g2,h'.n g2⟩))
   clear cK
   go_cut [18,19] from 44 to 105 (λlQ lR wx=>TabMid (λb=>S0 b/\b<w) wr T b lQ lR wx)
   case first=>
    go_region_held3 ?Lq2 (first | with_reducible exact bO.o | with_reducible exact I | with_reducible exact bJ.o _ (aU.o _ _ bP.o) | with_reducible exact aU.o _ _ I | with_reducible exact bL.o _ _ _ _ _ _ _ _ _ _ _ _ _ _ I)
     (first
      | (go_at_call 68;refine (fH.o _ (A.o _ AN)).mono ?_;rintro e w2 ⟨Z,Y,aC,aB,aK,aJ,k9,aL,n9,aM,aG,aD,O,aH,aE,U,aI,aF,V,a9,z9,rfl,hL,M,eC⟩;have I:=aV.o _ eC;(try (have r2:w2.heap[wr.heap.size]?=some (.cells zT 48 (0,0)):=(M.block wr Ib).trans (Qw wr _);obtain ⟨y0,y1,y2,y3,y4,y5,y6,y7,y8,y9,nZ,oA,oB⟩:=AP r2;obtain ⟨g0,g1,g2,g3,g4,g5,g6,g7,g8,g9,dQ,dR,dS⟩:=BJ r2;have bM:=Qq r2;clear r2));have cI:=Qq hL;have dL:=Qq M;clear hL M))
    all_goals
     go_wp2_with fail
     go_meet
     first
      | (have h9:=bM.o;clear h9;exact ⟨wr.heap.size,Z,Y,aC,aB,aK,aJ,k9,aL,n9,aM,aG,aD,O,aH,aE,U,aI,aF,V,a9,z9,rfl,rfl,Lo bM.o,Zn.frame cI.o (λb hb _=>Jw (by have:=hb.2;have:=bQ.o.size;omega)),V9 (A.o _ I) (Q9 _),Q9 _⟩)
      | exact ⟨w2.heap.size,Z,Y,aC,aB,aK,aJ,k9,aL,n9,aM,aG,aD,O,aH,aE,U,aI,aF,V,a9,z9,rfl,rfl,Qw _ _,Zn.frame cI.o (.f (Zg _ _)),(A.o _ I).n (Zg _ _),(A.o _ I).size⟩
   obtain ⟨G2,Z,Y,aC,aB,aK,aJ,k9,aL,n9,aM,aG,aD,O,aH,aE,U,aI,aF,V,a9,z9,rfl,rfl,fW,gI,bW,mI⟩:=hcut
   obtain ⟨cF,cI,aO⟩:=Im fW gI bW
   clear fW gI bW fH
   clear bO bP bJ A aU bL aV
   have J:=Qq (cG.o.grow aO.o);have kH:=Qq (bQ.o.n aO.o)
   have cN:∀ {b j:Nat} {x:Value},wr.cell? ⟨b,j,none⟩=some x->wc.cell? ⟨b,j,none⟩=some x:=λhx=>kC aO.o hx
   have e0:=cN jC.o;have c1:=cN iY.o;have c3:=cN iZ.o
   have d0:=kC (iW.o.n aO.o) HD.o
   clear cN cG
   have lG:(f.column==c.name)=false\/((f.column==c.name)=true/\b=false)\/((f.column==c.name)=true/\b=true/\n2=0)\/((f.column==c.name)=true/\b=true/\0<n2):=by
    cases (f.column==c.name) <;> cases b <;> simp <;> omega
   rcases lG with hq | ⟨hq,rfl⟩ | ⟨hq,rfl,hz⟩ | ⟨hq,rfl,hz⟩
   focus
    go_upto_region 13 with fail
    go_quiet (fail)
    have aP:=Qq (J.o.grow (Yz wc nq))
    have cA:r+1<=m:=hlr
    clear J
    go_wp2_with fail
    go_roundw
    case measure=>simp [intOf];omega
    case rel=>
     refine ⟨r+1,cA,?_,?_⟩
     ·go_num
     exact aP.o
   focus
    go_upto_region 13 with fail
    go_quiet (fail)
    have aP:=Qq (J.o.grow (Yz wc nq))
    have cA:r+1<=m:=hlr
    clear J
    go_wp2_with fail
    go_roundw
    case measure=>simp [intOf];omega
    case rel=>
     refine ⟨r+1,cA,?_,?_⟩
     ·go_num
     exact aP.o
   focus
    have hg:¬ (0:Int)<(n2:Int):=Ia
    go_upto_region 13 with fail
    go_quiet (fail)
    have aP:=Qq (J.o.grow (Yz wc nq))
    have cA:r+1<=m:=hlr
    clear J
    go_wp2_with fail
    go_roundw
    case measure=>simp [intOf];omega
    case rel=>
     refine ⟨r+1,cA,?_,?_⟩
     ·go_num
     exact aP.o
   focus
    have hg:(0:Int)<(n2:Int):=Ia
    obtain ⟨m8,lC⟩:=eX (q.tmod (n2:Int))
    have gP:=Bx q n2 cP hg
    rw [lC] at gP
    obtain ⟨mJ,mK⟩:=gP
    obtain ⟨j,rfl⟩:∃ j:Nat,m8=(j:Int):=⟨m8.toNat,Ia⟩
    have kY:j<n2:=Ia
    obtain ⟨y,hy⟩:∃ y,rows[j]?=some y:=⟨_,Qx (by rw [jS.o];exact kY)⟩
    obtain ⟨rb,mO,mD,mB,mE,mC,lF,nK,hU,a0,a1,a2,a3,a4⟩:=(fC.o.below aO.o).val hy
    subst lF
    have gX:∀ u ∈ y.kids,Y7 u:=by
     obtain ⟨ro,h1,h2⟩:=Tx (l:=l) (x:=f.table) (v:=y) (by rw [dO.o];exact Qy hy)
     exact (HR.o ro h1 y h2).kid
    have kG:=Qq hU;have jH:=Qq gX
    clear hy hU gX
    obtain ⟨g0,g1,g2,g3,g4,g5,g6,g7,g8,g9,dQ,dR,dS⟩:=AP cF.o
    go_upto_region 13 with fail
    go_quiet (fail)
    obtain ⟨wq,eE⟩:=eX (wc.drewN nq)
    have bX:Below wc wc wq:=by rw [<- eE];exact Yz _ _
    rw [eE]
    obtain ⟨eT,bK,mR⟩:=Im bX (J.o.grow bX) (kH.o.n bX)
    have D:∀ {b j:Nat} {x:Value},wc.cell? ⟨b,j,none⟩=some x->wq.cell? ⟨b,j,none⟩=some x:=λhx=>kC bX hx
    have g0:=D g0;have g1:=D g1;have g2:=D g2;have g3:=D g3;have g4:=D g4;have g5:=D g5;have g6:=D g6;have g7:=D g7;have g8:=D g8;have g9:=D g9;have dQ:=D dQ;have dR:=D dR;have dS:=D dS;have a0:=D a0;have a1:=D a1;have a2:=D a2;have a3:=D a3;have a4:=D a4
    clear D eE bX e0 c1 c3 d0
    go_upto_region 14 with fail
    obtain ⟨kl,cO⟩:=eX ((keyOf T.key y).getD [])
    have hB:∀ u ∈ kl,Y7 u:=λu hu=>by
     cases hk:keyOf T.key y with
     | none=>rw [<- cO,hk] at hu;simp at hu
     | some l'=>rw [<- cO,hk] at hu;exact jH.o u (Nz hk u hu)
    have jQ:=Qq hB;have jR:=Qq cO
    clear cO hB
    have eV:=Qq (λW' (hW:Below wq wq W')=>(B6 (λb=>S0 b/\b<w) (λb=>S1 b/\b<w) T y (AR T Z Y aC aB aK aJ k9 aL n9 aM aG aD O aH aE U aI aF V a9 z9) (Is y mD mB mE mC) W' (Zn.frame cI.o (.f (eT.o.n hW))) (kG.o.move (.f (eT.o.n hW)) Ij) kA.o).mono (R':=λe w2=>∃ p c,e=.returned (.slice p kl.length c)/\Sl Zc (λb=>(λb=>S1 b/\b<w.heap.size) b\/wq<=b) w2 (.slice p kl.length c) kl/\Below wq wq w2) (by
     rintro e w2 ⟨p,c,rfl,h3,h4⟩
     rw [jR.o] at h3 |-
     have nN:=hW.size
     exact ⟨p,c,rfl,h3.mono (λb _ h=>h.imp id (λh=>Ia)),hW.n h4⟩))
    go_cut [20] from 44 to 105 (λlS wx=>KeyMid (λb=>S1 b/\b<w) wq kl lS wx)
    case first=>
     go_region_with (go_at_call 42;refine (eV.o _ (Qz _ _).drew).mono ?_;rintro e w2 ⟨p,kc,rfl,gY,M⟩;have jO:=Qq gY;have dL:=Qq M;clear gY M)
     all_goals
      go_wp2_with fail
      go_meet
      exact ⟨p,kc,rfl,jO.o,dL.o⟩
    obtain ⟨kp,kc,rfl,hD,dF⟩:=hcut
    have cY:=Qq (bK.o.grow dF)
    have eW:=Qq hD
    obtain ⟨kn,dY⟩:=eX (kl.length)
    rw [dY] at eW |-
    have mZ:G<wq.heap.size:=by obtain ⟨_,_,_,_,_,_,h,_⟩:=bK.o;exact Z8 h
    obtain ⟨fV,v1,b3,o3,b4,o4,bU,_,_⟩:=cY.o
    have jD:=Qq bU;have iX:=Qq fV
    clear hD dF eV fV
    by_cases hk1:kn=1
    ·subst hk1
     obtain ⟨u,rfl⟩:=List.length_eq_one_iff.1 dY
     obtain ⟨ub,mP,u3,iD,u4,iF,lJ,lI,hQ,u0,u1,lT,lU,lV⟩:=Sl.val eW.o (i:=0) rfl
     subst lJ
     simp only [Nat.zero_mul,Nat.add_zero] at u0 u1 lT lU lV
     have cQ:((1:Int)==1)=true:=rfl
     obtain ⟨y0,y1,y2,y3,y4⟩:=If bU
     obtain ⟨f0,f1,f2,f3,f4⟩:=Ip bU
     have kF:=Qq hQ;have jF:=Qq (jQ.o u Ib)
     clear bU hQ lI
     go_wp2_with fail
     go_roundw
     case measure=>simp [intOf];omega
     case rel=>
      refine ⟨r+1,Ia,by go_num,(show Aside _ from ?_)⟩
      show Mm (λb=>(S1 b/\b<w)\/(wo<=b/\b≠G)) wo G (AI wc G u u3 iD u4 iF)
      refine ⟨Zd iX.o fY,u,u3,iD,u4,iF,Yd jD.o,jF.o,kF.o.move (λb hb _=>Zf (by rcases hb with h | h;exact (by have:=h.2;omega);exact (by have h':wq.heap.size<=b:=h;omega))) (λb _ hb=>by
       rcases hb with h | h
       ·exact .inl h
       have h':wq.heap.size<=b:=h
       have:=bK.o.1.size
       exact .inr ⟨Ia,Ia⟩)⟩
    have cQ:((kn:Int)==1)=false:=by rw [<- Qt,beq_iff_eq];omega
    clear bU
    go_wp2_with fail
    go_roundw
    case measure=>simp [intOf];omega
    case rel=>exact ⟨r+1,Ia,by go_num,cY.o⟩
  have mN:r=m:=Ia
  have hq:¬ (r:Int)<(m:Int):=Ia
  obtain ⟨dU,v,q3,m3,q4,m4,hG,gW,hS⟩:=cG.o
  have fZ:=Z8 hG
  have d0:=kC dU HD.o
  have eP:=Qq (H2.o.grow dU)
  have eA:∀ b,wo.heap.size<=b->some b≠(Value.slice p3 k aQ).ownBlock/\some b≠(Value.slice p4 k aA).ownBlock:=λb hb=>by
   obtain ⟨x1,eF⟩:=H2.o.names
   obtain ⟨x2,eG⟩:=H2.o.vals
   exact ⟨λe=>by have:=(eF.row.lt b e.symm).2;omega,λe=>by have:=(eG.row.lt b e.symm).2;omega⟩
  have dH:∀ b,b<w.heap.size->some b≠(Value.slice p3 k aQ).ownBlock/\some b≠(Value.slice p4 k aA).ownBlock:=λb hb=>by
   obtain ⟨x1,eF⟩:=H2.o.names
   obtain ⟨x2,eG⟩:=H2.o.vals
   exact ⟨λe=>by have:=(eF.row.lt b e.symm).1;omega,λe=>by have:=(eG.row.lt b e.symm).1;omega⟩
  have hE:∀ b,(λb=>(S1 b/\b<w.heap.size)\/(wo.heap.size<=b/\b≠G)) b->some b≠(Value.slice p3 k aQ).ownBlock/\some b≠(Value.slice p4 k aA).ownBlock:=λb hb=>by
   rcases hb with h | h
   ·exact dH b h.2
   exact eA b h.1
  obtain ⟨dA,bA⟩:=eP.o.names
  obtain ⟨jV,HG,jG,fP,jT,cH⟩:=BE bA hG gW hS eA hE
  have gK:=iU.o.size
  have bE:((t.columns.take k).map Col.name).length=k:=by rw [Z7,Qm,HN.o];omega
  have jU:=Qq bE
  clear hG gW hS dU bA eA dH hE bE cG s0 s1
  go_upto_region 18 with (at_builtin;refine Yo (r:=Zh) Ih rfl (.tmp 106) (.tmp 113) _ rfl 9 i9 (.string ⟨#[]⟩) 16 underlying33 HI.o jI.o jJ.o jK.o rfl Ia (λ_=>True) W1 wr (.slice p3 k aQ) ((t.columns.take k).map Col.name) dA [c.name] c.name rfl jV.o rfl ⟨rfl,jB.o⟩ (by simp [Value.oneCell']) k jU.o Ia gK ?_;intro p7 bS mG w7 gB aZ;have fX:=(aZ.other G fZ (jT.o G fY).1).trans HG.o;obtain ⟨b0,b1,b2,b3,b4⟩:=If fX;have cC:=fP.o.move (λb hb bD=>aZ.other b bD (cH.o b hb).1) Ij;obtain ⟨fL,eO,eY⟩:=Im cC (eP.o.addName gB aZ) aZ;have nM:=aZ.size;clear fX cC gB aZ)
  obtain ⟨dB,bV⟩:=eO.o.vals
  have gD:Zc.R (But (λb=>((λb=>S1 b/\b<w.heap.size) b\/W1<=b)/\some b≠(Value.slice p7 (k+1) bS).ownBlock) (.slice p4 k aA)) w7 (Is v q3 m3 q4 m4) v:=Z9.move (S:=λb=>(λb=>(S1 b/\b<w.heap.size)\/(wo.heap.size<=b/\b≠G)) b/\b<wr) ((fP.o.move (S':=λb=>(λb=>(S1 b/\b<w.heap.size)\/(wo.heap.size<=b/\b≠G)) b/\b<wr) (.refl _ _) (λb hb h=>⟨h,hb⟩)).move (λb hb bD=>eY.o.other b bD (cH.o b hb.1).1) Ij) (.refl _ _) (λb _ hb=>by
   refine ⟨⟨?_,λe=>?_⟩,(cH.o b hb.1).2⟩
   ·rcases hb.1 with h | h
    ·exact .inl h
    exact .inr (by have:=eS.o.size;have h1:=h.1;omega)
   rcases eY.o.at' with e' | ⟨g,e',hg⟩
   ·exact (cH.o b hb.1).1 (by rw [e,e'])
   rw [e'] at e
   have h1:=Qb e
   have h2:=hb.2
   omega)
  have jW:=Qq bV;have jX:=Qq gD
  clear bV gD d0
  go_wp2_with (at_builtin;refine Yo (r:=Zc) Ih rfl (.tmp 115) (.tmp 117) _ rfl 36 i0 (.agg zV) 80 underlying34 HJ.o jL.o jM.o jN.o rfl Ia (λb=>((λb=>S1 b/\b<w.heap.size) b\/W1<=b)/\some b≠(Value.slice p7 (k+1) bS).ownBlock) W1 w7 (.slice p4 k aA) vals dB (Is v q3 m3 q4 m4) v rfl jW.o rfl jX.o (by simp [Value.oneCell']) k cL.o Ia Ia ?_;intro p8 fS mH w8 gC gA;have iS:=Qq (eO.o.addVal gC gA);clear gC gA)
  go_roundw
  case measure=>simp [intOf];omega
  case rel=>
   refine ⟨k+1,p7,bS,p8,fS,vals++[v],bD,rfl,rfl,by go_num,(show Aside _ from ⟨by rw [Ql,cL.o];rfl,λu hu=>?_,?_⟩)⟩
   ·rcases Z4.1 hu with h | h
    ·exact fO.o u h
    simp only [Z3,Z2,or_false] at h
    subst h;exact jG.o
   rw [jZ.o,List.map_append]
   exact iS.o
 have hC:k=n:=Ia
 subst hC
 have bZ:t.columns.take k=t.columns:=Zj (by rw [HN.o];exact Q9 _)
 obtain ⟨dA,bA⟩:=H2.o.names
 obtain ⟨dB,bV⟩:=H2.o.vals
 rw [bZ] at bA
 have bE:(t.columns.map Col.name).length=vals.length:=by rw [Z7,HN.o,cL.o]
 have gF:Sl Zh (λb=>(λb=>S1 b/\b<w.heap.size) b\/W1<=b) wr (.slice p3 k aQ) (t.columns.map Col.name):=(Gl (S':=λb=>W1<=b) bA (λ_ _ _=>rfl)).sl (by rw [Z7,HN.o];omega) (λb hb=>.inr hb) (λb _ hb=>.inr hb)
 have gG:Sl Zc (λb=>(λb=>S1 b/\b<w.heap.size) b\/W1<=b) wr (.slice p4 k aA) vals:=bV.sl (by rw [cL.o];omega) (λb hb=>.inr hb) (λb _ hb=>hb.1)
 have eD:∀ x ∈ t.columns.map Col.name,Vi x:=λx hx=>by
  obtain ⟨c,hc,rfl⟩:=List.mem_map.1 hx
  exact cJ.o.words c hc
 have fB:=Qq ((Ed _ _ _ _ vals wr gF gG eD (by rw [Z7,HN.o];omega)).mono (R':=λe w2=>∃ v q3 m3 q4 m4,e=.returned (.tuple #[.agg (Is v q3 m3 q4 m4),Ic])/\Y7 v/\(v.kids.length<=k/\v.kids.length<=m4)/\Z9 (λb=>(λb=>S1 b/\b<w.heap.size) b\/W1<=b) w2 (Il v q3 m3 q4 m4) v/\Below wr wr w2) (by
  rintro e w2 ⟨hb,h⟩
  rcases h with ⟨mX,_,_,lE⟩ | ⟨a3,l3,a4,l4,_,rfl,_,kZ,hv⟩
  ·exact absurd ⟨bE,λi j x kW hi hj=>by
    have kX:=(Qj hj).1
    exact (List.pairwise_iff_getElem.1 cJ.o.once) i j (Qj hi).1 kX kW (by rw [(Qj hi).2,(Qj hj).2])⟩ lE
  obtain ⟨g1,g2⟩:=Cn bE eD cJ.o.once fO.o
  exact ⟨_,a3,l3,a4,l4,rfl,g1,⟨by show (Yt _).2.length<=k;rw [g2,Z7,HN.o];exact Q9 _,by show (Yt _).2.length<=l4;rw [g2];exact kZ⟩,hv.move (.refl _ _) (λb _ h=>h.elim id (λh=>.inr Ia)),hb⟩))
 have lA:w.heap.size+1+1<wr.heap.size:=Ia
 clear bA bV gF gG eD bE bZ s0 s1
 go_upto_region 20 with (go_at_call 69;refine fB.o.mono ?_;rintro e w7 ⟨v,q3,m3,q4,m4,rfl,gV,gZ,cC,gO⟩;obtain ⟨jE,jP,fL,eQ⟩:=It gV gZ cC gO;clear gV gZ cC gO)
 generalize dV:w7.alloc _=W8
 have dW:=Iq dV (Zg _ _)
 have hX:=Ik (b:=w7.heap.size) dV (Qw _ _)
 have cS:=kE (eQ.o.n dW) lA fQ.o
 obtain ⟨v0,v1,v2,v3,v4⟩:=If hX
 obtain ⟨y0,y1,y2,y3,y4⟩:=If cS
 obtain ⟨f0,f1,f2,f3,f4⟩:=Ip cS
 have kJ:=Qq cS;have eR:=Qq dW
 clear dV hX cS dW
 go_wp2_with fail
 show bodyPost _ _ _ _ _ (AI W8 (w+1+1) v q3 m3 q4 m4)
 refine Q7 (v:=.agg (Is v q3 m3 q4 m4)) (by simp [results,results21,go_sem,Ze kJ.o]) rfl ⟨v,q3,m3,q4,m4,rfl,jE.o,jP.o,?_,Zd (bR.o.n (eQ.o.n eR.o)) Ia⟩
 exact ((fL.o.move (.f eR.o) Ij).move (λb hb _=>Zf (by
  rcases hb with h | h
  ·have:=h.2;omega
  omega)) (λb _ h=>h.elim (λh=>.inl h.1) (λh=>.inr Ia)))
theorem rrow_any (S0 S1 S2 S3:Nat->Prop) (s:Sc) (cs:List Value) (lv:Value) (l:List Rel) (t:Tbl) (ct:List Value) (nv:Value) (ns:List Int) (at':Nat) (w:World) (hs0:Ve S0 w cs s) (hl0:Sl Yk S1 w lv l) (ht:Zn.R S2 w ct t) (hn0:V5 S3 w nv ns) (hi:Kz ns) (hat:at'<=1000) (hT:Gq t) (hsg:Kw s.sums) (hk:∀ t ∈ s.tables,t.key.length<=1000) (hR:∀ r ∈ l,∀ v ∈ r.rows,Y7 v):
  Calls prog 21 #[cs,lv,ct,nv,at'] w (RowGen S1 w t.columns.length):=
 Qjh S0 S1 S2 S3 s cs lv l t ct nv ns at' w hs0 (by obtain ⟨p,c,h,_⟩:=hl0.len;exact ⟨p,c,h⟩) (Qq (λtn W hW=>N9 (λb=>S1 b/\b<w) lv l tn W ((hl0.mono (λb hb h=>⟨h,hb⟩)).below hW))) ht hn0 hi hat hT hsg hk hR
theorem Qzn (S:Nat->Prop) (v:Value) (l:List Int) (w:World) (hs:V5 S w v l) (hi:Kz l) (hk:Xk l 0 13=5):
  Calls prog 17 #[v,Ic] w (J7 w (Gen.check 5)):=by
 have HP:=Qq (λW (hb:Below w w W)=>Ys S v l 0 13 W (hs.below hb) hi Ia Ia)
 rw [hk] at HP
 obtain ⟨p,cap,rfl,_⟩:=hs.len
 clear hs hi hk
 go_enter func17,ntmps17
 go_upto_region 8 with fail
 generalize Y:(((((((w.alloc _).alloc _).alloc _).alloc _).alloc _).alloc _).alloc _).alloc _=W8
 have aM:=Iq Y (Yj (Yj (Yj (Yj (Yj (Yj (Yj (Zg w _) _) _) _) _) _) _) _)
 have bW:W8=w.heap.size+8:=by rw [<- Y];simp
 have r8:=Ik (b:=w.heap.size) Y (Zb (Zb (Zb (Zb (Zb (Zb (Zb (Y6 rfl _) _) _) _) _) _) _) _)
 have A:=((((Yu.row (show W8.heap[w.heap.size+1+1+1+1]?=some (.cells zQ 46 (0,0)) from by rw [<- Y];exact Zb (Zb (Zb (Y6 Ib _) _) _) _)).app (Yu.row (show W8.heap[w.heap.size+1]?=some (.cells #[.int .i64 3,.string ⟨#[97]⟩,Ic,Ig,Ie,Ie,Ie,Ic,Ic] 46 (0,0)) from by rw [<- Y];exact Zb (Zb (Zb (Zb (Zb (Zb (Y6 Ib _) _) _) _) _) _) _))).app (Yu.row (show W8.heap[w.heap.size+1+1]?=some (.cells #[.int .i64 3,.string ⟨#[98]⟩,Ic,Ig,Ie,Ie,Ie,Ic,Ic] 46 (0,0)) from by rw [<- Y];exact Zb (Zb (Zb (Zb (Zb (Y6 Ib _) _) _) _) _) _))).app (Yu.row (show W8.heap[w.heap.size+1+1+1]?=some (.cells #[.int .i64 3,.string ⟨#[99]⟩,Ic,Ig,Ie,Ie,Ie,Ic,Ic] 46 (0,0)) from by rw [<- Y];exact Zb (Zb (Zb (Zb (Y6 Ib _) _) _) _) _)))
 have hG:=(Ul (Ul (Ul (Xc (show w<w.heap.size+1+1+1+1 by omega) (.int .i64 3) (.string ⟨#[100]⟩) (.int .i64 0) (.string ⟨#[]⟩) (.slice none 0 0) (.slice none 0 0) (.slice none 0 0) (.int .i64 0) (.int .i64 0)) (Xc (show w<w.heap.size+1 by omega) (.int .i64 3) (.string ⟨#[97]⟩) (.int .i64 0) (.string ⟨#[]⟩) (.slice none 0 0) (.slice none 0 0) (.slice none 0 0) (.int .i64 0) (.int .i64 0))) (Xc (show w<w.heap.size+1+1 by omega) (.int .i64 3) (.string ⟨#[98]⟩) (.int .i64 0) (.string ⟨#[]⟩) (.slice none 0 0) (.slice none 0 0) (.slice none 0 0) (.int .i64 0) (.int .i64 0))) (Xc (show w<w.heap.size+1+1+1 by omega) (.int .i64 3) (.string ⟨#[99]⟩) (.int .i64 0) (.string ⟨#[]⟩) (.slice none 0 0) (.slice none 0 0) (.slice none 0 0) (.int .i64 0) (.int .i64 0)))
 have aJ:=Qq aM;have Z:=Qq r8
 clear Y aM r8 bW
 go_upto_region 18 with (go_at_call 18;refine (HP.o _ aJ.o).mono ?_;rintro e w' ⟨rfl,rfl⟩)
 refine let_mvar% ?Lq1:=λw':World=>(BA w' (w+1+1+1+1) (.int .i64 3) (.string ⟨#[100]⟩) Ic Ig Ie Ie Ie Ic Ic ((BA w' (w+1) (.int .i64 3) (.string ⟨#[97]⟩) Ic Ig Ie Ie Ie Ic Ic ((BA w' (w+1+1) (.int .i64 3) (.string ⟨#[98]⟩) Ic Ig Ie Ie Ie Ic Ic ((BI w' (w+1+1+1) (.int .i64 3) (.string ⟨#[99]⟩) Ic Ig Ie Ie Ie Ic Ic:Prop)):Prop)):Prop)):Prop);?_
 have HS:=Qq (λw' (h:Yu (Jr (w+1+1+1+1) (.int .i64 3) (.string ⟨#[100]⟩) (.int .i64 0) (.string ⟨#[]⟩) (.slice none 0 0) (.slice none 0 0) (.slice none 0 0) (.int .i64 0) (.int .i64 0)++Jr (w+1) (.int .i64 3) (.string ⟨#[97]⟩) (.int .i64 0) (.string ⟨#[]⟩) (.slice none 0 0) (.slice none 0 0) (.slice none 0 0) (.int .i64 0) (.int .i64 0)++Jr (w+1+1) (.int .i64 3) (.string ⟨#[98]⟩) (.int .i64 0) (.string ⟨#[]⟩) (.slice none 0 0) (.slice none 0 0) (.slice none 0 0) (.int .i64 0) (.int .i64 0)++Jr (w+1+1+1) (.int .i64 3) (.string ⟨#[99]⟩) (.int .i64 0) (.string ⟨#[]⟩) (.slice none 0 0) (.slice none 0 0) (.slice none 0 0) (.int .i64 0) (.int .i64 0)) w')=>(show ?Lq1 w' from Yu.spread h))
 have HG:=Qq hG
 have aK:=Qq (λw' z0 z1 z2 z3 z4 z5 z6 z7 z8 (h:Yu _ w')=>HS.o _ (h.put9 HG.o z0 z1 z2 z3 z4 z5 z6 z7 z8))
 unfold put9 at aK
 have D:=aJ
 clear hG
 obtain ⟨aB,aC,aD,aE⟩:=It True.intro True.intro True.intro True.intro
 go_region_held3 ?Lq1 (first | with_reducible exact HS.o _ A | with_reducible exact HS.o _ A.drew | with_reducible exact HS.o _ (A.alloc _) | with_reducible exact HS.o _ (A.alloc _).drew | with_reducible exact HS.o _ ((A.alloc _).alloc _) | with_reducible exact HS.o _ ((A.alloc _).alloc _).drew | with_reducible exact HS.o _ (((A.alloc _).alloc _).alloc _) | with_reducible exact aK.o _ _ _ _ _ _ _ _ _ _ A)
  (first
   | (have hn:=G.o;clear hn;(repeat (first
      | (have hn:=G.o;clear hn;have hk:=aD.o;clear aD hk;generalize aG:World.alloc _ (Obj.cells #[.int .i64 3,.string ⟨#[100]⟩,Ic,Ig,Ie,Ie,Ie,Ic,Ic,bA,.string bE,bC,.string bG,.slice aS bK bQ,.slice aU bM bS,.slice aW bO bU,aY,bI,bB,.string bF,bD,.string bH,.slice aT bL bR,.slice aV bN bT,.slice aX bP bV,aZ,bJ] 46 _)=WK;have aA:=Vm aG;have aN:=Jp aG;have aO:=Fk aG Z.o;have V:=A.later aA;clear A;have A:=V;clear V;have O:=Qq (Ym aA Z.o);clear Z;have Z:=O;clear O;have M:=Qq (D.o.n aA);clear D;have D:=M;clear M;(try (have U:=Qq (T.o.move (.f aA) Ij);clear T;have T:=U;clear U));(try (have U:=Qq (G.o.move (.f aA) Ij);clear G;have G:=U;clear U));have N:=Qq aN;have aR:=Qq aO;clear aG aA aN aO)
      | fail));have hn:=N.o;clear hn;have hk:=aE.o;clear aE hk;obtain ⟨⟨f0,f1,f2,f3,f4,f5,f6,f7,f8⟩,y0,y1,y2,y3,y4,y5,y6,y7,y8⟩:=BM Z.o;go_simp)
   | (have hn:=T.o;clear hn;have hk:=aC.o;go_at_call 63;refine (Vo w [61,61] _ _ _ _ _ Ib (by exact (Yv 3 [99] 0 [] Ib Ib)) (by exact (Yv 3 [99] 0 [] Ib Ib)) (by exact Z8 Z.o)).mono ?_;rintro e W2 ⟨bB,bF,bD,bH,aT,bL,bR,aV,bN,bT,aX,bP,bV,aZ,bJ,rfl,aQ,J⟩;clear aC hk;(try (have aF:=Uz J;clear J;have J:=aF;clear aF));have V:=A.later J;clear A;have A:=V;clear V;have O:=Qq (Ym J Z.o);clear Z;have Z:=O;clear O;have M:=Qq (D.o.n J);clear D;have D:=M;clear M;(try (have U:=Qq (Ym J N.o);clear N;have N:=U;clear U));(try (have U:=Qq (T.o.move (.f J) Ij);clear T;have T:=U;clear U));have G:=Qq aQ;clear aQ J)
   | (have hk:=aB.o;go_at_call 63;refine (Vo w [60] _ _ _ _ _ Ib (by exact (Yv 3 [97] 0 [] Ib Ib)) (by exact (Yv 3 [98] 0 [] Ib Ib)) (by exact Z8 Z.o)).mono ?_;rintro e W1 ⟨bA,bE,bC,bG,aS,bK,bQ,aU,bM,bS,aW,bO,bU,aY,bI,rfl,aP,I⟩;clear aB hk;(try (have aF:=Uz I;clear I;have I:=aF;clear aF));have V:=A.later I;clear A;have A:=V;clear V;have O:=Qq (Ym I Z.o);clear Z;have Z:=O;clear O;have M:=Qq (D.o.n I);clear D;have D:=M;clear M;(try (have U:=Qq (Ym I N.o);clear N;have N:=U;clear U));(try (have U:=Qq (G.o.move (.f I) Ij);clear G;have G:=U;clear U));have T:=Qq aP;clear aP I)
   | fail)
 all_goals
  go_wp2_with fail
  show bodyPost _ _ _ _ _ (put9 _ w (.int .i64 12) Ig Ic Ig Ie Ie (Io _ 0 3 3) Ic Ic)
  exact Q7 (v:=.agg #[.int .i64 12,Ig,Ic,Ig,Ie,Ie,Io _ 0 3 3,Ic,Ic]) (by simp [results,results17,go_sem,Xm Z.o]) rfl (Uu (Xv (nm:=[]) (s:=[]) Ib Ib (Sl.nil _ _ _) (Sl.nil _ _ _) (Y4 (xs:=[Gen.d,Gen.op [60] [Gen.a,Gen.b],Gen.op [61,61] [Gen.c,Gen.c]]) N.o aR.o (((Cs.one (r:=Vz) (Yv 3 [100] 0 [] Ib Ib)).app (Cs.one (r:=Vz) T.o)).app (Cs.one (r:=Vz) G.o)) rfl rfl Ib)) D.o rfl)
end Go.Proofs.YtdpibdpbgokmoaaGreatDoor
