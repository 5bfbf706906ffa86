import Derived.Test.YtcljcblceodciaaGreatDoorU42
import Derived.Test.YtcljcblceodciaaGreatDoorU32
set_option maxRecDepth 100000
set_option maxHeartbeats 400000000
namespace Go.Proofs.YtcljcblceodciaaGreatDoor
open Go.RowKit Go.Shelf Go.Lib Tryz
structure Ks (t:Tbl):Prop where
 few:t.columns.length<=900
 refs:t.refs.length<=1000
 words:∀ c ∈ t.columns,Vy c.name
 once:(t.columns.map Col.name).Nodup
 types:∀ c ∈ t.columns,Ja c.type\/c.type.kind=3
theorem Ju (l:List Int) (i:Nat) (m:Int) (hm:1<=m):0<=Yl l i m/\Yl l i m<m:=by
 unfold Yl
 split
 ·exact N1 _ m C7
 omega
theorem Pq (s:Sc) (hsg:Us s.sums) (t:Ty) (hl:Ja t\/t.kind=3) (n:Int) (hn0:0<=n) (hn1:n<=1000000) (S0 S1:Nat->Prop) (cs ct:List Value) (w:World) (hs:Xt S0 w cs s) (ht:X5 S1 w ct t):
  Calls prog 87 #[cs,ct,n] w (Kg w):=by
 rcases hl with h | h
 ·exact Gg s t h n hn0 S0 S1 cs ct w hs ht
 obtain ⟨k,nm,tn,names,kids⟩:=t
 cases (show k=3 from h)
 exact R3 s hsg nm tn names kids n hn0 hn1 S0 S1 cs ct w hs ht
theorem Lv:∀ {ks:List Bs} {row:Val} {l:List Val},keyOf ks row=some l->∀ v ∈ l,v ∈ row.kids
 | [],row,l,h,v,hv=>by
  simp only [keyOf,Zv] at h
  subst h;simp at hv
 | k::ks,row,l,h,v,hv=>by
  unfold keyOf at h
  split at h
  ·rename_i u l' h1 h2
   obtain rfl:=Qb h
   rcases Z3.1 hv with rfl | hv
   ·unfold Yt at h1
    split at h1
    ·split at h1
     ·exact Qy h1
     cases h1
    cases h1
   exact Lv h2 v hv
  cases h
theorem Y4.kid {v:Val} (h:Y4 v):∀ x ∈ v.kids,Y4 x:=by
 cases h with
 | int n=>intro x A;simp [Val.kids] at A
 | text s=>intro x A;simp [Val.kids] at A
 | bool n _=>intro x A;simp [Val.kids] at A
 | make s kids _ _ hk=>exact hk
 | record names kids _ _ _ hk=>exact hk
 | list kids hk=>exact hk
def P0 (S:Nat->Prop) (w:World) (m:Nat) (e:Ending) (w':World):Prop:=∃ v p3 k3 p4 k4,e=.returned (.agg (vcs v p3 k3 p4 k4).toArray)/\Y4 v/\(v.kids.length<=m/\v.kids.length<=k4)/\Z9 (fun b=>S b\/w<=b) w' (vcs v p3 k3 p4 k4) v/\Below w w w'
theorem Ri {l:List Rel} {x:Bs} {v:Val} (h:v ∈ Yo l x):∃ r ∈ l,v ∈ r.rows:=by
 unfold Yo at h
 split at h
 ·rename_i i hi
  unfold Vu at hi
  have hl:=(List.findIdx?_eq_some_iff_getElem.1 hi).1
  rw [Qs,Qx hl,Option.getD_some] at h
  exact ⟨_,Qd hl,h⟩
 simp at h
structure Uv (S:Nat->Prop) (W1 wr:World) (nv vv:Value) (xs:List Bs) (vals:List Val):Prop where
 old:∀ b,S b->b<W1.heap.size
 below:Below W1 W1 wr
 names:∃ css,Own Zh 9 (fun _=>True) W1 wr nv xs css
 vals:∃ css,Own Zd 36 (fun b=>(S b\/W1.heap.size<=b)/\some b≠nv.ownBlock) W1 wr vv vals css
theorem Uv.grow {S:Nat->Prop} {W1 wr wr':World} {nv vv:Value} {xs:List Bs} {vals:List Val} (h:Uv S W1 wr nv vv xs vals) (hb:Below wr wr wr'):Uv S W1 wr' nv vv xs vals:=by
 obtain ⟨h0,h1,⟨c1,h2⟩,⟨c2,h3⟩⟩:=h
 exact ⟨h0,h1.thn hb,⟨c1,h2.below hb⟩,⟨c2,h3.below hb⟩⟩
theorem Uv.addName {S:Nat->Prop} {W1 w w1:World} {nv vv nv':Value} {xs xs':List Bs} {vals:List Val} {css:List (List Value)} (h:Uv S W1 w nv vv xs vals) (hO:Own Zh 9 (fun _=>True) W1 w1 nv' xs' css) (hL:Hg W1 w w1 nv nv'):Uv S W1 w1 nv' vv xs' vals:=by
 obtain ⟨h0,h1,⟨c1,h2⟩,⟨c2,A⟩⟩:=h
 refine ⟨h0,h1.trans hL.below,⟨_,hO⟩,⟨c2,U7 A.row (fun b hb hv=>hL.other b hb (fun e=>Yh A.row h2.row Cc hv e.symm)),?_⟩⟩
 refine A.cs.move (fun b hb D=>hL.other b D hb.1.2) (fun b hb h=>⟨⟨h.1.1,fun e=>?_⟩,h.2⟩)
 rcases hL.at' with e' | ⟨g,e',hg⟩
 ·exact h.1.2 (by rw [e,e'])
 rw [e'] at e
 have:=Qb e
 omega
theorem Uv.addVal {S:Nat->Prop} {W1 w w1:World} {nv vv vv':Value} {xs:List Bs} {vals vals':List Val} {css:List (List Value)} (h:Uv S W1 w nv vv xs vals) (hO:Own Zd 36 (fun b=>(S b\/W1<=b)/\some b≠nv.ownBlock) W1 w1 vv' vals' css) (hL:Hg W1 w w1 vv vv'):Uv S W1 w1 nv vv' xs vals':=by
 obtain ⟨h0,h1,⟨c1,h2⟩,⟨c2,h3⟩⟩:=h
 exact ⟨h0,h1.trans hL.below,⟨c1,Fx h2 (fun b hb hv=>hL.other b hb (fun e=>Yh h2.row h3.row Cc hv e.symm))⟩,⟨_,hO⟩⟩
def ValMid (wr:World) (t15:Value) (wx:World):Prop:=∃ G v q3 m3 q4 m4,t15=.pointer (some ⟨G,0,none⟩)/\wx.heap[G]?=some (.cells (Cn v q3 m3 q4 m4) 36 (0,0))/\Y4 v/\Z9 (fun b=>wr<=b/\b≠G) wx (vcs v q3 m3 q4 m4) v/\Below wr wr wx/\wr.heap.size<=G
def Ht (S5:Nat->Prop) (wo:World) (G:Nat) (wr:World):Prop:=Below wo wo wr/\∃ v q3 m3 q4 m4,wr.heap[G]?=some (.cells (Cn v q3 m3 q4 m4) 36 (0,0))/\Y4 v/\Z9 S5 wr (vcs v q3 m3 q4 m4) v
theorem Ht.grow {S5:Nat->Prop} {wo:World} {G:Nat} {wr wr':World} (h:Ht S5 wo G wr) (hb:Below wr wr wr'):Ht S5 wo G wr':=by
 obtain ⟨h1,v,q3,m3,q4,m4,h2,h3,h4⟩:=h
 exact ⟨h1.thn hb,v,q3,m3,q4,m4,kB hb h2,h3,h4.move (.of_below hb) Qje⟩
def TabMid (S:Nat->Prop) (wr:World) (T:Tbl) (b:Bool) (t18 t19:Value) (wx:World):Prop:=∃ G cp9 cc9 kp9 kc9 rp9 rc9 k9 s19 n9 s29 p19 n19 c19 p29 n29 c29 p39 n39 c39 a9 z9,t18=.pointer (some ⟨G,0,none⟩)/\t19=.bool b/\wx.heap[G]?=some (.cells (Co T cp9 cc9 kp9 kc9 rp9 rc9 k9 s19 n9 s29 p19 n19 c19 p29 n29 c29 p39 n39 c39 a9 z9) 48 (0,0))/\Zm.R S wx (Co T cp9 cc9 kp9 kc9 rp9 rc9 k9 s19 n9 s29 p19 n19 c19 p29 n29 c29 p39 n39 c39 a9 z9) T/\Below wr wr wx/\wr.heap.size<=G
def KeyMid (S:Nat->Prop) (wr:World) (l:List Val) (t20:Value) (wx:World):Prop:=∃ p c,t20=.slice p l.length c/\Sl Zd (fun b=>S b\/wr<=b) wx (.slice p l.length c) l/\Below wr wr wx
theorem Lc (S0 S1 S2 S3:Nat->Prop) (s:Sc) (cs:List Value) (lv:Value) (l:List Rel) (t:Tbl) (ct:List Value) (nv:Value) (ns:List Int) (at':Nat) (w:World) (hs0:Xt S0 w cs s) (hl0:∃ p c,lv=.slice p l.length c) (HRo:Hid (∀ tn W,Below w w W->Calls prog 88 #[lv,sv tn] W (Po (fun b=>S1 b/\b<w) W (Yo l tn)))) (ht:Zm.R S2 w ct t) (hn0:Xd S3 w nv ns) (hi:Uh ns) (hat:at'<=1000) (hT:Ks t) (hsg:Us s.sums) (hk:∀ t ∈ s.tables,t.key.length<=1000) (hR:∀ r ∈ l,∀ v ∈ r.rows,Y4 v):
  Calls prog 30 #[cs,lv,ct,nv,at'] w (P0 S1 w t.columns.length):=by
 have hs:Xt (fun b=>S0 b/\b<w) w cs s:=by
  obtain ⟨uv,tv,h1,h2,h3⟩:=hs0
  exact ⟨uv,tv,h1,h2.mono (fun b hb h=>⟨h,hb⟩),h3.mono (fun b hb h=>⟨h,hb⟩)⟩
 clear hs0
 have mR:=Qq hs
 have fN:=Qq (fun (ty:Ty) (hty:Ja ty\/ty.kind=3) (q:Int) (cP:0<=q) (cQ:q<=1000000) (S':Nat->Prop) (cty:List Value) W (hW:Below w w W) (hc:X5 S' W cty ty)=>Pq s hsg ty hty q cP cQ (fun b=>S0 b/\b<w) S' cs cty W (hs.below hW) hc)
 have cZ:=Qq (fun tn W (hW:Below w w W)=>Ek (fun b=>S0 b/\b<w) s cs tn W (hs.below hW))
 have fA:=Qq (fun (k:Nat) W (hW:Below w w W)=>Yn S3 nv ns (at'+k) 100000 W (hn0.below hW) hi C7 C7)
 obtain ⟨HK,HR,cJ⟩:=Qjq hk hR hT
 obtain ⟨uv,tv,rfl,hu,hL⟩:=hs
 obtain ⟨up,uc,rfl,_⟩:=hu.len
 obtain ⟨tp,tc,rfl,_⟩:=hL.len
 obtain ⟨lp,lc,rfl⟩:=hl0
 obtain ⟨np,nc,rfl,_⟩:=hn0.len
 obtain ⟨mW,kM,nR,nQ,nX,lN,k0,nY,n0,nZ,nU,nS,mT,nV,n20,mU,nW,nT,mV,a0,z0,rfl,_,bY,_,cB,_⟩:=Zt ht
 unfold tcs
 obtain ⟨n,hn⟩:=eX (t.columns.length)
 obtain ⟨m,hm⟩:=eX (t.refs.length)
 have nI:n<=900:=C8 hT.few
 have nH:m<=1000:=C8 hT.refs
 rw [hn] at bY |-
 rw [hm] at cB |-
 obtain ⟨HC,jZ,HN,HM⟩:=Qjz bY cB hn hm
 clear ht hn0 hu hL bY cB hn hm hT hsg hk hR
 simp only [Int.natCast_add] at fA
 obtain ⟨i0,j1,j2,j3,j4⟩:=Y7 (P:=prog) (t:=36) (z:=.agg zV) (n:=5) (b:=80) Cd
 obtain ⟨HJ,jM,jN,jO⟩:=Qjz j1 j2 j3 j4
 clear j1 j2 j3 j4
 obtain ⟨i9,j1,j2,j3,j4⟩:=Y7 (P:=prog) (t:=9) (z:=.string ⟨#[]⟩) (n:=1) (b:=16) Cd
 obtain ⟨HI,jJ,jK,jL⟩:=Qjz j1 j2 j3 j4
 clear j1 j2 j3 j4
 unfold sv at HRo cZ
 go_enter func30,ntmps30
 go_wp2_with fail
 generalize bC:((w.alloc _).alloc _).alloc _=W1
 have gO:=eqB bC (Xm _ _ _ _)
 have gF:=eqH (b:=w.heap.size) bC (Zp _ _ _ _)
 have gI:=eqH (b:=w.heap.size+1) bC (Zo _ _ _ _)
 have gM:=eqH (b:=w.heap.size+1+1) bC (Zl _ _ _ _)
 have hZ:W1=w.heap.size+3:=by rw [<- bC];simp
 obtain ⟨iU,fF,fH,kJ,kL⟩:=Qjk gO gF gI gM hZ
 have hK:Uv (fun b=>S1 b/\b<w) W1 W1 (.slice none 0 0) (.slice none 0 0) [] []:=⟨fun b hb=>by have:=hb.2;omega,Qz _ _,⟨[],Own.nil _ _ _ _ _⟩,⟨[],Own.nil _ _ _ _ _⟩⟩
 clear bC gO gF gI gM hZ
 go_loopw [11,12,13,14,15,16,17,18,19,20] (fun lO lP eL _ _ _ _ _ _ _ wr=>∃ (k:Nat) (p3:Option Addr) (aQ:Nat) (p4:Option Addr) (aA:Nat) (vals:List Val),k<=n/\lO=.slice p3 k aQ/\lP=.slice p4 k aA/\eL=.int .i64 k/\Aside (vals.length=k/\(∀ v ∈ vals,Y4 v)/\Uv (fun b=>S1 b/\b<w) W1 wr (.slice p3 k aQ) (.slice p4 k aA) ((t.columns.take k).map Col.name) vals)) (fun _ _ eL _ _ _ _ _ _ _ _=>n - (intOf eL).toNat)
 case atStart=>exact ⟨0,none,0,none,0,[],Q8 _,rfl,rfl,rfl,rfl,(fun v h=>by simp at h),hK⟩
 clear hK
 obtain ⟨k,p3,aQ,p4,aA,vals,dZ,rfl,rfl,rfl,hA⟩:=hrel
 obtain ⟨hQ,hP,h2⟩:=hA.out
 obtain ⟨cL,fP,H2⟩:=Qjq hQ hP h2
 have bI:=Qq h2.below;have bR:=Qq (iU.out.thn h2.below)
 have nP:=kL.out
 have lI:=h2.below.size
 clear hA hQ hP h2
 have bB:=kB bI.out fF.out
 have aW:=kB bI.out fH.out
 have gN:=kB bI.out kJ.out
 obtain ⟨fG,kF,fR⟩:=Qjq bB aW gN
 obtain ⟨s0,s1⟩:=row2 bB
 have c1:=rA1 aW
 clear bB aW gN
 by_cases bD:k<n
 ·have nE:(0:Int)<=(k:Int):=C7
  have nF:(k:Int)<(n:Int):=C7
  obtain ⟨c,hc⟩:∃ c,t.columns[k]?=some c:=⟨_,Qx (by rw [HN.out];exact bD)⟩
  have hJ:=Be hc
  obtain ⟨cb,N,tk,ts,tn,t3,n3,l3,t4,n4,l4,kT,nC,nD,gR,dG,d0,d1,d2,d3,d4,d5⟩:=(HC.out.below bR.out).col hc
  subst kT
  have hH:=Ju ns (at'+k) 100000 C7
  obtain ⟨q,hq⟩:=eX (Yl ns (at'+k) 100000)
  have fB:=Qq (fA.out k)
  rw [hq] at fB hH
  obtain ⟨cP,cQ⟩:=hH
  obtain ⟨fJ,kA,jC,jB⟩:=Qjz dG hJ gR (Qy hc)
  have HD:=Qq d0
  clear hq hc hJ dG gR
  have nG:k<900:=C7
  go_upto_region 7 with (go_at_call 27;refine (fB.out _ bR.out).mono ?_;rintro e w' ⟨rfl,rfl⟩)
  refine let_mvar% ?Lq1:=fun w':World=>Cf w' w 0 (.slice up s.sums.length uc)/\Cf w' w 1 (.slice tp s.tables.length tc)/\Cf w' (w+1) 1 (Cg cb N n kM)/\Cf w' cb (N+k*6+1) tk/\Cf w' cb (N+k*6+2) (.string ts)/\Cf w' cb (N+k*6+3) (.int .i64 tn)/\Cf w' cb (N+k*6+4) (.slice t3 n3 l3)/\Cf w' cb (N+k*6+5) (.slice t4 n4 l4)/\Below wr wr w';?_
  have HS:∀ w',Below wr wr w'->?Lq1 w':=by
   intro w' h
   have D:∀ {b j:Nat} {u:Value},wr.cell? ⟨b,j,none⟩=some u->w'.cell? ⟨b,j,none⟩=some u:=fun hc=>kC h hc
   exact ⟨D s0,D s1,D c1,D d1,D d2,D d3,D d4,D d5,h⟩
  obtain ⟨bO,bP,bJ,A,aU,aV⟩:=U1 HS (fun w' h=>h.2.2.2.2.2.2.2.2)
  have HP:=fun w' x0 x1 x2 x3 x4 h=>aV.out (Zi w' wr x0 x1 x2 x3 x4) (Zc (A.out w' h) (Q9 _))
  unfold Zi at HP
  have bL:=Qq HP
  clear HS HP s0 s1 c1 d1 d2 d3 d4 d5
  have fO:=Qq (fun W' (h':Below wr wr W')=>(fN.out c.type (cJ.out.types c jB.out) q cP C7 _ [tk,.string ts,.int .i64 tn,.slice t3 n3 l3,.slice t4 n4 l4] W' (bR.out.thn h') (fJ.out.move (.of_below h') Qje)).mono (R':=fun e w2=>∃ v q3 m3 q4 m4,e=.returned (.agg (Cn v q3 m3 q4 m4))/\Y4 v/\Z9 (fun b=>W'<=b) w2 (vcs v q3 m3 q4 m4) v/\Below W' W' w2/\Below wr wr w2) (by
   rintro e w2 ⟨v,q3,m3,q4,m4,rfl,g1,_,g2,g3⟩
   exact ⟨v,q3,m3,q4,m4,rfl,g1,g2,g3,h'.thn g3⟩))
  go_cut [15] from 23 to 118 (fun lQ wx=>ValMid wr lQ wx)
  case first=>
   go_region_held3 ?Lq1 (first | with_reducible exact bO.out | with_reducible exact I | with_reducible exact bJ.out _ (aU.out _ _ bP.out) | with_reducible exact aU.out _ _ I | with_reducible exact bL.out _ _ _ _ _ _ I)
    (first
     | (go_at_call 87;refine (fO.out _ (A.out _ Ce)).mono ?_;rintro e w2 ⟨v,q3,m3,q4,m4,rfl,gV,hO,M,eD⟩;have I:=aV.out _ eD;(try (have r2:w2.heap[wr.heap.size]?=some (.cells zV 36 (0,0)):=(M.block wr Ca).trans (Qw wr _);obtain ⟨y0,y1,y2,y3,y4⟩:=row5 r2;obtain ⟨g0,g1,g2,g3,g4⟩:=frz5 r2;have bM:=Qq r2;clear r2));obtain ⟨cF,fL,dL⟩:=Qjq gV hO M;clear gV hO M))
   all_goals
    go_wp2_with fail
    go_meet
    first
     | (have h9:=bM.out;clear h9;exact ⟨wr.heap.size,v,q3,m3,q4,m4,rfl,Yw bM.out,cF.out,Z9.move fL.out (fun b hb _=>Zf (by have h:(wr.alloc _).drew.heap.size<=b:=hb;simp at h;omega)) (fun b _ hb=>by have h:(wr.alloc _).drew.heap.size<=b:=hb;simp at h;exact ⟨C7,C7⟩),Zc (A.out _ I) (Q9 _),Q9 _⟩)
     | exact ⟨w2.heap.size,v,q3,m3,q4,m4,rfl,Qw _ _,cF.out,Z9.move fL.out (.of_below (Zg _ _)) (fun b hb h=>⟨by have h:wr.drew.heap.size<=b:=h;simpa using h,C7⟩),(A.out _ I).thn (Zg _ _),(A.out _ I).size⟩
  obtain ⟨G,v0,z3,y3,z4,y4,rfl,hG,gU,hN,bW,fZ⟩:=hcut
  obtain ⟨HG,eV,fK,iW⟩:=Qjz hG gU hN bW
  clear hG gU hN bW fO
  clear bO bP bJ A aU bL aV
  obtain ⟨wo,rfl⟩:∃ wo,wo=wr:=⟨_,rfl⟩
  have eT:=Qq bI.out
  have dI:Ht (fun b=>(S1 b/\b<w)\/(wo<=b/\b≠G)) wo G wc:=⟨iW.out,v0,z3,y3,z4,y4,HG.out,eV.out,fK.out.move (.refl _ _) (fun b _ h=>.inr h)⟩
  have nB:w.heap.size+3<=G:=C7
  clear fK HG eV fJ fG kF fR lI
  go_wp2_with fail
  go_loopw [16,17,18,19,20] (fun eM _ _ _ _ wr=>∃ r:Nat,r<=m/\eM=.int .i64 r/\Aside (Ht (fun b=>(S1 b/\b<w)\/(wo<=b/\b≠G)) wo G wr)) (fun eM _ _ _ _ _=>m - (intOf eM).toNat)
  case atStart=>exact ⟨0,Q8 _,rfl,dI⟩
  clear dI
  obtain ⟨r,nM,rfl,hA⟩:=hrel
  have cG:=Qq hA.out
  have iX:=Qq hA.out.1;have bQ:=Qq (bR.out.thn hA.out.1)
  have cM:Below W1 W1 wr:=bI.out.thn hA.out.1
  clear hA
  have bB:=kB cM fF.out
  have aW:=kB cM fH.out
  have iV:=Qq cM
  clear cM
  obtain ⟨s0,s1⟩:=row2 bB
  have c1:=rA1 aW;have c3:=rA3 aW
  clear bB aW
  by_cases hlr:r<m
  ·have nJ:(0:Int)<=(r:Int):=C7
   have nK:(r:Int)<(m:Int):=C7
   obtain ⟨f,hf⟩:∃ f,t.refs[r]?=some f:=⟨_,Qx (by rw [HM.out];exact hlr)⟩
   obtain ⟨fb,dC,mZ,kV,kU,_,_,⟨gT,mM,mN⟩,dY⟩:=(jZ.out.below bQ.out).elem hf
   subst kV;subst gT
   have e0:=dY 0 _ rfl;have e1:=dY 1 _ rfl
   rw [show Kz.k=2 from rfl] at e0 e1
   rw [Nat.add_zero] at e0
   unfold sv at e0 e1
   obtain ⟨rows,aX⟩:=eX (Yo l f.table)
   have bN:=Qq (HRo.out f.table wr bQ.out)
   rw [aX] at bN
   have dO:=Qq aX
   obtain ⟨T,hT⟩:=eX ((Yq s.tables f.table).getD Tbl.zero)
   obtain ⟨b,hb⟩:=eX ((Yq s.tables f.table).isSome)
   have cK:=Qq (cZ.out f.table)
   unfold TabIs at cK
   rw [hT,hb] at cK
   have gK:T.key.length<=1000:=by
    rw [<- hT]
    cases h:Yq s.tables f.table with
    | none=>exact Q8 _
    | some t=>exact HK.out t (List.mem_of_find?_eq_some h)
   have kD:=Qq gK
   clear hf dY kU aX hT hb gK
   go_upto_region 12 with (go_at_call 88;refine bN.out.mono ?_;rintro e w' ⟨rp,rc,rfl,hI,rfl⟩;have fD:=Qq hI;clear hI)
   obtain ⟨n2,eA⟩:=eX (rows.length)
   rw [eA] at fD |-
   have jT:=Qq eA
   clear eA bN
   obtain ⟨jD,iZ,jA⟩:=Qjq e0 c1 c3
   clear e0 c1
   refine let_mvar% ?Lq2:=fun w':World=>Cf w' w 0 (.slice up s.sums.length uc)/\Cf w' w 1 (.slice tp s.tables.length tc)/\Cf w' (w+1) 3 (Cg fb dC m lN)/\Cf w' fb (dC+r*2+1) f.table/\Below wr wr w';?_
   have HS:∀ w',Below wr wr w'->?Lq2 w':=by
    intro w' h
    have D:∀ {b j:Nat} {u:Value},wr.cell? ⟨b,j,none⟩=some u->w'.cell? ⟨b,j,none⟩=some u:=fun hc=>kC h hc
    exact ⟨D s0,D s1,D c3,D e1,h⟩
   obtain ⟨bO,bP,bJ,A,aU,aV⟩:=U1 HS (fun w' h=>h.2.2.2.2)
   have HP:=fun w' x0 x1 x2 x3 x4 x5 x6 x7 x8 x9 lX lY lZ h=>aV.out (Xi w' wr x0 x1 x2 x3 x4 x5 x6 x7 x8 x9 lX lY lZ) (Xz (A.out w' h) (Q9 _))
   unfold Xi at HP
   have bL:=Qq HP
   clear HS HP s0 s1 c3 e1
   have fI:=Qq (fun W' (h':Below wr wr W')=>(cK.out W' (bQ.out.thn h')).mono (R':=fun e w2=>∃ Z Y aC aB aK aJ k9 aL n9 aM aG aD O aH aE U aI aF V a9 z9,e=.returned (.tuple #[.agg (Co T Z Y aC aB aK aJ k9 aL n9 aM aG aD O aH aE U aI aF V a9 z9),.bool b])/\Zm.R (fun b=>S0 b/\b<w) w2 (Co T Z Y aC aB aK aJ k9 aL n9 aM aG aD O aH aE U aI aF V a9 z9) T/\Below W' W' w2/\Below wr wr w2) (by
    rintro e w2 ⟨mX,rfl,g1,g2⟩
    obtain ⟨Z,Y,aC,aB,aK,aJ,k9,aL,n9,aM,aG,aD,O,aH,aE,U,aI,aF,V,a9,z9,gS,_⟩:=Zt g1
    simp only [tcs] at gS
    subst gS
    exact ⟨Z,Y,aC,aB,aK,aJ,k9,aL,n9,aM,aG,aD,O,aH,aE,U,aI,aF,V,a9,z9,rfl,g1,g2,h'.thn g2⟩))
   clear cK
   go_cut [18,19] from 44 to 105 (fun lR lS wx=>TabMid (fun b=>S0 b/\b<w) wr T b lR lS wx)
   case first=>
    go_region_held3 ?Lq2 (first | with_reducible exact bO.out | with_reducible exact I | with_reducible exact bJ.out _ (aU.out _ _ bP.out) | with_reducible exact aU.out _ _ I | with_reducible exact bL.out _ _ _ _ _ _ _ _ _ _ _ _ _ _ I)
     (first
      | (go_at_call 89;refine (fI.out _ (A.out _ Ce)).mono ?_;rintro e w2 ⟨Z,Y,aC,aB,aK,aJ,k9,aL,n9,aM,aG,aD,O,aH,aE,U,aI,aF,V,a9,z9,rfl,hM,M,eD⟩;have I:=aV.out _ eD;(try (have r2:w2.heap[wr.heap.size]?=some (.cells zT 48 (0,0)):=(M.block wr Ca).trans (Qw wr _);obtain ⟨y0,y1,y2,y3,y4,y5,y6,y7,y8,y9,oA,oB,oC⟩:=row13 r2;obtain ⟨g0,g1,g2,g3,g4,g5,g6,g7,g8,g9,dR,dS,dT⟩:=frz13 r2;have bM:=Qq r2;clear r2));have cI:=Qq hM;have dL:=Qq M;clear hM M))
    all_goals
     go_wp2_with fail
     go_meet
     first
      | (have h9:=bM.out;clear h9;exact ⟨wr.heap.size,Z,Y,aC,aB,aK,aJ,k9,aL,n9,aM,aG,aD,O,aH,aE,U,aI,aF,V,a9,z9,rfl,rfl,Kd bM.out,Zm.frame cI.out (fun b hb _=>V8 (by have:=hb.2;have:=bQ.out.size;omega)),Xz (A.out _ I) (Q9 _),Q9 _⟩)
      | exact ⟨w2.heap.size,Z,Y,aC,aB,aK,aJ,k9,aL,n9,aM,aG,aD,O,aH,aE,U,aI,aF,V,a9,z9,rfl,rfl,Qw _ _,Zm.frame cI.out (.of_below (Zg _ _)),(A.out _ I).thn (Zg _ _),(A.out _ I).size⟩
   obtain ⟨G2,Z,Y,aC,aB,aK,aJ,k9,aL,n9,aM,aG,aD,O,aH,aE,U,aI,aF,V,a9,z9,rfl,rfl,fX,gJ,bW,mJ⟩:=hcut
   obtain ⟨cF,cI,aO⟩:=Qjq fX gJ bW
   clear fX gJ bW fI
   clear bO bP bJ A aU bL aV
   have J:=Qq (cG.out.grow aO.out);have kI:=Qq (bQ.out.thn aO.out)
   have cN:∀ {b j:Nat} {x:Value},wr.cell? ⟨b,j,none⟩=some x->wc.cell? ⟨b,j,none⟩=some x:=fun hx=>kC aO.out hx
   have e0:=cN jD.out;have c1:=cN iZ.out;have c3:=cN jA.out
   have d0:=kC (iX.out.thn aO.out) HD.out
   clear cN cG
   have lH:(f.column==c.name)=false\/((f.column==c.name)=true/\b=false)\/((f.column==c.name)=true/\b=true/\n2=0)\/((f.column==c.name)=true/\b=true/\0<n2):=by
    cases (f.column==c.name) <;> cases b <;> simp <;> omega
   rcases lH with hq | ⟨hq,rfl⟩ | ⟨hq,rfl,hz⟩ | ⟨hq,rfl,hz⟩
   focus
    go_upto_region 13 with fail
    go_quiet (fail)
    have aP:=Qq (J.out.grow (Yz wc nq))
    have cA:r+1<=m:=hlr
    clear J
    go_wp2_with fail
    go_roundw
    case measure=>simp [intOf];omega
    case rel=>
     refine ⟨r+1,cA,?_,?_⟩
     ·go_num
     exact aP.out
   focus
    go_upto_region 13 with fail
    go_quiet (fail)
    have aP:=Qq (J.out.grow (Yz wc nq))
    have cA:r+1<=m:=hlr
    clear J
    go_wp2_with fail
    go_roundw
    case measure=>simp [intOf];omega
    case rel=>
     refine ⟨r+1,cA,?_,?_⟩
     ·go_num
     exact aP.out
   focus
    have hg:¬ (0:Int)<(n2:Int):=C7
    go_upto_region 13 with fail
    go_quiet (fail)
    have aP:=Qq (J.out.grow (Yz wc nq))
    have cA:r+1<=m:=hlr
    clear J
    go_wp2_with fail
    go_roundw
    case measure=>simp [intOf];omega
    case rel=>
     refine ⟨r+1,cA,?_,?_⟩
     ·go_num
     exact aP.out
   focus
    have hg:(0:Int)<(n2:Int):=C7
    obtain ⟨m8,lD⟩:=eX (q.tmod (n2:Int))
    have gQ:=Ds q n2 cP hg
    rw [lD] at gQ
    obtain ⟨mK,mL⟩:=gQ
    obtain ⟨j,rfl⟩:∃ j:Nat,m8=(j:Int):=⟨m8.toNat,C7⟩
    have kZ:j<n2:=C7
    obtain ⟨y,hy⟩:∃ y,rows[j]?=some y:=⟨_,Qx (by rw [jT.out];exact kZ)⟩
    obtain ⟨rb,mP,mE,mC,mF,mD,lG,nL,hV,a0,a1,a2,a3,a4⟩:=(fD.out.below aO.out).val hy
    subst lG
    have gY:∀ u ∈ y.kids,Y4 u:=by
     obtain ⟨ro,h1,h2⟩:=Ri (l:=l) (x:=f.table) (v:=y) (by rw [dO.out];exact Qy hy)
     exact (HR.out ro h1 y h2).kid
    have kH:=Qq hV;have jI:=Qq gY
    clear hy hV gY
    obtain ⟨g0,g1,g2,g3,g4,g5,g6,g7,g8,g9,dR,dS,dT⟩:=row13 cF.out
    go_upto_region 13 with fail
    go_quiet (fail)
    obtain ⟨wq,eF⟩:=eX (wc.drewN nq)
    have bX:Below wc wc wq:=by rw [<- eF];exact Yz _ _
    rw [eF]
    obtain ⟨eU,bK,mS⟩:=Qjq bX (J.out.grow bX) (kI.out.thn bX)
    have D:∀ {b j:Nat} {x:Value},wc.cell? ⟨b,j,none⟩=some x->wq.cell? ⟨b,j,none⟩=some x:=fun hx=>kC bX hx
    have g0:=D g0;have g1:=D g1;have g2:=D g2;have g3:=D g3;have g4:=D g4;have g5:=D g5;have g6:=D g6;have g7:=D g7;have g8:=D g8;have g9:=D g9;have dR:=D dR;have dS:=D dS;have dT:=D dT;have a0:=D a0;have a1:=D a1;have a2:=D a2;have a3:=D a3;have a4:=D a4
    clear D eF bX e0 c1 c3 d0
    go_upto_region 14 with fail
    obtain ⟨kl,cO⟩:=eX ((keyOf T.key y).getD [])
    have hC:∀ u ∈ kl,Y4 u:=fun u hu=>by
     cases hk:keyOf T.key y with
     | none=>rw [<- cO,hk] at hu;simp at hu
     | some l'=>rw [<- cO,hk] at hu;exact jI.out u (Lv hk u hu)
    have jR:=Qq hC;have jS:=Qq cO
    clear cO hC
    have eW:=Qq (fun W' (hW:Below wq wq W')=>(Dt (fun b=>S0 b/\b<w) (fun b=>S1 b/\b<w) T y (Co T Z Y aC aB aK aJ k9 aL n9 aM aG aD O aH aE U aI aF V a9 z9) (Cn y mE mC mF mD) W' (Zm.frame cI.out (.of_below (eU.out.thn hW))) (kH.out.move (.of_below (eU.out.thn hW)) Qje) kD.out).mono (R':=fun e w2=>∃ p c,e=.returned (.slice p kl.length c)/\Sl Zd (fun b=>(fun b=>S1 b/\b<w.heap.size) b\/wq<=b) w2 (.slice p kl.length c) kl/\Below wq wq w2) (by
     rintro e w2 ⟨p,c,rfl,h3,h4⟩
     rw [jS.out] at h3 |-
     have nO:=hW.size
     exact ⟨p,c,rfl,h3.mono (fun b _ h=>h.imp id (fun h=>C7)),hW.thn h4⟩))
    go_cut [20] from 44 to 105 (fun lT wx=>KeyMid (fun b=>S1 b/\b<w) wq kl lT wx)
    case first=>
     go_region_with (go_at_call 48;refine (eW.out _ (Qz _ _).drew).mono ?_;rintro e w2 ⟨p,kc,rfl,gZ,M⟩;have jP:=Qq gZ;have dL:=Qq M;clear gZ M)
     all_goals
      go_wp2_with fail
      go_meet
      exact ⟨p,kc,rfl,jP.out,dL.out⟩
    obtain ⟨kp,kc,rfl,hE,dF⟩:=hcut
    have cY:=Qq (bK.out.grow dF)
    have eY:=Qq hE
    obtain ⟨kn,dZ⟩:=eX (kl.length)
    rw [dZ] at eY |-
    have nA:G<wq.heap.size:=by obtain ⟨_,_,_,_,_,_,h,_⟩:=bK.out;exact Z8 h
    obtain ⟨fW,v1,b3,o3,b4,o4,bU,_,_⟩:=cY.out
    have jE:=Qq bU;have iY:=Qq fW
    clear hE dF eW fW
    by_cases hk1:kn=1
    ·subst hk1
     obtain ⟨u,rfl⟩:=List.length_eq_one_iff.1 dZ
     obtain ⟨ub,mQ,u3,iE,u4,iG,lK,lJ,hS,u0,u1,lU,lV,lW⟩:=Sl.val eY.out (i:=0) rfl
     subst lK
     simp only [Nat.zero_mul,Nat.add_zero] at u0 u1 lU lV lW
     have cQ:((1:Int)==1)=true:=rfl
     obtain ⟨y0,y1,y2,y3,y4⟩:=row5 bU
     obtain ⟨f0,f1,f2,f3,f4⟩:=frz5 bU
     have kG:=Qq hS;have jG:=Qq (jR.out u Ca)
     clear bU hS lJ
     go_wp2_with fail
     go_roundw
     case measure=>simp [intOf];omega
     case rel=>
      refine ⟨r+1,C7,by go_num,(show Aside _ from ?_)⟩
      show Ht (fun b=>(S1 b/\b<w)\/(wo<=b/\b≠G)) wo G (Cu wc G u u3 iE u4 iG)
      refine ⟨Zc iY.out fZ,u,u3,iE,u4,iG,Yw jE.out,jG.out,kG.out.move (fun b hb _=>Zf (by rcases hb with h | h;exact (by have:=h.2;omega);exact (by have h':wq.heap.size<=b:=h;omega))) (fun b _ hb=>by
       rcases hb with h | h
       ·exact .inl h
       have h':wq.heap.size<=b:=h
       have:=bK.out.1.size
       exact .inr ⟨C7,C7⟩)⟩
    have cQ:((kn:Int)==1)=false:=by rw [<- Qt,beq_iff_eq];omega
    clear bU
    go_wp2_with fail
    go_roundw
    case measure=>simp [intOf];omega
    case rel=>exact ⟨r+1,C7,by go_num,cY.out⟩
  have mO:r=m:=C7
  have hq:¬ (r:Int)<(m:Int):=C7
  obtain ⟨dV,v,q3,m3,q4,m4,hG,gX,hU⟩:=cG.out
  have gA:=Z8 hG
  have d0:=kC dV HD.out
  have eQ:=Qq (H2.out.grow dV)
  have eB:∀ b,wo.heap.size<=b->some b≠(Value.slice p3 k aQ).ownBlock/\some b≠(Value.slice p4 k aA).ownBlock:=fun b hb=>by
   obtain ⟨x1,eG⟩:=H2.out.names
   obtain ⟨x2,eH⟩:=H2.out.vals
   exact ⟨fun e=>by have:=(eG.row.lt b e.symm).2;omega,fun e=>by have:=(eH.row.lt b e.symm).2;omega⟩
  have dH:∀ b,b<w.heap.size->some b≠(Value.slice p3 k aQ).ownBlock/\some b≠(Value.slice p4 k aA).ownBlock:=fun b hb=>by
   obtain ⟨x1,eG⟩:=H2.out.names
   obtain ⟨x2,eH⟩:=H2.out.vals
   exact ⟨fun e=>by have:=(eG.row.lt b e.symm).1;omega,fun e=>by have:=(eH.row.lt b e.symm).1;omega⟩
  have hF:∀ b,(fun b=>(S1 b/\b<w.heap.size)\/(wo.heap.size<=b/\b≠G)) b->some b≠(Value.slice p3 k aQ).ownBlock/\some b≠(Value.slice p4 k aA).ownBlock:=fun b hb=>by
   rcases hb with h | h
   ·exact dH b h.2
   exact eB b h.1
  obtain ⟨dA,bA⟩:=eQ.out.names
  obtain ⟨jW,HG,jH,fQ,jU,cH⟩:=Qjv bA hG gX hU eB hF
  have gL:=iV.out.size
  have bE:((t.columns.take k).map Col.name).length=k:=by rw [Z7,Qm,HN.out];omega
  have jV:=Qq bE
  clear hG gX hU dV bA eB dH hF bE cG s0 s1
  go_upto_region 18 with (at_builtin;refine Yg (r:=Zh) Cc rfl (.tmp 106) (.tmp 113) _ rfl 9 i9 (.string ⟨#[]⟩) 16 underlying33 HI.out jJ.out jK.out jL.out rfl C7 (fun _=>True) W1 wr (.slice p3 k aQ) ((t.columns.take k).map Col.name) dA [c.name] c.name rfl jW.out rfl ⟨rfl,jC.out⟩ (by simp [Value.oneCell']) k jV.out C7 gL ?_;intro p7 bS mH w7 gC aZ;have fY:=(aZ.other G gA (jU.out G fZ).1).trans HG.out;obtain ⟨b0,b1,b2,b3,b4⟩:=row5 fY;have cC:=fQ.out.move (fun b hb bD=>aZ.other b bD (cH.out b hb).1) Qje;obtain ⟨fM,eP,eZ⟩:=Qjq cC (eQ.out.addName gC aZ) aZ;have nN:=aZ.size;clear fY cC gC aZ)
  obtain ⟨dB,bV⟩:=eP.out.vals
  have gE:Zd.R (But (fun b=>((fun b=>S1 b/\b<w.heap.size) b\/W1<=b)/\some b≠(Value.slice p7 (k+1) bS).ownBlock) (.slice p4 k aA)) w7 (Cn v q3 m3 q4 m4) v:=Z9.move (S:=fun b=>(fun b=>(S1 b/\b<w.heap.size)\/(wo.heap.size<=b/\b≠G)) b/\b<wr) ((fQ.out.move (S':=fun b=>(fun b=>(S1 b/\b<w.heap.size)\/(wo.heap.size<=b/\b≠G)) b/\b<wr) (.refl _ _) (fun b hb h=>⟨h,hb⟩)).move (fun b hb bD=>eZ.out.other b bD (cH.out b hb.1).1) Qje) (.refl _ _) (fun b _ hb=>by
   refine ⟨⟨?_,fun e=>?_⟩,(cH.out b hb.1).2⟩
   ·rcases hb.1 with h | h
    ·exact .inl h
    exact .inr (by have:=eT.out.size;have h1:=h.1;omega)
   rcases eZ.out.at' with e' | ⟨g,e',hg⟩
   ·exact (cH.out b hb.1).1 (by rw [e,e'])
   rw [e'] at e
   have h1:=Qb e
   have h2:=hb.2
   omega)
  have jX:=Qq bV;have jY:=Qq gE
  clear bV gE d0
  go_wp2_with (at_builtin;refine Yg (r:=Zd) Cc rfl (.tmp 115) (.tmp 117) _ rfl 36 i0 (.agg zV) 80 underlying34 HJ.out jM.out jN.out jO.out rfl C7 (fun b=>((fun b=>S1 b/\b<w.heap.size) b\/W1<=b)/\some b≠(Value.slice p7 (k+1) bS).ownBlock) W1 w7 (.slice p4 k aA) vals dB (Cn v q3 m3 q4 m4) v rfl jX.out rfl jY.out (by simp [Value.oneCell']) k cL.out C7 C7 ?_;intro p8 fT mI w8 gD gB;have iT:=Qq (eP.out.addVal gD gB);clear gD gB)
  go_roundw
  case measure=>simp [intOf];omega
  case rel=>
   refine ⟨k+1,p7,bS,p8,fT,vals++[v],bD,rfl,rfl,by go_num,(show Aside _ from ⟨by rw [Ql,cL.out];rfl,fun u hu=>?_,?_⟩)⟩
   ·rcases Z4.1 hu with h | h
    ·exact fP.out u h
    simp only [Z3,Z2,or_false] at h
    subst h;exact jH.out
   rw [kA.out,List.map_append]
   exact iT.out
 have hD:k=n:=C7
 subst hD
 have bZ:t.columns.take k=t.columns:=Zj (by rw [HN.out];exact Q9 _)
 obtain ⟨dA,bA⟩:=H2.out.names
 obtain ⟨dB,bV⟩:=H2.out.vals
 rw [bZ] at bA
 have bE:(t.columns.map Col.name).length=vals.length:=by rw [Z7,HN.out,cL.out]
 have gG:Sl Zh (fun b=>(fun b=>S1 b/\b<w.heap.size) b\/W1<=b) wr (.slice p3 k aQ) (t.columns.map Col.name):=(Fx (S':=fun b=>W1<=b) bA (fun _ _ _=>rfl)).sl (by rw [Z7,HN.out];omega) (fun b hb=>.inr hb) (fun b _ hb=>.inr hb)
 have gH:Sl Zd (fun b=>(fun b=>S1 b/\b<w.heap.size) b\/W1<=b) wr (.slice p4 k aA) vals:=bV.sl (by rw [cL.out];omega) (fun b hb=>.inr hb) (fun b _ hb=>hb.1)
 have eE:∀ x ∈ t.columns.map Col.name,Vy x:=fun x hx=>by
  obtain ⟨c,hc,rfl⟩:=List.mem_map.1 hx
  exact cJ.out.words c hc
 have fC:=Qq ((Gs _ _ _ _ vals wr gG gH eE (by rw [Z7,HN.out];omega)).mono (R':=fun e w2=>∃ v q3 m3 q4 m4,e=.returned (.tuple #[.agg (Cn v q3 m3 q4 m4),Ci])/\Y4 v/\(v.kids.length<=k/\v.kids.length<=m4)/\Z9 (fun b=>(fun b=>S1 b/\b<w.heap.size) b\/W1<=b) w2 (vcs v q3 m3 q4 m4) v/\Below wr wr w2) (by
  rintro e w2 ⟨hb,h⟩
  rcases h with ⟨mY,_,_,lF⟩ | ⟨a3,l3,a4,l4,_,rfl,_,lA,hv⟩
  ·exact absurd ⟨bE,fun i j x kX hi hj=>by
    have kY:=(Qj hj).1
    exact (List.pairwise_iff_getElem.1 cJ.out.once) i j (Qj hi).1 kY kX (by rw [(Qj hi).2,(Qj hj).2])⟩ lF
  obtain ⟨g1,g2⟩:=Ak bE eE cJ.out.once fP.out
  exact ⟨_,a3,l3,a4,l4,rfl,g1,⟨by show (Yu _).2.length<=k;rw [g2,Z7,HN.out];exact Q9 _,by show (Yu _).2.length<=l4;rw [g2];exact lA⟩,hv.move (.refl _ _) (fun b _ h=>h.elim id (fun h=>.inr C7)),hb⟩))
 have lB:w.heap.size+1+1<wr.heap.size:=C7
 clear bA bV gG gH eE bE bZ s0 s1
 go_upto_region 20 with (go_at_call 90;refine fC.out.mono ?_;rintro e w7 ⟨v,q3,m3,q4,m4,rfl,gW,hB,cC,gP⟩;obtain ⟨jF,jQ,fM,eR⟩:=Qjz gW hB cC gP;clear gW hB cC gP)
 generalize dW:w7.alloc _=W8
 have dX:=eqB dW (Zg _ _)
 have hY:=eqH (b:=w7.heap.size) dW (Qw _ _)
 have cS:=kE (eR.out.thn dX) lB fR.out
 obtain ⟨v0,v1,v2,v3,v4⟩:=row5 hY
 obtain ⟨y0,y1,y2,y3,y4⟩:=row5 cS
 obtain ⟨f0,f1,f2,f3,f4⟩:=frz5 cS
 have kK:=Qq cS;have eS:=Qq dX
 clear dW hY cS dX
 go_wp2_with fail
 show bodyPost _ _ _ _ _ (Cu W8 (w+1+1) v q3 m3 q4 m4)
 refine Q7 (v:=.agg (Cn v q3 m3 q4 m4)) (by simp [results,results30,go_sem,Ze kK.out]) rfl ⟨v,q3,m3,q4,m4,rfl,jF.out,jQ.out,?_,Zc (bR.out.thn (eR.out.thn eS.out)) C7⟩
 exact ((fM.out.move (.of_below eS.out) Qje).move (fun b hb _=>Zf (by
  rcases hb with h | h
  ·have:=h.2;omega
  omega)) (fun b _ h=>h.elim (fun h=>.inl h.1) (fun h=>.inr C7)))
theorem rrow_any (S0 S1 S2 S3:Nat->Prop) (s:Sc) (cs:List Value) (lv:Value) (l:List Rel) (t:Tbl) (ct:List Value) (nv:Value) (ns:List Int) (at':Nat) (w:World) (hs0:Xt S0 w cs s) (hl0:Sl Y6 S1 w lv l) (ht:Zm.R S2 w ct t) (hn0:Xd S3 w nv ns) (hi:Uh ns) (hat:at'<=1000) (hT:Ks t) (hsg:Us s.sums) (hk:∀ t ∈ s.tables,t.key.length<=1000) (hR:∀ r ∈ l,∀ v ∈ r.rows,Y4 v):
  Calls prog 30 #[cs,lv,ct,nv,at'] w (P0 S1 w t.columns.length):=
 Lc S0 S1 S2 S3 s cs lv l t ct nv ns at' w hs0 (by obtain ⟨p,c,h,_⟩:=hl0.len;exact ⟨p,c,h⟩) (Qq (fun tn W hW=>Lk (fun b=>S1 b/\b<w) lv l tn W ((hl0.mono (fun b hb h=>⟨h,hb⟩)).below hW))) ht hn0 hi hat hT hsg hk hR
def Tu (P:Nat->Prop):Rd Rel where
 k:=2
 R S w cs x:=∃ v,cs=[sv x.table,v]/\x.table.length<=1000000/\Sl Zd (fun b=>S b/\P b) w v x.rows
 len h:=by obtain ⟨v,rfl,_⟩:=h;rfl
 frame h hA:=by obtain ⟨v,rfl,A,D⟩:=h;exact ⟨v,rfl,A,D.frame (fun b hb=>hA b hb.1)⟩
 mono h hS:=by obtain ⟨v,rfl,A,D⟩:=h;exact ⟨v,rfl,A,D.mono (fun b hb h=>⟨hS b hb h.1,h.2⟩)⟩
theorem Sl.relOf {P:Nat->Prop} {S:Nat->Prop} {w:World} {v:Value} {l:List Rel} (h:Sl (Tu P) S w v l):Sl Y6 S w v l:=by
 obtain ⟨p,cap,h1,h2,h3⟩:=h
 refine ⟨p,cap,h1,h2,fun D=>?_⟩
 obtain ⟨b,G,e,hS,hb,hc⟩:=h3 D
 refine ⟨b,G,e,hS,hb,fun i x hx=>?_⟩
 obtain ⟨cs,A,v,hv,h4,h5⟩:=hc i x hx
 exact ⟨cs,A,v,hv,h4,h5.mono (fun b _ h=>h.1)⟩
theorem rrows_P (P:Nat->Prop) (S:Nat->Prop) (v:Value) (l:List Rel) (x:Bs) (w:World) (hs:Sl (Tu P) S w v l):
  Calls prog 88 #[v,sv x] w (Po (fun b=>S b/\P b) w (Yo l x)):=by
 have D:=Qq (fun W (h:w=W)=>Dk S v l x W (h ▸ hs.relOf))
 rcases Jz l x with ⟨J,I⟩ | ⟨i,r,J,I,M⟩
 ·have G:Yo l x=[]:=by unfold Yo;rw [J]
  rw [G]
  rw [I] at D
  clear J I G
  obtain ⟨p,cap,rfl,hl⟩:=hs.len
  clear hs
  unfold sv at D |-
  go_enter func88,ntmps88
  go_wp2_with (go_at_call 31;refine (D.out _ rfl).mono ?_;rintro e w' ⟨rfl,rfl⟩)
  go_ret
  exact ⟨none,0,rfl,Sl.nil _ _ _,rfl⟩
 have G:Yo l x=r.rows:=by unfold Yo;rw [J];simp [M]
 rw [G]
 rw [I] at D
 clear J I G
 obtain ⟨p,cap,rfl,hl⟩:=hs.len
 have Y:=(Qj M).1
 obtain ⟨b,Z,cs,rfl,O,_,_,⟨rv,rfl,_,A⟩,hc⟩:=hs.elem M
 have c1:=hc 1 _ rfl
 rw [show (Tu P).k=2 from rfl] at c1
 obtain ⟨q,qc,rfl,_⟩:=A.len
 have N:=Qq A
 have T:(0:Int)<=(i:Int):=C7
 have U:(i:Int)<(l.length:Int):=C7
 have V:decide ((i:Int)<0)=false:=Ca
 clear hs M hc A
 unfold sv at D |-
 go_enter func88,ntmps88
 go_wp2_with (go_at_call 31;refine (D.out _ rfl).mono ?_;rintro e w' ⟨rfl,rfl⟩)
 go_ret
 exact ⟨q,qc,rfl,N.out,rfl⟩
theorem rrow_P (P:Nat->Prop) (S0 S1 S2 S3:Nat->Prop) (s:Sc) (cs:List Value) (lv:Value) (l:List Rel) (t:Tbl) (ct:List Value) (nv:Value) (ns:List Int) (at':Nat) (w:World) (hs0:Xt S0 w cs s) (hl0:Sl (Tu P) S1 w lv l) (ht:Zm.R S2 w ct t) (hn0:Xd S3 w nv ns) (hi:Uh ns) (hat:at'<=1000) (hT:Ks t) (hsg:Us s.sums) (hk:∀ t ∈ s.tables,t.key.length<=1000) (hR:∀ r ∈ l,∀ v ∈ r.rows,Y4 v):
  Calls prog 30 #[cs,lv,ct,nv,at'] w (P0 (fun b=>S1 b/\P b) w t.columns.length):=
 Lc S0 (fun b=>S1 b/\P b) S2 S3 s cs lv l t ct nv ns at' w hs0 (by obtain ⟨p,c,h,_⟩:=hl0.len;exact ⟨p,c,h⟩) (Qq (fun tn W hW=>by
  refine (rrows_P P (fun b=>S1 b/\b<w) lv l tn W ((hl0.mono (fun b hb h=>⟨h,hb⟩)).below hW)).mono ?_
  rintro e w2 ⟨p,c,h1,h2,h3⟩
  exact ⟨p,c,h1,h2.mono (fun b _ h=>⟨⟨h.1.1,h.2⟩,h.1.2⟩),h3⟩)) ht hn0 hi hat hT hsg hk hR
theorem Wb (x:Val):Yv x x=0:=Gv.2 rfl
def letR (r0 r1:Option Val):Option Val:=match r0 with
 | some _=>r1
 | none=>none
theorem ev_let (nm:Bs) (n:Int) (s:Bs) (names binds:List Bs) (x y:Ex) (a z:Int) (env:List (Bs × Val)) (r0 r1:Option Val) (hx:EvO x env r0) (hy:∀ u,r0=some u->EvO y ((nm,u)::env) r1):EvO (.mk 11 nm n s names binds [x,y] a z) env (letR r0 r1):=by
 obtain ⟨R,hR⟩:=eX (letR r0 r1)
 rw [hR]
 intro S0 S' cs p w bP bU bT bR
 have bL:=Qq bU
 clear bU
 have he:Xk (fun b=>S0 b/\b<w) w p env:=bR.move (.refl _ _) (fun b hb h=>⟨h,hb⟩)
 obtain ⟨nv,bv,kv,rfl,dB,dM,hn,hb,hk⟩:=Yy.1 bT
 obtain ⟨np,nc,rfl,_⟩:=hn.len
 obtain ⟨bp,bc,rfl,_⟩:=hb.len
 obtain ⟨kp,kc,rfl,cY⟩:=hk.len
 obtain ⟨q,rfl⟩:=he.ptr
 obtain ⟨HE,HK,cB,bY⟩:=Qjz he hk hn hb
 obtain ⟨kl,V⟩:=eX ([x,y].length)
 rw [V] at HK cY
 have aY:=Qq V
 clear bT he bR hn hb hk
 unfold sv
 rw [V]
 clear V
 go_enter func103,ntmps103
 go_upto_region 3 with fail
 generalize aK:((w.alloc _).alloc _).alloc _=w3
 have Y:=eqB aK (Xm _ _ _ _)
 have h0:=eqH (b:=w.heap.size) aK (Zp _ _ _ _)
 have h1:=eqH (b:=w.heap.size+1) aK (Zo _ _ _ _)
 have h2:=eqH (b:=w.heap.size+1+1) aK (Zl _ _ _ _)
 have dN:w.heap.size+1+1<w3.heap.size:=Z8 h2
 have c0:=rA0 h0;have c1:=rA1 h0;have c2:=rA2 h0;have c3:=rA3 h0;have c4:=rA4 h0;have c5:=rA5 h0;have c6:=rA6 h0
 obtain ⟨H0,H1,H2,M⟩:=Qjz h0 h1 h2 Y
 have aT:=Qq (fun (k:Nat) e9 r9 (hke:[x,y][k]?=some e9) (hev:EvO e9 env r9) W (hbw:Below w3 w3 W) (x9:Nat) (hxl:w<=x9) (hxW:x9<W)=>K9 w (w+1) k (fun b=>S0 b/\b≠w+1+1/\b≠x9) S' kp kc [x,y] e9 (.pointer q) env r9 W
  (by rw [aY.out];exact (Qk _ _ 6 _ _ _ (kB hbw h0)).trans rfl) (by rw [aY.out];exact (HK.out.below Y).below hbw) ((Qk _ _ 0 _ _ _ (kB hbw h1)).trans rfl) (fun b hb=>⟨bP b (C9 Y.size hbw.size),by have:=hbw.size;omega,C7⟩) (bL.out.below (Y.thn hbw)) ((HE.out.move (.of_below Y) Qje).move (.of_below hbw) (fun b _ h=>⟨h.1,by have:=h.2;omega,by have:=h.2;omega⟩)) hke hev)
 have aX:Hid (∀ W,Below w3 w3 W->Calls prog 140 #[Ci,Ch w,Ch (w+1)] W (Xy (fun b=>S0 b/\b≠w+1+1/\b≠w+1+1) W r0)):=Qq (fun W hW=>aT.out 0 x r0 rfl hx W hW (w+1+1) C7 (C8 hW.size))
 obtain ⟨J,A,cs,cZ,dO,_,_,bE,hc⟩:=HK.out.elem (i:=1) (x:=y) rfl
 subst cZ
 obtain ⟨ek,cQ,en,cR,cN,cK,cH,cO,cL,cI,cP,cM,cJ,ea,ez,O⟩:=Yx.cells (show Yx S' w cs y from bE)
 subst O
 have d0:=hc 0 _ rfl
 have d1:=hc 1 _ rfl
 have d2:=hc 2 _ rfl
 have d3:=hc 3 _ rfl
 have d4:=hc 4 _ rfl
 have d5:=hc 5 _ rfl
 have d6:=hc 6 _ rfl
 have d7:=hc 7 _ rfl
 have d8:=hc 8 _ rfl
 simp only [show Xp.k=9 from rfl,Nat.add_zero,Nat.one_mul] at d0 d1 d2 d3 d4 d5 d6 d7 d8
 have cX:kl=2:=aY.out.symm
 subst cX
 obtain ⟨bM,cA,bN,HY⟩:=Qjz bE dB bP hy
 have dL:w.heap.size<w3.heap.size:=C7
 clear h0 h1 h2 Y aK aT hx hy bE hc c2 c3 c4 c5 cB bY
 go_wp2_with fail
 clear c0 c1 c6
 have hD:∀ W,(fun W=>W.heap[w.heap.size]?=some (.cells #[.int .i64 11,nm,n,s,.slice np names.length nc,.slice bp binds.length bc,Cg J A 2 kc,a,z] 46 (0,0))/\W.heap[w.heap.size+1]?=some (.cells #[.pointer q] 129 (0,0))/\Below w w W) W->Cf W w 6 (Cg J A 2 kc)/\Cf W w 1 nm/\Cf W (w+1) 0 (.pointer q)/\Cf W J (A+9) ek/\Cf W J (A+9+1) (.string cQ)/\Cf W J (A+9+2) en/\Cf W J (A+9+3) (.string cR)/\Cf W J (A+9+4) (.slice cN cK cH)/\Cf W J (A+9+5) (.slice cO cL cI)/\Cf W J (A+9+6) (.slice cP cM cJ)/\Cf W J (A+9+7) ea/\Cf W J (A+9+8) ez:=fun W h=>by
  have hh:∀ {b j:Nat} {u:Value},w.cell? ⟨b,j,none⟩=some u->W.cell? ⟨b,j,none⟩=some u:=fun hc=>kC h.2.2 hc
  exact ⟨(Qk _ _ 6 _ _ _ h.1).trans rfl,(Qk _ _ 1 _ _ _ h.1).trans rfl,(Qk _ _ 0 _ _ _ h.2.1).trans rfl,hh d0,hh d1,hh d2,hh d3,hh d4,hh d5,hh d6,hh d7,hh d8⟩
 have HD:=Qq hD
 clear hD d0 d1 d2 d3 d4 d5 d6 d7 d8
 refine wp_region_held_drew (S:=fun W=>W.heap[w.heap.size]?=some (.cells #[.int .i64 11,nm,n,s,.slice np names.length nc,.slice bp binds.length bc,Cg J A 2 kc,a,z] 46 (0,0))/\W.heap[w.heap.size+1]?=some (.cells #[.pointer q] 129 (0,0))/\Below w w W) Cd ⟨H0.out,H1.out,M.out.drew⟩ (fun G=>?_)
 refine tkD (v:=?_) 0 (fun T D=>?_) ?_;rotate_left
 ·(obtain ⟨c6,c1,e0,d0,d1,d2,d3,d4,d5,d6,d7,d8⟩:=HD.out T D;go_simp;try with_reducible rfl)
 refine tkD (v:=?_) 1 (fun T D=>?_) ?_;rotate_left
 ·(obtain ⟨c6,c1,e0,d0,d1,d2,d3,d4,d5,d6,d7,d8⟩:=HD.out T D;go_simp;try with_reducible rfl)
 refine tkD (v:=?_) 2 (fun T D=>?_) ?_;rotate_left
 ·(obtain ⟨c6,c1,e0,d0,d1,d2,d3,d4,d5,d6,d7,d8⟩:=HD.out T D;go_simp;try with_reducible rfl)
 refine tkD (v:=?_) 3 (fun T D=>?_) ?_;rotate_left
 ·(obtain ⟨c6,c1,e0,d0,d1,d2,d3,d4,d5,d6,d7,d8⟩:=HD.out T D;go_simp;try with_reducible rfl)
 refine tkD (v:=?_) 4 (fun T D=>?_) ?_;rotate_left
 ·(obtain ⟨c6,c1,e0,d0,d1,d2,d3,d4,d5,d6,d7,d8⟩:=HD.out T D;go_simp;try with_reducible rfl)
 refine tkD (v:=?_) 5 (fun T D=>?_) ?_;rotate_left
 ·(obtain ⟨c6,c1,e0,d0,d1,d2,d3,d4,d5,d6,d7,d8⟩:=HD.out T D;go_simp;try with_reducible rfl)
 refine tkD (v:=?_) 6 (fun T D=>?_) ?_;rotate_left
 ·(obtain ⟨c6,c1,e0,d0,d1,d2,d3,d4,d5,d6,d7,d8⟩:=HD.out T D;go_simp;try with_reducible rfl)
 refine tkD (v:=?_) 7 (fun T D=>?_) ?_;rotate_left
 ·(obtain ⟨c6,c1,e0,d0,d1,d2,d3,d4,d5,d6,d7,d8⟩:=HD.out T D;go_simp;try with_reducible rfl)
 refine rdD 8 (fun K U=>?_) Qo
 go_simp
 cases r0 with
 | none=>
  obtain rfl:none=R:=hR
  refine (aX.out _ (Qz _ _).drew).mono ?_
  rintro e w5 ⟨rfl,hb⟩
  exact ⟨rfl,rfl,M.out.thn ((Qz _ _).drew.thn hb)⟩
 | some u=>
  obtain rfl:r1=R:=hR
  have cE:=Qq (HY.out u rfl)
  refine (aX.out _ (Qz _ _).drew).mono ?_
  rintro e w5 ⟨cu,rfl,hu,hb⟩
  obtain ⟨a3,cF,a4,cG,O,_⟩:=Z9.cells hu
  simp only [vcs] at O
  subst O
  have HU:=Qq hu
  have I:Hid (Below w3 w3 w5):=Qq ((Qz _ _).drew.thn hb)
  clear hu hb aX
  have bA:(fun W=>W.heap[w.heap.size]?=some (.cells #[.int .i64 11,nm,n,s,.slice np names.length nc,.slice bp binds.length bc,Cg J A 2 kc,a,z] 46 (0,0))/\W.heap[w.heap.size+1]?=some (.cells #[.pointer q] 129 (0,0))/\Below w w W) w5:=⟨kB I.out H0.out,kB I.out H1.out,M.out.thn I.out⟩
  try dsimp only
  refine U.out _ _ bA (fun G=>?_)
  clear U K
  refine rdD 9 (fun K U=>?_) Qo
  go_simp
  refine U.out _ _ bA (fun G=>?_)
  clear U K
  refine rdD 10 (fun K U=>?_) Qo
  go_simp
  generalize bD:World.alloc w5 _=w6
  have N:=eqB bD (Zg _ _)
  have bQ:=eqH (b:=w5.heap.size) bD (Qw _ _)
  have dD:=I.out.size
  have dE:=N.size
  have bS:Xk (fun b=>S0 b/\b≠w+1+1/\b≠w+1+1) w6 (.pointer (some ⟨w5,0,none⟩)) ((nm,u)::env):=.cons _ q nm u a3 cF a4 cG env ⟨bN.out _ C7,C7,C7⟩ bQ cA.out (Z9.move HU.out (.of_below N) Qje) (HE.out.move (.of_below (M.out.thn (I.out.thn N))) (fun b _ h=>⟨h.1,by have:=h.2;omega,by have:=h.2;omega⟩))
  have HC:=Qq (cE.out (fun b=>S0 b/\b≠w+1+1/\b≠w+1+1) S' _ _ w6 (fun b hb=>⟨bN.out b C7,C7,C7⟩) (bL.out.below (M.out.thn (I.out.thn N))) (Yx.move bM.out (.of_below (M.out.thn (I.out.thn N))) Qje) bS)
  have aM:=Qq (I.out.thn N)
  have cD:=Qq (kB aM.out H2.out)
  have aN:=Qq (M.out.thn aM.out)
  have bB:(fun W=>W.heap[w.heap.size]?=some (.cells #[.int .i64 11,nm,n,s,.slice np names.length nc,.slice bp binds.length bc,Cg J A 2 kc,a,z] 46 (0,0))/\W.heap[w.heap.size+1]?=some (.cells #[.pointer q] 129 (0,0))/\Below w w W) w6:=⟨kB aM.out H0.out,kB aM.out H1.out,aN.out⟩
  refine U.out _ _ bB (fun G=>?_)
  clear U K bD N bQ bS dD dE HU bM bA
  refine rdD 11 (fun K U=>?_) Qo
  go_simp
  cases r1 with
  | none=>
   refine HC.out.mono ?_
   rintro e w8 ⟨rfl,cU⟩
   exact ⟨rfl,rfl,aN.out.thn cU⟩
  | some r=>
   refine HC.out.mono ?_
   rintro e w4 ⟨cr,rfl,bF,Z⟩
   have aQ:(fun W=>W.heap[w.heap.size]?=some (.cells #[.int .i64 11,nm,n,s,.slice np names.length nc,.slice bp binds.length bc,Cg J A 2 kc,a,z] 46 (0,0))/\W.heap[w.heap.size+1]?=some (.cells #[.pointer q] 129 (0,0))/\Below w w W) w4:=⟨kB Z bB.1,kB Z bB.2.1,aN.out.thn Z⟩
   obtain ⟨q3,l3,q4,l4,O,_⟩:=Z9.cells bF
   simp only [vcs] at O
   subst O
   have hR:=kB Z cD.out
   have bX:=Qq (aN.out.thn Z)
   have cC:=Qq bF
   have HR:=Qq hR
   have fz:=fun j=>Qn _ _ j _ _ hR
   obtain ⟨f0,f1,f2,f3,f4⟩:=Qjw fz
   have rr:=fun j=>Qk _ _ j _ _ _ hR
   obtain ⟨r0,r1,r2,r3,r4⟩:=Qjw rr
   simp only [Qf,Qg,Qh] at r0 r1 r2 r3 r4
   clear fz rr bF Z hR
   try dsimp only
   refine U.out _ _ aQ (fun G=>?_)
   clear U K
   refine rdD 12 (fun K U=>?_) Qo
   go_simp
   have bC:(fun W=>W.heap[w.heap.size]?=some (.cells #[.int .i64 11,nm,n,s,.slice np names.length nc,.slice bp binds.length bc,Cg J A 2 kc,a,z] 46 (0,0))/\W.heap[w.heap.size+1]?=some (.cells #[.pointer q] 129 (0,0))/\Below w w W) (Cu w4 (w+1+1) r q3 l3 q4 l4):=⟨(Zf C7).trans aQ.1,(Zf C7).trans aQ.2.1,Zc aQ.2.2 C7⟩
   unfold Zi at bC
   refine U.out _ _ bC (fun G=>?_)
   refine wpAnyH_done Cd ?_ _
   clear U K bC G
   go_wp2_with fail
   show bodyPost _ _ _ _ _ (Cu w4 (w+1+1) r q3 l3 q4 l4)
   refine Q7 (v:=.agg (Cn r q3 l3 q4 l4)) (by simp [results,results103,go_sem,Ze HR.out]) rfl ⟨_,rfl,?_,Zc bX.out C7⟩
   exact Z9.move cC.out (fun b hb _=>Zf (by have:=hb.2.1;omega)) (fun _ _ h=>h.1)
end Go.Proofs.YtcljcblceodciaaGreatDoor
