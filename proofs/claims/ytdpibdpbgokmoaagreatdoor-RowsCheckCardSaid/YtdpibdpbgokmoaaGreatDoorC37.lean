import Derived.Test.YtdpibdpbgokmoaaGreatDoorC36
set_option maxRecDepth 100000
set_option maxHeartbeats 400000000
namespace Go.Proofs.YtdpibdpbgokmoaaGreatDoor
open Go.RowKit Go.Shelf Go.Lib Tryz
def listR:Option (List Val)→Option Val
 | some vs=>some (.mk 5 0 [] [] vs)
 | none=>none
theorem ev_list (nm:Bs) (n:Int) (s:Bs) (names binds:List Bs) (kids:List Ex) (a z:Int) (env:List (Bs × Val)) (f:Ex→Option Val) (hlen:kids.length≤4096) (hev:∀ e ∈ kids,EvO e env (f e)):EvO (.mk 9 nm n s names binds kids a z) env (listR (Jz f kids)):=by
 obtain ⟨L,hL⟩:=eX (Jz f kids)
 rw [hL]
 intro S0 S' cs p w O aA Z Y
 have aI:=Qq aA
 clear aA
 have he:Xv (fun b=>S0 b∧b<w) w p env:=Y.move (.refl _ _) (fun b hb h=>⟨h,hb⟩)
 obtain ⟨nv,bv,kv,rfl,bA,aC,hn,hb,hk⟩:=Yx.1 Z
 obtain ⟨np,nc,rfl,_⟩:=hn.len
 obtain ⟨bp,bc,rfl,_⟩:=hb.len
 obtain ⟨kp,kc,rfl,aT⟩:=hk.len
 obtain ⟨q,rfl⟩:=he.ptr
 obtain ⟨HE,HK,aK,aG⟩:=Qqp he hk hn hb
 obtain ⟨kl,A⟩:=eX (kids.length)
 rw [A] at HK aT
 have N:=Qq A
 clear Z he Y hn hb hk
 unfold sv
 rw [A]
 clear A
 go_enter func91,ntmps91
 go_upto_region 3 with fail
 generalize J:((w.alloc _).alloc _).alloc _=w3
 have D:=eqB J (Xm _ _ _ _)
 have M:=eqH (b:=w.heap.size) J (Zp _ _ _ _)
 have h1:=eqH (b:=w.heap.size+1) J (Zo _ _ _ _)
 have h2:=eqH (b:=w.heap.size+1+1) J (Zi _ _ _ _)
 have bB:w.heap.size+1+1<w3.heap.size:=Z8 h2
 have c0:=rA0 M;have c1:=rA1 M;have c2:=rA2 M;have c3:=rA3 M;have c4:=rA4 M;have c5:=rA5 M;have c6:=rA6 M
 obtain ⟨H0,H1,H2,U⟩:=Qqp M h1 h2 D
 have G:=Qq (fun W (hW:Below w3 w3 W)=>Nq (w+1) (fun b=>S0 b∧b≠w+1+1) S' kp kc kids (.pointer q) env f W (by rw [N.out];exact (HK.out.below D).below hW) ((Qk _ _ 0 _ _ _ (kB hW h1)).trans rfl) (fun b hb=>⟨O b (Qqz D.size hW.size),by have:=hW.size;omega⟩) (aI.out.below (D.thn hW)) ((HE.out.move (.of_below D) Qzx).move (.of_below hW) (fun b _ h=>⟨h.1,by have:=h.2;omega⟩)) hev)
 rw [hL,N.out] at G
 have aY:((kl:Int)≤4096):=Qqq N.out
 have aZ:kl≤1000000:=Qqj
 have HM:=Qq X8
 have aM:=Qq O
 clear M h1 h2 D J HE HK hev hlen hL c1 c2 c3 c4 c5 aK aG O
 cases L with
 | none=>
  go_wp2_with (first
   | (go_at_call 134;refine (HM.out _).mono ?_;rintro e w' ⟨rfl,rfl⟩)
   | (go_at_call 133;refine (G.out _ (Qz _ _)).mono ?_;rintro e w5 ⟨rfl,hb⟩))
  exact ⟨rfl,rfl,U.out.thn hb⟩
 | some vs=>
  go_wp2_with (first
   | (go_at_call 134;refine (HM.out _).mono ?_;rintro e w' ⟨rfl,rfl⟩)
   | (go_at_call 133;refine (G.out _ (Qz _ _)).mono ?_;rintro e w4 ⟨p4,I,aX,rfl,V,aB,T⟩;have aL:=Qq V;have aJ:=Qq aB;clear V aB;have hR:=kB T H2.out;have aF:=Qq (U.out.thn T);have HR:=Qq hR;have fz:=fun j=>Qn _ _ j _ _ hR;obtain ⟨f0,f1,f2,f3,f4⟩:=Qzj fz;have rr:=fun j=>Qk _ _ j _ _ _ hR;obtain ⟨r0,r1,r2,r3,r4⟩:=Qzj rr;simp only [Qf,Qg,Qh] at r0 r1 r2 r3 r4;clear fz rr T hR))
  show bodyPost _ _ _ _ _ (Zl w4 (w+1+1) (.int .i64 5) Qqd Qqe Qqf (.slice p4 kl I))
  refine Q7 (v:=.agg #[.int .i64 5,Qqd,Qqe,Qqf,.slice p4 kl I]) (by simp [results,results91,go_sem,Zd HR.out]) rfl ⟨_,rfl,?_,Zc aF.out Qqj⟩
  have aC:Sl Ze (fun b=>S0 b∧b≠w+1+1) w4 (.slice p4 kl I) vs:=aL.out.sl (Qqq aJ.out) (fun b hb=>⟨aM.out b Qqj,Qqj⟩) Qzx
  exact Y8 (s:=[]) Qqk (Sl.nil _ _ _) ((aC.frame (fun b hb _=>Zf hb.2)).mono (fun _ _ h=>h.1))
structure Df (t:Tbl):Prop where
 few:t.columns.length≤900
 refs:t.refs.length≤1000
 words:∀ c ∈ t.columns,Va c.name
 once:(t.columns.map Col.name).Nodup
 types:∀ c ∈ t.columns,Jo c.type∨c.type.kind=3
theorem Kp (l:List Int) (i:Nat) (m:Int) (hm:1≤m):0≤Yp l i m∧Yp l i m<m:=by
 unfold Yp
 split
 ·exact Pj _ m Qqj
 omega
theorem Sy (s:Sc) (hsg:J0 s.sums) (t:Ty) (hl:Jo t∨t.kind=3) (n:Int) (hn0:0≤n) (hn1:n≤1000000) (S0 S1:Nat→Prop) (cs ct:List Value) (w:World) (hs:Xu S0 w cs s) (ht:Xf S1 w ct t):
  Calls prog 66 #[cs,ct,n] w (Dg w):=by
 rcases hl with h | h
 ·exact Bg s t h n hn0 S0 S1 cs ct w hs ht
 obtain ⟨k,nm,tn,names,kids⟩:=t
 cases (show k=3 from h)
 exact Rc s hsg nm tn names kids n hn0 hn1 S0 S1 cs ct w hs ht
theorem Lm:∀ {ks:List Bs} {row:Val} {l:List Val},keyOf ks row=some l→∀ v ∈ l,v ∈ row.kids
 | [],row,l,h,v,hv=>by
  simp only [keyOf,Zv] at h
  subst h;simp at hv
 | k::ks,row,l,h,v,hv=>by
  unfold keyOf at h
  split at h
  ·rename_i u l' h1 h2
   obtain rfl:=Qb h
   rcases Z3.1 hv with rfl | hv
   ·unfold Ys at h1
    split at h1
    ·split at h1
     ·exact Qy h1
     cases h1
    cases h1
   exact Lm h2 v hv
  cases h
theorem Y2.kid {v:Val} (h:Y2 v):∀ x ∈ v.kids,Y2 x:=by
 cases h with
 | int n=>intro x A;simp [Val.kids] at A
 | text s=>intro x A;simp [Val.kids] at A
 | bool n _=>intro x A;simp [Val.kids] at A
 | make s kids _ _ hk=>exact hk
 | record names kids _ _ _ hk=>exact hk
 | list kids hk=>exact hk
def Sf (S:Nat→Prop) (w:World) (m:Nat) (e:Ending) (w':World):Prop:=∃ v p3 k3 p4 k4,e=.returned (.agg (vcs v p3 k3 p4 k4).toArray)∧Y2 v∧(v.kids.length≤m∧v.kids.length≤k4)∧Z9 (fun b=>S b∨w≤b) w' (vcs v p3 k3 p4 k4) v∧Below w w w'
theorem Sk {l:List Rel} {x:Bs} {v:Val} (h:v ∈ Vb l x):∃ r ∈ l,v ∈ r.rows:=by
 unfold Vb at h
 split at h
 ·rename_i i hi
  unfold Ur at hi
  have hl:=(List.findIdx?_eq_some_iff_getElem.1 hi).1
  rw [Qs,Qx hl,Option.getD_some] at h
  exact ⟨_,Qd hl,h⟩
 simp at h
structure Uw (S:Nat→Prop) (W1 wr:World) (nv vv:Value) (xs:List Bs) (vals:List Val):Prop where
 old:∀ b,S b→b<W1.heap.size
 below:Below W1 W1 wr
 names:∃ css,Own Zh 9 (fun _=>True) W1 wr nv xs css
 vals:∃ css,Own Ze 36 (fun b=>(S b∨W1.heap.size≤b)∧some b≠nv.ownBlock) W1 wr vv vals css
theorem Uw.grow {S:Nat→Prop} {W1 wr wr':World} {nv vv:Value} {xs:List Bs} {vals:List Val} (h:Uw S W1 wr nv vv xs vals) (hb:Below wr wr wr'):Uw S W1 wr' nv vv xs vals:=by
 obtain ⟨h0,h1,⟨c1,h2⟩,⟨c2,h3⟩⟩:=h
 exact ⟨h0,h1.thn hb,⟨c1,h2.below hb⟩,⟨c2,h3.below hb⟩⟩
theorem Uw.addName {S:Nat→Prop} {W1 w w1:World} {nv vv nv':Value} {xs xs':List Bs} {vals:List Val} {css:List (List Value)} (h:Uw S W1 w nv vv xs vals) (hO:Own Zh 9 (fun _=>True) W1 w1 nv' xs' css) (hL:Lx W1 w w1 nv nv'):Uw S W1 w1 nv' vv xs' vals:=by
 obtain ⟨h0,h1,⟨c1,h2⟩,⟨c2,A⟩⟩:=h
 refine ⟨h0,h1.trans hL.below,⟨_,hO⟩,⟨c2,Uh A.row (fun b hb hv=>hL.other b hb (fun e=>Ym A.row h2.row Qqx hv e.symm)),?_⟩⟩
 refine A.cs.move (fun b hb D=>hL.other b D hb.1.2) (fun b hb h=>⟨⟨h.1.1,fun e=>?_⟩,h.2⟩)
 rcases hL.at' with e' | ⟨g,e',hg⟩
 ·exact h.1.2 (by rw [e,e'])
 rw [e'] at e
 have:=Qb e
 omega
theorem Uw.addVal {S:Nat→Prop} {W1 w w1:World} {nv vv vv':Value} {xs:List Bs} {vals vals':List Val} {css:List (List Value)} (h:Uw S W1 w nv vv xs vals) (hO:Own Ze 36 (fun b=>(S b∨W1≤b)∧some b≠nv.ownBlock) W1 w1 vv' vals' css) (hL:Lx W1 w w1 vv vv'):Uw S W1 w1 nv vv' xs vals':=by
 obtain ⟨h0,h1,⟨c1,h2⟩,⟨c2,h3⟩⟩:=h
 exact ⟨h0,h1.trans hL.below,⟨c1,Gj h2 (fun b hb hv=>hL.other b hb (fun e=>Ym h2.row h3.row Qqx hv e.symm))⟩,⟨_,hO⟩⟩
def ValMid (wr:World) (t15:Value) (wx:World):Prop:=∃ G v q3 m3 q4 m4,t15=.pointer (some ⟨G,0,none⟩)∧wx.heap[G]?=some (.cells (Qqg v q3 m3 q4 m4) 36 (0,0))∧Y2 v∧Z9 (fun b=>wr≤b∧b≠G) wx (vcs v q3 m3 q4 m4) v∧Below wr wr wx∧wr.heap.size≤G
def M3 (S5:Nat→Prop) (wo:World) (G:Nat) (wr:World):Prop:=Below wo wo wr∧∃ v q3 m3 q4 m4,wr.heap[G]?=some (.cells (Qqg v q3 m3 q4 m4) 36 (0,0))∧Y2 v∧Z9 S5 wr (vcs v q3 m3 q4 m4) v
theorem M3.grow {S5:Nat→Prop} {wo:World} {G:Nat} {wr wr':World} (h:M3 S5 wo G wr) (hb:Below wr wr wr'):M3 S5 wo G wr':=by
 obtain ⟨h1,v,q3,m3,q4,m4,h2,h3,h4⟩:=h
 exact ⟨h1.thn hb,v,q3,m3,q4,m4,kB hb h2,h3,h4.move (.of_below hb) Qzx⟩
def TabMid (S:Nat→Prop) (wr:World) (T:Tbl) (b:Bool) (t18 t19:Value) (wx:World):Prop:=∃ G cp9 cc9 kp9 kc9 rp9 rc9 k9 s19 n9 s29 p19 n19 c19 p29 n29 c29 p39 n39 c39 a9 z9,t18=.pointer (some ⟨G,0,none⟩)∧t19=.bool b∧wx.heap[G]?=some (.cells (Qqh T cp9 cc9 kp9 kc9 rp9 rc9 k9 s19 n9 s29 p19 n19 c19 p29 n29 c29 p39 n39 c39 a9 z9) 48 (0,0))∧Zn.R S wx (Qqh T cp9 cc9 kp9 kc9 rp9 rc9 k9 s19 n9 s29 p19 n19 c19 p29 n29 c29 p39 n39 c39 a9 z9) T∧Below wr wr wx∧wr.heap.size≤G
def KeyMid (S:Nat→Prop) (wr:World) (l:List Val) (t20:Value) (wx:World):Prop:=∃ p c,t20=.slice p l.length c∧Sl Ze (fun b=>S b∨wr≤b) wx (.slice p l.length c) l∧Below wr wr wx
theorem M5 (S0 S1 S2 S3:Nat→Prop) (s:Sc) (cs:List Value) (lv:Value) (l:List Rel) (t:Tbl) (ct:List Value) (nv:Value) (ns:List Int) (at':Nat) (w:World) (hs0:Xu S0 w cs s) (hl0:∃ p c,lv=.slice p l.length c) (HRo:Hid (∀ tn W,Below w w W→Calls prog 67 #[lv,sv tn] W (R8 (fun b=>S1 b∧b<w) W (Vb l tn)))) (ht:Zn.R S2 w ct t) (hn0:Xc S3 w nv ns) (hi:Ub ns) (hat:at'≤1000) (hT:Df t) (hsg:J0 s.sums) (hk:∀ t ∈ s.tables,t.key.length≤1000) (hR:∀ r ∈ l,∀ v ∈ r.rows,Y2 v):
  Calls prog 21 #[cs,lv,ct,nv,at'] w (Sf S1 w t.columns.length):=by
 have hs:Xu (fun b=>S0 b∧b<w) w cs s:=by
  obtain ⟨uv,tv,h1,h2,h3⟩:=hs0
  exact ⟨uv,tv,h1,h2.mono (fun b hb h=>⟨h,hb⟩),h3.mono (fun b hb h=>⟨h,hb⟩)⟩
 clear hs0
 have mQ:=Qq hs
 have fM:=Qq (fun (ty:Ty) (hty:Jo ty∨ty.kind=3) (q:Int) (cP:0≤q) (cQ:q≤1000000) (S':Nat→Prop) (cty:List Value) W (hW:Below w w W) (hc:Xf S' W cty ty)=>Sy s hsg ty hty q cP cQ (fun b=>S0 b∧b<w) S' cs cty W (hs.below hW) hc)
 have cZ:=Qq (fun tn W (hW:Below w w W)=>Hm (fun b=>S0 b∧b<w) s cs tn W (hs.below hW))
 have eZ:=Qq (fun (k:Nat) W (hW:Below w w W)=>Yr S3 nv ns (at'+k) 100000 W (hn0.below hW) hi Qqj Qqj)
 obtain ⟨HK,HR,cJ⟩:=Qqo hk hR hT
 obtain ⟨uv,tv,rfl,hu,hK⟩:=hs
 obtain ⟨up,uc,rfl,_⟩:=hu.len
 obtain ⟨tp,tc,rfl,_⟩:=hK.len
 obtain ⟨lp,lc,rfl⟩:=hl0
 obtain ⟨np,nc,rfl,_⟩:=hn0.len
 obtain ⟨mV,kL,nQ,nP,nW,lM,k0,nX,n0,nY,nT,nR,mS,nU,n20,mT,nV,nS,mU,a0,z0,rfl,_,bY,_,cB,_⟩:=Yj ht
 unfold tcs
 obtain ⟨n,hn⟩:=eX (t.columns.length)
 obtain ⟨m,hm⟩:=eX (t.refs.length)
 have nH:n≤900:=Qqq hT.few
 have nG:m≤1000:=Qqq hT.refs
 rw [hn] at bY ⊢
 rw [hm] at cB ⊢
 obtain ⟨HC,jY,HN,HM⟩:=Qqp bY cB hn hm
 clear ht hn0 hu hK bY cB hn hm hT hsg hk hR
 simp only [Int.natCast_add] at eZ
 obtain ⟨i0,j1,j2,j3,j4⟩:=Y9 (P:=prog) (t:=36) (z:=.agg zV) (n:=5) (b:=80) Qqy
 obtain ⟨HJ,jL,jM,jN⟩:=Qqp j1 j2 j3 j4
 clear j1 j2 j3 j4
 obtain ⟨i9,j1,j2,j3,j4⟩:=Y9 (P:=prog) (t:=9) (z:=.string ⟨#[]⟩) (n:=1) (b:=16) Qqy
 obtain ⟨HI,jI,jJ,jK⟩:=Qqp j1 j2 j3 j4
 clear j1 j2 j3 j4
 unfold sv at HRo cZ
 go_enter func21,ntmps21
 go_wp2_with fail
 generalize bC:((w.alloc _).alloc _).alloc _=W1
 have gN:=eqB bC (Xm _ _ _ _)
 have gE:=eqH (b:=w.heap.size) bC (Zp _ _ _ _)
 have gH:=eqH (b:=w.heap.size+1) bC (Zo _ _ _ _)
 have gL:=eqH (b:=w.heap.size+1+1) bC (Zi _ _ _ _)
 have hY:W1=w.heap.size+3:=by rw [← bC];simp
 obtain ⟨iT,fE,fG,kI,kK⟩:=Qqr gN gE gH gL hY
 have hJ:Uw (fun b=>S1 b∧b<w) W1 W1 (.slice none 0 0) (.slice none 0 0) [] []:=⟨fun b hb=>by have:=hb.2;omega,Qz _ _,⟨[],Own.nil _ _ _ _ _⟩,⟨[],Own.nil _ _ _ _ _⟩⟩
 clear bC gN gE gH gL hY
 go_loopw [11,12,13,14,15,16,17,18,19,20] (fun lN lO eK _ _ _ _ _ _ _ wr=>∃ (k:Nat) (p3:Option Addr) (aQ:Nat) (p4:Option Addr) (aA:Nat) (vals:List Val),k≤n∧lN=.slice p3 k aQ∧lO=.slice p4 k aA∧eK=.int .i64 k∧Aside (vals.length=k∧(∀ v ∈ vals,Y2 v)∧Uw (fun b=>S1 b∧b<w) W1 wr (.slice p3 k aQ) (.slice p4 k aA) ((t.columns.take k).map Col.name) vals)) (fun _ _ eK _ _ _ _ _ _ _ _=>n - (intOf eK).toNat)
 case atStart=>exact ⟨0,none,0,none,0,[],Q8 _,rfl,rfl,rfl,rfl,(fun v h=>by simp at h),hJ⟩
 clear hJ
 obtain ⟨k,p3,aQ,p4,aA,vals,dY,rfl,rfl,rfl,hA⟩:=hrel
 obtain ⟨hP,hO,h2⟩:=hA.out
 obtain ⟨cL,fO,H2⟩:=Qqo hP hO h2
 have bI:=Qq h2.below;have bR:=Qq (iT.out.thn h2.below)
 have nO:=kK.out
 have lH:=h2.below.size
 clear hA hP hO h2
 have bB:=kB bI.out fE.out
 have aW:=kB bI.out fG.out
 have gM:=kB bI.out kI.out
 obtain ⟨fF,kD,fQ⟩:=Qqo bB aW gM
 obtain ⟨s0,s1⟩:=row2 bB
 have c1:=rA1 aW
 clear bB aW gM
 by_cases bD:k<n
 ·have nD:(0:Int)≤(k:Int):=Qqj
  have nE:(k:Int)<(n:Int):=Qqj
  obtain ⟨c,hc⟩:∃ c,t.columns[k]?=some c:=⟨_,Qx (by rw [HN.out];exact bD)⟩
  have hI:=Hk hc
  obtain ⟨cb,N,tk,ts,tn,t3,n3,l3,t4,n4,l4,kS,nB,nC,gQ,dG,d0,d1,d2,d3,d4,d5⟩:=(HC.out.below bR.out).col hc
  subst kS
  have hF:=Kp ns (at'+k) 100000 Qqj
  obtain ⟨q,hq⟩:=eX (Yp ns (at'+k) 100000)
  have fA:=Qq (eZ.out k)
  rw [hq] at fA hF
  obtain ⟨cP,cQ⟩:=hF
  obtain ⟨fI,jZ,jB,jA⟩:=Qqp dG hI gQ (Qy hc)
  have HD:=Qq d0
  clear hq hc hI dG gQ
  have nF:k<900:=Qqj
  go_upto_region 7 with (go_at_call 18;refine (fA.out _ bR.out).mono ?_;rintro e w' ⟨rfl,rfl⟩)
  refine let_mvar% ?Lq1:=fun w':World=>Qqa w' w 0 (.slice up s.sums.length uc)∧Qqa w' w 1 (.slice tp s.tables.length tc)∧Qqa w' (w+1) 1 (Qqb cb N n kL)∧Qqa w' cb (N+k*6+1) tk∧Qqa w' cb (N+k*6+2) (.string ts)∧Qqa w' cb (N+k*6+3) (.int .i64 tn)∧Qqa w' cb (N+k*6+4) (.slice t3 n3 l3)∧Qqa w' cb (N+k*6+5) (.slice t4 n4 l4)∧Below wr wr w';?_
  have HS:∀ w',Below wr wr w'→?Lq1 w':=by
   intro w' h
   have D:∀ {b j:Nat} {u:Value},wr.cell? ⟨b,j,none⟩=some u→w'.cell? ⟨b,j,none⟩=some u:=fun hc=>kC h hc
   exact ⟨D s0,D s1,D c1,D d1,D d2,D d3,D d4,D d5,h⟩
  obtain ⟨bO,bP,bJ,A,aU,aV⟩:=U9 HS (fun w' h=>h.2.2.2.2.2.2.2.2)
  have HP:=fun w' x0 x1 x2 x3 x4 h=>aV.out (Zl w' wr x0 x1 x2 x3 x4) (Zc (A.out w' h) (Q9 _))
  unfold Zl at HP
  have bL:=Qq HP
  clear HS HP s0 s1 c1 d1 d2 d3 d4 d5
  have fN:=Qq (fun W' (h':Below wr wr W')=>(fM.out c.type (cJ.out.types c jA.out) q cP Qqj _ [tk,.string ts,.int .i64 tn,.slice t3 n3 l3,.slice t4 n4 l4] W' (bR.out.thn h') (fI.out.move (.of_below h') Qzx)).mono (R':=fun e w2=>∃ v q3 m3 q4 m4,e=.returned (.agg (Qqg v q3 m3 q4 m4))∧Y2 v∧Z9 (fun b=>W'≤b) w2 (vcs v q3 m3 q4 m4) v∧Below W' W' w2∧Below wr wr w2) (by
   rintro e w2 ⟨v,q3,m3,q4,m4,rfl,g1,_,g2,g3⟩
   exact ⟨v,q3,m3,q4,m4,rfl,g1,g2,g3,h'.thn g3⟩))
  go_cut [15] from 23 to 118 (fun lP wx=>ValMid wr lP wx)
  case first=>
   go_region_held3 ?Lq1 (first | with_reducible exact bO.out | with_reducible exact I | with_reducible exact bJ.out _ (aU.out _ _ bP.out) | with_reducible exact aU.out _ _ I | with_reducible exact bL.out _ _ _ _ _ _ I)
    (first
     | (go_at_call 66;refine (fN.out _ (A.out _ Qqw)).mono ?_;rintro e w2 ⟨v,q3,m3,q4,m4,rfl,gU,hN,M,eC⟩;have I:=aV.out _ eC;(try (have r2:w2.heap[wr.heap.size]?=some (.cells zV 36 (0,0)):=(M.block wr Qqk).trans (Qw wr _);obtain ⟨y0,y1,y2,y3,y4⟩:=row5 r2;obtain ⟨g0,g1,g2,g3,g4⟩:=frz5 r2;have bM:=Qq r2;clear r2));obtain ⟨cF,fK,dL⟩:=Qqo gU hN M;clear gU hN M))
   all_goals
    go_wp2_with fail
    go_meet
    first
     | (have h9:=bM.out;clear h9;exact ⟨wr.heap.size,v,q3,m3,q4,m4,rfl,Yd bM.out,cF.out,Z9.move fK.out (fun b hb _=>Zf (by have h:(wr.alloc _).drew.heap.size≤b:=hb;simp at h;omega)) (fun b _ hb=>by have h:(wr.alloc _).drew.heap.size≤b:=hb;simp at h;exact ⟨Qqj,Qqj⟩),Zc (A.out _ I) (Q9 _),Q9 _⟩)
     | exact ⟨w2.heap.size,v,q3,m3,q4,m4,rfl,Qw _ _,cF.out,Z9.move fK.out (.of_below (Zg _ _)) (fun b hb h=>⟨by have h:wr.drew.heap.size≤b:=h;simpa using h,Qqj⟩),(A.out _ I).thn (Zg _ _),(A.out _ I).size⟩
  obtain ⟨G,v0,z3,y3,z4,y4,rfl,hG,gT,hM,bW,fY⟩:=hcut
  obtain ⟨HG,eU,fJ,iV⟩:=Qqp hG gT hM bW
  clear hG gT hM bW fN
  clear bO bP bJ A aU bL aV
  obtain ⟨wo,rfl⟩:∃ wo,wo=wr:=⟨_,rfl⟩
  have eS:=Qq bI.out
  have dI:M3 (fun b=>(S1 b∧b<w)∨(wo≤b∧b≠G)) wo G wc:=⟨iV.out,v0,z3,y3,z4,y4,HG.out,eU.out,fJ.out.move (.refl _ _) (fun b _ h=>.inr h)⟩
  have nA:w.heap.size+3≤G:=Qqj
  clear fJ HG eU fI fF kD fQ lH
  go_wp2_with fail
  go_loopw [16,17,18,19,20] (fun eL _ _ _ _ wr=>∃ r:Nat,r≤m∧eL=.int .i64 r∧Aside (M3 (fun b=>(S1 b∧b<w)∨(wo≤b∧b≠G)) wo G wr)) (fun eL _ _ _ _ _=>m - (intOf eL).toNat)
  case atStart=>exact ⟨0,Q8 _,rfl,dI⟩
  clear dI
  obtain ⟨r,nL,rfl,hA⟩:=hrel
  have cG:=Qq hA.out
  have iW:=Qq hA.out.1;have bQ:=Qq (bR.out.thn hA.out.1)
  have cM:Below W1 W1 wr:=bI.out.thn hA.out.1
  clear hA
  have bB:=kB cM fE.out
  have aW:=kB cM fG.out
  have iU:=Qq cM
  clear cM
  obtain ⟨s0,s1⟩:=row2 bB
  have c1:=rA1 aW;have c3:=rA3 aW
  clear bB aW
  by_cases hlr:r<m
  ·have nI:(0:Int)≤(r:Int):=Qqj
   have nJ:(r:Int)<(m:Int):=Qqj
   obtain ⟨f,hf⟩:∃ f,t.refs[r]?=some f:=⟨_,Qx (by rw [HM.out];exact hlr)⟩
   obtain ⟨fb,dC,mY,kU,kT,_,_,⟨gS,mL,mM⟩,dX⟩:=(jY.out.below bQ.out).elem hf
   subst kU;subst gS
   have e0:=dX 0 _ rfl;have e1:=dX 1 _ rfl
   rw [show Dd.k=2 from rfl] at e0 e1
   rw [Nat.add_zero] at e0
   unfold sv at e0 e1
   obtain ⟨rows,aX⟩:=eX (Vb l f.table)
   have bN:=Qq (HRo.out f.table wr bQ.out)
   rw [aX] at bN
   have dO:=Qq aX
   obtain ⟨T,hT⟩:=eX ((Y0 s.tables f.table).getD Tbl.zero)
   obtain ⟨b,hb⟩:=eX ((Y0 s.tables f.table).isSome)
   have cK:=Qq (cZ.out f.table)
   unfold TabIs at cK
   rw [hT,hb] at cK
   have gJ:T.key.length≤1000:=by
    rw [← hT]
    cases h:Y0 s.tables f.table with
    | none=>exact Q8 _
    | some t=>exact HK.out t (List.mem_of_find?_eq_some h)
   have kA:=Qq gJ
   clear hf dX kT aX hT hb gJ
   go_upto_region 12 with (go_at_call 67;refine bN.out.mono ?_;rintro e w' ⟨rp,rc,rfl,hH,rfl⟩;have fC:=Qq hH;clear hH)
   obtain ⟨n2,dZ⟩:=eX (rows.length)
   rw [dZ] at fC ⊢
   have jS:=Qq dZ
   clear dZ bN
   obtain ⟨jC,iY,iZ⟩:=Qqo e0 c1 c3
   clear e0 c1
   refine let_mvar% ?Lq2:=fun w':World=>Qqa w' w 0 (.slice up s.sums.length uc)∧Qqa w' w 1 (.slice tp s.tables.length tc)∧Qqa w' (w+1) 3 (Qqb fb dC m lM)∧Qqa w' fb (dC+r*2+1) f.table∧Below wr wr w';?_
   have HS:∀ w',Below wr wr w'→?Lq2 w':=by
    intro w' h
    have D:∀ {b j:Nat} {u:Value},wr.cell? ⟨b,j,none⟩=some u→w'.cell? ⟨b,j,none⟩=some u:=fun hc=>kC h hc
    exact ⟨D s0,D s1,D c3,D e1,h⟩
   obtain ⟨bO,bP,bJ,A,aU,aV⟩:=U9 HS (fun w' h=>h.2.2.2.2)
   have HP:=fun w' x0 x1 x2 x3 x4 x5 x6 x7 x8 x9 lW lX lY h=>aV.out (Vr w' wr x0 x1 x2 x3 x4 x5 x6 x7 x8 x9 lW lX lY) (Vj (A.out w' h) (Q9 _))
   unfold Vr at HP
   have bL:=Qq HP
   clear HS HP s0 s1 c3 e1
   have fH:=Qq (fun W' (h':Below wr wr W')=>(cK.out W' (bQ.out.thn h')).mono (R':=fun e w2=>∃ Z Y aC aB aK aJ k9 aL n9 aM aG aD O aH aE U aI aF V a9 z9,e=.returned (.tuple #[.agg (Qqh T Z Y aC aB aK aJ k9 aL n9 aM aG aD O aH aE U aI aF V a9 z9),.bool b])∧Zn.R (fun b=>S0 b∧b<w) w2 (Qqh T Z Y aC aB aK aJ k9 aL n9 aM aG aD O aH aE U aI aF V a9 z9) T∧Below W' W' w2∧Below wr wr w2) (by
    rintro e w2 ⟨mW,rfl,g1,g2⟩
    obtain ⟨Z,Y,aC,aB,aK,aJ,k9,aL,n9,aM,aG,aD,O,aH,aE,U,aI,aF,V,a9,z9,gR,_⟩:=Yj g1
    simp only [tcs] at gR
    subst gR
    exact ⟨Z,Y,aC,aB,aK,aJ,k9,aL,n9,aM,aG,aD,O,aH,aE,U,aI,aF,V,a9,z9,rfl,g1,g2,h'.thn g2⟩))
   clear cK
   go_cut [18,19] from 44 to 105 (fun lQ lR wx=>TabMid (fun b=>S0 b∧b<w) wr T b lQ lR wx)
   case first=>
    go_region_held3 ?Lq2 (first | with_reducible exact bO.out | with_reducible exact I | with_reducible exact bJ.out _ (aU.out _ _ bP.out) | with_reducible exact aU.out _ _ I | with_reducible exact bL.out _ _ _ _ _ _ _ _ _ _ _ _ _ _ I)
     (first
      | (go_at_call 68;refine (fH.out _ (A.out _ Qqw)).mono ?_;rintro e w2 ⟨Z,Y,aC,aB,aK,aJ,k9,aL,n9,aM,aG,aD,O,aH,aE,U,aI,aF,V,a9,z9,rfl,hL,M,eC⟩;have I:=aV.out _ eC;(try (have r2:w2.heap[wr.heap.size]?=some (.cells zT 48 (0,0)):=(M.block wr Qqk).trans (Qw wr _);obtain ⟨y0,y1,y2,y3,y4,y5,y6,y7,y8,y9,nZ,oA,oB⟩:=row13 r2;obtain ⟨g0,g1,g2,g3,g4,g5,g6,g7,g8,g9,dQ,dR,dS⟩:=frz13 r2;have bM:=Qq r2;clear r2));have cI:=Qq hL;have dL:=Qq M;clear hL M))
    all_goals
     go_wp2_with fail
     go_meet
     first
      | (have h9:=bM.out;clear h9;exact ⟨wr.heap.size,Z,Y,aC,aB,aK,aJ,k9,aL,n9,aM,aG,aD,O,aH,aE,U,aI,aF,V,a9,z9,rfl,rfl,E8 bM.out,Zn.frame cI.out (fun b hb _=>Um (by have:=hb.2;have:=bQ.out.size;omega)),Vj (A.out _ I) (Q9 _),Q9 _⟩)
      | exact ⟨w2.heap.size,Z,Y,aC,aB,aK,aJ,k9,aL,n9,aM,aG,aD,O,aH,aE,U,aI,aF,V,a9,z9,rfl,rfl,Qw _ _,Zn.frame cI.out (.of_below (Zg _ _)),(A.out _ I).thn (Zg _ _),(A.out _ I).size⟩
   obtain ⟨G2,Z,Y,aC,aB,aK,aJ,k9,aL,n9,aM,aG,aD,O,aH,aE,U,aI,aF,V,a9,z9,rfl,rfl,fW,gI,bW,mI⟩:=hcut
   obtain ⟨cF,cI,aO⟩:=Qqo fW gI bW
   clear fW gI bW fH
   clear bO bP bJ A aU bL aV
   have J:=Qq (cG.out.grow aO.out);have kH:=Qq (bQ.out.thn aO.out)
   have cN:∀ {b j:Nat} {x:Value},wr.cell? ⟨b,j,none⟩=some x→wc.cell? ⟨b,j,none⟩=some x:=fun hx=>kC aO.out hx
   have e0:=cN jC.out;have c1:=cN iY.out;have c3:=cN iZ.out
   have d0:=kC (iW.out.thn aO.out) HD.out
   clear cN cG
   have lG:(f.column==c.name)=false∨((f.column==c.name)=true∧b=false)∨((f.column==c.name)=true∧b=true∧n2=0)∨((f.column==c.name)=true∧b=true∧0<n2):=by
    cases (f.column==c.name) <;> cases b <;> simp <;> omega
   rcases lG with hq | ⟨hq,rfl⟩ | ⟨hq,rfl,hz⟩ | ⟨hq,rfl,hz⟩
   focus
    go_upto_region 13 with fail
    go_quiet (fail)
    have aP:=Qq (J.out.grow (Yq wc nq))
    have cA:r+1≤m:=hlr
    clear J
    go_wp2_with fail
    go_roundw
    case measure=>simp [intOf];omega
    case rel=>
     refine ⟨r+1,cA,?_,?_⟩
     ·go_num
     exact aP.out
   focus
    go_upto_region 13 with fail
    go_quiet (fail)
    have aP:=Qq (J.out.grow (Yq wc nq))
    have cA:r+1≤m:=hlr
    clear J
    go_wp2_with fail
    go_roundw
    case measure=>simp [intOf];omega
    case rel=>
     refine ⟨r+1,cA,?_,?_⟩
     ·go_num
     exact aP.out
   focus
    have hg:¬ (0:Int)<(n2:Int):=Qqj
    go_upto_region 13 with fail
    go_quiet (fail)
    have aP:=Qq (J.out.grow (Yq wc nq))
    have cA:r+1≤m:=hlr
    clear J
    go_wp2_with fail
    go_roundw
    case measure=>simp [intOf];omega
    case rel=>
     refine ⟨r+1,cA,?_,?_⟩
     ·go_num
     exact aP.out
   focus
    have hg:(0:Int)<(n2:Int):=Qqj
    obtain ⟨m8,lC⟩:=eX (q.tmod (n2:Int))
    have gP:=G8 q n2 cP hg
    rw [lC] at gP
    obtain ⟨mJ,mK⟩:=gP
    obtain ⟨j,rfl⟩:∃ j:Nat,m8=(j:Int):=⟨m8.toNat,Qqj⟩
    have kY:j<n2:=Qqj
    obtain ⟨y,hy⟩:∃ y,rows[j]?=some y:=⟨_,Qx (by rw [jS.out];exact kY)⟩
    obtain ⟨rb,mO,mD,mB,mE,mC,lF,nK,hU,a0,a1,a2,a3,a4⟩:=(fC.out.below aO.out).val hy
    subst lF
    have gX:∀ u ∈ y.kids,Y2 u:=by
     obtain ⟨ro,h1,h2⟩:=Sk (l:=l) (x:=f.table) (v:=y) (by rw [dO.out];exact Qy hy)
     exact (HR.out ro h1 y h2).kid
    have kG:=Qq hU;have jH:=Qq gX
    clear hy hU gX
    obtain ⟨g0,g1,g2,g3,g4,g5,g6,g7,g8,g9,dQ,dR,dS⟩:=row13 cF.out
    go_upto_region 13 with fail
    go_quiet (fail)
    obtain ⟨wq,eE⟩:=eX (wc.drewN nq)
    have bX:Below wc wc wq:=by rw [← eE];exact Yq _ _
    rw [eE]
    obtain ⟨eT,bK,mR⟩:=Qqo bX (J.out.grow bX) (kH.out.thn bX)
    have D:∀ {b j:Nat} {x:Value},wc.cell? ⟨b,j,none⟩=some x→wq.cell? ⟨b,j,none⟩=some x:=fun hx=>kC bX hx
    have g0:=D g0;have g1:=D g1;have g2:=D g2;have g3:=D g3;have g4:=D g4;have g5:=D g5;have g6:=D g6;have g7:=D g7;have g8:=D g8;have g9:=D g9;have dQ:=D dQ;have dR:=D dR;have dS:=D dS;have a0:=D a0;have a1:=D a1;have a2:=D a2;have a3:=D a3;have a4:=D a4
    clear D eE bX e0 c1 c3 d0
    go_upto_region 14 with fail
    obtain ⟨kl,cO⟩:=eX ((keyOf T.key y).getD [])
    have hB:∀ u ∈ kl,Y2 u:=fun u hu=>by
     cases hk:keyOf T.key y with
     | none=>rw [← cO,hk] at hu;simp at hu
     | some l'=>rw [← cO,hk] at hu;exact jH.out u (Lm hk u hu)
    have jQ:=Qq hB;have jR:=Qq cO
    clear cO hB
    have eV:=Qq (fun W' (hW:Below wq wq W')=>(Fh (fun b=>S0 b∧b<w) (fun b=>S1 b∧b<w) T y (Qqh T Z Y aC aB aK aJ k9 aL n9 aM aG aD O aH aE U aI aF V a9 z9) (Qqg y mD mB mE mC) W' (Zn.frame cI.out (.of_below (eT.out.thn hW))) (kG.out.move (.of_below (eT.out.thn hW)) Qzx) kA.out).mono (R':=fun e w2=>∃ p c,e=.returned (.slice p kl.length c)∧Sl Ze (fun b=>(fun b=>S1 b∧b<w.heap.size) b∨wq≤b) w2 (.slice p kl.length c) kl∧Below wq wq w2) (by
     rintro e w2 ⟨p,c,rfl,h3,h4⟩
     rw [jR.out] at h3 ⊢
     have nN:=hW.size
     exact ⟨p,c,rfl,h3.mono (fun b _ h=>h.imp id (fun h=>Qqj)),hW.thn h4⟩))
    go_cut [20] from 44 to 105 (fun lS wx=>KeyMid (fun b=>S1 b∧b<w) wq kl lS wx)
    case first=>
     go_region_with (go_at_call 42;refine (eV.out _ (Qz _ _).drew).mono ?_;rintro e w2 ⟨p,kc,rfl,gY,M⟩;have jO:=Qq gY;have dL:=Qq M;clear gY M)
     all_goals
      go_wp2_with fail
      go_meet
      exact ⟨p,kc,rfl,jO.out,dL.out⟩
    obtain ⟨kp,kc,rfl,hD,dF⟩:=hcut
    have cY:=Qq (bK.out.grow dF)
    have eW:=Qq hD
    obtain ⟨kn,dY⟩:=eX (kl.length)
    rw [dY] at eW ⊢
    have mZ:G<wq.heap.size:=by obtain ⟨_,_,_,_,_,_,h,_⟩:=bK.out;exact Z8 h
    obtain ⟨fV,v1,b3,o3,b4,o4,bU,_,_⟩:=cY.out
    have jD:=Qq bU;have iX:=Qq fV
    clear hD dF eV fV
    by_cases hk1:kn=1
    ·subst hk1
     obtain ⟨u,rfl⟩:=List.length_eq_one_iff.1 dY
     obtain ⟨ub,mP,u3,iD,u4,iF,lJ,lI,hQ,u0,u1,lT,lU,lV⟩:=Sl.val eW.out (i:=0) rfl
     subst lJ
     simp only [Nat.zero_mul,Nat.add_zero] at u0 u1 lT lU lV
     have cQ:((1:Int)==1)=true:=rfl
     obtain ⟨y0,y1,y2,y3,y4⟩:=row5 bU
     obtain ⟨f0,f1,f2,f3,f4⟩:=frz5 bU
     have kF:=Qq hQ;have jF:=Qq (jQ.out u Qqk)
     clear bU hQ lI
     go_wp2_with fail
     go_roundw
     case measure=>simp [intOf];omega
     case rel=>
      refine ⟨r+1,Qqj,by go_num,(show Aside _ from ?_)⟩
      show M3 (fun b=>(S1 b∧b<w)∨(wo≤b∧b≠G)) wo G (Qqm wc G u u3 iD u4 iF)
      refine ⟨Zc iX.out fY,u,u3,iD,u4,iF,Yd jD.out,jF.out,kF.out.move (fun b hb _=>Zf (by rcases hb with h | h;exact (by have:=h.2;omega);exact (by have h':wq.heap.size≤b:=h;omega))) (fun b _ hb=>by
       rcases hb with h | h
       ·exact .inl h
       have h':wq.heap.size≤b:=h
       have:=bK.out.1.size
       exact .inr ⟨Qqj,Qqj⟩)⟩
    have cQ:((kn:Int)==1)=false:=by rw [← Qt,beq_iff_eq];omega
    clear bU
    go_wp2_with fail
    go_roundw
    case measure=>simp [intOf];omega
    case rel=>exact ⟨r+1,Qqj,by go_num,cY.out⟩
  have mN:r=m:=Qqj
  have hq:¬ (r:Int)<(m:Int):=Qqj
  obtain ⟨dU,v,q3,m3,q4,m4,hG,gW,hS⟩:=cG.out
  have fZ:=Z8 hG
  have d0:=kC dU HD.out
  have eP:=Qq (H2.out.grow dU)
  have eA:∀ b,wo.heap.size≤b→some b≠(Value.slice p3 k aQ).ownBlock∧some b≠(Value.slice p4 k aA).ownBlock:=fun b hb=>by
   obtain ⟨x1,eF⟩:=H2.out.names
   obtain ⟨x2,eG⟩:=H2.out.vals
   exact ⟨fun e=>by have:=(eF.row.lt b e.symm).2;omega,fun e=>by have:=(eG.row.lt b e.symm).2;omega⟩
  have dH:∀ b,b<w.heap.size→some b≠(Value.slice p3 k aQ).ownBlock∧some b≠(Value.slice p4 k aA).ownBlock:=fun b hb=>by
   obtain ⟨x1,eF⟩:=H2.out.names
   obtain ⟨x2,eG⟩:=H2.out.vals
   exact ⟨fun e=>by have:=(eF.row.lt b e.symm).1;omega,fun e=>by have:=(eG.row.lt b e.symm).1;omega⟩
  have hE:∀ b,(fun b=>(S1 b∧b<w.heap.size)∨(wo.heap.size≤b∧b≠G)) b→some b≠(Value.slice p3 k aQ).ownBlock∧some b≠(Value.slice p4 k aA).ownBlock:=fun b hb=>by
   rcases hb with h | h
   ·exact dH b h.2
   exact eA b h.1
  obtain ⟨dA,bA⟩:=eP.out.names
  obtain ⟨jV,HG,jG,fP,jT,cH⟩:=Qqs bA hG gW hS eA hE
  have gK:=iU.out.size
  have bE:((t.columns.take k).map Col.name).length=k:=by rw [Z7,Qm,HN.out];omega
  have jU:=Qq bE
  clear hG gW hS dU bA eA dH hE bE cG s0 s1
  go_upto_region 18 with (at_builtin;refine Yl (r:=Zh) Qqx rfl (.tmp 106) (.tmp 113) _ rfl 9 i9 (.string ⟨#[]⟩) 16 underlying33 HI.out jI.out jJ.out jK.out rfl Qqj (fun _=>True) W1 wr (.slice p3 k aQ) ((t.columns.take k).map Col.name) dA [c.name] c.name rfl jV.out rfl ⟨rfl,jB.out⟩ (by simp [Value.oneCell']) k jU.out Qqj gK ?_;intro p7 bS mG w7 gB aZ;have fX:=(aZ.other G fZ (jT.out G fY).1).trans HG.out;obtain ⟨b0,b1,b2,b3,b4⟩:=row5 fX;have cC:=fP.out.move (fun b hb bD=>aZ.other b bD (cH.out b hb).1) Qzx;obtain ⟨fL,eO,eY⟩:=Qqo cC (eP.out.addName gB aZ) aZ;have nM:=aZ.size;clear fX cC gB aZ)
  obtain ⟨dB,bV⟩:=eO.out.vals
  have gD:Ze.R (But (fun b=>((fun b=>S1 b∧b<w.heap.size) b∨W1≤b)∧some b≠(Value.slice p7 (k+1) bS).ownBlock) (.slice p4 k aA)) w7 (Qqg v q3 m3 q4 m4) v:=Z9.move (S:=fun b=>(fun b=>(S1 b∧b<w.heap.size)∨(wo.heap.size≤b∧b≠G)) b∧b<wr) ((fP.out.move (S':=fun b=>(fun b=>(S1 b∧b<w.heap.size)∨(wo.heap.size≤b∧b≠G)) b∧b<wr) (.refl _ _) (fun b hb h=>⟨h,hb⟩)).move (fun b hb bD=>eY.out.other b bD (cH.out b hb.1).1) Qzx) (.refl _ _) (fun b _ hb=>by
   refine ⟨⟨?_,fun e=>?_⟩,(cH.out b hb.1).2⟩
   ·rcases hb.1 with h | h
    ·exact .inl h
    exact .inr (by have:=eS.out.size;have h1:=h.1;omega)
   rcases eY.out.at' with e' | ⟨g,e',hg⟩
   ·exact (cH.out b hb.1).1 (by rw [e,e'])
   rw [e'] at e
   have h1:=Qb e
   have h2:=hb.2
   omega)
  have jW:=Qq bV;have jX:=Qq gD
  clear bV gD d0
  go_wp2_with (at_builtin;refine Yl (r:=Ze) Qqx rfl (.tmp 115) (.tmp 117) _ rfl 36 i0 (.agg zV) 80 underlying34 HJ.out jL.out jM.out jN.out rfl Qqj (fun b=>((fun b=>S1 b∧b<w.heap.size) b∨W1≤b)∧some b≠(Value.slice p7 (k+1) bS).ownBlock) W1 w7 (.slice p4 k aA) vals dB (Qqg v q3 m3 q4 m4) v rfl jW.out rfl jX.out (by simp [Value.oneCell']) k cL.out Qqj Qqj ?_;intro p8 fS mH w8 gC gA;have iS:=Qq (eO.out.addVal gC gA);clear gC gA)
  go_roundw
  case measure=>simp [intOf];omega
  case rel=>
   refine ⟨k+1,p7,bS,p8,fS,vals++[v],bD,rfl,rfl,by go_num,(show Aside _ from ⟨by rw [Ql,cL.out];rfl,fun u hu=>?_,?_⟩)⟩
   ·rcases Z4.1 hu with h | h
    ·exact fO.out u h
    simp only [Z3,Z2,or_false] at h
    subst h;exact jG.out
   rw [jZ.out,List.map_append]
   exact iS.out
 have hC:k=n:=Qqj
 subst hC
 have bZ:t.columns.take k=t.columns:=Zj (by rw [HN.out];exact Q9 _)
 obtain ⟨dA,bA⟩:=H2.out.names
 obtain ⟨dB,bV⟩:=H2.out.vals
 rw [bZ] at bA
 have bE:(t.columns.map Col.name).length=vals.length:=by rw [Z7,HN.out,cL.out]
 have gF:Sl Zh (fun b=>(fun b=>S1 b∧b<w.heap.size) b∨W1≤b) wr (.slice p3 k aQ) (t.columns.map Col.name):=(Gj (S':=fun b=>W1≤b) bA (fun _ _ _=>rfl)).sl (by rw [Z7,HN.out];omega) (fun b hb=>.inr hb) (fun b _ hb=>.inr hb)
 have gG:Sl Ze (fun b=>(fun b=>S1 b∧b<w.heap.size) b∨W1≤b) wr (.slice p4 k aA) vals:=bV.sl (by rw [cL.out];omega) (fun b hb=>.inr hb) (fun b _ hb=>hb.1)
 have eD:∀ x ∈ t.columns.map Col.name,Va x:=fun x hx=>by
  obtain ⟨c,hc,rfl⟩:=List.mem_map.1 hx
  exact cJ.out.words c hc
 have fB:=Qq ((Bb _ _ _ _ vals wr gF gG eD (by rw [Z7,HN.out];omega)).mono (R':=fun e w2=>∃ v q3 m3 q4 m4,e=.returned (.tuple #[.agg (Qqg v q3 m3 q4 m4),Qqd])∧Y2 v∧(v.kids.length≤k∧v.kids.length≤m4)∧Z9 (fun b=>(fun b=>S1 b∧b<w.heap.size) b∨W1≤b) w2 (vcs v q3 m3 q4 m4) v∧Below wr wr w2) (by
  rintro e w2 ⟨hb,h⟩
  rcases h with ⟨mX,_,_,lE⟩ | ⟨a3,l3,a4,l4,_,rfl,_,kZ,hv⟩
  ·exact absurd ⟨bE,fun i j x kW hi hj=>by
    have kX:=(Qj hj).1
    exact (List.pairwise_iff_getElem.1 cJ.out.once) i j (Qj hi).1 kX kW (by rw [(Qj hi).2,(Qj hj).2])⟩ lE
  obtain ⟨g1,g2⟩:=Ak bE eD cJ.out.once fO.out
  exact ⟨_,a3,l3,a4,l4,rfl,g1,⟨by show (Yt _).2.length≤k;rw [g2,Z7,HN.out];exact Q9 _,by show (Yt _).2.length≤l4;rw [g2];exact kZ⟩,hv.move (.refl _ _) (fun b _ h=>h.elim id (fun h=>.inr Qqj)),hb⟩))
 have lA:w.heap.size+1+1<wr.heap.size:=Qqj
 clear bA bV gF gG eD bE bZ s0 s1
 go_upto_region 20 with (go_at_call 69;refine fB.out.mono ?_;rintro e w7 ⟨v,q3,m3,q4,m4,rfl,gV,gZ,cC,gO⟩;obtain ⟨jE,jP,fL,eQ⟩:=Qqp gV gZ cC gO;clear gV gZ cC gO)
 generalize dV:w7.alloc _=W8
 have dW:=eqB dV (Zg _ _)
 have hX:=eqH (b:=w7.heap.size) dV (Qw _ _)
 have cS:=kE (eQ.out.thn dW) lA fQ.out
 obtain ⟨v0,v1,v2,v3,v4⟩:=row5 hX
 obtain ⟨y0,y1,y2,y3,y4⟩:=row5 cS
 obtain ⟨f0,f1,f2,f3,f4⟩:=frz5 cS
 have kJ:=Qq cS;have eR:=Qq dW
 clear dV hX cS dW
 go_wp2_with fail
 show bodyPost _ _ _ _ _ (Qqm W8 (w+1+1) v q3 m3 q4 m4)
 refine Q7 (v:=.agg (Qqg v q3 m3 q4 m4)) (by simp [results,results21,go_sem,Zd kJ.out]) rfl ⟨v,q3,m3,q4,m4,rfl,jE.out,jP.out,?_,Zc (bR.out.thn (eQ.out.thn eR.out)) Qqj⟩
 exact ((fL.out.move (.of_below eR.out) Qzx).move (fun b hb _=>Zf (by
  rcases hb with h | h
  ·have:=h.2;omega
  omega)) (fun b _ h=>h.elim (fun h=>.inl h.1) (fun h=>.inr Qqj)))
theorem rrow_any (S0 S1 S2 S3:Nat→Prop) (s:Sc) (cs:List Value) (lv:Value) (l:List Rel) (t:Tbl) (ct:List Value) (nv:Value) (ns:List Int) (at':Nat) (w:World) (hs0:Xu S0 w cs s) (hl0:Sl Y7 S1 w lv l) (ht:Zn.R S2 w ct t) (hn0:Xc S3 w nv ns) (hi:Ub ns) (hat:at'≤1000) (hT:Df t) (hsg:J0 s.sums) (hk:∀ t ∈ s.tables,t.key.length≤1000) (hR:∀ r ∈ l,∀ v ∈ r.rows,Y2 v):
  Calls prog 21 #[cs,lv,ct,nv,at'] w (Sf S1 w t.columns.length):=
 M5 S0 S1 S2 S3 s cs lv l t ct nv ns at' w hs0 (by obtain ⟨p,c,h,_⟩:=hl0.len;exact ⟨p,c,h⟩) (Qq (fun tn W hW=>Ln (fun b=>S1 b∧b<w) lv l tn W ((hl0.mono (fun b hb h=>⟨h,hb⟩)).below hW))) ht hn0 hi hat hT hsg hk hR
def Qju (P:Nat→Prop):Rd Rel where
 k:=2
 R S w cs x:=∃ v,cs=[sv x.table,v]∧x.table.length≤1000000∧Sl Ze (fun b=>S b∧P b) w v x.rows
 len h:=by obtain ⟨v,rfl,_⟩:=h;rfl
 frame h hA:=by obtain ⟨v,rfl,A,D⟩:=h;exact ⟨v,rfl,A,D.frame (fun b hb=>hA b hb.1)⟩
 mono h hS:=by obtain ⟨v,rfl,A,D⟩:=h;exact ⟨v,rfl,A,D.mono (fun b hb h=>⟨hS b hb h.1,h.2⟩)⟩
theorem Sl.relOf {P:Nat→Prop} {S:Nat→Prop} {w:World} {v:Value} {l:List Rel} (h:Sl (Qju P) S w v l):Sl Y7 S w v l:=by
 obtain ⟨p,cap,h1,h2,h3⟩:=h
 refine ⟨p,cap,h1,h2,fun D=>?_⟩
 obtain ⟨b,G,e,hS,hb,hc⟩:=h3 D
 refine ⟨b,G,e,hS,hb,fun i x hx=>?_⟩
 obtain ⟨cs,A,v,hv,h4,h5⟩:=hc i x hx
 exact ⟨cs,A,v,hv,h4,h5.mono (fun b _ h=>h.1)⟩
theorem rrows_P (P:Nat→Prop) (S:Nat→Prop) (v:Value) (l:List Rel) (x:Bs) (w:World) (hs:Sl (Qju P) S w v l):
  Calls prog 67 #[v,sv x] w (R8 (fun b=>S b∧P b) w (Vb l x)):=by
 have D:=Qq (fun W (h:w=W)=>Dt S v l x W (h ▸ hs.relOf))
 rcases K9 l x with ⟨J,I⟩ | ⟨i,r,J,I,M⟩
 ·have G:Vb l x=[]:=by unfold Vb;rw [J]
  rw [G]
  rw [I] at D
  clear J I G
  obtain ⟨p,cap,rfl,hl⟩:=hs.len
  clear hs
  unfold sv at D ⊢
  go_enter func67,ntmps67
  go_wp2_with (go_at_call 22;refine (D.out _ rfl).mono ?_;rintro e w' ⟨rfl,rfl⟩)
  go_ret
  exact ⟨none,0,rfl,Sl.nil _ _ _,rfl⟩
 have G:Vb l x=r.rows:=by unfold Vb;rw [J];simp [M]
 rw [G]
 rw [I] at D
 clear J I G
 obtain ⟨p,cap,rfl,hl⟩:=hs.len
 have Y:=(Qj M).1
 obtain ⟨b,Z,cs,rfl,O,_,_,⟨rv,rfl,_,A⟩,hc⟩:=hs.elem M
 have c1:=hc 1 _ rfl
 rw [show (Qju P).k=2 from rfl] at c1
 obtain ⟨q,qc,rfl,_⟩:=A.len
 have N:=Qq A
 have T:(0:Int)≤(i:Int):=Qqj
 have U:(i:Int)<(l.length:Int):=Qqj
 have V:decide ((i:Int)<0)=false:=Qqk
 clear hs M hc A
 unfold sv at D ⊢
 go_enter func67,ntmps67
 go_wp2_with (go_at_call 22;refine (D.out _ rfl).mono ?_;rintro e w' ⟨rfl,rfl⟩)
 go_ret
 exact ⟨q,qc,rfl,N.out,rfl⟩
theorem rrow_P (P:Nat→Prop) (S0 S1 S2 S3:Nat→Prop) (s:Sc) (cs:List Value) (lv:Value) (l:List Rel) (t:Tbl) (ct:List Value) (nv:Value) (ns:List Int) (at':Nat) (w:World) (hs0:Xu S0 w cs s) (hl0:Sl (Qju P) S1 w lv l) (ht:Zn.R S2 w ct t) (hn0:Xc S3 w nv ns) (hi:Ub ns) (hat:at'≤1000) (hT:Df t) (hsg:J0 s.sums) (hk:∀ t ∈ s.tables,t.key.length≤1000) (hR:∀ r ∈ l,∀ v ∈ r.rows,Y2 v):
  Calls prog 21 #[cs,lv,ct,nv,at'] w (Sf (fun b=>S1 b∧P b) w t.columns.length):=
 M5 S0 (fun b=>S1 b∧P b) S2 S3 s cs lv l t ct nv ns at' w hs0 (by obtain ⟨p,c,h,_⟩:=hl0.len;exact ⟨p,c,h⟩) (Qq (fun tn W hW=>by
  refine (rrows_P P (fun b=>S1 b∧b<w) lv l tn W ((hl0.mono (fun b hb h=>⟨h,hb⟩)).below hW)).mono ?_
  rintro e w2 ⟨p,c,h1,h2,h3⟩
  exact ⟨p,c,h1,h2.mono (fun b _ h=>⟨⟨h.1.1,h.2⟩,h.1.2⟩),h3⟩)) ht hn0 hi hat hT hsg hk hR
theorem Dh (S S':Nat→Prop) (f:Ft) (ca cb:List Value) (w:World) (ha:Fj S w ca f) (hb:Fj S' w cb f):
  Calls prog 8 #[ca,cb] w fun e w'=>e=.returned (.bool true)∧Below w w w':=by
 obtain ⟨p3,k3,p4,k4,q3,l3,q4,l4,rfl,_,aD,aE⟩:=Vc ha
 obtain ⟨r3,m3,r4,m4,s3,n3,s4,n4,rfl,_,aF,aG⟩:=Vc hb
 have T:=Qq (fun W (hW:Below w w W)=>Dv _ _ f.row f.row _ _ W (aD.move (.of_below hW) Qzx) (aF.move (.of_below hW) Qzx))
 have U:=Qq (fun W (hW:Below w w W)=>Dv _ _ f.other f.other _ _ W (aE.move (.of_below hW) Qzx) (aG.move (.of_below hW) Qzx))
 simp only [Wu] at T U
 clear ha hb aD aE aF aG
 unfold vcs at T U
 unfold fcs
 obtain ⟨c,t,r,o⟩:=f
 go_enter func8,ntmps8
 go_upto_region 1 with fail
 generalize M:(w.alloc _).alloc _=W1
 have aB:=eqB M (Zt _ _ _)
 have Z:=eqH (b:=w.heap.size) M (Q5 _ _ _)
 have aA:=eqH (b:=w.heap.size+1) M (Q6 _ _ _)
 obtain ⟨N,A,G⟩:=Qqo aB Z aA
 clear M aB Z aA
 have x2:=rA2 A.out;have x3:=rA3 A.out;have x4:=rA4 A.out;have x5:=rA5 A.out;have x6:=rA6 A.out;have y2:=rA2 G.out;have y3:=rA3 G.out;have y4:=rA4 G.out;have y5:=rA5 G.out;have y6:=rA6 G.out
 go_upto_region 2 with (go_at_call 23;refine (T.out _ N.out).mono ?_;rintro e w2 ⟨rfl,hg⟩;have J:=Qq (show Below W1 W1 w2 from hg.bl);clear hg)
 have D:=Qq (kB J.out A.out);have I:=Qq (kB J.out G.out)
 clear x2 x3 x4 x5 x6 y2 y3 y4 y5 y6
 have x7:=rA7 D.out;have x8:=rA8 D.out;have x9:=rA9 D.out;have aH:=rA10 D.out;have aI:=rA11 D.out;have y7:=rA7 I.out;have y8:=rA8 I.out;have y9:=rA9 I.out;have aJ:=rA10 I.out;have aK:=rA11 I.out
 go_upto_region 3 with (go_at_call 23;refine (U.out _ (N.out.thn J.out)).mono ?_;rintro e w3 ⟨rfl,hg⟩;have O:=Qq (show Below w2 w2 w3 from hg.bl);clear hg)
 have V:=Qq (kB O.out D.out);have Y:=Qq (kB O.out I.out)
 clear x7 x8 x9 aH aI y7 y8 y9 aJ aK
 have x0:=rA0 V.out;have x1:=rA1 V.out;have y0:=rA0 Y.out;have y1:=rA1 Y.out
 have hc:(c==c)=true:=Qqk
 have ht:(t==t)=true:=Qqk
 go_wp2_with fail
 go_ret
 exact ⟨rfl,(N.out.thn J.out).thn O.out⟩
end Go.Proofs.YtdpibdpbgokmoaaGreatDoor
