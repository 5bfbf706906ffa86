import Derived.Test.YtdpibdpbgokmoaaGreatDoorC22
set_option maxRecDepth 100000
set_option maxHeartbeats 400000000
namespace Go.Proofs.YtdpibdpbgokmoaaGreatDoor
open Go.RowKit Go.Shelf Go.Lib Tryz
theorem Tx (ns:List Bs) (ks:List Val) (hlen:ns.length=ks.length) (hw:∀ x ∈ ns,Va x) (hst:∀ (i:Nat) (x y:Bs),ns[i]?=some x→ns[i+1]?=some y→Yf x y<0) (ih:∀ x ∈ ks,Xh x):Xh (.mk 4 0 [] ns ks):=by
 intro S cs w h
 obtain ⟨p3,k3,p4,k4,aP,hn,hk,_⟩:=Z9.cells h
 simp only [vcs,Val.kind,Val.n,Val.s,Val.names,Val.kids] at aP hn hk
 subst aP
 obtain ⟨_,_,_,bG⟩:=hk.len
 have HI:=Qq ih
 obtain ⟨m,hm⟩:=eX (ks.length)
 rw [hm] at hk bG ⊢
 have bA:=Qq hk;have HM:=Qq hm
 have mixed:prog.follows .mixedOrders=true:=Qqy
 have aG:ns.length=m:=Qqj
 rw [aG] at hn ⊢
 obtain ⟨aL,aK,HW,bB⟩:=Qqp hn aG hw hst
 have bH:((m:Int) != (m:Int))=false:=Qqk
 clear hm hn aG hlen hw hst
 clear h hk ih
 go_enter func92,ntmps92
 go_wp2_with fail
 generalize aB:w.alloc _=G
 have aN:=eqB aB (Zg _ _)
 have M:=eqH (b:=w.heap.size) aB (Qw _ _)
 clear aB
 clear bH
 have I:Hid (w<G.heap.size∧Qqa G w 4 (.slice p4 m k4)):=Qq ⟨Z8 M,Qk _ _ 4 _ _ _ M⟩
 have U:Hid (w<G.heap.size∧Qqa G w 3 (.slice p3 m k3)):=Qq ⟨Z8 M,Qk _ _ 3 _ _ _ M⟩
 have D:=Qq aN
 clear M aN
 go_loopw [5] (fun i wr=>∃ k:Nat,k≤m∧i=.int .i64 k∧Aside (Below G G wr)) (fun i _=>m - (intOf i).toNat)
 case atStart=>exact ⟨0,Q8 _,rfl,Qz _ _⟩
 obtain ⟨k,hk,rfl,J⟩:=hrel
 have A:=Qq (show Below G G wr from J)
 have c3:=(A.out.cell (p:=⟨w,3,none⟩) U.out.1).trans U.out.2
 have c4:=(A.out.cell (p:=⟨w,4,none⟩) I.out.1).trans I.out.2
 have aC:w.heap.size<wr.heap.size:=by have:=U.out.1;have:=A.out.size;omega
 clear J
 by_cases hlt:k<m
 ·have aQ:(0:Int)≤(k:Int):=Qqj
  have aR:(k:Int)<(m:Int):=Qqj
  obtain ⟨y,V⟩:∃ y,ns[k]?=some y:=⟨_,Qx (by rw [aK.out];exact hlt)⟩
  obtain ⟨nb,aV,rfl,T,-⟩:=(aL.out.below (D.out.thn A.out)).str V
  have N:=Qv _ _ T
  have HF:=Qq (fun W=>Ha y (HW.out y (Qy V)) W)
  unfold sv at HF
  have C3:=Kh aC c3
  by_cases hk0:k=0
  ·subst hk0
   rw [Nat.add_zero] at T
   have Y:=Kh N T
   have bP:(0:Int)<(m:Int):=Qqj
   have bQ:0<m:=hlt
   clear V aQ aR
   rw [show ((0:Nat):Int)=(0:Int) from rfl]
   go_wp2_with fail
   refine U7 Qqw Qqy ?_
   repeat (first | go_big_quiet_skip | quiet_step ((go_at_call 107;exact Calls.later_of (HF.out _))))
   refine wpQuiet_nil ?_
   intro _ aH
   obtain ⟨⟨wq,aD⟩,O⟩:=aH
   subst O
   try dsimp only
   clear C3 Y c4
   go_wp2_with fail
   go_roundw
   case measure=>simp [intOf];omega
   case rel=>exact ⟨0+1,Qqj,by go_num,A.out.thn aD⟩
  obtain ⟨j,rfl⟩:∃ j,k=j+1:=⟨k - 1,Qqj⟩
  obtain ⟨z,hz⟩:∃ z,ns[j]?=some z:=⟨_,Qx (by rw [aK.out];omega)⟩
  obtain ⟨bJ,aJ,he,aU,-⟩:=(aL.out.below (D.out.thn A.out)).str hz
  obtain ⟨rfl,rfl,-⟩:nb=bJ∧aV=aJ∧True:=by simpa using he
  have Y:=Kh N T
  have Z:=Kh N aU
  have aS:=bB.out j z y hz V
  have bR:Op.bytesLess y z=false:=by rw [(Vi y z).1,Lc];simp;omega
  have bS:(y==z)=false:=by rw [(Vi y z).2.1,Lc];simp;omega
  have bD:IntKind.i64.wrap (j:Int)=(j:Int):=by rw [IntKind.wrap_i64];omega
  have bK:(j:Int)<(m:Int):=Qqj
  have bL:(0:Int)<(j:Int)+1:=Qqj
  have bM:(0:Int)≤(j:Int)+1:=Qqj
  have bN:(j:Int)+1<(m:Int):=Qqj
  have bO:(0:Int)≤(j:Int):=Qqj
  have bE:((j:Int)+1).toNat=j+1:=Qqj
  clear V T hz aU he hk0 aS
  go_wp2_with fail
  refine U7 Qqw Qqy ?_
  repeat (quiet_step ((go_at_call 107;exact Calls.later_of (HF.out _))))
  refine wpQuiet_nil ?_
  intro _ aH
  obtain ⟨⟨wq,aD⟩,O⟩:=aH
  subst O
  try dsimp only
  clear C3 Y Z c4 bD bE
  go_wp2_with fail
  go_roundw
  case measure=>simp [intOf];omega
  case rel=>exact ⟨j+1+1,Qqj,by go_num,A.out.thn aD⟩
 have aF:k=m:=Qqj
 subst aF
 have hW:Hid (Below w w wr):=Qq (D.out.thn A.out)
 have aA:Hid (w<wr.heap.size∧Qqa wr w 4 (.slice p4 k k4)):=Qq ⟨aC,c4⟩
 clear I U D A
 obtain ⟨G,rfl⟩:∃ G:World,G=wr:=⟨_,rfl⟩
 have I:=aA;have D:=hW
 clear aA hW
 go_wp2_with fail
 clear c3 c4
 obtain ⟨mm,rfl⟩:∃ mm,mm=k:=⟨_,rfl⟩
 go_loopw [6] (fun i wr=>∃ k:Nat,k≤mm∧i=.int .i64 k∧Aside (Below G G wr)) (fun i _=>mm - (intOf i).toNat)
 case atStart=>exact ⟨0,Q8 _,rfl,Qz _ _⟩
 obtain ⟨k,hk,rfl,J⟩:=hrel
 have A:=Qq (show Below G G wr from J)
 have c4:=(A.out.cell (p:=⟨w,4,none⟩) I.out.1).trans I.out.2
 clear J
 by_cases hlt:k<mm
 ·have aQ:(0:Int)≤(k:Int):=Qqj
  have aR:(k:Int)<(mm:Int):=Qqj
  obtain ⟨y,V⟩:∃ y,ks[k]?=some y:=⟨_,Qx (by rw [HM.out];exact hlt)⟩
  obtain ⟨b,bT,q3,l3,q4,l4,rfl,aC,aT,d0,d1,d2,d3,d4⟩:=(bA.out.below (D.out.thn A.out)).val V
  have bC:=Qq aT;have aZ:=Qq (HI.out y (Qy V))
  clear aT V
  go_wp2_with (go_at_call 92;refine (aZ.out _ _ _ bC.out).mono ?_;rintro e w5 ⟨rfl,aO⟩;have aX:=Qq aO;clear aO)
  go_roundw
  case measure=>simp [intOf];omega
  case rel=>exact ⟨k+1,Qqj,by go_num,A.out.thn aX.out⟩
 have aF:k=mm:=Qqj
 subst aF
 go_wp2_with fail
 go_ret
 exact ⟨rfl,D.out.thn A.out⟩
theorem R5 (v:Val) (hv:Y2 v):Xh v:=by
 induction hv with
 | int n=>exact Rv n [] rfl (fun x h=>by simp at h)
 | text s=>exact Ns s [] rfl (fun x h=>by simp at h)
 | bool n hn=>
  rcases hn with rfl | rfl
  ·exact Mt [] rfl (fun x h=>by simp at h)
  exact Ma [] rfl (fun x h=>by simp at h)
 | make s kids hs hl hk ih=>exact Oo s hs kids hl ih
 | record names kids hl hn hs hk ih=>exact Tx names kids hl hn hs ih
 | list kids hk ih=>exact Nu kids ih
theorem Co {l:List Tbl} {x:Bs} {k:Nat} {t:Tbl} (ht:l[k]?=some t) (he:t.name=x) (hne:∀ (j:Nat) (y:Tbl),j<k→l[j]?=some y→decide (y.name=x)=false):Y0 l x=some t:=by
 obtain ⟨hk,rfl⟩:=Qj ht
 unfold Y0
 rw [List.find?_eq_some_iff_getElem]
 exact ⟨by simpa using he,k,hk,rfl,fun j hj=>by simpa using hne j _ hj (Qx Qqj)⟩
theorem R9 {l:List Tbl} {x:Bs} (hne:∀ (j:Nat) (y:Tbl),l[j]?=some y→decide (y.name=x)=false):Y0 l x=none:=by
 unfold Y0
 rw [List.find?_eq_none]
 intro y hy
 obtain ⟨j,hj⟩:=Zk hy
 simpa using hne j y hj
def TabIs (S:Nat→Prop) (w:World) (o:Option Tbl) (e:Ending) (w':World):Prop:=∃ cs',e=.returned (.tuple #[.agg cs'.toArray,.bool o.isSome])∧Zn.R S w' cs' (o.getD Tbl.zero)∧Below w w w'
theorem Hm (S:Nat→Prop) (s:Sc) (cs:List Value) (x0:Bs) (w:World) (hs:Xu S w cs s):
  Calls prog 68 #[cs,sv x0] w (TabIs S w (Y0 s.tables x0)):=by
 obtain ⟨uv,tv,rfl,hu,aZ⟩:=hs
 have ht:=aZ.up
 obtain ⟨up,uc,rfl,_⟩:=hu.len
 obtain ⟨tp,tc,rfl,bS⟩:=ht.len
 have HT:=Qq ht
 clear hu ht aZ
 obtain ⟨n,hn⟩:=eX (s.tables.length)
 rw [hn] at HT bS ⊢
 have HN:=Qq hn
 clear hn
 obtain ⟨r,hr⟩:=eX (Y0 s.tables x0)
 rw [hr]
 have HR:=Qq hr
 clear hr
 unfold sv
 go_enter func68,ntmps68
 go_wp2_with fail
 generalize aC:(w.alloc _).alloc _=W1
 have aX:=eqB aC (Zt _ _ _)
 have aW:=eqH (b:=w.heap.size) aC (Q5 _ _ _)
 have aB:=eqH (b:=w.heap.size+1) aC (Q6 _ _ _)
 have aQ:=Qq aX;have aU:=Qq aB
 obtain ⟨c0,c1⟩:=row2 aW
 obtain ⟨r0,r1,r2,r3,r4,r5,r6,r7,r8,r9,cG,cH,cI⟩:=row13 aB
 obtain ⟨f0,f1,f2,f3,f4,f5,f6,f7,f8,f9,bY,bZ,cA⟩:=frz13 aB
 clear aC aX aW aB
 go_loop [6] (fun i=>∃ k:Nat,k≤n∧i=.int .i64 k∧Aside (∀ (j:Nat) (y:Tbl),j<k→s.tables[j]?=some y→decide (y.name=x0)=false)) (fun i=>n - (intOf i).toNat)
 case atStart=>exact ⟨0,Q8 _,rfl,fun j _ hj=>absurd hj (Z6 _)⟩
 obtain ⟨k,hk,rfl,A⟩:=hrel
 by_cases hlt:k<n
 ·have cD:(0:Int)≤(k:Int):=Qqj
  have cE:(k:Int)<(n:Int):=Qqj
  obtain ⟨y,hy⟩:∃ y,s.tables[k]?=some y:=⟨_,Qx (by rw [HN.out];exact hlt)⟩
  obtain ⟨b,cF,ct,rfl,cC,cB,_,hR,I⟩:=(HT.out.below aQ.out).elem hy
  have aV:=hR
  obtain ⟨aA,Z,aE,aD,aM,aL,k9,aN,n9,aO,aI,aF,U,aJ,aG,V,aK,aH,Y,a9,z9,aY,_⟩:=Yj hR
  simp only [tcs] at aY
  subst aY
  have d0:=I 0 _ rfl
  have d1:=I 1 _ rfl
  have d2:=I 2 _ rfl
  have d3:=I 3 _ rfl
  have d4:=I 4 _ rfl
  have d5:=I 5 _ rfl
  have d6:=I 6 _ rfl
  have d7:=I 7 _ rfl
  have d8:=I 8 _ rfl
  have d9:=I 9 _ rfl
  have bO:=I 10 _ rfl
  have bP:=I 11 _ rfl
  have bQ:=I 12 _ rfl
  simp only [show Zn.k=13 from rfl,Nat.add_zero] at d0 d1 d2 d3 d4 d5 d6 d7 d8 d9 bO bP bQ
  have bN:=Qq aV;have HY:=Qq hy
  clear hR aV I hy
  by_cases he:y.name=x0
  ·have hq:(y.name==x0)=true:=by rw [he];simp
   have aR:r=some y:=by rw [← HR.out];exact Co HY.out he A.out
   subst aR
   clear he A
   go_wp2_with fail
   obtain ⟨W,M⟩:=eX (Vr W1 (w+1) y.name (.slice aA y.columns.length Z) (.slice aE y.key.length aD) (.slice aM y.refs.length aL) k9 (.string aN) n9 (.string aO) (.slice aI aF U) (.slice aJ aG V) (.slice aK aH Y) a9 z9)
   have q:∀ j,W.cell? ⟨w+1,j,none⟩=#[.string ⟨y.name.toArray⟩,.slice aA y.columns.length Z,.slice aE y.key.length aD,.slice aM y.refs.length aL,.int .i64 k9,.string aN,.int .i64 n9,.string aO,.slice aI aF U,.slice aJ aG V,.slice aK aH Y,.int .i64 a9,.int .i64 z9][j]?:=fun j=>by rw [← M];exact Ug aU.out j
   have G:∀ b,b≠w.heap.size+1→W.heap[b]?=W1.heap[b]?:=fun b hb=>by rw [← M];exact Um hb
   have D:Below w w W:=by rw [← M];exact Vj aQ.out Qqj
   show bodyPost _ _ _ _ _ (Vr W1 (w+1) y.name (.slice aA y.columns.length Z) (.slice aE y.key.length aD) (.slice aM y.refs.length aL) k9 (.string aN) n9 (.string aO) (.slice aI aF U) (.slice aJ aG V) (.slice aK aH Y) a9 z9)
   rw [M]
   have J:=Qq D;have aP:=Qq G
   obtain ⟨q0,q1,q2,q3,q4,q5,q6,q7,q8,q9,N,O,T⟩:=Qzk q
   simp only [Qf,Qg,Qh] at q0 q1 q2 q3 q4 q5 q6 q7 q8 q9 N O T
   clear M D G q
   refine Q7 (v:=.tuple #[.agg (Qqh y aA Z aE aD aM aL k9 aN n9 aO aI aF U aJ aG V aK aH Y a9 z9),.bool true]) (by simp [results,results68,go_sem,q0,q1,q2,q3,q4,q5,q6,q7,q8,q9,N,O,T]) rfl ⟨_,rfl,Zn.mono (Zn.frame bN.out (fun b hb _=>aP.out b (by have:=hb.2;omega))) (fun b _ h=>h.1),J.out⟩
  have hq:(y.name==x0)=false:=by rw [← Qt,beq_iff_eq];exact he
  have HE:=Qq he
  clear he
  go_wp2_with fail
  go_round
  case measure=>simp [intOf];omega
  case rel=>
   refine ⟨k+1,Qqj,by go_num,(show Aside _ from fun j z hj hz=>?_)⟩
   by_cases e:j=k
   ·subst e
    have:=HY.out
    rw [this] at hz
    cases hz
    simpa using HE.out
   exact A.out j z Qqj hz
 have bX:¬ (k:Int)<(n:Int):=Qqj
 have:k=n:=Qqj
 subst this
 have aR:r=none:=by rw [← HR.out];exact R9 (fun j y hy=>A.out j y (by have:=(Qj hy).1;have:=HN.out;omega) hy)
 subst aR
 clear A
 go_wp2_with fail
 obtain ⟨W,M⟩:=eX (Vr W1 (w+1) Qqe Qqf Qqf Qqf Qqd Qqe Qqd Qqe Qqf Qqf Qqf Qqd Qqd)
 have q:∀ j,W.cell? ⟨w+1,j,none⟩=zT[j]?:=fun j=>by rw [← M];exact Ug aU.out j
 have G:∀ b,b≠w.heap.size+1→W.heap[b]?=W1.heap[b]?:=fun b hb=>by rw [← M];exact Um hb
 have D:Below w w W:=by rw [← M];exact Vj aQ.out Qqj
 show bodyPost _ _ _ _ _ (Vr W1 (w+1) Qqe Qqf Qqf Qqf Qqd Qqe Qqd Qqe Qqf Qqf Qqf Qqd Qqd)
 rw [M]
 have J:=Qq D;have aP:=Qq G
 obtain ⟨q0,q1,q2,q3,q4,q5,q6,q7,q8,q9,N,O,T⟩:=Qzk q
 simp only [Qf,Qg,Qh] at q0 q1 q2 q3 q4 q5 q6 q7 q8 q9 N O T
 clear M D G q
 refine Q7 (v:=.tuple #[.agg zT,.bool false]) (by simp [results,results68,go_sem,q0,q1,q2,q3,q4,q5,q6,q7,q8,q9,N,O,T]) rfl ⟨[Qqe,Qqf,Qqf,Qqf,Qqd,Qqe,Qqd,Qqe,Qqf,Qqf,Qqf,Qqd,Qqd],rfl,Fc _ _,J.out⟩
def RKeyIs (S:Nat→Prop) (w:World) (l:List Val) (e:Ending) (w':World):Prop:=∃ p cap,e=.returned (.slice p l.length cap)∧Sl Ze (fun b=>S b∨w≤b) w' (.slice p l.length cap) l∧Below w w w'
def GotMid (S:Nat→Prop) (w:World) (u:Val) (b:Bool) (t7 t8:Value) (wx:World):Prop:=
 ∃ G q3 m3 q4 m4,t7=.pointer (some ⟨G,0,none⟩)∧t8=.bool b∧wx.heap[G]?=some (.cells (Qqg u q3 m3 q4 m4) 36 (0,0))∧Z9 S wx (vcs u q3 m3 q4 m4) u∧Below w w wx∧w.heap.size≤G
theorem Fh (S S0:Nat→Prop) (t:Tbl) (row:Val) (ct cr:List Value) (w:World) (ht:Zn.R S w ct t) (hr0:Z9 S0 w cr row) (hkl:t.key.length≤1000):
  Calls prog 42 #[ct,cr] w (RKeyIs S0 w ((keyOf t.key row).getD [])):=by
 have hr:Z9 (fun b=>S0 b∧b<w) w cr row:=hr0.move (.refl _ _) (fun b hb h=>⟨h,hb⟩)
 clear hr0
 have HG:=Qq (fun x W (hb:Below w w W)=>Hb _ row cr x W (hr.move (.of_below hb) Qzx))
 obtain ⟨cO,cN,cT,bR,dA,cZ,k0,dB,n0,dC,cW,cU,cK,cX,n20,cL,cY,cV,cM,a0,z0,rfl,_,_,aD,_,_⟩:=Yj ht
 obtain ⟨r3,l3,r4,l4,bG,_⟩:=Z9.cells hr
 simp only [vcs] at bG
 subst bG
 unfold tcs
 have HK:=Qq aD
 obtain ⟨i0,j1,j2,j3,j4⟩:=Y9 (P:=prog) (t:=36) (z:=.agg zV) (n:=5) (b:=80) Qqy
 obtain ⟨HJ,bX,bY,bZ⟩:=Qqp j1 j2 j3 j4
 clear j1 j2 j3 j4
 clear ht hr aD
 obtain ⟨n,hn⟩:=eX (t.key.length)
 rw [hn] at HK hkl ⊢
 have HN:=Qq hn
 clear hn
 obtain ⟨r,hr⟩:=eX (keyOf t.key row)
 rw [hr]
 have HR:=Qq hr
 clear hr
 unfold sv at HG
 go_enter func42,ntmps42
 go_wp2_with fail
 generalize aA:(w.alloc _).alloc _=W1
 have bD:=eqB aA (Zt _ _ _)
 have bA:W1.heap[w.heap.size]?=some (.cells (Qqh t cO cN cT bR dA cZ k0 dB n0 dC cW cU cK cX n20 cL cY cV cM a0 z0) 48 (0,0)):=by rw [← aA,HN.out];exact Q5 _ _ _
 have bC:=eqH (b:=w.heap.size+1) aA (Q6 _ _ _)
 obtain ⟨bU,cJ,aT⟩:=Qqo bD bA bC
 clear aA bD bA bC
 go_loopw [5,6,7,8] (fun o i _ _ wr=>∃ (k:Nat) (l:List Val) (p:Option Addr) (cap:Nat),k≤n∧i=.int .i64 k∧o=.slice p k cap∧l.length=k∧Aside (keyOf (t.key.take k) row=some l)∧Below (w+2) W1 wr ∧
  (∃ css,Own Ze 36 (fun b=>(S0 b∧b<w)∨w+2≤b) (w+2) wr (.slice p k cap) l css)) (fun _ i _ _ _=>n - (intOf i).toNat)
 case atStart=>exact ⟨0,[],none,0,Q8 _,rfl,rfl,rfl,rfl,Qz _ _,[],Own.nil _ _ _ _ _⟩
 obtain ⟨k,l,p,cap,dN,rfl,rfl,bK,hE,I,css,hO⟩:=hrel
 have dP:=Z8 aT.out
 have bB:=kE I Qqj cJ.out
 have M:=kE I Qqj aT.out
 have c2:=Qk _ _ 2 _ _ _ bB;have y0:=rA0 M;have y1:=rA1 M;have y2:=rA2 M;have y3:=rA3 M;have y4:=rA4 M
 simp only [Qf,Qg,Qh,HN.out] at c2
 have bF:Below w w wr:=bU.out.trans (I.mono Qqj)
 have dO:=I.size
 obtain ⟨bV,Y,HO,HE,Z⟩:=Qqr I bF hO hE.out bK
 clear bB M I bF hO hE bK
 by_cases aL:k<n
 ·have dL:(0:Int)≤(k:Int):=Qqj
  have dM:(k:Int)<(n:Int):=Qqj
  have aB:k<t.key.length:=by rw [HN.out];exact aL
  obtain ⟨x,hx⟩:∃ x,t.key[k]?=some x:=⟨_,Qx aB⟩
  have bN:t.key.take (k+1)=t.key.take k++[x]:=by rw [Zz aB];rw [Qx aB] at hx;cases hx;rfl
  obtain ⟨kb,aE,cR,aK,-⟩:=(HK.out.below Y.out).str hx
  subst cR
  have bI:=Qv _ _ aK
  have HX:=Qq hx;have cG:=Qq bN
  clear hx bN aB
  obtain ⟨kc,aC⟩:=eX (bR)
  rw [aC] at c2
  clear aC
  go_upto_region 5 with fail
  obtain ⟨u,hu⟩:=eX ((Ys row x).getD Val.zero)
  obtain ⟨b,hb⟩:=eX ((Ys row x).isSome)
  have HU:=Qq hu;have aG:=Qq hb
  refine let_mvar% ?Lq1:=fun w':World=>Qqa w' w 2 (Qqb kb aE n kc)∧Qzw w' (w+1) row.kind row.n row.s (.slice r3 row.names.length l3) (.slice r4 row.kids.length l4) (Qqa w' kb (aE+k) x∧Below wr wr w');?_
  have HS:∀ w',Below wr wr w'→?Lq1 w':=by
   intro w' h
   have hh:∀ {b j:Nat} {u:Value},b<wr→wr.cell? ⟨b,j,none⟩=some u→w'.cell? ⟨b,j,none⟩=some u:=fun aL hc=>kD h aL hc
   exact ⟨hh Qqj c2,hh Qqj y0,hh Qqj y1,hh Qqj y2,hh Qqj y3,hh Qqj y4,hh bI aK,h⟩
  have A:∀ w',?Lq1 w'→Below wr wr w':=fun w' h=>h.2.2.2.2.2.2.2
  have HA:∀ w' o,?Lq1 w'→?Lq1 (w'.alloc o):=fun w' o h=>HS _ ((A w' h).alloc (A w' h).size o)
  have HP:∀ w' a b c d e,?Lq1 w'→?Lq1 (Zl w' wr a b c d e):=fun w' a b c d e h=>HS _ (Zc (A w' h) (Q9 _))
  unfold Zl at HP
  have HC:=Qq (fun W' (h':?Lq1 W')=>(HG.out x W' (Y.out.thn (A _ h'))).mono (R':=fun e w2=>∃ T N U O,e=.returned (.tuple #[.agg (Qqg u T N U O),.bool b])∧Z9 (fun b=>S0 b∧b<w) w2 (vcs u T N U O) u∧Below W' W' w2∧?Lq1 w2) (by
   rintro e w2 ⟨dI,rfl,h3,h4⟩
   rw [HU.out] at h3
   rw [aG.out]
   obtain ⟨T,N,U,O,cQ,_⟩:=Z9.cells h3
   subst cQ
   exact ⟨T,N,U,O,rfl,h3,h4,HS _ ((A _ h').thn h4)⟩))
  obtain ⟨aQ,aR,aN,D,aF,aO⟩:=Qqs (HS wr.drew (Qz _ _).drew) (HS wr (Qz _ _)) (fun w' (h:?Lq1 w')=>HS w'.drew (A w' h).drew) A HA HP
  clear HS A HA HP c2 y0 y1 y2 y3 y4 aK hu hb
  go_cut [7,8] from 9 to 31 (fun t7 t8 wx=>GotMid (fun b=>S0 b∧b<w) wr u b t7 t8 wx)
  case first=>
   go_region_held3 ?Lq1 (first | with_reducible exact aQ.out | with_reducible exact J | with_reducible exact aN.out _ (aF.out _ _ aR.out) | with_reducible exact aF.out _ _ J | with_reducible exact aO.out _ _ _ _ _ _ J)
    (first
     | (go_at_call 43;refine (HC.out _ Qqw).mono ?_;rintro e w2 ⟨T,N,U,O,rfl,bO,aI,J⟩;(try (have r2:w2.heap[wr.heap.size]?=some (.cells zV 36 (0,0)):=(aI.block wr Qqk).trans (Qw wr _);obtain ⟨y0,y1,y2,y3,y4⟩:=row5 r2;obtain ⟨g0,g1,g2,g3,g4⟩:=frz5 r2;have aP:=Qq r2;clear r2));have aS:=Qq bO;have dG:=Qq aI;clear bO aI))
   all_goals
    go_wp2_with fail
    go_meet
    first
     | (have h9:=aP.out;clear h9;exact ⟨wr.heap.size,T,N,U,O,rfl,rfl,Yd aP.out,Z9.move aS.out (fun b hb _=>Zf (by have:=hb.2;omega)) Qzx,Zc (D.out _ J) (Q9 _),Q9 _⟩)
     | exact ⟨w2.heap.size,T,N,U,O,rfl,rfl,Qw _ _,Z9.move aS.out (.of_below (Zg _ _)) Qzx,(D.out _ J).thn (Zg _ _),(D.out _ J).size⟩
  obtain ⟨G,T,N,U,O,rfl,rfl,hG,bP,bE,dJ⟩:=hcut
  obtain ⟨dH,cI,V⟩:=Qqo hG bP bE
  have dK:=Z8 hG
  clear HC aQ aR aN D aF aO
  obtain ⟨g0,g1,g2,g3,g4⟩:=row5 hG
  clear hG bP bE
  cases b with
  | false=>
   have bL:Ys row x=none:=by have:=aG.out;cases hq:Ys row x with
    | none=>rfl
    | some _=>rw [hq] at this;cases this
   have hr0:r=none:=by rw [← HR.out];exact Lz (Qy HX.out) bL
   subst hr0
   clear bL
   go_wp2_with fail
   go_ret
   exact ⟨none,0,rfl,Sl.nil _ _ _,Y.out.thn V.out⟩
  | true=>
   have bH:Ys row x=some u:=by
    have h1:=aG.out;have h2:=HU.out
    cases hq:Ys row x with
    | none=>rw [hq] at h1;cases h1
    | some v=>rw [hq] at h2;rw [← h2];rfl
   have bW:=Qq bH
   clear bH
   have aX:=HO.out.below V.out
   have aZ:Ze.R (But (fun b=>(S0 b∧b<w)∨w+2≤b) (.slice p k cap)) wc (Qqg u T N U O) u:=Z9.move cI.out (.refl _ _) (fun b _ hb=>⟨.inl hb,fun e=>by
    have:=(HO.out.row.lt b e.symm).1
    have:=hb.2
    omega⟩)
   have cC:=Qq aX;have cH:=Qq aZ
   have dF:=V.out.size
   clear aX aZ
   go_wp2_with (at_builtin;refine Yl (r:=Ze) Qqx rfl (.tmp 28) (.tmp 30) _ rfl 36 i0 (.agg zV) 80 underlying34 HJ.out bX.out bY.out bZ.out rfl Qqj (fun b=>(S0 b∧b<w)∨w+2≤b) (w+2) wc (.slice p k cap) l css (Qqg u T N U O) u rfl cC.out rfl cH.out (by simp [Value.oneCell']) k Z.out Qqj Qqj ?_;intro p7 aU aV w7 aY aW;have cD:=Qq aY;have cA:=Qq aW;clear aY aW)
   go_roundw
   case measure=>simp [intOf];omega
   case rel=>
    refine ⟨k+1,l++[u],p7,aU,Qqj,by go_num,rfl,by have:=Z.out;simp [this],(show Aside _ from ?_),(bV.out.trans (V.out.mono Qqj)).trans cA.out.below,aV,cD.out⟩
    have:keyOf (t.key.take (k+1)) row=some (l++[u]):=by rw [cG.out,Hn,HE.out,bW.out]
    exact this
 have bJ:k=n:=Qqj
 subst bJ
 have bM:r=some l:=by
  rw [← HR.out,← HE.out,Zj (by rw [HN.out];exact Q9 _)]
 have cF:=Qq bM
 clear bM
 go_wp2_with fail
 go_ret
 unfold RKeyIs
 rw [cF.out,Option.getD_some,Z.out]
 exact ⟨p,cap,rfl,HO.out.sl (Qqq Z.out) (fun b hb=>.inr Qqj) (fun b _ hb=>by
  rcases hb with h | h
  ·exact .inl h.1
  exact .inr Qqj),Y.out⟩
theorem Af (S:Nat→Prop) (v:Value) (l:List Int) (w:World) (hs:Xc S w v l) (hi:Ub l) (hk:Yp l 0 13=6):
  Calls prog 17 #[v,Qqd] w (Jv w (Gen.check 6)):=by
 have HP:=Qq (fun W (hb:Below w w W)=>Yr S v l 0 13 W (hs.below hb) hi Qqj Qqj)
 rw [hk] at HP
 obtain ⟨p,cap,rfl,_⟩:=hs.len
 clear hs hi hk
 go_enter func17,ntmps17
 go_upto_region 8 with fail
 generalize aH:(((((((w.alloc _).alloc _).alloc _).alloc _).alloc _).alloc _).alloc _).alloc _=W8
 have bC:=eqB aH (Zu (Zu (Zu (Zu (Zu (Zu (Zu (Zg w _) _) _) _) _) _) _) _)
 have bX:W8=w.heap.size+8:=by rw [← aH];simp
 have r8:=eqH (b:=w.heap.size) aH (Zb (Zb (Zb (Zb (Zb (Zb (Zb (Y6 rfl _) _) _) _) _) _) _) _)
 have D:=(((Yu.row (show W8.heap[w.heap.size+1+1+1+1+1]?=some (.cells #[.int .i64 3,.string ⟨#[101]⟩,Qqd,Qqe,Qqf,Qqf,Qqf,Qqd,Qqd] 46 (0,0)) from by rw [← aH];exact Zb (Zb (Y6 Qqk _) _) _)).app (Yu.row (show W8.heap[w.heap.size+1+1+1+1+1+1+1]?=some (.cells #[.int .i64 2,Qqe,.int .i64 1,Qqe,Qqf,Qqf,Qqf,Qqd,Qqd] 46 (0,0)) from by rw [← aH];exact Y6 Qqk _))).app (Yu.row (show W8.heap[w.heap.size+1+1]?=some (.cells #[.int .i64 3,.string ⟨#[98]⟩,Qqd,Qqe,Qqf,Qqf,Qqf,Qqd,Qqd] 46 (0,0)) from by rw [← aH];exact Zb (Zb (Zb (Zb (Zb (Y6 Qqk _) _) _) _) _) _)))
 have hG:=(Ua (Ua (Xa (show w<w.heap.size+1+1+1+1+1 by omega) (.int .i64 3) (.string ⟨#[101]⟩) (.int .i64 0) (.string ⟨#[]⟩) (.slice none 0 0) (.slice none 0 0) (.slice none 0 0) (.int .i64 0) (.int .i64 0)) (Xa (show w<w.heap.size+1+1+1+1+1+1+1 by omega) (.int .i64 2) (.string ⟨#[]⟩) (.int .i64 1) (.string ⟨#[]⟩) (.slice none 0 0) (.slice none 0 0) (.slice none 0 0) (.int .i64 0) (.int .i64 0))) (Xa (show w<w.heap.size+1+1 by omega) (.int .i64 3) (.string ⟨#[98]⟩) (.int .i64 0) (.string ⟨#[]⟩) (.slice none 0 0) (.slice none 0 0) (.slice none 0 0) (.int .i64 0) (.int .i64 0)))
 have aU:=Qq bC;have Z:=Qq r8
 clear aH bC r8 bX
 go_upto_region 20 with (go_at_call 18;refine (HP.out _ aU.out).mono ?_;rintro e w' ⟨rfl,rfl⟩)
 refine let_mvar% ?Lq1:=fun w':World=>(Qza w' (w+1+1+1+1+1) (.int .i64 3) (.string ⟨#[101]⟩) Qqd Qqe Qqf Qqf Qqf Qqd Qqd ((Qza w' (w+1+1+1+1+1+1+1) (.int .i64 2) Qqe (.int .i64 1) Qqe Qqf Qqf Qqf Qqd Qqd ((Qzf w' (w+1+1) (.int .i64 3) (.string ⟨#[98]⟩) Qqd Qqe Qqf Qqf Qqf Qqd Qqd:Prop)):Prop)):Prop);?_
 have HS:=Qq (fun w' (h:Yu (Jc (w+1+1+1+1+1) (.int .i64 3) (.string ⟨#[101]⟩) (.int .i64 0) (.string ⟨#[]⟩) (.slice none 0 0) (.slice none 0 0) (.slice none 0 0) (.int .i64 0) (.int .i64 0)++Jc (w+1+1+1+1+1+1+1) (.int .i64 2) (.string ⟨#[]⟩) (.int .i64 1) (.string ⟨#[]⟩) (.slice none 0 0) (.slice none 0 0) (.slice none 0 0) (.int .i64 0) (.int .i64 0)++Jc (w+1+1) (.int .i64 3) (.string ⟨#[98]⟩) (.int .i64 0) (.string ⟨#[]⟩) (.slice none 0 0) (.slice none 0 0) (.slice none 0 0) (.int .i64 0) (.int .i64 0)) w')=>(show ?Lq1 w' from Yu.spread h))
 have HG:=Qq hG
 have aX:=Qq (fun w' z0 z1 z2 z3 z4 z5 z6 z7 z8 (h:Yu _ w')=>HS.out _ (h.put9 HG.out z0 z1 z2 z3 z4 z5 z6 z7 z8))
 unfold put9 at aX
 have G:=aU
 clear hG
 obtain ⟨aK,aE,aD,aL,aM⟩:=Qqr True.intro True.intro True.intro True.intro True.intro
 go_region_held3 ?Lq1 (first | with_reducible exact HS.out _ D | with_reducible exact HS.out _ D.drew | with_reducible exact HS.out _ (D.alloc _) | with_reducible exact HS.out _ (D.alloc _).drew | with_reducible exact HS.out _ ((D.alloc _).alloc _) | with_reducible exact HS.out _ ((D.alloc _).alloc _).drew | with_reducible exact HS.out _ (((D.alloc _).alloc _).alloc _) | with_reducible exact aX.out _ _ _ _ _ _ _ _ _ _ D)
  (first
   | (have hn:=I.out;clear hn;(repeat (first
      | (have hk:=aE.out;clear aE hk;generalize aB:World.alloc _ (Obj.cells #[.string ⟨#[82,101,100]⟩,.string ⟨#[68,97,114,107]⟩] 9 _)=WN;have Y:=Vf aB;have aP:=Je aB;have aR:=Dw aB Z.out;have O:=D.later Y;clear D;have D:=O;clear O;have N:=Qq (Yh Y Z.out);clear Z;have Z:=N;clear N;have J:=Qq (G.out.thn Y);clear G;have G:=J;clear J;(try (have A:=Qq (Yh Y T.out);clear T;have T:=A;clear A));(try (have A:=Qq (Yh Y M.out);clear M;have M:=A;clear A));(try (have A:=Qq (I.out.move (.of_below Y) Qzx);clear I;have I:=A;clear A));obtain ⟨U,aW,aG⟩:=Qqo aP aR (Gq aB);clear aB Y aP aR)
      | (have hk:=aD.out;clear aD hk;generalize aA:World.alloc _ (Obj.cells #[Qqe,.string ⟨#[110]⟩] 9 _)=WB;have V:=Vf aA;have aO:=Je aA;have aQ:=Dw aA Z.out;have O:=D.later V;clear D;have D:=O;clear O;have N:=Qq (Yh V Z.out);clear Z;have Z:=N;clear N;have J:=Qq (G.out.thn V);clear G;have G:=J;clear J;(try (have A:=Qq (Yh V U.out);clear U;have U:=A;clear A));(try (have A:=Qq (Yh V M.out);clear M;have M:=A;clear A));(try (have A:=Qq (I.out.move (.of_below V) Qzx);clear I;have I:=A;clear A));obtain ⟨T,aV,aF⟩:=Qqo aO aQ (Gq aA);clear aA V aO aQ)
      | (have hn:=I.out;clear hn;have hk:=aL.out;clear aL hk;generalize aN:World.alloc _ (Obj.cells #[.int .i64 3,.string ⟨#[101]⟩,Qqd,Qqe,Qqf,Qqf,Qqf,Qqd,Qqd,.int .i64 2,Qqe,.int .i64 1,Qqe,Qqf,Qqf,Qqf,Qqd,Qqd,bM,.string bO,bN,.string bP,.slice bI bR bU,.slice bJ bS bV,.slice bK bT bW,bL,bQ] 46 _)=WK;have aI:=Vf aN;have bD:=Je aN;have bE:=Dw aN Z.out;have O:=D.later aI;clear D;have D:=O;clear O;have N:=Qq (Yh aI Z.out);clear Z;have Z:=N;clear N;have J:=Qq (G.out.thn aI);clear G;have G:=J;clear J;(try (have A:=Qq (Yh aI U.out);clear U;have U:=A;clear A));(try (have A:=Qq (Yh aI T.out);clear T;have T:=A;clear A));(try (have A:=Qq (I.out.move (.of_below aI) Qzx);clear I;have I:=A;clear A));obtain ⟨M,bH,aJ⟩:=Qqo bD bE (Gq aN);clear aN aI bD bE)
      | fail));have hn:=U.out;clear hn;have hn:=T.out;clear hn;have hn:=M.out;clear hn;have hk:=aM.out;clear aM hk;obtain ⟨⟨f0,f1,f2,f3,f4,f5,f6,f7,f8⟩,y0,y1,y2,y3,y4,y5,y6,y7,y8⟩:=C5 Z.out;go_simp)
   | (have hk:=aK.out;go_at_call 63;(repeat (first
      | (have hk:=aE.out;clear aE hk;generalize aB:World.alloc _ (Obj.cells #[.string ⟨#[82,101,100]⟩,.string ⟨#[68,97,114,107]⟩] 9 _)=WN;have Y:=Vf aB;have aP:=Je aB;have aR:=Dw aB Z.out;have O:=D.later Y;clear D;have D:=O;clear O;have N:=Qq (Yh Y Z.out);clear Z;have Z:=N;clear N;have J:=Qq (G.out.thn Y);clear G;have G:=J;clear J;(try (have A:=Qq (Yh Y T.out);clear T;have T:=A;clear A));(try (have A:=Qq (Yh Y M.out);clear M;have M:=A;clear A));(try (have A:=Qq (I.out.move (.of_below Y) Qzx);clear I;have I:=A;clear A));obtain ⟨U,aW,aG⟩:=Qqo aP aR (Gq aB);clear aB Y aP aR)
      | (have hk:=aD.out;clear aD hk;generalize aA:World.alloc _ (Obj.cells #[Qqe,.string ⟨#[110]⟩] 9 _)=WB;have V:=Vf aA;have aO:=Je aA;have aQ:=Dw aA Z.out;have O:=D.later V;clear D;have D:=O;clear O;have N:=Qq (Yh V Z.out);clear Z;have Z:=N;clear N;have J:=Qq (G.out.thn V);clear G;have G:=J;clear J;(try (have A:=Qq (Yh V U.out);clear U;have U:=A;clear A));(try (have A:=Qq (Yh V M.out);clear M;have M:=A;clear A));(try (have A:=Qq (I.out.move (.of_below V) Qzx);clear I;have I:=A;clear A));obtain ⟨T,aV,aF⟩:=Qqo aO aQ (Gq aA);clear aA V aO aQ)
      | fail));refine (Vg w [60] _ _ _ _ _ Qqk (by exact (Yk 3 [110] 0 [] Qqk Qqk)) (by exact (Yk 3 [98] 0 [] Qqk Qqk)) (by exact Z8 Z.out)).mono ?_;rintro e W1 ⟨bM,bO,bN,bP,bI,bR,bU,bJ,bS,bV,bK,bT,bW,bL,bQ,rfl,bF,aC⟩;clear aK hk;(try (have bB:=Vm aC;clear aC;have aC:=bB;clear bB));have O:=D.later aC;clear D;have D:=O;clear O;have N:=Qq (Yh aC Z.out);clear Z;have Z:=N;clear N;have J:=Qq (G.out.thn aC);clear G;have G:=J;clear J;(try (have A:=Qq (Yh aC U.out);clear U;have U:=A;clear A));(try (have A:=Qq (Yh aC T.out);clear T;have T:=A;clear A));(try (have A:=Qq (Yh aC M.out);clear M;have M:=A;clear A));have I:=Qq bF;clear bF aC)
   | fail)
 all_goals
  go_wp2_with fail
  show bodyPost _ _ _ _ _ (put9 _ w (.int .i64 13) Qqe Qqd Qqe (Qqb _ 0 2 2) (Qqb _ 0 2 2) (Qqb _ 0 3 3) Qqd Qqd)
  exact Q7 (v:=.agg #[.int .i64 13,Qqe,Qqd,Qqe,Qqb _ 0 2 2,Qqb _ 0 2 2,Qqb _ 0 3 3,Qqd,Qqd]) (by simp [results,results17,go_sem,Xe Z.out]) rfl (U8 (Xz (nm:=[]) (s:=[]) Qqk Qqk (Y4 (xs:=[[82,101,100],[68,97,114,107]]) (R2 U.out (by have h1:=aG.out;have h2:=aF.out;have h3:=aJ.out;omega)) (by have A:=aW.out;have h1:=aG.out;have h2:=aF.out;have h3:=aJ.out;show w.heap.size<_;omega) (Oa _ _ [82,101,100] [68,97,114,107] Qqk Qqk) rfl rfl Qqk) (Y4 (xs:=[[],[110]]) (R2 T.out (by have h1:=aG.out;have h2:=aF.out;have h3:=aJ.out;omega)) (by have A:=aV.out;have h1:=aG.out;have h2:=aF.out;have h3:=aJ.out;show w.heap.size<_;omega) (Oa _ _ [] [110] Qqk Qqk) rfl rfl Qqk) (Y4 (xs:=[Gen.e,Gen.yes,Gen.op [60] [Gen.var [110],Gen.b]]) (R2 M.out (by have h1:=aG.out;have h2:=aF.out;have h3:=aJ.out;omega)) (by have A:=bH.out;have h1:=aG.out;have h2:=aF.out;have h3:=aJ.out;show w.heap.size<_;omega) (((Cs.one (r:=Xp) (Yk 3 [101] 0 [] Qqk Qqk)).app (Cs.one (r:=Xp) (Yk 2 [] 1 [] Qqk Qqk))).app (Cs.one (r:=Xp) I.out)) rfl rfl Qqk)) G.out rfl)
end Go.Proofs.YtdpibdpbgokmoaaGreatDoor
