import Derived.Test.YtcljcblceodciaaGreatDoorU15
import Derived.Test.YtcljcblceodciaaGreatDoorU18
set_option maxRecDepth 100000
set_option maxHeartbeats 400000000
namespace Go.Proofs.YtcljcblceodciaaGreatDoor
open Go.RowKit Go.Shelf Go.Lib Tryz
def Ur (A:List Bs × List Val) (p:Bs × Val):List Bs × List Val:=(Xe A.1 (below A.1 p.1) p.1,Xe A.2 (below A.1 p.1) p.2)
def Yu (z:List (Bs × Val)):List Bs × List Val:=z.foldl Ur ([],[])
theorem Ho (z:List (Bs × Val)) (p:Bs × Val):Yu (z++[p])=Ur (Yu z) p:=by unfold Yu;rw [List.foldl_append];rfl
theorem Cw {T:Type} (l:List T) (i:Nat) (x:T):(Xe l i x).length=l.length+1:=by unfold Xe;simp;omega
theorem Uq (z:List (Bs × Val)):(Yu z).1.length=z.length/\(Yu z).2.length=z.length:=by
 have:∀ (z:List (Bs × Val)) (A:List Bs × List Val),(z.foldl Ur A).1.length=A.1.length+z.length/\(z.foldl Ur A).2.length=A.2.length+z.length:=by
  intro z
  induction z with
  | nil=>intro A;exact ⟨rfl,rfl⟩
  | cons p z ih=>
   intro A
   obtain ⟨h1,h2⟩:=ih (Ur A p)
   rw [List.foldl_cons,h1,h2]
   unfold Ur
   simp only [Cw,List.length_cons]
   omega
 have:=this z ([],[])
 simpa [Yu] using this
def RecIs (S:Nat->Prop) (w:World) (names:List Bs) (vals:List Val) (e:Ending) (w':World):Prop:=Below w w w' /\
 ((∃ err:Int,err≠0/\e=.returned (.tuple #[.agg zV,err])/\¬ (names.length=vals.length/\∀ (i j:Nat) (x:Bs),i<j->names[i]?=some x->names[j]?=some x->False)) \/
  (∃ p3 k3 p4 k4,names.length=vals.length/\e=.returned (.tuple #[.agg (vcs (Vw (Yu (names.zip vals)).1 (Yu (names.zip vals)).2) p3 k3 p4 k4).toArray,Ci])/\names.length<=k3/\names.length<=k4 /\
   Z9 (fun b=>S b\/w<=b) w' (vcs (Vw (Yu (names.zip vals)).1 (Yu (names.zip vals)).2) p3 k3 p4 k4) (Vw (Yu (names.zip vals)).1 (Yu (names.zip vals)).2)))
def Jb (S:Nat->Prop) (w:World) (z:List (Bs × Val)) (wx:World):Prop:=Below w w wx/\∃ p3 k3 p4 k4,z.length<=k3/\z.length<=k4 /\
 wx.heap[w.heap.size+1]?=some (.cells #[.int .i64 4,Ci,Cl,.slice p3 z.length k3,.slice p4 z.length k4] 36 (0,0))/\Z9 (fun b=>(S b/\b<w)\/w+2<=b) wx (vcs (Vw (Yu z).1 (Yu z).2) p3 k3 p4 k4) (Vw (Yu z).1 (Yu z).2) /\
 wx.heap[w.heap.size]?=some (.cells zV 36 (0,0))
theorem Bc (z:List (Bs × Val)) (p3:Option Addr) (k3:Nat) (p4:Option Addr) (k4:Nat):vcs (Vw (Yu z).1 (Yu z).2) p3 k3 p4 k4=[.int .i64 4,.int .i64 0,.string ⟨#[]⟩,.slice p3 z.length k3,.slice p4 z.length k4]:=by
 obtain ⟨h1,h2⟩:=Uq z
 unfold Vw
 rw [vcs_mk,h1,h2]
theorem Jb.below {S:Nat->Prop} {w wr wx:World} {z:List (Bs × Val)} (h:Jb S w z wr) (hb:Below wr wr wx):Jb S w z wx:=by
 obtain ⟨h1,p3,k3,p4,k4,h2,h3,h4,h5,h6⟩:=h
 exact ⟨h1.thn hb,p3,k3,p4,k4,h2,h3,kB hb h4,h5.move (.of_below hb) Qje,kB hb h6⟩
theorem Jb.next {S:Nat->Prop} {w wr w2:World} {z:List (Bs × Val)} {name:Bs} {x:Val} {p3:Option Addr} {k3:Nat} {p4:Option Addr} {k4:Nat} (h:Jb S w z wr) (hb:Below wr wr w2) (h3:(Hi (Vw (Yu z).1 (Yu z).2) name x).names.length<=k3) (h4:(Hi (Vw (Yu z).1 (Yu z).2) name x).kids.length<=k4)
  (hv:Z9 (fun b=>((fun b=>(S b/\b<w)\/w+2<=b)) b\/wr<=b) w2 (vcs (Hi (Vw (Yu z).1 (Yu z).2) name x) p3 k3 p4 k4) (Hi (Vw (Yu z).1 (Yu z).2) name x)):
  vcs (Hi (Vw (Yu z).1 (Yu z).2) name x) p3 k3 p4 k4=[.int .i64 4,.int .i64 0,.string ⟨#[]⟩,.slice p3 (z.length+1) k3,.slice p4 (z.length+1) k4] /\
  Jb S w (z++[(name,x)]) (Zi w2 (w+1) (.int .i64 4) Ci Cl (.slice p3 (z.length+1) k3) (.slice p4 (z.length+1) k4)):=by
 have hu:Hi (Vw (Yu z).1 (Yu z).2) name x=Vw (Yu (z++[(name,x)])).1 (Yu (z++[(name,x)])).2:=by rw [Ho];rfl
 rw [hu] at h3 h4 hv |-
 have hc:=Bc (z++[(name,x)]) p3 k3 p4 k4
 obtain ⟨M,N⟩:=Uq (z++[(name,x)])
 have A:(z++[(name,x)]).length=z.length+1:=Ca
 refine ⟨by rw [hc,A],?_⟩
 obtain ⟨I,U,O,V,T,_,_,h7,_,h9⟩:=h
 have J:w.heap.size+1<wr.heap.size:=Z8 h7
 have D:=kE hb J h7
 have G:=kB hb h9
 refine ⟨Zc (I.thn hb) C7,p3,k3,p4,k4,by rw [A];have:(Yu (z++[(name,x)])).1.length<=k3:=h3;omega,by rw [A];have:(Yu (z++[(name,x)])).2.length<=k4:=h4;omega,by rw [A];exact Yw D,?_,by rw [Zf C7];exact G⟩
 refine (hv.move (S':=(fun b=>(S b/\b<w)\/w+2<=b)) (.refl _ _) (fun b _ h=>?_)).move (fun b hS _=>Zf ?_) (fun b _ h=>h)
 ·rcases h with h | h
  ·exact h
  exact .inr C7
 rcases hS with h | h <;> omega
theorem Gs (S:Nat->Prop) (nv vv:Value) (names:List Bs) (vals:List Val) (w:World) (hn0:Sl Zh S w nv names) (hv0:Sl Zd S w vv vals) (hw:∀ x ∈ names,Vy x) (hl:names.length<=1000):
  Calls prog 90 #[nv,vv] w (RecIs S w names vals):=by
 have hn:=hn0.up
 have hv:=hv0.up
 obtain ⟨np,nc,rfl,_⟩:=hn.len
 obtain ⟨vp,vc,rfl,dB⟩:=hv.len
 obtain ⟨aG,aV,HW⟩:=Qjq hn hv hw
 clear hn0 hv0 hn hv hw
 by_cases hlen:names.length=vals.length
 ·obtain ⟨n,aL⟩:=eX (names.length)
  have hm:vals.length=n:=C7
  obtain ⟨HN,HM,J⟩:=Qjq aL hm hlen
  rw [aL] at aG hl |-
  rw [hm] at aV dB |-
  have hq:((n:Int) != (n:Int))=false:=Ca
  clear aL hm hlen
  go_enter func90,ntmps90
  go_wp2_with fail
  generalize V:(w.alloc _).alloc _=W1
  have bD:Jb S w ((names.zip vals).take 0) W1:=by
   refine ⟨by rw [<- V];exact Zu _ _ _,none,0,none,0,Q9 _,Q9 _,by rw [<- V];exact Q6 _ _ _,?_,by rw [<- V];exact Q5 _ _ _⟩
   exact Y5 (s:=[]) Ca (Sl.nil _ _ _) (Sl.nil _ _ _)
  have bY:=Qq bD
  clear V bD hq
  go_loopw [7,8] (fun i _ wr=>∃ k:Nat,k<=n/\i=.int .i64 k/\Aside (Jb S w ((names.zip vals).take k) wr)/\Aside (∀ (i j:Nat) (x:Bs),j<k->i<j->names[i]?=some x->names[j]?=some x->False)) (fun i _ _=>n - (intOf i).toNat)
  case atStart=>exact ⟨0,Q8 _,rfl,bY.out,fun i j x hj=>absurd hj (Z6 _)⟩
  obtain ⟨k,hk,rfl,hM,hD⟩:=hrel
  have bC:Jb S w ((names.zip vals).take k) wr:=hM
  have cB:=Qq bC
  obtain ⟨bE,p3,k3,p4,k4,h3,h4,hX,bN,hZ⟩:=bC
  have aM:((names.zip vals).take k).length=k:=by rw [Qm,List.length_zip,HN.out,HM.out];omega
  rw [aM] at h3 h4 hX
  obtain ⟨HB,HX,aH,HZ,M,HD⟩:=Qjv bE hX bN hZ aM (show ∀ (i j:Nat) (x:Bs),j<k->i<j->names[i]?=some x->names[j]?=some x->False from hD)
  have cQ:=Z8 hX
  clear hM hD bE hX bN hZ aM
  by_cases hlt:k<n
  ·have dK:(0:Int)<=(k:Int):=C7
   have dL:(k:Int)<(n:Int):=C7
   obtain ⟨nm,Z⟩:∃ y,names[k]?=some y:=⟨_,Qx (by rw [HN.out];exact hlt)⟩
   obtain ⟨x,hx⟩:∃ y,vals[k]?=some y:=⟨_,Qx (by rw [HM.out];exact hlt)⟩
   obtain ⟨nb,bP,rfl,O,bL⟩:=(aG.out.below HB.out).str Z
   obtain ⟨vb,dH,q3,l3,q4,l4,rfl,U,bO,d0,d1,d2,d3,d4⟩:=(aV.out.below HB.out).val hx
   have cZ:=Qv _ _ O
   have HF:=Qq (fun W=>Es nm (HW.out nm (Qy Z)) W)
   unfold sv at HF
   obtain ⟨aF,cD,cC⟩:=Qjq Z hx bO
   clear Z hx bO
   go_wp2_with (go_at_call 132;refine (HF.out _).mono ?_;rintro e w5 ⟨rfl,aK⟩;have bV:=Qq aK;have T:=kD aK cZ O;clear aK)
   obtain ⟨W5,rfl⟩:∃ W5:World,W5=w5:=⟨_,rfl⟩
   have bK:nb<W5.heap.size:=Qv _ _ T
   have aU:=Qq T;have bW:=Qq (Qe d0 (Qe d1 (Qe d2 (Qe d3 d4))))
   clear O T d0 d1 d2 d3 d4
   go_loopw [8] (fun i dG=>∃ j:Nat,j<=k/\i=.int .i64 j/\Aside (∀ (i:Nat) (y:Bs),i<j->names[i]?=some y->(y==nm)=false)/\Aside (Below W5 W5 dG)) (fun i _=>k - (intOf i).toNat)
   case atStart=>exact ⟨0,Q8 _,rfl,fun i y hi=>absurd hi (Z6 _),Qz _ _⟩
   obtain ⟨j,hj,rfl,A,bB⟩:=hrel
   have aD:=Qq (show Below W5 W5 wr from bB)
   have G:=Qq (bV.out.thn aD.out)
   clear bB
   have O:=kD aD.out bK aU.out
   by_cases hlt2:j<k
   ·have dN:(0:Int)<=(j:Int):=C7
    have cS:(j:Int)<(n:Int):=C7
    have cT:(j:Int)<(k:Int):=C7
    obtain ⟨y,hy⟩:∃ y,names[j]?=some y:=⟨_,Qx (by rw [HN.out];omega)⟩
    obtain ⟨dF,aN,he,dE,-⟩:=(aG.out.below (HB.out.thn G.out)).str hy
    obtain ⟨rfl,rfl,-⟩:nb=dF/\bP=aN/\True:=by simpa using he
    have HY:=Qq hy
    clear hy he
    by_cases heq:y=nm
    ·have hq:(y==nm)=true:=by rw [heq];simp
     have bX:=Qq heq
     have aJ:=kB G.out HZ.out
     have dJ:=Qq aJ
     clear heq
     go_upto_region 12 with fail
     go_quiet (fail)
     clear hq dE O
     have Y:(wr.drewN nq).heap[w.heap.size]?=some (.cells zV 36 (0,0)):=aJ
     have cE:=Qq Y
     obtain ⟨z0,z1,z2,z3,z4⟩:=row5 Y
     obtain ⟨f0,f1,f2,f3,f4⟩:=frz5 Y
     clear aJ Y
     go_wp2_with fail
     show bodyPost _ _ _ _ _ (Zi (wr.drewN nq) w Ci Ci Cl Cm Cm)
     refine Q7 (v:=.tuple #[.agg zV,.int .i64 8]) (by simp [results,results90,go_sem,Ze cE.out]) rfl ⟨Zc ((HB.out.thn G.out).thn (Yz _ _)) (Q9 _),.inl ⟨8,Cc,rfl,fun h=>h.2 j k nm C7 (by rw [<- bX.out];exact HY.out) aF.out⟩⟩
    have hq:(y==nm)=false:=by rw [<- Qt,beq_iff_eq];exact heq
    have HQ:=Qq hq
    clear heq
    go_wp2_with fail
    go_quiet (fail)
    go_wp2_with fail
    go_roundw
    case measure=>simp [intOf];omega
    case rel=>
     refine ⟨j+1,C7,by go_num,(show Aside _ from fun i z hi hz=>?_),aD.out.thn (Yz _ _)⟩
     by_cases e:i=j
     ·subst e
      have:=HY.out
      rw [this] at hz
      cases hz
      exact HQ.out
     exact A.out i z C7 hz
   have cU:j=k:=C7
   subst cU
   have hd:=cB.out.below G.out
   have N:=kE G.out cQ HX.out
   obtain ⟨c0,c1,c2,c3,c4⟩:=row5 N
   obtain ⟨f0,f1,f2,f3,f4⟩:=frz5 N
   obtain ⟨aW,aX,aY,aZ,bA⟩:=bW.out
   have d0:=kD G.out U aW;have d1:=kD G.out U aX;have d2:=kD G.out U aY;have d3:=kD G.out U aZ;have d4:=kD G.out U bA
   have aE:=Qq (fun W (hb:Below wr wr W)=>rins_any (fun b=>(S b/\b<w)\/w+2<=b) (Vw (Yu ((names.zip vals).take j)).1 (Yu ((names.zip vals).take j)).2) x nm p3 k3 p4 k4 (Cn x q3 l3 q4 l4) W (aH.out.move (.of_below (G.out.thn hb)) Qje) (cC.out.move (.of_below (G.out.thn hb)) (fun b _ h=>.inl h)) (by have:=(Uq ((names.zip vals).take j)).1;rw [M.out] at this;show (Yu ((names.zip vals).take j)).1.length<=k3;omega) (by have:=(Uq ((names.zip vals).take j)).2;rw [M.out] at this;show (Yu ((names.zip vals).take j)).2.length<=k4;omega)
    (by have h1:=(Uq ((names.zip vals).take j)).1;have h2:=(Uq ((names.zip vals).take j)).2;show (Yu ((names.zip vals).take j)).1.length=(Yu ((names.zip vals).take j)).2.length;omega) (by have:=(Uq ((names.zip vals).take j)).1;rw [M.out] at this;show (Yu ((names.zip vals).take j)).1.length<=1000;omega) bL)
   rw [Bc,M.out] at aE
   unfold sv at aE
   have cA:=Qq hd;have dI:=Qq N
   have D:w.heap.size+1<wr.heap.size:=Z8 N
   clear hd N aW aX aY aZ bA
   have cS:(j:Int)<(n:Int):=C7
   have cT:¬ (j:Int)<(j:Int):=C7
   go_upto_region 14 with fail
   go_region_with (go_at_call 133;refine (aE.out _ (Qz _ _).drew).mono ?_;rintro e w7 ⟨r3,m3,r4,m4,rfl,bG,bH,bM,I⟩;have bJ:=cA.out.next ((Qz _ wr).drew.thn I) bG bH bM;rw [M.out] at bJ;obtain ⟨aB,bI⟩:=bJ;rw [aB];have bZ:=Qq bI;have g0:=Qjf ((Qz _ wr).drew.thn I) D f0;have g1:=Qjf ((Qz _ wr).drew.thn I) D f1;have g2:=Qjf ((Qz _ wr).drew.thn I) D f2;have g3:=Qjf ((Qz _ wr).drew.thn I) D f3;have g4:=Qjf ((Qz _ wr).drew.thn I) D f4;have e0:=kD ((Qz _ wr).drew.thn I) D c0;have e1:=kD ((Qz _ wr).drew.thn I) D c1;have e2:=kD ((Qz _ wr).drew.thn I) D c2;have e3:=kD ((Qz _ wr).drew.thn I) D c3;have e4:=kD ((Qz _ wr).drew.thn I) D c4;clear bG bH bM I bI aB)
   all_goals
    go_wp2_with fail
    go_roundw
    case measure=>simp [intOf];omega
    case rel=>
     refine ⟨j+1,C7,by go_num,(show Aside _ from ?_),(show Aside _ from fun i j' z dM hi h1 h2=>?_)⟩
     ·have:(names.zip vals).take (j+1)=(names.zip vals).take j++[(nm,x)]:=by
       have cV:j<(names.zip vals).length:=by rw [List.length_zip,HN.out,HM.out];omega
       rw [Zz cV,List.getElem_zip]
       obtain ⟨_,e1⟩:=Qj aF.out
       obtain ⟨_,e2⟩:=Qj cD.out
       rw [e1,e2]
      show Jb S w _ _
      rw [this];exact bZ.out
     by_cases e:j'=j
     ·subst e
      rw [aF.out] at h2
      cases h2
      have:=A.out i _ hi h1
      simp at this
     exact HD.out i j' z C7 hi h1 h2
  have cW:k=n:=C7
  subst cW
  have hz:(names.zip vals).take k=names.zip vals:=Zj (by rw [List.length_zip,HN.out,HM.out];omega)
  rw [hz] at aH
  have aC:(names.zip vals).length=k:=by rw [List.length_zip,HN.out,HM.out];omega
  have hc:=Bc (names.zip vals) p3 k3 p4 k4
  rw [aC] at hc
  have HC:=Qq hc
  obtain ⟨c0,c1,c2,c3,c4⟩:=row5 HX.out
  obtain ⟨z0,z1,z2,z3,z4⟩:=row5 HZ.out
  obtain ⟨f0,f1,f2,f3,f4⟩:=frz5 HZ.out
  clear hz aC hc hlt
  go_wp2_with fail
  show bodyPost _ _ _ _ _ (Zi wr w (.int .i64 4) Ci Cl (.slice p3 k k3) (.slice p4 k k4))
  refine Q7 (v:=.tuple #[.agg #[.int .i64 4,Ci,Cl,.slice p3 k k3,.slice p4 k k4],Ci]) (by simp [results,results90,go_sem,Ze HZ.out]) rfl ⟨Zc HB.out (Q9 _),.inr ⟨p3,k3,p4,k4,J.out,by rw [HC.out],by rw [HN.out];exact h3,by rw [HN.out];exact h4,?_⟩⟩
  refine aH.out.move (fun b hS _=>Zf ?_) (fun b _ hS=>?_)
  ·rcases hS with h | h <;> omega
  rcases hS with h | h
  ·exact .inl h.1
  exact .inr C7
 have hq:((names.length:Int) != (vals.length:Int))=true:=by rw [bne_iff_ne];omega
 have J:=Qq hlen
 clear hlen
 go_enter func90,ntmps90
 go_wp2_with fail
 exact Q7 (v:=.tuple #[.agg zV,.int .i64 1]) (by simp [results,results90,go_sem]) rfl ⟨Zg _ _,.inl ⟨1,Cc,rfl,fun h=>J.out h.1⟩⟩
theorem Rv (ns:List Bs) (ks:List Val) (hlen:ns.length=ks.length) (hw:∀ x ∈ ns,Vy x) (hst:∀ (i:Nat) (x y:Bs),ns[i]?=some x->ns[i+1]?=some y->Yc x y<0) (ih:∀ x ∈ ks,Xc x):Xc (.mk 4 0 [] ns ks):=by
 intro S cs w h
 obtain ⟨p3,k3,p4,k4,aP,hn,hk,_⟩:=Z9.cells h
 simp only [vcs,Val.kind,Val.n,Val.s,Val.names,Val.kids] at aP hn hk
 subst aP
 obtain ⟨_,_,_,bG⟩:=hk.len
 have HI:=Qq ih
 obtain ⟨m,hm⟩:=eX (ks.length)
 rw [hm] at hk bG |-
 have bA:=Qq hk;have HM:=Qq hm
 have mixed:prog.follows .mixedOrders=true:=Cd
 have aG:ns.length=m:=C7
 rw [aG] at hn |-
 obtain ⟨aL,aK,HW,bB⟩:=Qjz hn aG hw hst
 have bH:((m:Int) != (m:Int))=false:=Ca
 clear hm hn aG hlen hw hst
 clear h hk ih
 go_enter func104,ntmps104
 go_wp2_with fail
 generalize aB:w.alloc _=G
 have aN:=eqB aB (Zg _ _)
 have M:=eqH (b:=w.heap.size) aB (Qw _ _)
 clear aB
 clear bH
 have I:Hid (w<G.heap.size/\Cf G w 4 (.slice p4 m k4)):=Qq ⟨Z8 M,Qk _ _ 4 _ _ _ M⟩
 have U:Hid (w<G.heap.size/\Cf G w 3 (.slice p3 m k3)):=Qq ⟨Z8 M,Qk _ _ 3 _ _ _ M⟩
 have D:=Qq aN
 clear M aN
 go_loopw [5] (fun i wr=>∃ k:Nat,k<=m/\i=.int .i64 k/\Aside (Below G G wr)) (fun i _=>m - (intOf i).toNat)
 case atStart=>exact ⟨0,Q8 _,rfl,Qz _ _⟩
 obtain ⟨k,hk,rfl,J⟩:=hrel
 have A:=Qq (show Below G G wr from J)
 have c3:=(A.out.cell (p:=⟨w,3,none⟩) U.out.1).trans U.out.2
 have c4:=(A.out.cell (p:=⟨w,4,none⟩) I.out.1).trans I.out.2
 have aC:w.heap.size<wr.heap.size:=by have:=U.out.1;have:=A.out.size;omega
 clear J
 by_cases hlt:k<m
 ·have aQ:(0:Int)<=(k:Int):=C7
  have aR:(k:Int)<(m:Int):=C7
  obtain ⟨y,V⟩:∃ y,ns[k]?=some y:=⟨_,Qx (by rw [aK.out];exact hlt)⟩
  obtain ⟨nb,aV,rfl,T,-⟩:=(aL.out.below (D.out.thn A.out)).str V
  have N:=Qv _ _ T
  have HF:=Qq (fun W=>Es y (HW.out y (Qy V)) W)
  unfold sv at HF
  have C3:=Kw aC c3
  by_cases hk0:k=0
  ·subst hk0
   rw [Nat.add_zero] at T
   have Y:=Kw N T
   have bP:(0:Int)<(m:Int):=C7
   have bQ:0<m:=hlt
   clear V aQ aR
   rw [show ((0:Nat):Int)=(0:Int) from rfl]
   go_wp2_with fail
   refine Uw Ce Cd ?_
   repeat (first | go_big_quiet_skip | quiet_step ((go_at_call 132;exact Calls.later_of (HF.out _))))
   refine wpQuiet_nil ?_
   intro _ aH
   obtain ⟨⟨wq,aD⟩,O⟩:=aH
   subst O
   try dsimp only
   clear C3 Y c4
   go_wp2_with fail
   go_roundw
   case measure=>simp [intOf];omega
   case rel=>exact ⟨0+1,C7,by go_num,A.out.thn aD⟩
  obtain ⟨j,rfl⟩:∃ j,k=j+1:=⟨k - 1,C7⟩
  obtain ⟨z,hz⟩:∃ z,ns[j]?=some z:=⟨_,Qx (by rw [aK.out];omega)⟩
  obtain ⟨bJ,aJ,he,aU,-⟩:=(aL.out.below (D.out.thn A.out)).str hz
  obtain ⟨rfl,rfl,-⟩:nb=bJ/\aV=aJ/\True:=by simpa using he
  have Y:=Kw N T
  have Z:=Kw N aU
  have aS:=bB.out j z y hz V
  have bR:Op.bytesLess y z=false:=by rw [(Vc y z).1,Lb];simp;omega
  have bS:(y==z)=false:=by rw [(Vc y z).2.1,Lb];simp;omega
  have bD:IntKind.i64.wrap (j:Int)=(j:Int):=by rw [IntKind.wrap_i64];omega
  have bK:(j:Int)<(m:Int):=C7
  have bL:(0:Int)<(j:Int)+1:=C7
  have bM:(0:Int)<=(j:Int)+1:=C7
  have bN:(j:Int)+1<(m:Int):=C7
  have bO:(0:Int)<=(j:Int):=C7
  have bE:((j:Int)+1).toNat=j+1:=C7
  clear V T hz aU he hk0 aS
  go_wp2_with fail
  refine Uw Ce Cd ?_
  repeat (quiet_step ((go_at_call 132;exact Calls.later_of (HF.out _))))
  refine wpQuiet_nil ?_
  intro _ aH
  obtain ⟨⟨wq,aD⟩,O⟩:=aH
  subst O
  try dsimp only
  clear C3 Y Z c4 bD bE
  go_wp2_with fail
  go_roundw
  case measure=>simp [intOf];omega
  case rel=>exact ⟨j+1+1,C7,by go_num,A.out.thn aD⟩
 have aF:k=m:=C7
 subst aF
 have hW:Hid (Below w w wr):=Qq (D.out.thn A.out)
 have aA:Hid (w<wr.heap.size/\Cf wr w 4 (.slice p4 k k4)):=Qq ⟨aC,c4⟩
 clear I U D A
 obtain ⟨G,rfl⟩:∃ G:World,G=wr:=⟨_,rfl⟩
 have I:=aA;have D:=hW
 clear aA hW
 go_wp2_with fail
 clear c3 c4
 obtain ⟨mm,rfl⟩:∃ mm,mm=k:=⟨_,rfl⟩
 go_loopw [6] (fun i wr=>∃ k:Nat,k<=mm/\i=.int .i64 k/\Aside (Below G G wr)) (fun i _=>mm - (intOf i).toNat)
 case atStart=>exact ⟨0,Q8 _,rfl,Qz _ _⟩
 obtain ⟨k,hk,rfl,J⟩:=hrel
 have A:=Qq (show Below G G wr from J)
 have c4:=(A.out.cell (p:=⟨w,4,none⟩) I.out.1).trans I.out.2
 clear J
 by_cases hlt:k<mm
 ·have aQ:(0:Int)<=(k:Int):=C7
  have aR:(k:Int)<(mm:Int):=C7
  obtain ⟨y,V⟩:∃ y,ks[k]?=some y:=⟨_,Qx (by rw [HM.out];exact hlt)⟩
  obtain ⟨b,bT,q3,l3,q4,l4,rfl,aC,aT,d0,d1,d2,d3,d4⟩:=(bA.out.below (D.out.thn A.out)).val V
  have bC:=Qq aT;have aZ:=Qq (HI.out y (Qy V))
  clear aT V
  go_wp2_with (go_at_call 104;refine (aZ.out _ _ _ bC.out).mono ?_;rintro e w5 ⟨rfl,aO⟩;have aX:=Qq aO;clear aO)
  go_roundw
  case measure=>simp [intOf];omega
  case rel=>exact ⟨k+1,C7,by go_num,A.out.thn aX.out⟩
 have aF:k=mm:=C7
 subst aF
 go_wp2_with fail
 go_ret
 exact ⟨rfl,D.out.thn A.out⟩
theorem Of (v:Val) (hv:Y4 v):Xc v:=by
 induction hv with
 | int n=>exact Oi n [] rfl (fun x h=>by simp at h)
 | text s=>exact No s [] rfl (fun x h=>by simp at h)
 | bool n hn=>
  rcases hn with rfl | rfl
  ·exact Mq [] rfl (fun x h=>by simp at h)
  exact Mw [] rfl (fun x h=>by simp at h)
 | make s kids hs hl hk ih=>exact Ok s hs kids hl ih
 | record names kids hl hn hs hk ih=>exact Rv names kids hl hn hs ih
 | list kids hk ih=>exact Oa kids ih
def Kh (us:List Sm) (v:Val) (t:Ty) (b:Bool):Prop:=∀ (S S' S'':Nat->Prop) (cv ct:List Value) (uv:Value) (w:World),Sl Ug S'' w uv us->Z9 S w cv v->X5 S' w ct t ->
 Calls prog 105 #[uv,cv,ct] w fun e w'=>e=.returned (.bool b)/\Gr w w'
theorem Gr.dr {a b:World} (h:Gr a b):Gr a b.drew:=h.thn ⟨1,#[],by rw [Sort.grow_empty];rfl⟩
theorem rhasLeaf (us:List Sm) (v:Val) (k:Int) (hk:k=0\/k=1\/k=2) (s:Bs) (n:Int) (names:List Bs) (kids:List Ty):Kh us v (.mk k s n names kids) (v.kind==k):=by
 intro S S' D cv ct uv w hu hv ht
 obtain ⟨up,uc,rfl,_⟩:=hu.len
 obtain ⟨p3,k3,p4,k4,A,_⟩:=Z9.cells hv
 simp only [vcs] at A
 subst A
 obtain ⟨q3,l3,q4,l4,rfl,_⟩:=ht.cells'
 clear hv ht hu
 rcases hk with rfl | rfl | rfl
 all_goals
  go_enter func105,ntmps105
  go_upto_region 5 with fail
  go_region_with fail
  all_goals
   go_wp2_with fail
   go_ret
   exact ⟨rfl,by first | exact (Ve _ _ _).dr | exact ((Ve _ _ _).alloc _).dr | exact (Ve _ _ _).dr.alloc _ | exact (Ve _ _ _).alloc _⟩
theorem rhasGood (us:List Sm) (v:Val) (t:Ty) (b:Bool) (hg:Y4 v) (h:Kh us v t b) (S S' S'':Nat->Prop) (cv ct:List Value) (uv:Value) (w:World) (hu:Sl Ug S'' w uv us) (hv:Z9 S w cv v) (ht:X5 S' w ct t):
  Calls prog 46 #[uv,cv,ct] w fun e w'=>e=.returned (.bool b)/\Below w w w':=by
 obtain ⟨up,uc,rfl,_⟩:=hu.len
 have HV:=Qq (fun W (hb:Below w w W)=>Of v hg S cv W (hv.move (.of_below hb) Qje))
 have HH:=Qq (fun W (hb:Below w w W)=>h S S' S'' cv ct _ W (hu.below hb) (hv.move (.of_below hb) Qje) (ht.move (.of_below hb) Qje))
 obtain ⟨p3,k3,p4,k4,I,_⟩:=Z9.cells hv
 simp only [vcs] at I
 subst I
 obtain ⟨y1,y2,y3,y4,y5,y6,y7,y8,y9,rfl⟩:=ht.cells
 clear hu hv ht h hg
 go_enter func46,ntmps46
 go_wp2_with fail
 refine (HV.out _ (Zu _ _ _)).mono ?_
 rintro e w1 ⟨rfl,G⟩
 have A:=(G.block w (by simp;omega)).trans (Q5 w _ _)
 have D:=(G.block (w+1) Ca).trans (Q6 w _ _)
 have c0:=rA0 A;have c1:=rA1 A;have c2:=rA2 A;have c3:=rA3 A;have c4:=rA4 A;have d0:=rA0 D;have d1:=rA1 D;have d2:=rA2 D;have d3:=rA3 D;have d4:=rA4 D
 have HW:=Qq ((Zu w _ _).thn G)
 clear G A D
 go_wp2_with (go_at_call 105;refine (HH.out _ HW.out).mono ?_;rintro e w' ⟨rfl,G⟩)
 go_ret
 exact ⟨rfl,HW.out.thn G.bl⟩
theorem Zb {W:World} {b:Nat} {o:Obj} (h:W.heap[b]?=some o) (o':Obj):(W.alloc o').heap[b]?=some o:=((Zg W o').block b (Z8 h)).trans h
theorem Y3 {W:World} {n:Nat} (h:W=n) (o:Obj):(W.alloc o).heap[n]?=some o:=by subst h;exact Qw W o
theorem Rq {T:Type} (r:Rd T) (S:Nat->Prop) (w:World) (p:Option Addr) (c:Nat):Sl r S w (.slice p 0 c) []:=⟨p,c,rfl,Ca,fun h=>absurd rfl h⟩
theorem Lm (S:Nat->Prop) (w:World) (p1 p2 p3:Option Addr) (c1 c2 c3:Nat):Yx S w [.int .i64 2,Cl,.int .i64 1,Cl,.slice p1 0 c1,.slice p2 0 c2,.slice p3 0 c3,Ci,Ci] Gen.yes:=
 Xj (nm:=[]) (s:=[]) Ca Ca (Rq _ _ _ _ _) (Rq _ _ _ _ _) (Rq _ _ _ _ _)
theorem Vn {S:Nat->Prop} {w:World} (nm:Bs) (k:Int) (tn:Bs) (h1:nm.length<=1000000) (h2:tn.length<=1000000):X6.R S w [nm,k,tn,Ci,Cm,Cm] ⟨nm,.mk k tn 0 [] []⟩:=
 ⟨_,rfl,h1,Kk h2 (Sl.nil _ _ _) (Sl.nil _ _ _)⟩
theorem Lu {S:Nat->Prop} {w:World} (nm:Bs) (b:Bool) (k:Int) (h1:nm.length<=1000000):Gk.R S w [nm,.bool b,k,Cl,Ci,Cm,Cm] ⟨nm,b,.mk k [] 0 [] []⟩:=
 ⟨_,rfl,h1,Kk (s:=[]) Ca (Sl.nil _ _ _) (Sl.nil _ _ _)⟩
theorem Ky {S:Nat->Prop} {w:World} (a:Bs) (ha:a.length<=1000000):Cs Zh S w [[.string ⟨a.toArray⟩]] [a]:=Cs.one (r:=Zh) (x:=a) (show Zh.R S w [a] a from ⟨rfl,ha⟩)
def Uo (w:World) (x:Ex) (e:Ending) (w':World):Prop:=∃ cs,e=.returned (.agg cs.toArray)/\Yx (fun b=>w<=b) w' cs x/\Below w w w'
def NewSc (w:World) (x:Sc) (e:Ending) (w':World):Prop:=∃ cs,e=.returned (.agg cs.toArray)/\Xt (fun b=>w<=b) w' cs x/\Below w w w'
theorem Yj {w W:World} (h:Below w w W) (o:Obj):Below w w (W.alloc o):=h.alloc h.size o
def Nb (o:Bs) (b:Bool):Prop:=(o=[97,110,100]/\b=true)\/(o=[111,114]/\b=false)
theorem op_not (g:Nat) (lb:Array Value) (eg:∀ args w,(callFunc g args).run prog w=.ok (.enter g args) w) (S0:Nat->Prop) (u:Val) (w:World) (hS0:∀ b,S0 b->b≠w.heap.size) (hk:u.kind=2) (h0:∀ W,Below w w W->w<W.heap.size->Calls prog g (#[.int .i64 0]++lb) W (Xy S0 W (some u))):
  Calls prog 147 #[.string ⟨#[110,111,116]⟩,.func (.func g) #[] lb,.int .i64 1] w (Xy S0 w (some (Vf (!(u.n==1))))):=by
 have H0:=Qq h0;have aA:=Qq hS0
 have HT:=Qq (fun cu W (T:Z9 S0 W cu u)=>U5 S0 u cu W T hk)
 have D:=Qq (Vs (!(u.n==1)) S0)
 obtain ⟨r,J⟩:=eX (Vf (!(u.n==1)))
 rw [J] at D |-
 obtain ⟨b,hb⟩:=eX ((u.n==1))
 simp only [hb] at HT D
 clear h0 J hS0 hk hb
 go_enter func147,ntmps147
 go_wp2_with fail
 refine (H0.out _ (Zg _ _) Ca).mono ?_
 rintro e w1 ⟨cu,rfl,T,G⟩
 obtain ⟨a3,aE,a4,aF,A,_⟩:=Z9.cells T
 simp only [vcs] at A
 subst A
 obtain ⟨N,U,HU⟩:=Qjq ((G.block w Ca).trans (Qw w _)) ((Zg w _).thn G) T
 clear T G
 have aB:=Qq (HT.out _ w1 HU.out)
 go_wp2_with (first
  | (go_at_call 143;refine (D.out _).mono ?_;rintro e w6 ⟨cr,rfl,M,I⟩;obtain ⟨q3,l3,q4,l4,A,_⟩:=Z9.cells M;simp only [vcs] at A;subst A;have Y:=Qq I;have aC:=Qq M;have J:=(I.block w (Z8 O.out)).trans O.out;have Z:=Qq J;have fz:=fun j=>Qn _ _ j _ _ J;obtain ⟨f0,f1,f2,f3,f4⟩:=Qjw fz;have rr:=fun j=>Qk _ _ j _ _ _ J;obtain ⟨r0,r1,r2,r3,r4⟩:=Qjw rr;simp only [Qf,Qg,Qh] at r0 r1 r2 r3 r4;clear fz rr J M I)
  | (go_at_call 102;refine aB.out.mono ?_;rintro e w5 ⟨rfl,hb⟩;have O:=Qq ((hb.block w (Z8 N.out)).trans N.out);have V:=Qq (U.out.thn hb);clear hb))
 show bodyPost _ _ _ _ _ (Cu w6 w r q3 l3 q4 l4)
 refine Q7 (v:=.agg (Cn r q3 l3 q4 l4)) (by simp [results,results147,go_sem,Ze Z.out]) rfl ⟨_,rfl,?_,Zc (V.out.thn Y.out) (Q9 _)⟩
 exact Z9.move aC.out (fun b hb _=>Zf (by have:=aA.out b hb;omega)) Qje
theorem Fq (g:Nat) (lb:Array Value) (eg:∀ args w,(callFunc g args).run prog w=.ok (.enter g args) w) (S0:Nat->Prop) (o:Bs) (b:Bool) (u:Val) (w:World) (ho:Nb o b) (hS0:∀ b,S0 b->b≠w.heap.size) (hk:u.kind=2) (hn:(u.n==1)=!b) (h0:∀ W,Below w w W->w<W.heap.size->Calls prog g (#[.int .i64 0]++lb) W (Xy S0 W (some u))):
  Calls prog 147 #[o,.func (.func g) #[] lb,.int .i64 2] w (Xy S0 w (some (Vf (!b)))):=by
 obtain ⟨H0,HM,aA⟩:=Qjq h0 X9 hS0
 have HT:=Qq (fun cu W (T:Z9 S0 W cu u)=>U5 S0 u cu W T hk)
 rw [hn] at HT
 have M:=Qq (Vs (!b) S0)
 obtain ⟨r,I⟩:=eX (Vf (!b))
 rw [I] at M |-
 clear h0 I hS0 hk hn
 rcases ho with ⟨rfl,rfl⟩ | ⟨rfl,rfl⟩
 all_goals
  go_enter func147,ntmps147
  go_wp2_with (go_at_call 142;refine (HM.out _).mono ?_;rintro e w' ⟨rfl,rfl⟩)
  refine (H0.out _ (Zg _ _) Ca).mono ?_
  rintro e w1 ⟨cu,rfl,T,D⟩
  obtain ⟨a3,aE,a4,aF,A,_⟩:=Z9.cells T
  simp only [vcs] at A
  subst A
  obtain ⟨N,U,HU⟩:=Qjq ((D.block w Ca).trans (Qw w _)) ((Zg w _).thn D) T
  clear T D
  have aB:=Qq (HT.out _ w1 HU.out)
  go_wp2_with (first
   | (go_at_call 143;refine (M.out _).mono ?_;rintro e w6 ⟨cr,rfl,J,G⟩;obtain ⟨q3,l3,q4,l4,A,_⟩:=Z9.cells J;simp only [vcs] at A;subst A;have Y:=Qq G;have aC:=Qq J;have I:=(G.block w (Z8 O.out)).trans O.out;have Z:=Qq I;have fz:=fun j=>Qn _ _ j _ _ I;obtain ⟨f0,f1,f2,f3,f4⟩:=Qjw fz;have rr:=fun j=>Qk _ _ j _ _ _ I;obtain ⟨r0,r1,r2,r3,r4⟩:=Qjw rr;simp only [Qf,Qg,Qh] at r0 r1 r2 r3 r4;clear fz rr I J G)
   | (go_at_call 102;refine aB.out.mono ?_;rintro e w5 ⟨rfl,hb⟩;have O:=Qq ((hb.block w (Z8 N.out)).trans N.out);have V:=Qq (U.out.thn hb);clear hb))
  show bodyPost _ _ _ _ _ (Cu w6 w r q3 l3 q4 l4)
  refine Q7 (v:=.agg (Cn r q3 l3 q4 l4)) (by simp [results,results147,go_sem,Ze Z.out]) rfl ⟨_,rfl,?_,Zc (V.out.thn Y.out) (Q9 _)⟩
  exact Z9.move aC.out (fun b hb _=>Zf (by have:=aA.out b hb;omega)) Qje
theorem Ps (g:Nat) (lb:Array Value) (eg:∀ args w,(callFunc g args).run prog w=.ok (.enter g args) w) (S0:Nat->Prop) (o:Bs) (b:Bool) (u:Val) (w:World) (ho:Nb o b) (hk:u.kind=2) (hn:(u.n==1)=b) (h0:∀ W,Below w w W->w<W.heap.size->Calls prog g (#[.int .i64 0]++lb) W (Xy S0 W (some u))) (h1:∀ W,Below w w W->w<W.heap.size->Calls prog g (#[.int .i64 1]++lb) W (Xy S0 W none)):
  Calls prog 147 #[o,.func (.func g) #[] lb,.int .i64 2] w (Gt w):=by
 obtain ⟨H0,H1,HM⟩:=Qjq h0 h1 X9
 have HT:=Qq (fun T W (J:Z9 S0 W T u)=>U5 S0 u T W J hk)
 rw [hn] at HT
 clear h0 h1 hk hn
 rcases ho with ⟨rfl,rfl⟩ | ⟨rfl,rfl⟩
 all_goals
  go_enter func147,ntmps147
  go_wp2_with (go_at_call 142;refine (HM.out _).mono ?_;rintro e w' ⟨rfl,rfl⟩)
  refine (H0.out _ (Zg _ _) Ca).mono ?_
  rintro e w1 ⟨T,rfl,J,A⟩
  obtain ⟨a3,U,a4,V,I,_⟩:=Z9.cells J
  simp only [vcs] at I
  subst I
  obtain ⟨G,M,HU⟩:=Qjq ((A.block w Ca).trans (Qw w _)) ((Zg w _).thn A) J
  clear J A
  have O:=Qq (HT.out _ w1 HU.out)
  go_wp2_with (go_at_call 102;refine O.out.mono ?_;rintro e w3 ⟨rfl,hb⟩;have D:=Qq (M.out.thn hb);have N:=Qq ((hb.block w (Z8 G.out)).trans G.out);clear hb)
  refine (H1.out _ D.out (Z8 N.out)).mono ?_
  rintro e w4 ⟨rfl,hb⟩
  exact ⟨rfl,rfl,D.out.thn hb⟩
theorem op_log (g:Nat) (lb:Array Value) (eg:∀ args w,(callFunc g args).run prog w=.ok (.enter g args) w) (S0:Nat->Prop) (o:Bs) (b:Bool) (u v:Val) (w:World) (ho:Nb o b) (hS0:∀ b,S0 b->b≠w.heap.size) (hk:u.kind=2) (hn:(u.n==1)=b) (hk2:v.kind=2) (h0:∀ W,Below w w W->w<W.heap.size->Calls prog g (#[.int .i64 0]++lb) W (Xy S0 W (some u))) (h1:∀ W,Below w w W->w<W.heap.size->Calls prog g (#[.int .i64 1]++lb) W (Xy S0 W (some v))):
  Calls prog 147 #[o,.func (.func g) #[] lb,.int .i64 2] w (Xy S0 w (some (Vf (v.n==1)))):=by
 obtain ⟨H0,H1,HM⟩:=Qjq h0 h1 X9
 have HT:=Qq (fun U W (T:Z9 S0 W U u)=>U5 S0 u U W T hk)
 rw [hn] at HT
 have aH:=Qq hS0
 have aB:=Qq (fun U W (T:Z9 S0 W U v)=>U5 S0 v U W T hk2)
 have D:=Qq (Vs (v.n==1) S0)
 obtain ⟨r,N⟩:=eX (Vf (v.n==1))
 rw [N] at D |-
 obtain ⟨d,hd⟩:=eX ((v.n==1))
 simp only [hd] at aB D
 clear h0 h1 hk hn hk2 N hd hS0
 rcases ho with ⟨rfl,rfl⟩ | ⟨rfl,rfl⟩
 all_goals
  go_enter func147,ntmps147
  go_wp2_with (go_at_call 142;refine (HM.out _).mono ?_;rintro e w' ⟨rfl,rfl⟩)
  refine (H0.out _ (Zg _ _) Ca).mono ?_
  rintro e w1 ⟨U,rfl,T,I⟩
  obtain ⟨a3,aM,a4,aN,A,_⟩:=Z9.cells T
  simp only [vcs] at A
  subst A
  obtain ⟨Y,aC,HU⟩:=Qjq ((I.block w Ca).trans (Qw w _)) ((Zg w _).thn I) T
  clear T I
  have aI:=Qq (HT.out _ w1 HU.out)
  go_wp2_with (go_at_call 102;refine aI.out.mono ?_;rintro e w3 ⟨rfl,hb⟩;have V:=Qq (aC.out.thn hb);have G:=Qq ((hb.block w (Z8 Y.out)).trans Y.out);clear hb)
  refine (H1.out _ V.out (Z8 G.out)).mono ?_
  rintro e w4 ⟨cv,rfl,hv,J⟩
  obtain ⟨b3,aO,b4,aP,A,_⟩:=Z9.cells hv
  simp only [vcs] at A
  subst A
  obtain ⟨aJ,aD,Z⟩:=Qjq (aB.out _ w4 hv) (V.out.thn J) ((J.block w (Z8 G.out)).trans G.out)
  clear hv J
  go_wp2_with (first
   | (go_at_call 143;refine (D.out _).mono ?_;rintro e w6 ⟨cr,rfl,O,M⟩;obtain ⟨q3,l3,q4,l4,A,_⟩:=Z9.cells O;simp only [vcs] at A;subst A;have aF:=Qq M;have aK:=Qq O;have N:=(M.block w (Z8 aA.out)).trans aA.out;have aG:=Qq N;have fz:=fun j=>Qn _ _ j _ _ N;obtain ⟨f0,f1,f2,f3,f4⟩:=Qjw fz;have rr:=fun j=>Qk _ _ j _ _ _ N;obtain ⟨r0,r1,r2,r3,r4⟩:=Qjw rr;simp only [Qf,Qg,Qh] at r0 r1 r2 r3 r4;clear fz rr N O M)
   | (go_at_call 102;refine aJ.out.mono ?_;rintro e w5 ⟨rfl,hb⟩;have aA:=Qq ((hb.block w (Z8 Z.out)).trans Z.out);have aE:=Qq (aD.out.thn hb);clear hb))
  show bodyPost _ _ _ _ _ (Cu w6 w r q3 l3 q4 l4)
  refine Q7 (v:=.agg (Cn r q3 l3 q4 l4)) (by simp [results,results147,go_sem,Ze aG.out]) rfl ⟨_,rfl,?_,Zc (aE.out.thn aF.out) (Q9 _)⟩
  exact Z9.move aK.out (fun b hb _=>Zf (by have:=aH.out b hb;omega)) Qje
end Go.Proofs.YtcljcblceodciaaGreatDoor
