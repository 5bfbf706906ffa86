import Derived.Test.YtdpibdpbgokmoaaGreatDoorA19
set_option maxRecDepth 100000
set_option maxHeartbeats 400000000
namespace Go.Proofs.YtdpibdpbgokmoaaGreatDoor
open Go.RowKit Go.Shelf Go.Lib Tryz
def Jb (A:List Bs × List Val) (p:Bs × Val):List Bs × List Val:=(Xp A.1 (below A.1 p.1) p.1,Xp A.2 (below A.1 p.1) p.2)
def Yt (z:List (Bs × Val)):List Bs × List Val:=z.foldl Jb ([],[])
theorem N7 (z:List (Bs × Val)) (p:Bs × Val):Yt (z++[p])=Jb (Yt z) p:=by unfold Yt;rw [List.foldl_append];rfl
theorem Qzy {T:Type} (l:List T) (i:Nat) (x:T):(Xp l i x).length=l.length+1:=by unfold Xp;simp;omega
theorem Ub (z:List (Bs × Val)):(Yt z).1.length=z.length/\(Yt z).2.length=z.length:=by
 have:∀ (z:List (Bs × Val)) (A:List Bs × List Val),(z.foldl Jb A).1.length=A.1.length+z.length/\(z.foldl Jb A).2.length=A.2.length+z.length:=by
  intro z
  induction z with
  | nil=>intro A;exact ⟨rfl,rfl⟩
  | cons p z ih=>
   intro A
   obtain ⟨h1,h2⟩:=ih (Jb A p)
   rw [List.foldl_cons,h1,h2]
   unfold Jb
   simp only [Qzy,List.length_cons]
   omega
 have:=this z ([],[])
 simpa [Yt] using this
def RecIs (S:Nat->Prop) (w:World) (names:List Bs) (vals:List Val) (e:Ending) (w':World):Prop:=Below w w w' /\
 ((∃ err:Int,err≠0/\e=.returned (.tuple #[.agg zV,err])/\¬ (names.length=vals.length/\∀ (i j:Nat) (x:Bs),i<j->names[i]?=some x->names[j]?=some x->False)) \/
  (∃ p3 k3 p4 k4,names.length=vals.length/\e=.returned (.tuple #[.agg (Il (Vf (Yt (names.zip vals)).1 (Yt (names.zip vals)).2) p3 k3 p4 k4).toArray,Ic])/\names.length<=k3/\names.length<=k4 /\
   Z9 (λb=>S b\/w<=b) w' (Il (Vf (Yt (names.zip vals)).1 (Yt (names.zip vals)).2) p3 k3 p4 k4) (Vf (Yt (names.zip vals)).1 (Yt (names.zip vals)).2)))
def Kd (S:Nat->Prop) (w:World) (z:List (Bs × Val)) (wx:World):Prop:=Below w w wx/\∃ p3 k3 p4 k4,z.length<=k3/\z.length<=k4 /\
 wx.heap[w.heap.size+1]?=some (.cells #[.int .i64 4,Ic,Ig,.slice p3 z.length k3,.slice p4 z.length k4] 36 (0,0))/\Z9 (λb=>(S b/\b<w)\/w+2<=b) wx (Il (Vf (Yt z).1 (Yt z).2) p3 k3 p4 k4) (Vf (Yt z).1 (Yt z).2) /\
 wx.heap[w.heap.size]?=some (.cells zV 36 (0,0))
theorem H7 (z:List (Bs × Val)) (p3:Option Addr) (k3:Nat) (p4:Option Addr) (k4:Nat):Il (Vf (Yt z).1 (Yt z).2) p3 k3 p4 k4=[.int .i64 4,.int .i64 0,.string ⟨#[]⟩,.slice p3 z.length k3,.slice p4 z.length k4]:=by
 obtain ⟨h1,h2⟩:=Ub z
 unfold Vf
 rw [vcs_mk,h1,h2]
theorem Kd.below {S:Nat->Prop} {w wr wx:World} {z:List (Bs × Val)} (h:Kd S w z wr) (hb:Below wr wr wx):Kd S w z wx:=by
 obtain ⟨h1,p3,k3,p4,k4,h2,h3,h4,h5,h6⟩:=h
 exact ⟨h1.n hb,p3,k3,p4,k4,h2,h3,kB hb h4,h5.move (.f hb) Ij,kB hb h6⟩
theorem Kd.next {S:Nat->Prop} {w wr w2:World} {z:List (Bs × Val)} {name:Bs} {x:Val} {p3:Option Addr} {k3:Nat} {p4:Option Addr} {k4:Nat} (h:Kd S w z wr) (hb:Below wr wr w2) (h3:(M5 (Vf (Yt z).1 (Yt z).2) name x).names.length<=k3) (h4:(M5 (Vf (Yt z).1 (Yt z).2) name x).kids.length<=k4)
  (hv:Z9 (λb=>((λb=>(S b/\b<w)\/w+2<=b)) b\/wr<=b) w2 (Il (M5 (Vf (Yt z).1 (Yt z).2) name x) p3 k3 p4 k4) (M5 (Vf (Yt z).1 (Yt z).2) name x)):
  Il (M5 (Vf (Yt z).1 (Yt z).2) name x) p3 k3 p4 k4=[.int .i64 4,.int .i64 0,.string ⟨#[]⟩,.slice p3 (z.length+1) k3,.slice p4 (z.length+1) k4] /\
  Kd S w (z++[(name,x)]) (Zl w2 (w+1) (.int .i64 4) Ic Ig (.slice p3 (z.length+1) k3) (.slice p4 (z.length+1) k4)):=by
 have hu:M5 (Vf (Yt z).1 (Yt z).2) name x=Vf (Yt (z++[(name,x)])).1 (Yt (z++[(name,x)])).2:=by rw [N7];rfl
 rw [hu] at h3 h4 hv |-
 have hc:=H7 (z++[(name,x)]) p3 k3 p4 k4
 obtain ⟨M,N⟩:=Ub (z++[(name,x)])
 have A:(z++[(name,x)]).length=z.length+1:=Ib
 refine ⟨by rw [hc,A],?_⟩
 obtain ⟨I,U,O,V,T,_,_,h7,_,h9⟩:=h
 have J:w.heap.size+1<wr.heap.size:=Z8 h7
 have D:=kE hb J h7
 have G:=kB hb h9
 refine ⟨Zd (I.n hb) Ia,p3,k3,p4,k4,by rw [A];have:(Yt (z++[(name,x)])).1.length<=k3:=h3;omega,by rw [A];have:(Yt (z++[(name,x)])).2.length<=k4:=h4;omega,by rw [A];exact Yd D,?_,by rw [Zf Ia];exact G⟩
 refine (hv.move (S':=(λb=>(S b/\b<w)\/w+2<=b)) (.refl _ _) (λb _ h=>?_)).move (λb hS _=>Zf ?_) (λb _ h=>h)
 ·rcases h with h | h
  ·exact h
  exact .inr Ia
 rcases hS with h | h <;> omega
theorem Ed (S:Nat->Prop) (nv vv:Value) (names:List Bs) (vals:List Val) (w:World) (hn0:Sl Zh S w nv names) (hv0:Sl Zc S w vv vals) (hw:∀ x ∈ names,Vi x) (hl:names.length<=1000):
  Calls prog 69 #[nv,vv] w (RecIs S w names vals):=by
 have hn:=hn0.up
 have hv:=hv0.up
 obtain ⟨np,nc,rfl,_⟩:=hn.len
 obtain ⟨vp,vc,rfl,dB⟩:=hv.len
 obtain ⟨aG,aV,HW⟩:=Im hn hv hw
 clear hn0 hv0 hn hv hw
 by_cases hlen:names.length=vals.length
 ·obtain ⟨n,aL⟩:=eX (names.length)
  have hm:vals.length=n:=Ia
  obtain ⟨HN,HM,J⟩:=Im aL hm hlen
  rw [aL] at aG hl |-
  rw [hm] at aV dB |-
  have hq:((n:Int) != (n:Int))=false:=Ib
  clear aL hm hlen
  go_enter func69,ntmps69
  go_wp2_with fail
  generalize V:(w.alloc _).alloc _=W1
  have bD:Kd S w ((names.zip vals).take 0) W1:=by
   refine ⟨by rw [<- V];exact Zs _ _ _,none,0,none,0,Q9 _,Q9 _,by rw [<- V];exact Q6 _ _ _,?_,by rw [<- V];exact Q5 _ _ _⟩
   exact Yb (s:=[]) Ib (Sl.nil _ _ _) (Sl.nil _ _ _)
  have bY:=Qq bD
  clear V bD hq
  go_loopw [7,8] (λi _ wr=>∃ k:Nat,k<=n/\i=.int .i64 k/\Aside (Kd S w ((names.zip vals).take k) wr)/\Aside (∀ (i j:Nat) (x:Bs),j<k->i<j->names[i]?=some x->names[j]?=some x->False)) (λi _ _=>n - (intOf i).toNat)
  case atStart=>exact ⟨0,Q8 _,rfl,bY.o,λi j x hj=>absurd hj (Z6 _)⟩
  obtain ⟨k,hk,rfl,hM,hD⟩:=hrel
  have bC:Kd S w ((names.zip vals).take k) wr:=hM
  have cB:=Qq bC
  obtain ⟨bE,p3,k3,p4,k4,h3,h4,hX,bN,hZ⟩:=bC
  have aM:((names.zip vals).take k).length=k:=by rw [Qm,List.length_zip,HN.o,HM.o];omega
  rw [aM] at h3 h4 hX
  obtain ⟨HB,HX,aH,HZ,M,HD⟩:=BE bE hX bN hZ aM (show ∀ (i j:Nat) (x:Bs),j<k->i<j->names[i]?=some x->names[j]?=some x->False from hD)
  have cQ:=Z8 hX
  clear hM hD bE hX bN hZ aM
  by_cases hlt:k<n
  ·have dK:(0:Int)<=(k:Int):=Ia
   have dL:(k:Int)<(n:Int):=Ia
   obtain ⟨nm,Z⟩:∃ y,names[k]?=some y:=⟨_,Qx (by rw [HN.o];exact hlt)⟩
   obtain ⟨x,hx⟩:∃ y,vals[k]?=some y:=⟨_,Qx (by rw [HM.o];exact hlt)⟩
   obtain ⟨nb,bP,rfl,O,bL⟩:=(aG.o.below HB.o).str Z
   obtain ⟨vb,dH,q3,l3,q4,l4,rfl,U,bO,d0,d1,d2,d3,d4⟩:=(aV.o.below HB.o).val hx
   have cZ:=Qv _ _ O
   have HF:=Qq (λW=>Lw nm (HW.o nm (Qy Z)) W)
   unfold sv at HF
   obtain ⟨aF,cD,cC⟩:=Im Z hx bO
   clear Z hx bO
   go_wp2_with (go_at_call 107;refine (HF.o _).mono ?_;rintro e w5 ⟨rfl,aK⟩;have bV:=Qq aK;have T:=kD aK cZ O;clear aK)
   obtain ⟨W5,rfl⟩:∃ W5:World,W5=w5:=⟨_,rfl⟩
   have bK:nb<W5.heap.size:=Qv _ _ T
   have aU:=Qq T;have bW:=Qq (Qe d0 (Qe d1 (Qe d2 (Qe d3 d4))))
   clear O T d0 d1 d2 d3 d4
   go_loopw [8] (λi dG=>∃ j:Nat,j<=k/\i=.int .i64 j/\Aside (∀ (i:Nat) (y:Bs),i<j->names[i]?=some y->(y==nm)=false)/\Aside (Below W5 W5 dG)) (λi _=>k - (intOf i).toNat)
   case atStart=>exact ⟨0,Q8 _,rfl,λi y hi=>absurd hi (Z6 _),Qz _ _⟩
   obtain ⟨j,hj,rfl,A,bB⟩:=hrel
   have aD:=Qq (show Below W5 W5 wr from bB)
   have G:=Qq (bV.o.n aD.o)
   clear bB
   have O:=kD aD.o bK aU.o
   by_cases hlt2:j<k
   ·have dN:(0:Int)<=(j:Int):=Ia
    have cS:(j:Int)<(n:Int):=Ia
    have cT:(j:Int)<(k:Int):=Ia
    obtain ⟨y,hy⟩:∃ y,names[j]?=some y:=⟨_,Qx (by rw [HN.o];omega)⟩
    obtain ⟨dF,aN,he,dE,-⟩:=(aG.o.below (HB.o.n G.o)).str hy
    obtain ⟨rfl,rfl,-⟩:nb=dF/\bP=aN/\True:=by simpa using he
    have HY:=Qq hy
    clear hy he
    by_cases heq:y=nm
    ·have hq:(y==nm)=true:=by rw [heq];simp
     have bX:=Qq heq
     have aJ:=kB G.o HZ.o
     have dJ:=Qq aJ
     clear heq
     go_upto_region 12 with fail
     go_quiet (fail)
     clear hq dE O
     have Y:(wr.drewN nq).heap[w.heap.size]?=some (.cells zV 36 (0,0)):=aJ
     have cE:=Qq Y
     obtain ⟨z0,z1,z2,z3,z4⟩:=If Y
     obtain ⟨f0,f1,f2,f3,f4⟩:=Ip Y
     clear aJ Y
     go_wp2_with fail
     show bodyPost _ _ _ _ _ (Zl (wr.drewN nq) w Ic Ic Ig Ie Ie)
     refine Q7 (v:=.tuple #[.agg zV,.int .i64 8]) (by simp [results,results69,go_sem,Ze cE.o]) rfl ⟨Zd ((HB.o.n G.o).n (Yz _ _)) (Q9 _),.inl ⟨8,Ih,rfl,λh=>h.2 j k nm Ia (by rw [<- bX.o];exact HY.o) aF.o⟩⟩
    have hq:(y==nm)=false:=by rw [<- Qt,beq_iff_eq];exact heq
    have HQ:=Qq hq
    clear heq
    go_wp2_with fail
    go_quiet (fail)
    go_wp2_with fail
    go_roundw
    case measure=>simp [intOf];omega
    case rel=>
     refine ⟨j+1,Ia,by go_num,(show Aside _ from λi z hi hz=>?_),aD.o.n (Yz _ _)⟩
     by_cases e:i=j
     ·subst e
      have:=HY.o
      rw [this] at hz
      cases hz
      exact HQ.o
     exact A.o i z Ia hz
   have cU:j=k:=Ia
   subst cU
   have hd:=cB.o.below G.o
   have N:=kE G.o cQ HX.o
   obtain ⟨c0,c1,c2,c3,c4⟩:=If N
   obtain ⟨f0,f1,f2,f3,f4⟩:=Ip N
   obtain ⟨aW,aX,aY,aZ,bA⟩:=bW.o
   have d0:=kD G.o U aW;have d1:=kD G.o U aX;have d2:=kD G.o U aY;have d3:=kD G.o U aZ;have d4:=kD G.o U bA
   have aE:=Qq (λW (hb:Below wr wr W)=>rins_any (λb=>(S b/\b<w)\/w+2<=b) (Vf (Yt ((names.zip vals).take j)).1 (Yt ((names.zip vals).take j)).2) x nm p3 k3 p4 k4 (Is x q3 l3 q4 l4) W (aH.o.move (.f (G.o.n hb)) Ij) (cC.o.move (.f (G.o.n hb)) (λb _ h=>.inl h)) (by have:=(Ub ((names.zip vals).take j)).1;rw [M.o] at this;show (Yt ((names.zip vals).take j)).1.length<=k3;omega) (by have:=(Ub ((names.zip vals).take j)).2;rw [M.o] at this;show (Yt ((names.zip vals).take j)).2.length<=k4;omega)
    (by have h1:=(Ub ((names.zip vals).take j)).1;have h2:=(Ub ((names.zip vals).take j)).2;show (Yt ((names.zip vals).take j)).1.length=(Yt ((names.zip vals).take j)).2.length;omega) (by have:=(Ub ((names.zip vals).take j)).1;rw [M.o] at this;show (Yt ((names.zip vals).take j)).1.length<=1000;omega) bL)
   rw [H7,M.o] at aE
   unfold sv at aE
   have cA:=Qq hd;have dI:=Qq N
   have D:w.heap.size+1<wr.heap.size:=Z8 N
   clear hd N aW aX aY aZ bA
   have cS:(j:Int)<(n:Int):=Ia
   have cT:¬ (j:Int)<(j:Int):=Ia
   go_upto_region 14 with fail
   go_region_with (go_at_call 108;refine (aE.o _ (Qz _ _).drew).mono ?_;rintro e w7 ⟨r3,m3,r4,m4,rfl,bG,bH,bM,I⟩;have bJ:=cA.o.next ((Qz _ wr).drew.n I) bG bH bM;rw [M.o] at bJ;obtain ⟨aB,bI⟩:=bJ;rw [aB];have bZ:=Qq bI;have g0:=BO ((Qz _ wr).drew.n I) D f0;have g1:=BO ((Qz _ wr).drew.n I) D f1;have g2:=BO ((Qz _ wr).drew.n I) D f2;have g3:=BO ((Qz _ wr).drew.n I) D f3;have g4:=BO ((Qz _ wr).drew.n I) D f4;have e0:=kD ((Qz _ wr).drew.n I) D c0;have e1:=kD ((Qz _ wr).drew.n I) D c1;have e2:=kD ((Qz _ wr).drew.n I) D c2;have e3:=kD ((Qz _ wr).drew.n I) D c3;have e4:=kD ((Qz _ wr).drew.n I) D c4;clear bG bH bM I bI aB)
   all_goals
    go_wp2_with fail
    go_roundw
    case measure=>simp [intOf];omega
    case rel=>
     refine ⟨j+1,Ia,by go_num,(show Aside _ from ?_),(show Aside _ from λi j' z dM hi h1 h2=>?_)⟩
     ·have:(names.zip vals).take (j+1)=(names.zip vals).take j++[(nm,x)]:=by
       have cV:j<(names.zip vals).length:=by rw [List.length_zip,HN.o,HM.o];omega
       rw [Zz cV,List.getElem_zip]
       obtain ⟨_,e1⟩:=Qj aF.o
       obtain ⟨_,e2⟩:=Qj cD.o
       rw [e1,e2]
      show Kd S w _ _
      rw [this];exact bZ.o
     by_cases e:j'=j
     ·subst e
      rw [aF.o] at h2
      cases h2
      have:=A.o i _ hi h1
      simp at this
     exact HD.o i j' z Ia hi h1 h2
  have cW:k=n:=Ia
  subst cW
  have hz:(names.zip vals).take k=names.zip vals:=Zj (by rw [List.length_zip,HN.o,HM.o];omega)
  rw [hz] at aH
  have aC:(names.zip vals).length=k:=by rw [List.length_zip,HN.o,HM.o];omega
  have hc:=H7 (names.zip vals) p3 k3 p4 k4
  rw [aC] at hc
  have HC:=Qq hc
  obtain ⟨c0,c1,c2,c3,c4⟩:=If HX.o
  obtain ⟨z0,z1,z2,z3,z4⟩:=If HZ.o
  obtain ⟨f0,f1,f2,f3,f4⟩:=Ip HZ.o
  clear hz aC hc hlt
  go_wp2_with fail
  show bodyPost _ _ _ _ _ (Zl wr w (.int .i64 4) Ic Ig (.slice p3 k k3) (.slice p4 k k4))
  refine Q7 (v:=.tuple #[.agg #[.int .i64 4,Ic,Ig,.slice p3 k k3,.slice p4 k k4],Ic]) (by simp [results,results69,go_sem,Ze HZ.o]) rfl ⟨Zd HB.o (Q9 _),.inr ⟨p3,k3,p4,k4,J.o,by rw [HC.o],by rw [HN.o];exact h3,by rw [HN.o];exact h4,?_⟩⟩
  refine aH.o.move (λb hS _=>Zf ?_) (λb _ hS=>?_)
  ·rcases hS with h | h <;> omega
  rcases hS with h | h
  ·exact .inl h.1
  exact .inr Ia
 have hq:((names.length:Int) != (vals.length:Int))=true:=by rw [bne_iff_ne];omega
 have J:=Qq hlen
 clear hlen
 go_enter func69,ntmps69
 go_wp2_with fail
 exact Q7 (v:=.tuple #[.agg zV,.int .i64 1]) (by simp [results,results69,go_sem]) rfl ⟨Zg _ _,.inl ⟨1,Ih,rfl,λh=>J.o h.1⟩⟩
def Ha:List Bs:=[[61,61],[33,61],[60],[60,61],[43],[45],[42],[43,43],[97,110,100],[111,114],[110,111,116]]
structure L1 (k:Int) (nm:Bs) (names binds:List Bs) (n:Nat):Prop where
 few:n<=1000
 fewn:names.length<=1000
 words:k=6->(∀ x ∈ names,Vi x)/\names.Nodup
 one:k=7->names.length=1/\n=2
 fld:k=8->1<=n
 two:k=11->n=2
 three:k=12->n=3
 mtch:k=13->n=names.length+1/\binds.length=names.length
 op:k=14->nm ∈ Ha/\n=if nm=[110,111,116] then 1 else 2
inductive WfE:Nat->Ex->Prop
 | mk (d:Nat) (k:Int) (nm:Bs) (n:Int) (s:Bs) (names binds:List Bs) (kids:List Ex) (a z:Int) (hn:L1 k nm names binds kids.length) (hk:∀ x ∈ kids,WfE d x):WfE (d+1) (.mk k nm n s names binds kids a z)
theorem Qjx (k:Int) (nm:Bs) (hk:k<=5\/k=9):L1 k nm [] [] 0:=⟨Ia,Ib,λh=>Ia,λh=>Ia,λh=>Ia,λh=>Ia,λh=>Ia,λh=>Ia,λh=>Ia⟩
theorem Ge (d:Nat) (k:Int) (nm:Bs) (n:Int) (s:Bs) (hk:k<=5\/k=9):WfE (d+1) (.mk k nm n s [] [] [] 0 0):=.mk _ _ _ _ _ _ _ _ _ _ (Qjx k nm hk) (λx h=>by simp at h)
theorem wf_2 {d:Nat} {a b:Ex} (ha:WfE d a) (hb:WfE d b):∀ x ∈ [a,b],WfE d x:=by
 intro x hx
 simp only [Z3,Z2,or_false] at hx
 rcases hx with rfl | rfl
 ·exact ha
 exact hb
theorem wf_1 {d:Nat} {a:Ex} (ha:WfE d a):∀ x ∈ [a],WfE d x:=by
 intro x hx
 simp only [Z3,Z2,or_false] at hx
 subst hx;exact ha
theorem wf_3 {d:Nat} {a b c:Ex} (ha:WfE d a) (hb:WfE d b) (hc:WfE d c):∀ x ∈ [a,b,c],WfE d x:=by
 intro x hx
 simp only [Z3,Z2,or_false] at hx
 rcases hx with rfl | rfl | rfl
 ·exact ha
 ·exact hb
 exact hc
theorem Vr {d:Nat} {o:Bs} {a b:Ex} (ho:o ∈ Ha/\o≠[110,111,116]) (ha:WfE d a) (hb:WfE d b):WfE (d+1) (Gen.op o [a,b]):=
 .mk _ _ _ _ _ _ _ _ _ _ ⟨Ib,Ib,λh=>Ia,λh=>Ia,λh=>Ia,λh=>Ia,λh=>Ia,λh=>Ia,λ_=>⟨ho.1,by rw [if_neg ho.2];rfl⟩⟩ (wf_2 ha hb)
theorem wf_not {d:Nat} {a:Ex} (ha:WfE d a):WfE (d+1) (Gen.op [110,111,116] [a]):=
 .mk _ _ _ _ _ _ _ _ _ _ ⟨Ib,Ib,λh=>Ia,λh=>Ia,λh=>Ia,λh=>Ia,λh=>Ia,λh=>Ia,λ_=>⟨by simp [Ha],Ib⟩⟩ (wf_1 ha)
theorem Xx (d:Nat) (x:Bs):WfE (d+1) (Gen.var x):=Ge _ _ _ _ _ Ia
theorem M0 (d:Nat) (n:Int):WfE (d+1) (Gen.int n):=Ge _ _ _ _ _ Ia
theorem Gf (d:Nat) (n:Int):WfE (d+1) (Gen.bool n):=Ge _ _ _ _ _ Ia
theorem wf_str (d:Nat) (x:Bs):WfE (d+1) (Gen.str x):=Ge _ _ _ _ _ Ia
theorem word_x:∀ x ∈ ([[121],[120]]:List Bs),Vi x:=by
 intro x hx
 simp only [Z3,Z2,or_false] at hx
 rcases hx with rfl | rfl
 all_goals exact ⟨Ih,Ih,Ih,Ih,Ih⟩
theorem wf_rec (d:Nat):WfE (d+2) Gen.rec:=
 .mk _ _ _ _ _ _ _ _ _ _ ⟨Ib,Ib,λ_=>⟨word_x,Ih⟩,λh=>Ia,λh=>Ia,λh=>Ia,λh=>Ia,λh=>Ia,λh=>Ia⟩ (wf_2 (Xx _ _) (Xx _ _))
theorem wf_wth (d:Nat):WfE (d+3) Gen.wth:=
 .mk _ _ _ _ _ _ _ _ _ _ ⟨Ib,Ib,λh=>Ia,λ_=>⟨rfl,rfl⟩,λh=>Ia,λh=>Ia,λh=>Ia,λh=>Ia,λh=>Ia⟩ (wf_2 (wf_rec _) (M0 _ _))
theorem wf_fld {d:Nat} (x:Bs) {a:Ex} (ha:WfE d a):WfE (d+1) (.mk 8 x 0 [] [] [] [a] 0 0):=
 .mk _ _ _ _ _ _ _ _ _ _ ⟨Ib,Ib,λh=>Ia,λh=>Ia,λ_=>Ib,λh=>Ia,λh=>Ia,λh=>Ia,λh=>Ia⟩ (wf_1 ha)
theorem Cv {d:Nat} {a b:Ex} (ha:WfE d a) (hb:WfE d b):WfE (d+1) (.mk 9 [] 0 [] [] [] [a,b] 0 0):=
 .mk _ _ _ _ _ _ _ _ _ _ ⟨Ib,Ib,λh=>Ia,λh=>Ia,λh=>Ia,λh=>Ia,λh=>Ia,λh=>Ia,λh=>Ia⟩ (wf_2 ha hb)
theorem wf_check:∀ k:Nat,WfE 8 (Gen.check k)
 | 0=>Gf _ _
 | 1=>Gf _ _
 | 2=>Gf _ _
 | 3=>Vr Ih (Xx _ _) (Vr Ih (Xx _ _) (Vr Ih (M0 _ _) (M0 _ _)))
 | 4=>Vr Ih (Xx _ _) (Vr Ih (Xx _ _) (wf_str _ _))
 | 5=>.mk _ _ _ _ _ _ _ _ _ _ ⟨Ib,Ib,λh=>Ia,λh=>Ia,λh=>Ia,λh=>Ia,λ_=>rfl,λh=>Ia,λh=>Ia⟩ (wf_3 (Xx _ _) (Vr Ih (Xx _ _) (Xx _ _)) (Vr Ih (Xx _ _) (Xx _ _)))
 | 6=>.mk _ _ _ _ _ _ _ _ _ _ ⟨Ib,Ib,λh=>Ia,λh=>Ia,λh=>Ia,λh=>Ia,λh=>Ia,λ_=>⟨rfl,rfl⟩,λh=>Ia⟩ (wf_3 (Xx _ _) (Gf _ _) (Vr Ih (Xx _ _) (Xx _ _)))
 | 7=>Vr Ih (wf_fld _ (wf_wth _)) (wf_fld _ (wf_rec _))
 | 8=>.mk _ _ _ _ _ _ _ _ _ _ ⟨Ib,Ib,λh=>Ia,λh=>Ia,λh=>Ia,λ_=>rfl,λh=>Ia,λh=>Ia,λh=>Ia⟩ (wf_2 (Vr Ih (Xx _ _) (Xx _ _)) (Vr Ih (Vr Ih (Xx _ _) (M0 _ _)) (wf_not (Xx _ _))))
 | 9=>Vr Ih (Vr Ih (Xx _ _) (Xx _ _)) (wf_str _ _)
 | 10=>Vr Ih (Xx _ _) (Vr Ih (Xx _ _) (Xx _ _))
 | 11=>Vr Ih (Cv (Xx _ _) (Xx _ _)) (Cv (M0 _ _) (Xx _ _))
 | (k+12)=>.mk _ _ _ _ _ _ _ _ _ _ ⟨Ib,Ib,λh=>Ia,λh=>Ia,λh=>Ia,λh=>Ia,λh=>Ia,λh=>Ia,λh=>Ia⟩ (wf_1 (Ge _ _ _ _ _ Ia))
theorem wf_yes (d:Nat):WfE (d+1) Gen.yes:=Gf _ _
structure Gy (w:World) where
 wd:World
 below:Below w w wd
instance {w:World}:Inhabited (Gy w):=⟨⟨w,Qz _ _⟩⟩
theorem Uh {P:Program} {id:Nat} {Q:Exit->Act->World->Prop} {a:Act} {w:World} {l:List Oper} (hm:P.follows .mixedOrders=true) (hB:Region.lexB .any l.toArray=true)
  (h:wpQuiet P l.toArray (λw'=>∃ p:Gy w,w'=p.wd) (λa'=>∀ w',(∃ p:Gy w,w'=p.wd)->Q .normal a' w') l a):(Code.region id l.toArray true).wp P Q a w:=
 wp_region_quiet (C:=λw'=>∃ p:Gy w,w'=p.wd) hm hB ⟨⟨w.drew,(Qz _ _).drew⟩,rfl⟩ (by simpa using h)
theorem Db {w:World} {b o:Nat} {v:Value} (hb:b<w) (h:w.cell? ⟨b,o,none⟩=some v) (p:Gy w):p.wd.cell? ⟨b,o,none⟩=some v:=kD p.below hb h
theorem Calls.later_of {P:Program} {f:FuncId} {args:Array Value} {w:World} {p:Gy w} {v:Value} (h:Calls P f args p.wd λe w'=>e=.returned v/\Below p.wd.heap.size p.wd w'):Calls P f args p.wd λe w''=>e=.returned v/\∃ q:Gy w,w''=q.wd:=
 h.mono λ_ w' ⟨he,hb⟩=>⟨he,⟨w',p.below.n hb⟩,rfl⟩
theorem Ms (a b:Bs):Yi a b=- Yi b a:=by
 have:=Ux a b [] []
 have h:=Ux b a [] []
 simp only [List.append_nil,lex,Km] at this h
 rw [<- this,<- h];exact Kp _ _
def Xr (v:Val):Prop:=∀ (S:Nat->Prop) (cs:List Value) (w:World),Z9 S w cs v->Calls prog 92 #[cs] w λe w'=>e=.returned (.bool true)/\Below w w w'
theorem Tu (n:Int) (ks:List Val) (hks:ks=[]) (ih:∀ x ∈ ks,Xr x):Xr (.mk 0 n [] [] ks):=by
 intro S cs w h
 obtain ⟨p3,k3,p4,k4,V,hn,M,_⟩:=Z9.cells h
 simp only [Il,Val.kind,Val.n,Val.s,Val.names,Val.kids,List.length_nil] at V hn M
 subst V
 obtain ⟨_,_,_,aH⟩:=M.len
 have HI:=Qq ih
 obtain ⟨m,Z⟩:=eX (ks.length)
 rw [Z] at M aH |-
 have aC:=Qq M;have HM:=Qq Z
 have mixed:prog.follows .mixedOrders=true:=Ir
 have aG:m=0:=by rw [<- Z,hks];rfl
 have aM:decide (0<m)=false:=by simp;omega
 clear Z hn hks aG
 clear h M ih
 go_enter func92,ntmps92
 go_wp2_with fail
 generalize J:w.alloc _=G
 have T:=Iq J (Zg _ _)
 have A:=Ik (b:=w.heap.size) J (Qw _ _)
 clear J
 have I:Hid (w<G.heap.size/\Ii G w 4 (.slice p4 m k4)):=Qq ⟨Z8 A,Qk _ _ 4 _ _ _ A⟩
 have aE:Hid (w<G.heap.size/\Ii G w 3 (.slice p3 0 k3)):=Qq ⟨Z8 A,Qk _ _ 3 _ _ _ A⟩
 have N:=Qq T
 clear A T
 go_loopw [5] (λi wr=>i=.int .i64 0/\G=wr) (λ_ _=>0)
 case atStart=>exact ⟨rfl,rfl⟩
 obtain ⟨rfl,rfl⟩:=hrel
 have c4:=I.o.2
 have c3:=aE.o.2
 go_wp2_with fail
 clear c3 c4
 go_loopw [6] (λi wr=>∃ k:Nat,k<=m/\i=.int .i64 k/\Aside (Below G G wr)) (λi _=>m - (intOf i).toNat)
 case atStart=>exact ⟨0,Q8 _,rfl,Qz _ _⟩
 obtain ⟨k,M,rfl,O⟩:=hrel
 have D:=Qq (show Below G G wr from O)
 have c4:=(D.o.cell (p:=⟨w,4,none⟩) I.o.1).trans I.o.2
 clear O
 by_cases hlt:k<m
 ·have aK:(0:Int)<=(k:Int):=Ia
  have aL:(k:Int)<(m:Int):=Ia
  obtain ⟨y,hy⟩:∃ y,ks[k]?=some y:=⟨_,Qx (by rw [HM.o];exact hlt)⟩
  obtain ⟨b,aN,q3,l3,q4,l4,rfl,aJ,Y,d0,d1,d2,d3,d4⟩:=(aC.o.below (N.o.n D.o)).val hy
  have aD:=Qq Y;have aB:=Qq (HI.o y (Qy hy))
  clear Y hy
  go_wp2_with (go_at_call 92;refine (aB.o _ _ _ aD.o).mono ?_;rintro e w5 ⟨rfl,U⟩;have aA:=Qq U;clear U)
  go_roundw
  case measure=>simp [intOf];omega
  case rel=>exact ⟨k+1,Ia,by go_num,D.o.n aA.o⟩
 have aF:k=m:=Ia
 subst aF
 go_wp2_with fail
 go_ret
 exact ⟨rfl,N.o.n D.o⟩
theorem Pp (sx:Bs) (ks:List Val) (hks:ks=[]) (ih:∀ x ∈ ks,Xr x):Xr (.mk 1 0 sx [] ks):=by
 intro S cs w h
 obtain ⟨p3,k3,p4,k4,V,hn,M,_⟩:=Z9.cells h
 simp only [Il,Val.kind,Val.n,Val.s,Val.names,Val.kids,List.length_nil] at V hn M
 subst V
 obtain ⟨_,_,_,aH⟩:=M.len
 have HI:=Qq ih
 obtain ⟨m,Z⟩:=eX (ks.length)
 rw [Z] at M aH |-
 have aC:=Qq M;have HM:=Qq Z
 have mixed:prog.follows .mixedOrders=true:=Ir
 have aG:m=0:=by rw [<- Z,hks];rfl
 have aM:decide (0<m)=false:=by simp;omega
 clear Z hn hks aG
 clear h M ih
 go_enter func92,ntmps92
 go_wp2_with fail
 generalize J:w.alloc _=G
 have T:=Iq J (Zg _ _)
 have A:=Ik (b:=w.heap.size) J (Qw _ _)
 clear J
 have I:Hid (w<G.heap.size/\Ii G w 4 (.slice p4 m k4)):=Qq ⟨Z8 A,Qk _ _ 4 _ _ _ A⟩
 have aE:Hid (w<G.heap.size/\Ii G w 3 (.slice p3 0 k3)):=Qq ⟨Z8 A,Qk _ _ 3 _ _ _ A⟩
 have N:=Qq T
 clear A T
 go_loopw [5] (λi wr=>i=.int .i64 0/\G=wr) (λ_ _=>0)
 case atStart=>exact ⟨rfl,rfl⟩
 obtain ⟨rfl,rfl⟩:=hrel
 have c4:=I.o.2
 have c3:=aE.o.2
 go_wp2_with fail
 clear c3 c4
 go_loopw [6] (λi wr=>∃ k:Nat,k<=m/\i=.int .i64 k/\Aside (Below G G wr)) (λi _=>m - (intOf i).toNat)
 case atStart=>exact ⟨0,Q8 _,rfl,Qz _ _⟩
 obtain ⟨k,M,rfl,O⟩:=hrel
 have D:=Qq (show Below G G wr from O)
 have c4:=(D.o.cell (p:=⟨w,4,none⟩) I.o.1).trans I.o.2
 clear O
 by_cases hlt:k<m
 ·have aK:(0:Int)<=(k:Int):=Ia
  have aL:(k:Int)<(m:Int):=Ia
  obtain ⟨y,hy⟩:∃ y,ks[k]?=some y:=⟨_,Qx (by rw [HM.o];exact hlt)⟩
  obtain ⟨b,aN,q3,l3,q4,l4,rfl,aJ,Y,d0,d1,d2,d3,d4⟩:=(aC.o.below (N.o.n D.o)).val hy
  have aD:=Qq Y;have aB:=Qq (HI.o y (Qy hy))
  clear Y hy
  go_wp2_with (go_at_call 92;refine (aB.o _ _ _ aD.o).mono ?_;rintro e w5 ⟨rfl,U⟩;have aA:=Qq U;clear U)
  go_roundw
  case measure=>simp [intOf];omega
  case rel=>exact ⟨k+1,Ia,by go_num,D.o.n aA.o⟩
 have aF:k=m:=Ia
 subst aF
 go_wp2_with fail
 go_ret
 exact ⟨rfl,N.o.n D.o⟩
theorem Oi (ks:List Val) (hks:ks=[]) (ih:∀ x ∈ ks,Xr x):Xr (.mk 2 0 [] [] ks):=by
 intro S cs w h
 obtain ⟨p3,k3,p4,k4,V,hn,M,_⟩:=Z9.cells h
 simp only [Il,Val.kind,Val.n,Val.s,Val.names,Val.kids,List.length_nil] at V hn M
 subst V
 obtain ⟨_,_,_,aH⟩:=M.len
 have HI:=Qq ih
 obtain ⟨m,Z⟩:=eX (ks.length)
 rw [Z] at M aH |-
 have aC:=Qq M;have HM:=Qq Z
 have mixed:prog.follows .mixedOrders=true:=Ir
 have aG:m=0:=by rw [<- Z,hks];rfl
 have aM:decide (0<m)=false:=by simp;omega
 clear Z hn hks aG
 clear h M ih
 go_enter func92,ntmps92
 go_wp2_with fail
 generalize J:w.alloc _=G
 have T:=Iq J (Zg _ _)
 have A:=Ik (b:=w.heap.size) J (Qw _ _)
 clear J
 have I:Hid (w<G.heap.size/\Ii G w 4 (.slice p4 m k4)):=Qq ⟨Z8 A,Qk _ _ 4 _ _ _ A⟩
 have aE:Hid (w<G.heap.size/\Ii G w 3 (.slice p3 0 k3)):=Qq ⟨Z8 A,Qk _ _ 3 _ _ _ A⟩
 have N:=Qq T
 clear A T
 go_loopw [5] (λi wr=>i=.int .i64 0/\G=wr) (λ_ _=>0)
 case atStart=>exact ⟨rfl,rfl⟩
 obtain ⟨rfl,rfl⟩:=hrel
 have c4:=I.o.2
 have c3:=aE.o.2
 go_wp2_with fail
 clear c3 c4
 go_loopw [6] (λi wr=>∃ k:Nat,k<=m/\i=.int .i64 k/\Aside (Below G G wr)) (λi _=>m - (intOf i).toNat)
 case atStart=>exact ⟨0,Q8 _,rfl,Qz _ _⟩
 obtain ⟨k,M,rfl,O⟩:=hrel
 have D:=Qq (show Below G G wr from O)
 have c4:=(D.o.cell (p:=⟨w,4,none⟩) I.o.1).trans I.o.2
 clear O
 by_cases hlt:k<m
 ·have aK:(0:Int)<=(k:Int):=Ia
  have aL:(k:Int)<(m:Int):=Ia
  obtain ⟨y,hy⟩:∃ y,ks[k]?=some y:=⟨_,Qx (by rw [HM.o];exact hlt)⟩
  obtain ⟨b,aN,q3,l3,q4,l4,rfl,aJ,Y,d0,d1,d2,d3,d4⟩:=(aC.o.below (N.o.n D.o)).val hy
  have aD:=Qq Y;have aB:=Qq (HI.o y (Qy hy))
  clear Y hy
  go_wp2_with (go_at_call 92;refine (aB.o _ _ _ aD.o).mono ?_;rintro e w5 ⟨rfl,U⟩;have aA:=Qq U;clear U)
  go_roundw
  case measure=>simp [intOf];omega
  case rel=>exact ⟨k+1,Ia,by go_num,D.o.n aA.o⟩
 have aF:k=m:=Ia
 subst aF
 go_wp2_with fail
 go_ret
 exact ⟨rfl,N.o.n D.o⟩
theorem Np (ks:List Val) (hks:ks=[]) (ih:∀ x ∈ ks,Xr x):Xr (.mk 2 1 [] [] ks):=by
 intro S cs w h
 obtain ⟨p3,k3,p4,k4,V,hn,M,_⟩:=Z9.cells h
 simp only [Il,Val.kind,Val.n,Val.s,Val.names,Val.kids,List.length_nil] at V hn M
 subst V
 obtain ⟨_,_,_,aH⟩:=M.len
 have HI:=Qq ih
 obtain ⟨m,Z⟩:=eX (ks.length)
 rw [Z] at M aH |-
 have aC:=Qq M;have HM:=Qq Z
 have mixed:prog.follows .mixedOrders=true:=Ir
 have aG:m=0:=by rw [<- Z,hks];rfl
 have aM:decide (0<m)=false:=by simp;omega
 clear Z hn hks aG
 clear h M ih
 go_enter func92,ntmps92
 go_wp2_with fail
 generalize J:w.alloc _=G
 have T:=Iq J (Zg _ _)
 have A:=Ik (b:=w.heap.size) J (Qw _ _)
 clear J
 have I:Hid (w<G.heap.size/\Ii G w 4 (.slice p4 m k4)):=Qq ⟨Z8 A,Qk _ _ 4 _ _ _ A⟩
 have aE:Hid (w<G.heap.size/\Ii G w 3 (.slice p3 0 k3)):=Qq ⟨Z8 A,Qk _ _ 3 _ _ _ A⟩
 have N:=Qq T
 clear A T
 go_loopw [5] (λi wr=>i=.int .i64 0/\G=wr) (λ_ _=>0)
 case atStart=>exact ⟨rfl,rfl⟩
 obtain ⟨rfl,rfl⟩:=hrel
 have c4:=I.o.2
 have c3:=aE.o.2
 go_wp2_with fail
 clear c3 c4
 go_loopw [6] (λi wr=>∃ k:Nat,k<=m/\i=.int .i64 k/\Aside (Below G G wr)) (λi _=>m - (intOf i).toNat)
 case atStart=>exact ⟨0,Q8 _,rfl,Qz _ _⟩
 obtain ⟨k,M,rfl,O⟩:=hrel
 have D:=Qq (show Below G G wr from O)
 have c4:=(D.o.cell (p:=⟨w,4,none⟩) I.o.1).trans I.o.2
 clear O
 by_cases hlt:k<m
 ·have aK:(0:Int)<=(k:Int):=Ia
  have aL:(k:Int)<(m:Int):=Ia
  obtain ⟨y,hy⟩:∃ y,ks[k]?=some y:=⟨_,Qx (by rw [HM.o];exact hlt)⟩
  obtain ⟨b,aN,q3,l3,q4,l4,rfl,aJ,Y,d0,d1,d2,d3,d4⟩:=(aC.o.below (N.o.n D.o)).val hy
  have aD:=Qq Y;have aB:=Qq (HI.o y (Qy hy))
  clear Y hy
  go_wp2_with (go_at_call 92;refine (aB.o _ _ _ aD.o).mono ?_;rintro e w5 ⟨rfl,U⟩;have aA:=Qq U;clear U)
  go_roundw
  case measure=>simp [intOf];omega
  case rel=>exact ⟨k+1,Ia,by go_num,D.o.n aA.o⟩
 have aF:k=m:=Ia
 subst aF
 go_wp2_with fail
 go_ret
 exact ⟨rfl,N.o.n D.o⟩
theorem Pd (ks:List Val) (ih:∀ x ∈ ks,Xr x):Xr (.mk 5 0 [] [] ks):=by
 intro S cs w h
 obtain ⟨p3,k3,p4,k4,V,hn,M,_⟩:=Z9.cells h
 simp only [Il,Val.kind,Val.n,Val.s,Val.names,Val.kids,List.length_nil] at V hn M
 subst V
 obtain ⟨_,_,_,aG⟩:=M.len
 have HI:=Qq ih
 obtain ⟨m,hm⟩:=eX (ks.length)
 rw [hm] at M aG |-
 have aB:=Qq M;have HM:=Qq hm
 have mixed:prog.follows .mixedOrders=true:=Ir
 clear hm hn
 clear h M ih
 go_enter func92,ntmps92
 go_wp2_with fail
 generalize J:w.alloc _=G
 have T:=Iq J (Zg _ _)
 have A:=Ik (b:=w.heap.size) J (Qw _ _)
 clear J
 have I:Hid (w<G.heap.size/\Ii G w 4 (.slice p4 m k4)):=Qq ⟨Z8 A,Qk _ _ 4 _ _ _ A⟩
 have aD:Hid (w<G.heap.size/\Ii G w 3 (.slice p3 0 k3)):=Qq ⟨Z8 A,Qk _ _ 3 _ _ _ A⟩
 have N:=Qq T
 clear A T
 go_loopw [5] (λi wr=>i=.int .i64 0/\G=wr) (λ_ _=>0)
 case atStart=>exact ⟨rfl,rfl⟩
 obtain ⟨rfl,rfl⟩:=hrel
 have c4:=I.o.2
 have c3:=aD.o.2
 go_wp2_with fail
 clear c3 c4
 go_loopw [6] (λi wr=>∃ k:Nat,k<=m/\i=.int .i64 k/\Aside (Below G G wr)) (λi _=>m - (intOf i).toNat)
 case atStart=>exact ⟨0,Q8 _,rfl,Qz _ _⟩
 obtain ⟨k,M,rfl,O⟩:=hrel
 have D:=Qq (show Below G G wr from O)
 have c4:=(D.o.cell (p:=⟨w,4,none⟩) I.o.1).trans I.o.2
 clear O
 by_cases hlt:k<m
 ·have aJ:(0:Int)<=(k:Int):=Ia
  have aK:(k:Int)<(m:Int):=Ia
  obtain ⟨y,hy⟩:∃ y,ks[k]?=some y:=⟨_,Qx (by rw [HM.o];exact hlt)⟩
  obtain ⟨b,aL,q3,l3,q4,l4,rfl,aI,Y,d0,d1,d2,d3,d4⟩:=(aB.o.below (N.o.n D.o)).val hy
  have aC:=Qq Y;have aA:=Qq (HI.o y (Qy hy))
  clear Y hy
  go_wp2_with (go_at_call 92;refine (aA.o _ _ _ aC.o).mono ?_;rintro e w5 ⟨rfl,U⟩;have Z:=Qq U;clear U)
  go_roundw
  case measure=>simp [intOf];omega
  case rel=>exact ⟨k+1,Ia,by go_num,D.o.n Z.o⟩
 have aE:k=m:=Ia
 subst aE
 go_wp2_with fail
 go_ret
 exact ⟨rfl,N.o.n D.o⟩
theorem Pc (sx:Bs) (hsx:Eu sx) (ks:List Val) (hl:ks.length<=1) (ih:∀ x ∈ ks,Xr x):Xr (.mk 3 0 sx [] ks):=by
 intro S cs w h
 obtain ⟨p3,k3,p4,k4,V,hn,M,_⟩:=Z9.cells h
 simp only [Il,Val.kind,Val.n,Val.s,Val.names,Val.kids,List.length_nil] at V hn M
 subst V
 obtain ⟨_,_,_,aI⟩:=M.len
 have HI:=Qq ih
 obtain ⟨m,hm⟩:=eX (ks.length)
 rw [hm] at M aI |-
 have aC:=Qq M;have HM:=Qq hm
 have mixed:prog.follows .mixedOrders=true:=Ir
 have aN:m<=1:=Ia
 have aO:decide (1<m)=false:=by simp;omega
 have HF:=Qq (λW=>Qqg sx hsx W)
 unfold sv at HF
 clear hm hn hsx hl
 clear h M ih
 go_enter func92,ntmps92
 go_wp2_with fail
 refine (HF.o _).mono ?_
 rintro e D ⟨rfl,J⟩
 have A:D.heap[w.heap.size]?=some (.cells #[.int .i64 3,Ic,sx,.slice p3 0 k3,.slice p4 m k4] 36 (0,0)):=kE J Ib (Qw _ _)
 have T:=(Zg w _).n J
 clear J
 obtain ⟨c0,c1,c2,c3,Z⟩:=If A
 go_wp2_with fail
 clear c0 c1 c2 c3 Z
 have I:Hid (w<D.heap.size/\Ii D w 4 (.slice p4 m k4)):=Qq ⟨Z8 A,Qk _ _ 4 _ _ _ A⟩
 have aE:Hid (w<D.heap.size/\Ii D w 3 (.slice p3 0 k3)):=Qq ⟨Z8 A,Qk _ _ 3 _ _ _ A⟩
 have N:=Qq T
 clear A T
 go_loopw [5] (λi wr=>i=.int .i64 0/\D=wr) (λ_ _=>0)
 case atStart=>exact ⟨rfl,rfl⟩
 obtain ⟨rfl,rfl⟩:=hrel
 have Z:=I.o.2
 have c3:=aE.o.2
 go_wp2_with fail
 clear c3 Z
 go_loopw [6] (λi wr=>∃ k:Nat,k<=m/\i=.int .i64 k/\Aside (Below D D wr)) (λi _=>m - (intOf i).toNat)
 case atStart=>exact ⟨0,Q8 _,rfl,Qz _ _⟩
 obtain ⟨k,M,rfl,O⟩:=hrel
 have G:=Qq (show Below D D wr from O)
 have Z:=(G.o.cell (p:=⟨w,4,none⟩) I.o.1).trans I.o.2
 clear O
 by_cases hlt:k<m
 ·have aL:(0:Int)<=(k:Int):=Ia
  have aM:(k:Int)<(m:Int):=Ia
  obtain ⟨y,hy⟩:∃ y,ks[k]?=some y:=⟨_,Qx (by rw [HM.o];exact hlt)⟩
  obtain ⟨b,aP,q3,l3,q4,l4,rfl,aK,Y,d0,d1,d2,d3,d4⟩:=(aC.o.below (N.o.n G.o)).val hy
  have aD:=Qq Y;have aB:=Qq (HI.o y (Qy hy))
  clear Y hy
  go_wp2_with (go_at_call 92;refine (aB.o _ _ _ aD.o).mono ?_;rintro e w5 ⟨rfl,U⟩;have aA:=Qq U;clear U)
  go_roundw
  case measure=>simp [intOf];omega
  case rel=>exact ⟨k+1,Ia,by go_num,G.o.n aA.o⟩
 have aG:k=m:=Ia
 subst aG
 go_wp2_with fail
 go_ret
 exact ⟨rfl,N.o.n G.o⟩
end Go.Proofs.YtdpibdpbgokmoaaGreatDoor
