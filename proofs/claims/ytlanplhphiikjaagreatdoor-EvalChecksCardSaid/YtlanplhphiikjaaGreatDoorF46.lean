import Derived.Test.YtlanplhphiikjaaGreatDoorF45
import Derived.Test.YtlanplhphiikjaaGreatDoorF42
import Derived.Test.YtlanplhphiikjaaGreatDoorF44
import Derived.Test.YtlanplhphiikjaaGreatDoorF40
set_option maxRecDepth 100000
set_option maxHeartbeats 400000000
namespace Go.Proofs.YtlanplhphiikjaaGreatDoor
open Go.RowKit Go.Shelf Go.Lib Tryz
theorem Gb {W W':World} {R:Nat} {a0 a1 a2 a3 a4 a5 a6 a7 a8 a9 a10 a11 a12 z0 z1 z2 z3 z4 z5 z6 z7 z8 z9 z10 z11 z12:Value} {t:TypeId} (h:W.heap[R]?=some (.cells #[z0,z1,z2,z3,z4,z5,z6,z7,z8,z9,z10,z11,z12] t (0,0))) (hW:(((((((((((((W.setCell ⟨R,0,none⟩ a0).setCell ⟨R,1,none⟩ a1).setCell ⟨R,2,none⟩ a2).setCell ⟨R,3,none⟩ a3).setCell ⟨R,4,none⟩ a4).setCell ⟨R,5,none⟩ a5).setCell ⟨R,6,none⟩ a6).setCell ⟨R,7,none⟩ a7).setCell ⟨R,8,none⟩ a8).setCell ⟨R,9,none⟩ a9).setCell ⟨R,10,none⟩ a10).setCell ⟨R,11,none⟩ a11).setCell ⟨R,12,none⟩ a12)=W'):
  W'.heap[R]?=some (.cells #[a0,a1,a2,a3,a4,a5,a6,a7,a8,a9,a10,a11,a12] t (0,0))/\(∀ B,B<=R->Below B W W')/\∀ b,b≠R->W'.heap[b]?=W.heap[b]?:=by
 subst hW
 have h1:(W.setCell ⟨R,0,none⟩ a0).heap[R]?=some (.cells #[a0,z1,z2,z3,z4,z5,z6,z7,z8,z9,z10,z11,z12] t (0,0)):=by rw [Qd _ _ _ _ _ _ h];rfl
 have h2:((W.setCell ⟨R,0,none⟩ a0).setCell ⟨R,1,none⟩ a1).heap[R]?=some (.cells #[a0,a1,z2,z3,z4,z5,z6,z7,z8,z9,z10,z11,z12] t (0,0)):=by rw [Qd _ _ _ _ _ _ h1];rfl
 have h3:(((W.setCell ⟨R,0,none⟩ a0).setCell ⟨R,1,none⟩ a1).setCell ⟨R,2,none⟩ a2).heap[R]?=some (.cells #[a0,a1,a2,z3,z4,z5,z6,z7,z8,z9,z10,z11,z12] t (0,0)):=by rw [Qd _ _ _ _ _ _ h2];rfl
 have h4:((((W.setCell ⟨R,0,none⟩ a0).setCell ⟨R,1,none⟩ a1).setCell ⟨R,2,none⟩ a2).setCell ⟨R,3,none⟩ a3).heap[R]?=some (.cells #[a0,a1,a2,a3,z4,z5,z6,z7,z8,z9,z10,z11,z12] t (0,0)):=by rw [Qd _ _ _ _ _ _ h3];rfl
 have h5:(((((W.setCell ⟨R,0,none⟩ a0).setCell ⟨R,1,none⟩ a1).setCell ⟨R,2,none⟩ a2).setCell ⟨R,3,none⟩ a3).setCell ⟨R,4,none⟩ a4).heap[R]?=some (.cells #[a0,a1,a2,a3,a4,z5,z6,z7,z8,z9,z10,z11,z12] t (0,0)):=by rw [Qd _ _ _ _ _ _ h4];rfl
 have h6:((((((W.setCell ⟨R,0,none⟩ a0).setCell ⟨R,1,none⟩ a1).setCell ⟨R,2,none⟩ a2).setCell ⟨R,3,none⟩ a3).setCell ⟨R,4,none⟩ a4).setCell ⟨R,5,none⟩ a5).heap[R]?=some (.cells #[a0,a1,a2,a3,a4,a5,z6,z7,z8,z9,z10,z11,z12] t (0,0)):=by rw [Qd _ _ _ _ _ _ h5];rfl
 have h7:(((((((W.setCell ⟨R,0,none⟩ a0).setCell ⟨R,1,none⟩ a1).setCell ⟨R,2,none⟩ a2).setCell ⟨R,3,none⟩ a3).setCell ⟨R,4,none⟩ a4).setCell ⟨R,5,none⟩ a5).setCell ⟨R,6,none⟩ a6).heap[R]?=some (.cells #[a0,a1,a2,a3,a4,a5,a6,z7,z8,z9,z10,z11,z12] t (0,0)):=by rw [Qd _ _ _ _ _ _ h6];rfl
 have h8:((((((((W.setCell ⟨R,0,none⟩ a0).setCell ⟨R,1,none⟩ a1).setCell ⟨R,2,none⟩ a2).setCell ⟨R,3,none⟩ a3).setCell ⟨R,4,none⟩ a4).setCell ⟨R,5,none⟩ a5).setCell ⟨R,6,none⟩ a6).setCell ⟨R,7,none⟩ a7).heap[R]?=some (.cells #[a0,a1,a2,a3,a4,a5,a6,a7,z8,z9,z10,z11,z12] t (0,0)):=by rw [Qd _ _ _ _ _ _ h7];rfl
 have h9:(((((((((W.setCell ⟨R,0,none⟩ a0).setCell ⟨R,1,none⟩ a1).setCell ⟨R,2,none⟩ a2).setCell ⟨R,3,none⟩ a3).setCell ⟨R,4,none⟩ a4).setCell ⟨R,5,none⟩ a5).setCell ⟨R,6,none⟩ a6).setCell ⟨R,7,none⟩ a7).setCell ⟨R,8,none⟩ a8).heap[R]?=some (.cells #[a0,a1,a2,a3,a4,a5,a6,a7,a8,z9,z10,z11,z12] t (0,0)):=by rw [Qd _ _ _ _ _ _ h8];rfl
 have G:((((((((((W.setCell ⟨R,0,none⟩ a0).setCell ⟨R,1,none⟩ a1).setCell ⟨R,2,none⟩ a2).setCell ⟨R,3,none⟩ a3).setCell ⟨R,4,none⟩ a4).setCell ⟨R,5,none⟩ a5).setCell ⟨R,6,none⟩ a6).setCell ⟨R,7,none⟩ a7).setCell ⟨R,8,none⟩ a8).setCell ⟨R,9,none⟩ a9).heap[R]?=some (.cells #[a0,a1,a2,a3,a4,a5,a6,a7,a8,a9,z10,z11,z12] t (0,0)):=by rw [Qd _ _ _ _ _ _ h9];rfl
 have I:(((((((((((W.setCell ⟨R,0,none⟩ a0).setCell ⟨R,1,none⟩ a1).setCell ⟨R,2,none⟩ a2).setCell ⟨R,3,none⟩ a3).setCell ⟨R,4,none⟩ a4).setCell ⟨R,5,none⟩ a5).setCell ⟨R,6,none⟩ a6).setCell ⟨R,7,none⟩ a7).setCell ⟨R,8,none⟩ a8).setCell ⟨R,9,none⟩ a9).setCell ⟨R,10,none⟩ a10).heap[R]?=some (.cells #[a0,a1,a2,a3,a4,a5,a6,a7,a8,a9,a10,z11,z12] t (0,0)):=by rw [Qd _ _ _ _ _ _ G];rfl
 have J:((((((((((((W.setCell ⟨R,0,none⟩ a0).setCell ⟨R,1,none⟩ a1).setCell ⟨R,2,none⟩ a2).setCell ⟨R,3,none⟩ a3).setCell ⟨R,4,none⟩ a4).setCell ⟨R,5,none⟩ a5).setCell ⟨R,6,none⟩ a6).setCell ⟨R,7,none⟩ a7).setCell ⟨R,8,none⟩ a8).setCell ⟨R,9,none⟩ a9).setCell ⟨R,10,none⟩ a10).setCell ⟨R,11,none⟩ a11).heap[R]?=some (.cells #[a0,a1,a2,a3,a4,a5,a6,a7,a8,a9,a10,a11,z12] t (0,0)):=by rw [Qd _ _ _ _ _ _ I];rfl
 have L:(((((((((((((W.setCell ⟨R,0,none⟩ a0).setCell ⟨R,1,none⟩ a1).setCell ⟨R,2,none⟩ a2).setCell ⟨R,3,none⟩ a3).setCell ⟨R,4,none⟩ a4).setCell ⟨R,5,none⟩ a5).setCell ⟨R,6,none⟩ a6).setCell ⟨R,7,none⟩ a7).setCell ⟨R,8,none⟩ a8).setCell ⟨R,9,none⟩ a9).setCell ⟨R,10,none⟩ a10).setCell ⟨R,11,none⟩ a11).setCell ⟨R,12,none⟩ a12).heap[R]?=some (.cells #[a0,a1,a2,a3,a4,a5,a6,a7,a8,a9,a10,a11,a12] t (0,0)):=by rw [Qd _ _ _ _ _ _ J];rfl
 exact ⟨L,fun B D=>((((((((((((((Qz B W).setCell (p:=⟨R,0,none⟩) D _).setCell (p:=⟨R,1,none⟩) D _).setCell (p:=⟨R,2,none⟩) D _).setCell (p:=⟨R,3,none⟩) D _).setCell (p:=⟨R,4,none⟩) D _).setCell (p:=⟨R,5,none⟩) D _).setCell (p:=⟨R,6,none⟩) D _).setCell (p:=⟨R,7,none⟩) D _).setCell (p:=⟨R,8,none⟩) D _).setCell (p:=⟨R,9,none⟩) D _).setCell (p:=⟨R,10,none⟩) D _).setCell (p:=⟨R,11,none⟩) D _).setCell (p:=⟨R,12,none⟩) D _),fun b hb=>by rw [Z4 hb,Z4 hb,Z4 hb,Z4 hb,Z4 hb,Z4 hb,Z4 hb,Z4 hb,Z4 hb,Z4 hb,Z4 hb,Z4 hb,Z4 hb]⟩
theorem F6 {W W':World} {R:Nat} {a0 a1 a2 a3 a4 z0 z1 z2 z3 z4:Value} {t:TypeId} (h:W.heap[R]?=some (.cells #[z0,z1,z2,z3,z4] t (0,0))) (hW:(((((W.setCell ⟨R,0,none⟩ a0).setCell ⟨R,1,none⟩ a1).setCell ⟨R,2,none⟩ a2).setCell ⟨R,3,none⟩ a3).setCell ⟨R,4,none⟩ a4)=W'):
  W'.heap[R]?=some (.cells #[a0,a1,a2,a3,a4] t (0,0))/\(∀ B,B<=R->Below B W W')/\∀ b,b≠R->W'.heap[b]?=W.heap[b]?:=by
 subst hW
 have h1:(W.setCell ⟨R,0,none⟩ a0).heap[R]?=some (.cells #[a0,z1,z2,z3,z4] t (0,0)):=by rw [Qd _ _ _ _ _ _ h];rfl
 have h2:((W.setCell ⟨R,0,none⟩ a0).setCell ⟨R,1,none⟩ a1).heap[R]?=some (.cells #[a0,a1,z2,z3,z4] t (0,0)):=by rw [Qd _ _ _ _ _ _ h1];rfl
 have h3:(((W.setCell ⟨R,0,none⟩ a0).setCell ⟨R,1,none⟩ a1).setCell ⟨R,2,none⟩ a2).heap[R]?=some (.cells #[a0,a1,a2,z3,z4] t (0,0)):=by rw [Qd _ _ _ _ _ _ h2];rfl
 have h4:((((W.setCell ⟨R,0,none⟩ a0).setCell ⟨R,1,none⟩ a1).setCell ⟨R,2,none⟩ a2).setCell ⟨R,3,none⟩ a3).heap[R]?=some (.cells #[a0,a1,a2,a3,z4] t (0,0)):=by rw [Qd _ _ _ _ _ _ h3];rfl
 have h5:(((((W.setCell ⟨R,0,none⟩ a0).setCell ⟨R,1,none⟩ a1).setCell ⟨R,2,none⟩ a2).setCell ⟨R,3,none⟩ a3).setCell ⟨R,4,none⟩ a4).heap[R]?=some (.cells #[a0,a1,a2,a3,a4] t (0,0)):=by rw [Qd _ _ _ _ _ _ h4];rfl
 exact ⟨h5,fun B D=>((((((Qz B W).setCell (p:=⟨R,0,none⟩) D _).setCell (p:=⟨R,1,none⟩) D _).setCell (p:=⟨R,2,none⟩) D _).setCell (p:=⟨R,3,none⟩) D _).setCell (p:=⟨R,4,none⟩) D _),fun b hb=>by rw [Z4 hb,Z4 hb,Z4 hb,Z4 hb,Z4 hb]⟩
theorem Jf (ns:List Bs) (kids:List Val) (p3:Option Addr) (k3:Nat) (p4:Option Addr) (k4:Nat):vcs (.mk 4 0 [] ns kids) p3 k3 p4 k4=[.int .i64 4,.int .i64 0,.string ⟨#[]⟩,.slice p3 ns.length k3,.slice p4 kids.length k4]:=rfl
theorem small15 {t:Tbl} (h:Uy t):(Ym t.columns).1.length<=4/\1<=(Ym t.columns).1.length/\(Ym t.columns).2.length=(Ym t.columns).1.length/\∀ y ∈ (Ym t.columns).2,Hw y:=by
 obtain ⟨G,h2,h3⟩:=Xc _ t.columns rfl
 refine ⟨?_,?_,by rw [G,h2],fun y hy=>?_⟩
 ·rw [G]
  rcases h with ⟨a,b,rfl⟩ | ⟨a,r,c,rfl⟩ | ⟨r,k,rfl⟩
  ·cases b <;> simp [G15.place]
  ·simp [G15.item]
  simp [G15.shop]
 ·rw [G]
  rcases h with ⟨a,b,rfl⟩ | ⟨a,r,c,rfl⟩ | ⟨r,k,rfl⟩
  ·cases b <;> simp [G15.place]
  ·simp [G15.item]
  simp [G15.shop]
 obtain ⟨c,D,rfl⟩:=h3 y hy
 unfold Hw
 rcases h with ⟨a,b,rfl⟩ | ⟨a,r,k,rfl⟩ | ⟨r,k,rfl⟩
 ·cases a <;> cases b <;> simp [G15.place,G15.idT] at D <;> rcases D with rfl | rfl | rfl | rfl <;> simp [Gen.whole,Gen.text,Gen.yesno]
 ·cases a <;> simp [G15.item,G15.idT] at D <;> rcases D with rfl | rfl | rfl | rfl <;> simp [Gen.whole,Gen.text,Gen.yesno]
 simp [G15.shop] at D
 rcases D with rfl | rfl | rfl <;> simp
theorem Fc (S0 S1:Nat->Prop) (v0 v1:Value) (l m:List Int) (which v:Int) (w:World) (hs0:Xh S0 w v0 l) (hs1:Xh S1 w v1 m) (hi0:Ke l) (hi1:Ke m) (hw1:-9223372036854775808<=which) (hw2:which<=9223372036854775807) (hv1:-9223372036854775808<=v) (hv2:v<=9223372036854775807) (hkw:X7 w):
  Calls prog 4 #[v0,v1,which,v] w (fun e w'=>e=.returned (.bool true)/\Below w w w'):=by
 have gT:=Qq (Bi S0 v0 l w hs0 hi0)
 have nB:=Qq (fun W (hb:Below w w W)=>hs1.below hb)
 have jS:=Qq (fun (n:Nat) (iZ:1<=n) (lS:n<=100) W=>Jb which n W hw1 hw2 Oa Oa)
 have jT:=Qq (fun (n:Nat) (iZ:1<=n) (lS:n<=100) W=>Jb v n W hv1 hv2 Oa Oa)
 have nF:=Qq hkw;have iF:=Qq hi1
 clear hs0 hi0 hkw hs1 hi1
 go_enter func4,ntmps4
 go_upto_region 2 with (go_at_call 20;refine gT.out.mono ?_;rintro e w1 ⟨ts,sv,tv,rfl,⟨uv,qJ,he,hu,jH⟩,dS,lT,lQ,N⟩;simp only [List.cons.injEq,and_true] at he;obtain ⟨rfl,rfl⟩:=he;obtain ⟨tp,tc,lZ,_⟩:=jH.len;obtain ⟨n,hn⟩:=eX (ts.length);rw [show (⟨G15.sums,ts⟩:Sc).tables=ts from rfl,hn] at lZ;subst lZ;obtain ⟨sp,sc,oF,_⟩:=hu.len;obtain rfl:sv=.slice sp 2 sc:=oF;obtain ⟨kV,kN,hV,HN,gQ⟩:=Pw hu jH dS hn N;have iZ:1<=n:=(by rw [<- hn];exact List.length_pos_iff.2 lT);have lS:n<=3:=(by rw [<- hn];exact lQ);clear hu jH dS hn N lT lQ)
 clear gT
 generalize aD:World.alloc w1 _=W2
 have dA:=Zp aD
 have ha:=Y5 aD
 obtain ⟨jW,fX,kX,kR⟩:=Py (hV.out.thn dA) ha (kV.out.below dA) (kN.out.below dA)
 have fE:=Z3 ha
 clear dA ha aD kV kN
 obtain ⟨A,hA⟩:=eX (w1.heap.size)
 rw [hA] at fX fE |-
 have qF:w.heap.size<=A:=by rw [<- hA];exact hV.out.size
 clear hA hV
 have eV:=Uq which n Oa
 obtain ⟨j,hj⟩:∃ j:Nat,Yu which n=j:=⟨(Yu which n).toNat,Oa⟩
 rw [hj] at eV
 have lO:j<n:=Oa
 have dB:=Qq (jS.out n iZ Oa)
 rw [hj] at dB
 clear jS hj eV
 obtain ⟨t,jF⟩:∃ t,ts[j]?=some t:=⟨_,Qx (by rw [HN.out];exact lO)⟩
 have dM:=Qq (gQ.out t (Qy jF))
 obtain ⟨tb,fQ,pO,oG,mB,_,_,jG,aQ⟩:=kR.out.elem jF
 obtain rfl:tp=some ⟨tb,fQ,none⟩:=oG
 obtain ⟨bD,bC,bK,bJ,dW,dV,k9,bT,n9,bU,bP,bM,aZ,bQ,bN,bA,bR,bO,bB,a9,z9,lL,_⟩:=Zr jG
 simp only [tcs] at lL
 subst lL
 have kT:=Qq jG
 have e0:=aQ 0 _ rfl;have e1:=aQ 1 _ rfl;have e2:=aQ 2 _ rfl;have e3:=aQ 3 _ rfl;have e4:=aQ 4 _ rfl;have e5:=aQ 5 _ rfl;have e6:=aQ 6 _ rfl;have e7:=aQ 7 _ rfl;have e8:=aQ 8 _ rfl;have e9:=aQ 9 _ rfl;have Z:=aQ 10 _ rfl;have aA:=aQ 11 _ rfl;have aB:=aQ 12 _ rfl
 simp only [show Zg.k=13 from rfl,Nat.add_zero] at e0 e1 e2 e3 e4 e5 e6 e7 e8 e9 Z aA aB
 clear jG aQ jF gQ HN kR
 have oA:(0:Int)<=(j:Int):=Oa
 have oB:(j:Int)<(n:Int):=Oa
 have gP:=fX.out
 obtain ⟨a0,a1⟩:=row2 gP
 clear gP
 have HD:=Qq (fun (W:World) (h:Below W2 W2 W)=>(show Oi W A 1 (Ol tb fQ n tc)/\Pl W tb (fQ+j*13) t.name (.slice bD t.columns.length bC) (.slice bK t.key.length bJ) (.slice dW t.refs.length dV) k9 (.string bT) n9 (.string bU) (.slice bP bM aZ) (.slice bQ bN bA) (.slice bR bO bB) a9 z9 from ⟨kC h a1,kC h e0,kC h e1,kC h e2,kC h e3,kC h e4,kC h e5,kC h e6,kC h e7,kC h e8,kC h e9,kC h Z,kC h aA,kC h aB⟩))
 clear a0 a1 e0 e1 e2 e3 e4 e5 e6 e7 e8 e9 Z aA aB
 go_cut [10] from 17 to 25 (fun oQ wx=>∃ G,oQ=.pointer (some ⟨G,0,none⟩)/\wx.heap[G]?=some (.cells (Pj t bD bC bK bJ dW dV k9 bT n9 bU bP bM aZ bQ bN bA bR bO bB a9 z9) 61 (0,0))/\Below W2 W2 wx/\W2.heap.size<=G)
 case first=>
  have HS:=Qq (show Below W2 W2 W2.drew from (Qz _ _).drew)
  refine wp_region_held_drew (S:=(fun (W:World)=>Below W2 W2 W)) Og HS.out (fun D=>?_)
  refine tkD (v:=?_) 0 (fun Y I=>?_) ?_;rotate_left
  ·(obtain ⟨a1,e0,e1,e2,e3,e4,e5,e6,e7,e8,e9,Z,aA,aB⟩:=HD.out Y I;go_simp;try with_reducible rfl)
  refine tkD (v:=?_) 1 (fun Y I=>?_) ?_;rotate_left
  ·(obtain ⟨a1,e0,e1,e2,e3,e4,e5,e6,e7,e8,e9,Z,aA,aB⟩:=HD.out Y I;go_simp;try with_reducible rfl)
  refine tkD (v:=?_) 2 (fun Y I=>?_) ?_;rotate_left
  ·(obtain ⟨a1,e0,e1,e2,e3,e4,e5,e6,e7,e8,e9,Z,aA,aB⟩:=HD.out Y I;go_simp;try with_reducible rfl)
  refine tkD (v:=?_) 3 (fun Y I=>?_) ?_;rotate_left
  ·(obtain ⟨a1,e0,e1,e2,e3,e4,e5,e6,e7,e8,e9,Z,aA,aB⟩:=HD.out Y I;go_simp;try with_reducible rfl)
  refine tkD (v:=?_) 4 (fun Y I=>?_) ?_;rotate_left
  ·(obtain ⟨a1,e0,e1,e2,e3,e4,e5,e6,e7,e8,e9,Z,aA,aB⟩:=HD.out Y I;go_simp;try with_reducible rfl)
  refine tkD (v:=?_) 5 (fun Y I=>?_) ?_;rotate_left
  ·(obtain ⟨a1,e0,e1,e2,e3,e4,e5,e6,e7,e8,e9,Z,aA,aB⟩:=HD.out Y I;go_simp;try with_reducible rfl)
  generalize W2.drew=wd at D HS |-
  refine rsD [6,9] ?_
  refine rcD (fun K M=>?_) ?_
  ·skip
   go_simp
   refine (dB.out _).mono ?_
   rintro e w' ⟨rfl,rfl⟩
   try dsimp only
   refine M.out _ _ HS.out (fun D=>?_)
   clear M K
   refine tkD (v:=?_) 7 (fun Y I=>?_) ?_;rotate_left
   ·(obtain ⟨a1,e0,e1,e2,e3,e4,e5,e6,e7,e8,e9,Z,aA,aB⟩:=HD.out Y I;go_simp;try with_reducible rfl)
   refine tkD (v:=?_) 8 (fun Y I=>?_) ?_;rotate_left
   ·(obtain ⟨a1,e0,e1,e2,e3,e4,e5,e6,e7,e8,e9,Z,aA,aB⟩:=HD.out Y I;go_simp;try with_reducible rfl)
   refine rdD 9 (fun K M=>?_) Qh
   go_simp
   generalize aC:World.alloc wd _=we
   have aF:=Zp aC
   have J:=Y5 aC
   have dO:=Qq (HS.out.thn aF)
   have dT:=Z3 J
   have aP:W2.heap.size<=wd.heap.size:=HS.out.size
   have aY:=Qq J
   clear aF aC J
   try dsimp only
   refine M.out _ _ dO.out (fun D=>?_)
   clear M K
   have J:=aY.out
   obtain ⟨f0,f1,f2,f3,f4,f5,f6,f7,f8,f9,iO,iP,iQ⟩:=frz13 J
   obtain ⟨y0,y1,y2,y3,y4,y5,y6,y7,y8,y9,jI,jJ,jK⟩:=row13 J
   clear J
   refine rdD 10 (fun K M=>?_) Qh
   go_simp
   generalize cO:World.setCell (World.setCell _ _ _) _ _=wf
   obtain ⟨hA,hB,_⟩:=Gb aY.out cO
   have aM:=dO.out.trans (hB _ aP)
   refine M.out _ _ aM (fun D=>?_)
   clear M K f0 f1 f2 f3 f4 f5 f6 f7 f8 f9 iO iP iQ y0 y1 y2 y3 y4 y5 y6 y7 y8 y9 jI jJ jK
   refine wpAnyH_done Og ?_ _
   go_wp2_with fail
   go_meet
   exact ⟨wd.heap.size,rfl,hA,aM,aP⟩
  refine rcD (fun K M=>?_) Qh
  go_simp
  generalize aC:World.alloc wd _=we
  have aF:=Zp aC
  have J:=Y5 aC
  have dO:=Qq (HS.out.thn aF)
  have dT:=Z3 J
  have aP:W2.heap.size<=wd.heap.size:=HS.out.size
  have aY:=Qq J
  clear aF aC J
  try dsimp only
  refine M.out _ _ dO.out (fun D=>?_)
  clear M K
  refine rdD 6 (fun K M=>?_) Qh
  go_simp
  refine (dB.out _).mono ?_
  rintro e w' ⟨rfl,rfl⟩
  try dsimp only
  refine M.out _ _ dO.out (fun D=>?_)
  clear M K
  refine tkD (v:=?_) 7 (fun Y I=>?_) ?_;rotate_left
  ·(obtain ⟨a1,e0,e1,e2,e3,e4,e5,e6,e7,e8,e9,Z,aA,aB⟩:=HD.out Y I;go_simp;try with_reducible rfl)
  refine tkD (v:=?_) 8 (fun Y I=>?_) ?_;rotate_left
  ·(obtain ⟨a1,e0,e1,e2,e3,e4,e5,e6,e7,e8,e9,Z,aA,aB⟩:=HD.out Y I;go_simp;try with_reducible rfl)
  have J:=aY.out
  obtain ⟨f0,f1,f2,f3,f4,f5,f6,f7,f8,f9,iO,iP,iQ⟩:=frz13 J
  obtain ⟨y0,y1,y2,y3,y4,y5,y6,y7,y8,y9,jI,jJ,jK⟩:=row13 J
  clear J
  refine rdD 10 (fun K M=>?_) Qh
  go_simp
  generalize cO:World.setCell (World.setCell _ _ _) _ _=wf
  obtain ⟨hA,hB,_⟩:=Gb aY.out cO
  have aM:=dO.out.trans (hB _ aP)
  refine M.out _ _ aM (fun D=>?_)
  clear M K f0 f1 f2 f3 f4 f5 f6 f7 f8 f9 iO iP iQ y0 y1 y2 y3 y4 y5 y6 y7 y8 y9 jI jJ jK
  refine wpAnyH_done Og ?_ _
  go_wp2_with fail
  go_meet
  exact ⟨wd.heap.size,rfl,hA,aM,aP⟩
 obtain ⟨G,rfl,hG,gJ,qC⟩:=hcut
 obtain ⟨wg,rfl⟩:∃ wg,wg=wc:=⟨_,rfl⟩
 have iS:Zg.R (fun b=>b<W2) wg (Pj t bD bC bK bJ dW dV k9 bT n9 bU bP bM aZ bQ bN bA bR bO bB a9 z9) t:=Zg.frame (Zg.mono kT.out (fun b hb _=>hb)) (.of_below gJ)
 obtain ⟨kS,HG,bV⟩:=Px iS hG gJ
 have nS:=Z3 hG
 have lE:=kE gJ fE fX.out
 obtain ⟨hs1,jD,dU,jE⟩:=small15 dM.out
 have nV:=(Bl dM.out).1
 have cQ:=Qq (fun W (hb:Below wg wg W)=>Nz (fun b=>b<W2) t (Pj t bD bC bK bJ dW dV k9 bT n9 bU bP bM aZ bQ bN bA bR bO bB a9 z9) W (Zg.frame iS (.of_below hb)) Oa)
 obtain ⟨ns,gK⟩:=eX ((Ym t.columns).1)
 obtain ⟨dX,dJ⟩:=eX ((Ym t.columns).2)
 unfold L8 at cQ
 rw [gK,dJ] at cQ
 rw [gK] at hs1 jD dU
 rw [dJ] at dU jE
 have dE:=Qq (fun W cs (hb:Below W2 W2 W) (h:Y6 (fun _=>True) W cs (.mk 5 [] 0 ns dX))=>rval_rec S1 (fun _=>True) (fun b=>w<=b) (.slice sp 2 sc) v1 m ns dX cs W (nB.out W (jW.out.thn hb)) iF.out (kX.out.below hb) h dU.symm hs1 jE)
 obtain ⟨T,jA⟩:=eX (ns.length)
 rw [jA] at hs1 jD dU
 obtain ⟨nG,kU,eH,gB⟩:=Py gK dJ jA dU
 have a0:=rA0 lE;have e0:=rA0 hG;have e1:=rA1 hG;have e2:=rA2 hG;have e3:=rA3 hG;have e4:=rA4 hG;have e5:=rA5 hG;have e6:=rA6 hG;have e7:=rA7 hG;have e8:=rA8 hG;have e9:=rA9 hG;have Z:=rA10 hG;have aA:=rA11 hG;have aB:=rA12 hG
 have eD:=Qq (fun (W:World) (h:Below wg wg W)=>(show Oi W A 0 (.slice sp 2 sc)/\Ph W G t.name (.slice bD t.columns.length bC) (.slice bK t.key.length bJ) (.slice dW t.refs.length dV) k9 (.string bT) n9 (.string bU) (.slice bP bM aZ) (.slice bQ bN bA) (.slice bR bO bB) a9 z9 from ⟨kC h a0,kC h e0,kC h e1,kC h e2,kC h e3,kC h e4,kC h e5,kC h e6,kC h e7,kC h e8,kC h e9,kC h Z,kC h aA,kC h aB⟩))
 clear a0 e0 e1 e2 e3 e4 e5 e6 e7 e8 e9 Z aA aB iS hG gJ lE gK dJ jA dU jE kT HD dB oA oB lO mB nV
 go_upto_region 3 with fail
 go_cut [11] from 26 to 31 (fun oR wx=>∃ (G2:Nat) (kids:List Val) (q3:Option Addr) (l3:Nat) (q4:Option Addr) (l4:Nat),oR=.pointer (some ⟨G2,0,none⟩)/\wx.heap[G2]?=some (.cells #[.int .i64 4,On,Oo,.slice q3 T l3,.slice q4 T l4] 48 (0,0))/\Aside (Vp dX kids/\Z5 (fun b=>wg<=b/\b≠G2) wx [.int .i64 4,On,Oo,.slice q3 T l3,.slice q4 T l4] (.mk 4 0 [] ns kids))/\Below wg wg wx/\wg<=G2)
 case first=>
  have HS:=Qq (show Below wg wg wg.drew from (Qz _ _).drew)
  refine wp_region_held_drew (S:=(fun (W:World)=>Below wg wg W)) Og HS.out (fun D=>?_)
  refine tkD (v:=?_) 0 (fun Y I=>?_) ?_;rotate_left
  ·(obtain ⟨a0,e0,e1,e2,e3,e4,e5,e6,e7,e8,e9,Z,aA,aB⟩:=eD.out Y I;go_simp;try with_reducible rfl)
  refine tkD (v:=?_) 1 (fun Y I=>?_) ?_;rotate_left
  ·(obtain ⟨a0,e0,e1,e2,e3,e4,e5,e6,e7,e8,e9,Z,aA,aB⟩:=eD.out Y I;go_simp;try with_reducible rfl)
  refine tkD (v:=?_) 2 (fun Y I=>?_) ?_;rotate_left
  ·(obtain ⟨a0,e0,e1,e2,e3,e4,e5,e6,e7,e8,e9,Z,aA,aB⟩:=eD.out Y I;go_simp;try with_reducible rfl)
  refine tkD (v:=?_) 4 (fun Y I=>?_) ?_;rotate_left
  ·(obtain ⟨a0,e0,e1,e2,e3,e4,e5,e6,e7,e8,e9,Z,aA,aB⟩:=eD.out Y I;go_simp;try with_reducible rfl)
  generalize wg.drew=wd at D HS |-
  refine rsD [3,6] ?_
  refine rcD (fun K M=>?_) ?_
  ·skip
   go_simp
   refine (cQ.out wd HS.out).mono ?_
   rintro e w5 ⟨p3,k3,p4,k4,rfl,fH,aW⟩
   have H5:=Qq (HS.out.thn aW)
   have gC:=Qq (show Y6 (fun _=>True) w5 [.int .i64 5,Oo,On,.slice p3 t.columns.length k3,.slice p4 t.columns.length k4] (.mk 5 [] 0 ns dX) from fH.move (.refl _ _) (fun _ _ _=>trivial))
   have mF:=aW.size
   have jY:=Qq aW
   clear fH aW
   try dsimp only
   refine M.out _ _ H5.out (fun D=>?_)
   clear M K
   refine rsD [5,6] ?_
   refine rcD (fun K M=>?_) ?_
   ·skip
    go_simp
    refine (dE.out w5 [.int .i64 5,Oo,On,.slice p3 t.columns.length k3,.slice p4 t.columns.length k4] (bV.out.trans (H5.out.mono bV.out.size)) (gC.out)).mono ?_
    rintro e w6 ⟨kids,q3,l3,q4,l4,rfl,N,hv,aN⟩
    have bH:kids.length=T:=by rw [X6 N];exact gB.out
    rw [Jf,eH.out,bH] at hv |-
    have H6:=Qq (H5.out.thn aN)
    have mG:=aN.size
    obtain ⟨fY,eA,HV⟩:=Px aN N hv
    clear N hv aN bH
    try dsimp only
    refine M.out _ _ H6.out (fun D=>?_)
    clear M K
    refine rdD 6 (fun K M=>?_) Qh
    go_simp
    generalize aC:World.alloc w6 _=we
    have aF:=Zp aC
    have J:=Y5 aC
    have He:=Qq (H6.out.thn aF)
    have dT:=Z3 J
    have aP:wg.heap.size<=w6.heap.size:=H6.out.size
    have aY:=Qq J;have gA:=Qq aF
    clear aF aC J
    try dsimp only
    refine M.out _ _ He.out (fun D=>?_)
    clear M K
    have J:=aY.out
    have eM:=Qq J
    obtain ⟨f0,f1,f2,f3,f4⟩:=frz5 J
    obtain ⟨y0,y1,y2,y3,y4⟩:=row5 J
    have cZ:=Qq (show Z5 (fun b=>wg<=b/\b≠w6) we [.int .i64 4,On,Oo,.slice q3 T l3,.slice q4 T l4] (.mk 4 0 [] ns kids) from (HV.out.move (S':=fun b=>w5<=b/\b<w6) (.refl _ _) (fun b hb h=>⟨h,hb⟩)).move (.of_below gA.out) (fun b _ h=>⟨by have:=h.1;have:=H5.out.size;omega,by have:=h.2;omega⟩))
    clear J
    refine rdD 7 (fun K M=>?_) Qh
    go_simp
    generalize cO:World.setCell (World.setCell _ _ _) _ _=wf
    obtain ⟨hA,hB,ho⟩:=F6 eM.out cO
    have aM:=He.out.trans (hB _ aP)
    refine M.out _ _ aM (fun D=>?_)
    clear M K f0 f1 f2 f3 f4 y0 y1 y2 y3 y4
    refine wpAnyH_done Og ?_ _
    go_wp2_with fail
    go_meet
    exact ⟨w6.heap.size,kids,q3,l3,q4,l4,rfl,hA,⟨eA.out,cZ.out.move (fun b hb _=>ho b hb.2) P8⟩,aM,aP⟩
   refine rcD (fun K M=>?_) Qh
   go_simp
   generalize aC:World.alloc w5 _=we
   have aF:=Zp aC
   have J:=Y5 aC
   have He:=Qq (H5.out.thn aF)
   have dT:=Z3 J
   have aP:wg.heap.size<=w5.heap.size:=H5.out.size
   have aY:=Qq J;have gA:=Qq aF
   clear aF aC J
   try dsimp only
   refine M.out _ _ He.out (fun D=>?_)
   clear M K
   refine rdD 5 (fun K M=>?_) Qh
   go_simp
   refine (dE.out we [.int .i64 5,Oo,On,.slice p3 t.columns.length k3,.slice p4 t.columns.length k4] (bV.out.trans (He.out.mono bV.out.size)) (gC.out.move (.of_below gA.out) P8)).mono ?_
   rintro e w6 ⟨kids,q3,l3,q4,l4,rfl,N,hv,aN⟩
   have bH:kids.length=T:=by rw [X6 N];exact gB.out
   rw [Jf,eH.out,bH] at hv |-
   have H6:=Qq (He.out.thn aN)
   have mG:=aN.size
   obtain ⟨fY,eA,HV⟩:=Px aN N hv
   clear N hv aN bH
   try dsimp only
   refine M.out _ _ H6.out (fun D=>?_)
   clear M K
   have J:=kE fY.out dT aY.out
   have eM:=Qq J
   obtain ⟨f0,f1,f2,f3,f4⟩:=frz5 J
   obtain ⟨y0,y1,y2,y3,y4⟩:=row5 J
   have cZ:=Qq (show Z5 (fun b=>wg<=b/\b≠w5) w6 [.int .i64 4,On,Oo,.slice q3 T l3,.slice q4 T l4] (.mk 4 0 [] ns kids) from HV.out.move (.refl _ _) (fun b _ h=>⟨by have:we.heap.size<=b:=h;omega,by have:we.heap.size<=b:=h;omega⟩))
   clear J
   refine rdD 7 (fun K M=>?_) Qh
   go_simp
   generalize cO:World.setCell (World.setCell _ _ _) _ _=wf
   obtain ⟨hA,hB,ho⟩:=F6 eM.out cO
   have aM:=H6.out.trans (hB _ aP)
   refine M.out _ _ aM (fun D=>?_)
   clear M K f0 f1 f2 f3 f4 y0 y1 y2 y3 y4
   refine wpAnyH_done Og ?_ _
   go_wp2_with fail
   go_meet
   exact ⟨w5.heap.size,kids,q3,l3,q4,l4,rfl,hA,⟨eA.out,cZ.out.move (fun b hb _=>ho b hb.2) P8⟩,aM,aP⟩
  refine rcD (fun K M=>?_) Qh
  go_simp
  generalize aC:World.alloc wd _=we
  have aF:=Zp aC
  have J:=Y5 aC
  have He:=Qq (HS.out.thn aF)
  have dT:=Z3 J
  have aP:wg.heap.size<=wd.heap.size:=HS.out.size
  have aY:=Qq J;have gA:=Qq aF
  clear aF aC J
  try dsimp only
  refine M.out _ _ He.out (fun D=>?_)
  clear M K
  refine rdD 3 (fun K M=>?_) Qh
  go_simp
  refine (cQ.out we He.out).mono ?_
  rintro e w5 ⟨p3,k3,p4,k4,rfl,fH,aW⟩
  have H5:=Qq (He.out.thn aW)
  have gC:=Qq (show Y6 (fun _=>True) w5 [.int .i64 5,Oo,On,.slice p3 t.columns.length k3,.slice p4 t.columns.length k4] (.mk 5 [] 0 ns dX) from fH.move (.refl _ _) (fun _ _ _=>trivial))
  have mF:=aW.size
  have jY:=Qq aW
  clear fH aW
  try dsimp only
  refine M.out _ _ H5.out (fun D=>?_)
  clear M K
  refine rdD 5 (fun K M=>?_) Qh
  go_simp
  refine (dE.out w5 [.int .i64 5,Oo,On,.slice p3 t.columns.length k3,.slice p4 t.columns.length k4] (bV.out.trans (H5.out.mono bV.out.size)) (gC.out)).mono ?_
  rintro e w6 ⟨kids,q3,l3,q4,l4,rfl,N,hv,aN⟩
  have bH:kids.length=T:=by rw [X6 N];exact gB.out
  rw [Jf,eH.out,bH] at hv |-
  have H6:=Qq (H5.out.thn aN)
  have mG:=aN.size
  obtain ⟨fY,eA,HV⟩:=Px aN N hv
  clear N hv aN bH
  try dsimp only
  refine M.out _ _ H6.out (fun D=>?_)
  clear M K
  have J:=kE fY.out Oa ((jY.out.block _ dT).trans aY.out)
  have eM:=Qq J
  obtain ⟨f0,f1,f2,f3,f4⟩:=frz5 J
  obtain ⟨y0,y1,y2,y3,y4⟩:=row5 J
  have cZ:=Qq (show Z5 (fun b=>wg<=b/\b≠wd) w6 [.int .i64 4,On,Oo,.slice q3 T l3,.slice q4 T l4] (.mk 4 0 [] ns kids) from HV.out.move (.refl _ _) (fun b _ h=>⟨by have:w5.heap.size<=b:=h;omega,by have:w5.heap.size<=b:=h;omega⟩))
  clear J
  refine rdD 7 (fun K M=>?_) Qh
  go_simp
  generalize cO:World.setCell (World.setCell _ _ _) _ _=wf
  obtain ⟨hA,hB,ho⟩:=F6 eM.out cO
  have aM:=H6.out.trans (hB _ aP)
  refine M.out _ _ aM (fun D=>?_)
  clear M K f0 f1 f2 f3 f4 y0 y1 y2 y3 y4
  refine wpAnyH_done Og ?_ _
  go_wp2_with fail
  go_meet
  exact ⟨wd.heap.size,kids,q3,l3,q4,l4,rfl,hA,⟨eA.out,cZ.out.move (fun b hb _=>ho b hb.2) P8⟩,aM,aP⟩
 obtain ⟨G2,kids,q3,l3,q4,l4,rfl,gG,nQ,lK,pK⟩:=hcut
 obtain ⟨wh,rfl⟩:∃ wh,wh=wc:=⟨_,rfl⟩
 obtain ⟨N,hv⟩:Vp dX kids/\Z5 (fun b=>wg<=b/\b≠G2) wh [.int .i64 4,On,Oo,.slice q3 T l3,.slice q4 T l4] (.mk 4 0 [] ns kids):=nQ
 have bH:kids.length=T:=by rw [X6 N];exact gB.out
 have cP:=Qq bH
 have kK:=Qq (show Dj t (.mk 4 0 [] ns kids) from ⟨kids,by rw [nG.out],by rw [kU.out];exact N⟩)
 have fC:=Z3 gG
 have kZ:=Qq (hv.move (S':=fun b=>wg<=b/\b≠G2/\b<wh) (.refl _ _) (fun b hb h=>⟨h.1,h.2,hb⟩))
 have iE:=Qq gG;have hX:=Qq lK
 obtain ⟨r0,r1,r2,r3,r4⟩:=row5 gG
 clear N hv bH gG lK eD cQ dE
 go_upto_region 5 with fail
 generalize aD:World.alloc wh _=W4
 have iV:=Zp aD
 have h4:=Y5 aD
 have fJ:W4=wh.heap.size+1:=by rw [<- aD];simp
 obtain ⟨jX,H4,iK⟩:=Px iV h4 fJ
 have lB:=Zh (kE iV fC iE.out) (.cells #[] 48 (0,0))
 have oM:=rA4 lB
 clear aD iV h4 fJ lB r0 r1 r2 r3 r4
 obtain ⟨i0,j1,j2,j3,j4⟩:=Y3 (P:=prog) (t:=48) (z:=.agg zV) (n:=5) (b:=80) Og
 obtain ⟨HJ,nC,nD,nE⟩:=Py j1 j2 j3 j4
 clear j1 j2 j3 j4
 have aW:Below W4 W4 (W4.alloc (.cells #[] 48 (0,0))):=Zb _ _
 have kH:=Qq (show Own Zc 48 (fun b=>wg<=b/\b≠G2/\b<wh) W4 (W4.alloc (.cells #[] 48 (0,0))) (.slice (some ⟨W4,0,none⟩) 0 0) [] [] from M7 (n:=0) (Qw _ _) (Q4 _) (Cs.nil _ _ _) rfl rfl Od)
 have mA:Sl Zc (fun b=>wg<=b/\b≠G2/\b<wh) wh (.slice q4 T l4) kids:=by
  obtain ⟨oK,oI,oL,oJ,bF,_,lP,_⟩:=Z5.cells kZ.out
  rw [Jf] at bF
  simp only [List.cons.injEq,Ql,true_and,and_true] at bF
  obtain ⟨_,rfl,_,rfl⟩:=bF
  rw [show (Val.mk 4 0 [] ns kids).kids=kids from rfl,cP.out] at lP
  exact lP
 have kM:=Qq ((mA.mono (S':=But (fun b=>wg<=b/\b≠G2/\b<wh) (.slice (some ⟨W4,0,none⟩) 0 0)) (fun b hb h=>⟨h,fun e=>by have h5:b=W4.heap.size:=Q6 e;have:=iK.out;have:=h.2.2;omega⟩)).below (jX.out.thn aW))
 have lU:([]:List Val).length+kids.length=T:=by rw [cP.out];simp
 have kG:=Qq lU
 clear aW mA lU
 go_upto_region 6 with (at_builtin;refine Ej (r:=Zc) Of Jv rfl (.tmp 33) (.tmp 35) _ rfl 48 i0 (.agg zV) 80 underlying40 HJ.out nC.out nD.out nE.out rfl Oa (fun b=>wg<=b/\b≠G2/\b<wh) W4 (W4.alloc (.cells #[] 48 (0,0))) (.slice (some ⟨W4,0,none⟩) 0 0) [] [] rfl kH.out (.slice q4 T l4) kids rfl kM.out T kG.out Oa Od ?_;intro p5 aT css5 w5 lH iR;have fJ:=iK.out;have h5:=(iR.below.block wh Oa).trans ((Zh H4.out (.cells #[] 48 (0,0))));have y4:=Qk _ _ 4 _ _ _ h5;have f4:=fA 4 h5;simp only [Qa,Qb,Qc] at y4;obtain ⟨H5,eI,iG⟩:=Px h5 lH iR;clear h5 lH iR fJ)
 rw [List.nil_append] at eI
 obtain ⟨gg,pD,lY,qD,qE⟩:=eI.out.row.form (by rw [cP.out];omega)
 simp only [Ql] at lY
 obtain ⟨rfl,-,rfl⟩:=lY
 have fJ:=iK.out
 have mF:=iG.out.below.size
 obtain ⟨W6,iU⟩:=eX (w5.setCell ⟨wh,4,none⟩ (.slice (some ⟨gg,0,none⟩) T aT))
 rw [iU]
 obtain ⟨lD,lW,lF⟩:=Vu H5.out iU
 have eY:Below wh wh W6:=((jX.out.thn (Zb _ _)).trans (iG.out.below.mono Oa)).trans (lF _ (Q4 _))
 have gR:=Qq eY
 have hN:W6.heap[wh.heap.size]?=some (.cells #[.int .i64 4,On,Oo,.slice q3 T l3,Ol gg 0 T aT] 48 (0,0)):=lD.trans rfl
 have fB:=kE eY fC iE.out
 have iH:=Qq (eI.out.move (Q4 _) (fun b _ h=>lW b (by
  rcases h with h | h
  ·have:=h.2.2;omega
  have:=(eI.out.row.lt b h).1;omega)))
 have pL:=(iH.out.row.lt gg rfl).2
 have iJ:=Qq hN;have gS:=Qq fB
 have r4:=rA4 fB
 have lX:(0:Int)<(T:Int):=Oa
 have oE:0<T:=Oa
 clear iU lD lW lF eY hN fB y4 f4 oM kH eI iG kM H5 H4 kG
 go_upto_region 7 with fail
 clear r4 lX
 have eV:=Uq v T Oa
 obtain ⟨i,hi⟩:∃ i:Nat,Yu v T=i:=⟨(Yu v T).toNat,Oa⟩
 rw [hi] at eV
 have lN:i<T:=Oa
 have hi1:(0:Int)<=(i:Int):=Oa
 have nX:(i:Int)<(T:Int):=Oa
 have nY:decide ((i:Int)<0)=false:=Od
 have eB:=Qq (jT.out T jD Oa)
 rw [hi] at eB
 clear jT hi eV
 have cM:=Qq (fun (W:World) (h:(fun (W:World)=>W.heap[wh.heap.size]?=W6.heap[wh.heap.size]?/\W.heap[G2]?=W6.heap[G2]?) W)=>(show Oi W wh 4 (Ol gg 0 T aT)/\Oi W G2 4 (.slice q4 T l4) from ⟨(Qk _ _ 4 _ _ _ (h.1.trans iJ.out)).trans rfl,(Qk _ _ 4 _ _ _ (h.2.trans gS.out)).trans rfl⟩))
 have cY:=Qq (show (fun (W:World)=>W.heap[wh.heap.size]?=W6.heap[wh.heap.size]?/\W.heap[G2]?=W6.heap[G2]?) W6.drew from ⟨rfl,rfl⟩)
 obtain ⟨xk,mD⟩:∃ xk,kids[i]?=some xk:=⟨_,Qx (by rw [cP.out];exact lN)⟩
 refine wp_region_held_drew (S:=(fun (W:World)=>W.heap[wh.heap.size]?=W6.heap[wh.heap.size]?/\W.heap[G2]?=W6.heap[G2]?)) Og cY.out (fun D=>?_)
 refine tkD (v:=?_) 0 (fun Y I=>?_) ?_;rotate_left
 ·(obtain ⟨b4,r4⟩:=cM.out Y I;go_simp;try with_reducible rfl)
 refine tkD (v:=?_) 1 (fun Y I=>?_) ?_;rotate_left
 ·(obtain ⟨b4,r4⟩:=cM.out Y I;go_simp;try with_reducible rfl)
 refine tkD (v:=?_) 2 (fun Y I=>?_) ?_;rotate_left
 ·(obtain ⟨b4,r4⟩:=cM.out Y I;go_simp;try with_reducible rfl)
 refine tkD (v:=?_) 3 (fun Y I=>?_) ?_;rotate_left
 ·(obtain ⟨b4,r4⟩:=cM.out Y I;go_simp;try with_reducible rfl)
 refine tkD (v:=?_) 4 (fun Y I=>?_) ?_;rotate_left
 ·(obtain ⟨b4,r4⟩:=cM.out Y I;go_simp;try with_reducible rfl)
 refine tkD (v:=?_) 5 (fun Y I=>?_) ?_;rotate_left
 ·(obtain ⟨b4,r4⟩:=cM.out Y I;go_simp;try with_reducible rfl)
 refine tkD (v:=?_) 7 (fun Y I=>?_) ?_;rotate_left
 ·(obtain ⟨b4,r4⟩:=cM.out Y I;go_simp;try with_reducible rfl)
 refine rdD 6 (fun K M=>?_) Qh
 go_simp
 refine (eB.out _).mono ?_
 rintro e w' ⟨rfl,rfl⟩
 try dsimp only
 refine M.out _ _ cY.out (fun D=>?_)
 clear M K
 refine tkD (v:=?_) 8 (fun Y I=>?_) ?_;rotate_left
 ·(obtain ⟨b4,r4⟩:=cM.out Y I;go_simp;try with_reducible rfl)
 have fZ:=Qq (show Below W6 W6 W6.drew from (Qz _ _).drew)
 have eJ:=Qq (iH.out.below fZ.out)
 generalize W6.drew=wd at D cY fZ eJ |-
 obtain ⟨bq,oq,t3,s3,t4,s4,he,_,_,d0,d1,d2,d3,d4⟩:=(show Sl Zc (fun _=>True) wd (.slice (some ⟨gg,0,none⟩) T aT) kids from eJ.out.sl (S':=fun _=>True) (by rw [cP.out];omega) (fun _ _=>trivial) (fun _ _ _=>trivial)).val mD
 obtain ⟨rfl,rfl⟩:gg=bq/\0=oq:=by simpa using he
 simp only [Nat.zero_add] at d0 d1 d2 d3 d4
 have bI:=eJ.out.row
 rw [cP.out] at bI
 have f0:=bI.frozenAt (i*5);have f1:=bI.frozenAt (i*5+1);have f2:=bI.frozenAt (i*5+2);have f3:=bI.frozenAt (i*5+3);have f4:=bI.frozenAt (i*5+4)
 clear bI he
 refine rdD 9 (fun K M=>?_) Qh
 go_simp
 obtain ⟨W7,gI⟩:=eX ((((((wd.setCell ⟨gg,i*5,none⟩ (.int .i64 2)).setCell ⟨gg,i*5+1,none⟩ (.int .i64 1)).setCell ⟨gg,i*5+2,none⟩ (.string ⟨#[]⟩)).setCell ⟨gg,i*5+3,none⟩ (.slice none 0 0)).setCell ⟨gg,i*5+4,none⟩ (.slice none 0 0)))
 have gL:∀ b,b≠gg->W7.heap[b]?=wd.heap[b]?:=fun b hb=>by rw [<- gI];exact Y1 hb
 have gH:=eJ.out.set5 cP.out lN (x:=Yb true) (Xn _ _ true)
 have lJ:Below wh wd W7:=by
  rw [<- gI]
  exact (((((Qz wh wd).setCell (p:=⟨gg,i*5,none⟩) (by show wh<=gg;omega) _).setCell (p:=⟨gg,i*5+1,none⟩) (by show wh<=gg;omega) _).setCell (p:=⟨gg,i*5+2,none⟩) (by show wh<=gg;omega) _).setCell (p:=⟨gg,i*5+3,none⟩) (by show wh<=gg;omega) _).setCell (p:=⟨gg,i*5+4,none⟩) (by show wh<=gg;omega) _
 simp only [if_true] at gH
 rw [gI] at gH |-
 have kI:=Qq gH
 have mE:=gR.out.size
 have hW:=Qq ((gR.out.trans (fZ.out.mono mE)).trans lJ)
 refine M.out _ _ ⟨(gL _ Oa).trans cY.out.1,(gL _ Oa).trans cY.out.2⟩ (fun D=>?_)
 have kB:=Qq ((gL wh Oa).trans (cY.out.1.trans iJ.out))
 clear M K f0 f1 f2 f3 f4 d0 d1 d2 d3 d4 gH lJ gL gI
 refine wpAnyH_done Og ?_ _
 clear cY cM eJ fZ D iJ gS iH eB hi1 nX nY mD
 have aX:=Qq (hX.out.trans (hW.out.mono hX.out.size))
 have nI:=Qq ((show TB (fun b=>b<W2) wg G t from ⟨_,HG.out,kS.out⟩).below aX.out)
 have aH:=kE aX.out nS HG.out
 have aV:=kE hW.out fC iE.out
 have iI:=Qq (kZ.out.move (.of_below hW.out) P8)
 have mC:Z5 (fun _=>True) W7 [.int .i64 4,On,Oo,.slice q3 T l3,Ol gg 0 T aT] (.mk 4 0 [] ns (kids.set i (Yb true))):=by
  obtain ⟨oK,oI,oL,oJ,bF,oC,_,_⟩:=Z5.cells iI.out
  rw [Jf] at bF
  simp only [List.cons.injEq,Ql,true_and,and_true] at bF
  obtain ⟨⟨rfl,_,rfl⟩,_⟩:=bF
  have hl:(kids.set i (Yb true)).length=T:=by rw [List.length_set];exact cP.out
  have h1:Sl Zc (fun _=>True) W7 (.slice (some ⟨gg,0,none⟩) T aT) (kids.set i (Yb true)):=kI.out.sl (by rw [hl];omega) (fun _ _=>trivial) (fun _ _ _=>trivial)
  have h2:Sl Zi (fun _=>True) W7 (.slice q3 ns.length l3) ns:=oC.mono (fun _ _ _=>trivial)
  rw [show (Value.slice (some ⟨gg,0,none⟩) T aT)=.slice (some ⟨gg,0,none⟩) (kids.set i (Yb true)).length aT by rw [hl]] at h1 |-
  rw [eH.out] at h2
  rw [show (Value.slice q3 T l3)=.slice q3 ns.length l3 by rw [eH.out]] at h2 |-
  exact Zu (s:=[]) Od h2 h1
 have cZ:=Qq mC
 obtain ⟨few,hP⟩:=chk15 dM.out
 have eE:=Qq hP
 have hZ:=Qq (fun (row:Val) (cr:List Value) (p:Ua W7) (h:Z5 (fun _=>True) W7 cr row)=>Fh (fun _=>True) (fun _=>True) t row (Pj t bD bC bK bJ dW dV k9 bT n9 bU bP bM aZ bQ bN bA bR bO bB a9 z9) cr few p.wd (Zg.mono (Zg.frame kS.out (.of_below (aX.out.thn p.below))) (fun _ _ _=>trivial)) (h.move (.of_below p.below) P8) (by have:=(Bl dM.out).1;omega) eE.out)
 obtain ⟨b1,dS⟩:=eX (U7 t (.mk 4 0 [] ns kids) few)
 obtain ⟨b2,dA⟩:=eX (U7 t (.mk 4 0 [] ns (kids.set i (Yb true))) few)
 obtain ⟨b3,lI⟩:=eX (U7 t Val.zero few)
 have iB:=Qq (fun p=>(dS ▸ hZ.out (.mk 4 0 [] ns kids) [.int .i64 4,On,Oo,.slice q3 T l3,.slice q4 T l4] p (iI.out.move (.refl _ _) (fun _ _ _=>trivial))))
 have iC:=Qq (fun p=>(dA ▸ hZ.out (.mk 4 0 [] ns (kids.set i (Yb true))) _ p cZ.out))
 have iD:=Qq (fun p=>(lI ▸ hZ.out Val.zero [On,On,Oo,Ot,Ot] p (Zu (s:=[]) Od (Sl.nil _ _ _) (Sl.nil _ _ _))))
 have iL:=Qq dS
 have mixed:prog.follows .mixedOrders=true:=Og
 have c0:=Qk _ _ 0 _ _ _ aH;have c1:=Qk _ _ 1 _ _ _ aH;have c2:=Qk _ _ 2 _ _ _ aH;have c3:=Qk _ _ 3 _ _ _ aH;have c4:=Qk _ _ 4 _ _ _ aH;have c5:=Qk _ _ 5 _ _ _ aH;have c6:=Qk _ _ 6 _ _ _ aH;have c7:=Qk _ _ 7 _ _ _ aH;have c8:=Qk _ _ 8 _ _ _ aH;have c9:=Qk _ _ 9 _ _ _ aH;have cR:=Qk _ _ 10 _ _ _ aH;have cS:=Qk _ _ 11 _ _ _ aH;have cT:=Qk _ _ 12 _ _ _ aH
 have r0:=Qk _ _ 0 _ _ _ aV;have r1:=Qk _ _ 1 _ _ _ aV;have r2:=Qk _ _ 2 _ _ _ aV;have r3:=Qk _ _ 3 _ _ _ aV;have r4:=Qk _ _ 4 _ _ _ aV
 have bE:=kB.out
 have s0:=Qk _ _ 0 _ _ _ bE;have s1:=Qk _ _ 1 _ _ _ bE;have s2:=Qk _ _ 2 _ _ _ bE;have s3:=Qk _ _ 3 _ _ _ bE;have s4:=Qk _ _ 4 _ _ _ bE
 simp only [Qa,Qb,Qc] at c0 c1 c2 c3 c4 c5 c6 c7 c8 c9 cR cS cT r0 r1 r2 r3 r4 s0 s1 s2 s3 s4
 have nA:=Qq aH;have kA:=Qq aV
 have V:=Z3 aH;have aS:=Z3 aV;have bG:=Z3 bE
 clear mC hP dS dA lI aH aV bE kI
 have C0:=Zd V c0;have C1:=Zd V c1;have C2:=Zd V c2;have C3:=Zd V c3;have C4:=Zd V c4;have C5:=Zd V c5;have C6:=Zd V c6;have C7:=Zd V c7;have C8:=Zd V c8;have C9:=Zd V c9;have fT:=Zd V cR;have fU:=Zd V cS;have fV:=Zd V cT
 have R0:=Zd aS r0;have R1:=Zd aS r1;have R2:=Zd aS r2;have R3:=Zd aS r3;have R4:=Zd aS r4
 have S0:=Zd bG s0;have S1:=Zd bG s1;have S2:=Zd bG s2;have S3:=Zd bG s3;have S4:=Zd bG s4
 clear c0 c1 c2 c3 c4 c5 c6 c7 c8 c9 cR cS cT r0 r1 r2 r3 r4 s0 s1 s2 s3 s4
 go_upto_region 8 with fail
 refine Xv Oh Og ?_
 first | go_big_quiet_skip | quiet_step (fail)
 first | go_big_quiet_skip | quiet_step (fail)
 quiet_step ((go_at_call 23;exact Calls.later_of (iB.out _).1))
 first | go_big_quiet_skip | quiet_step (fail)
 first | go_big_quiet_skip | quiet_step (fail)
 quiet_step ((go_at_call 24;exact Calls.later_of (iB.out _).2))
 first | go_big_quiet_skip | quiet_step (fail)
 first | go_big_quiet_skip | quiet_step (fail)
 first | go_big_quiet_skip | quiet_step (fail)
 first | go_big_quiet_skip | quiet_step (fail)
 quiet_step ((go_at_call 23;exact Calls.later_of (iC.out _).1))
 first | go_big_quiet_skip | quiet_step (fail)
 first | go_big_quiet_skip | quiet_step (fail)
 quiet_step ((go_at_call 24;exact Calls.later_of (iC.out _).2))
 first | go_big_quiet_skip | quiet_step (fail)
 first | go_big_quiet_skip | quiet_step (fail)
 first | go_big_quiet_skip | quiet_step (fail)
 first | go_big_quiet_skip | quiet_step (fail)
 first | go_big_quiet_skip | quiet_step (fail)
 quiet_step ((go_at_call 23;exact Calls.later_of (iD.out _).1))
 first | go_big_quiet_skip | quiet_step (fail)
 first | go_big_quiet_skip | quiet_step (fail)
 quiet_step ((go_at_call 24;exact Calls.later_of (iD.out _).2))
 first | go_big_quiet_skip | quiet_step (fail)
 first | go_big_quiet_skip | quiet_step (fail)
 refine wpQuiet_nil ?_
 intro wq fI
 obtain ⟨pq,cV⟩:=fI
 have iW:Below W7 W7 wq:=cV ▸ pq.below
 clear cV
 clear C0 C1 C2 C3 C4 C5 C6 C7 C8 C9 fT fU fV R0 R1 R2 R3 R4 S0 S1 S2 S3 S4 iB iC iD
 have iT:=nI.out.below iW
 obtain ⟨rv,y3,f3⟩:=iT.cell3
 have nJ:=Qq iT;have cX:=Qq iW
 clear iT iW
 go_upto_region 11 with fail
 clear y3 f3
 generalize eU:World.setCell wq _ _=aG
 have hH:=nJ.out.noref (fun h=>Oa) eU
 have lG:=kE cX.out V nA.out
 obtain ⟨L,cU,eR⟩:=Vu lG eU
 have L:aG.heap[G]?=some (.cells #[t.name,.slice bD t.columns.length bC,.slice bK t.key.length bJ,Ot,k9,.string bT,n9,.string bU,.slice bP bM aZ,.slice bQ bN bA,.slice bR bO bB,a9,z9] 61 (0,0)):=L.trans rfl
 have pN:=aX.out.size;have qG:=bV.out.size;have qI:=cX.out.size;have qH:=hX.out.size;have pM:wq.heap.size<=aG.heap.size:=(eR G (Q4 _)).size
 have dF:=(cU A Oa).trans ((cX.out.block A Oa).trans ((aX.out.block A Oa).trans ((bV.out.block A fE).trans fX.out)))
 have aE:=(cU G2 Oa).trans (kE cX.out aS kA.out)
 have hJ:Z5 (fun b=>wg<=b/\b≠G2/\b<wh) aG [.int .i64 4,On,Oo,.slice q3 T l3,.slice q4 T l4] (.mk 4 0 [] ns kids):=(iI.out.move (.of_below cX.out) P8).move (fun b hb _=>cU b (by have:=hb.1;omega)) P8
 have eS:Below w w aG:=(((jW.out.trans (bV.out.mono Oa)).trans (aX.out.mono Oa)).trans (cX.out.mono Oa)).trans (eR _ Oa)
 have hI:Sl Vi (fun b=>w<=b/\b<W2) aG (.slice sp 2 sc) G15.sums:=(kX.out.mono (S':=fun b=>w<=b/\b<W2) (fun b hb h=>⟨h,hb⟩)).frame (fun b hb hl=>(cU b (by have:=hb.2;omega)).trans ((cX.out.block b (by have:=hb.2;omega)).trans ((aX.out.block b (by have:=hb.2;omega)).trans (bV.out.block b hl))))
 obtain ⟨kO,eF,pB,eG,gU,cW,kW⟩:=P1 hH L dF aE hJ eS hI
 have fD:=Z3 L;have dI:=Z3 aE;have nR:=Z3 dF
 have c0:=rA0 L;have c1:=rA1 L;have c2:=rA2 L;have c3:=rA3 L;have c4:=rA4 L;have c5:=rA5 L;have c6:=rA6 L;have c7:=rA7 L;have c8:=rA8 L;have c9:=rA9 L;have cR:=rA10 L;have cS:=rA11 L;have cT:=rA12 L;have r0:=rA0 aE;have r1:=rA1 aE;have r2:=rA2 aE;have r3:=rA3 aE;have r4:=rA4 aE;have a0:=rA0 dF
 clear hH lG L cU eR dF aE hJ eS hI eU r0 r1 r2 r3 r4
 go_upto_region 12 with fail
 clear c0 c1 c2 c3 c4 c5 c6 c7 c8 c9 cR cS cT a0
 generalize aD:World.alloc (World.alloc aG _) _=cN
 have dH:=eqB aD (Zl _ _ _)
 have hT:=eqH (b:=aG.heap.size) aD (Q0 _ _ _)
 have fG:=eqH (b:=aG.heap.size+1) aD (Q1 _ _ _)
 have jU:=Qq dH;have kP:=Qq hT
 have eT:=kE dH fD eF.out
 have aJ:=kE dH dI eG.out
 have pC:=Qq eT;have mZ:=Qq aJ
 have c0:=rA0 eT;have r0:=rA0 aJ;have r1:=rA1 aJ;have r2:=rA2 aJ;have r3:=rA3 aJ;have r4:=rA4 aJ;have a0:=rA0 fG;have a1:=rA1 fG
 have hU:cN=aG.heap.size+2:=by rw [<- aD];simp
 have lA:=Qq hU
 clear dH hT fG eT aJ aD hU
 have iA:=Qq (fun W cs lv (hb:Below w w W) (hs:Ug (fun _=>True) W cs ⟨G15.sums,[Xk t]⟩) (hl:Sl Yd (fun _=>True) W lv [⟨t.name,[.mk 4 0 [] ns kids]⟩])=>check15 (fun _=>True) (fun _=>True) t (.mk 4 0 [] ns kids) few dM.out kK.out eE.out cs lv W hs hl (nF.out.below hb))
 obtain ⟨nL,hO,jC⟩:=kO.out
 have nU:nL=[.string ⟨t.name.toArray⟩,.slice bD t.columns.length bC,.slice bK t.key.length bJ,.slice none 0 0,.int .i64 k9,.string bT,.int .i64 n9,.string bU,.slice bP bM aZ,.slice bQ bN bA,.slice bR bO bB,.int .i64 a9,.int .i64 z9]:=by
  have h:=hO.symm.trans eF.out
  simpa using h
 subst nU
 have kL:=Qq (Zg.mono jC (S':=fun _=>True) (fun _ _ _=>trivial))
 have oD:t.name.length<=1000000:=by
  obtain ⟨_,_,_,_,_,h,_⟩:=jC
  exact h
 have eL:=Qq (fun (W:World) (hb:Below aG aG W) (h:W.heap[aG.heap.size]?=some (.cells #[t.name,.slice bD t.columns.length bC,.slice bK t.key.length bJ,Ot,k9,.string bT,n9,.string bU,.slice bP bM aZ,.slice bQ bN bA,.slice bR bO bB,a9,z9] 61 (0,0)))=>(show Ug (fun _=>True) W [.slice sp 2 sc,Ol aG 0 1 1] ⟨G15.sums,[Xk t]⟩ from ⟨_,_,rfl,(kW.out.mono (fun _ _ _=>trivial)).below hb,Y2 (xs:=[Xk t]) h trivial (Cs.one (r:=Zg) (Zg.frame kL.out (.of_below hb))) rfl rfl Od⟩))
 have eK:=Qq (fun (W:World) (hb:Below aG aG W) (hr:W.heap[cN.heap.size]?=some (.cells #[.int .i64 4,On,Oo,.slice q3 T l3,.slice q4 T l4] 48 (0,0))) (hl:W.heap[cN.heap.size+1]?=some (.cells #[t.name,Ol cN 0 1 1] 42 (0,0)))=>(show Sl Yd (fun _=>True) W (.slice (some ⟨cN+1,0,none⟩) 1 1) [⟨t.name,[.mk 4 0 [] ns kids]⟩] from Y2 (xs:=[(⟨t.name,[.mk 4 0 [] ns kids]⟩:Rel)]) hl trivial (Cs.one (r:=Yd) ⟨_,rfl,oD,Y2 (xs:=[Val.mk 4 0 [] ns kids]) hr trivial (Cs.one (r:=Zc) (gU.out.move (.of_below hb) (fun _ _ _=>trivial))) rfl rfl Od⟩) rfl rfl Od))
 clear hO jC
 rw [iL.out] at iA
 go_upto_region 13 with (go_at_call 25;generalize dG:World.alloc (World.alloc cN _) _=iM;have eW:=eqB dG (Zl _ _ _);have hS:=eqH (b:=cN.heap.size) dG (Q0 _ _ _);have hR:=eqH (b:=cN.heap.size+1) dG (Q1 _ _ _);have dC:=Qq (jU.out.thn eW);have hY:=Qq (cW.out.thn dC.out);have kQ:=Qq (kE eW (Ob lA.out) kP.out);have kJ:=Qq hS;have kD:=Qq hR;clear eW hS hR dG;refine (iA.out iM [.slice sp 2 sc,Ol aG 0 1 1] (.slice (some ⟨cN+1,0,none⟩) 1 1) hY.out (eL.out iM dC.out kQ.out) (eK.out iM dC.out kJ.out kD.out)).mono ?_;rintro e oT ⟨q,pP,pQ,pR,pS,qA,pY,pW,qB,pZ,pX,pT,pU,pV,pI,pG,pE,pJ,pH,pF,rfl,hq,hL⟩;have HQ:=Qq hq;have jV:=Qq hL;clear hq hL)
 generalize aD:World.alloc oT _=eN
 have hM:=Zp aD
 have eZ:=Y5 aD
 have cA:=Qq ((dC.out.thn jV.out).thn hM)
 have U:=kE cA.out fD eF.out
 have aK:=kE cA.out dI eG.out
 have O:=Z3 U;have aO:=Z3 aK;have iY:=Z3 eZ
 have c0:=rA0 U;have c1:=rA1 U;have c2:=rA2 U;have c3:=rA3 U;have c4:=rA4 U;have c5:=rA5 U;have c6:=rA6 U;have c7:=rA7 U;have c8:=rA8 U;have c9:=rA9 U;have cR:=rA10 U;have cS:=rA11 U;have cT:=rA12 U;have r0:=rA0 aK;have r1:=rA1 aK;have r2:=rA2 aK;have r3:=rA3 aK;have r4:=rA4 aK;have a0:=rA0 eZ
 have C0:=Zd O c0;have C1:=Zd O c1;have C2:=Zd O c2;have C3:=Zd O c3;have C4:=Zd O c4;have C5:=Zd O c5;have C6:=Zd O c6;have C7:=Zd O c7;have C8:=Zd O c8;have C9:=Zd O c9;have fT:=Zd O cR;have fU:=Zd O cS;have fV:=Zd O cT
 have R0:=Zd aO r0;have R1:=Zd aO r1;have R2:=Zd aO r2;have R3:=Zd aO r3;have R4:=Zd aO r4
 have A0:=Zd iY a0
 have jZ:=Qq (fun (p:Ua eN)=>((show U7 (Xk t) (.mk 4 0 [] ns kids) few=b1 from iL.out) ▸ (Fh (fun _=>True) (fun _=>True) (Xk t) (.mk 4 0 [] ns kids) [t.name,.slice bD t.columns.length bC,.slice bK t.key.length bJ,Ot,k9,.string bT,n9,.string bU,.slice bP bM aZ,.slice bQ bN bA,.slice bR bO bB,a9,z9] [.int .i64 4,On,Oo,.slice q3 T l3,.slice q4 T l4] few p.wd (Zg.frame kL.out (.of_below (cA.out.thn p.below))) (gU.out.move (.of_below (cA.out.thn p.below)) (fun _ _ _=>trivial)) (by have:=(Bl dM.out).1;show t.columns.length<=100;omega) eE.out).1:Calls prog 23 #[.agg #[t.name,.slice bD t.columns.length bC,.slice bK t.key.length bJ,Ot,k9,.string bT,n9,.string bU,.slice bP bM aZ,.slice bQ bN bA,.slice bR bO bB,a9,z9],.agg #[.int .i64 4,On,Oo,.slice q3 T l3,.slice q4 T l4]] p.wd (fun e w'=>e=.returned (.bool b1)/\Below p.wd.heap.size p.wd w')))
 have kF:=Qq (fun W=>Ec W)
 clear c0 c1 c2 c3 c4 c5 c6 c7 c8 c9 cR cS cT r0 r1 r2 r3 r4 a0 U aK eZ hM aD iL iA eL eK
 have hq:=HQ.out
 cases b1
 ·have fF:q=13:=by simpa using hq
  clear hq HQ
  subst fF
  refine Xv Oh Og ?_
  first | go_big_quiet_skip | quiet_step (fail)
  first | go_big_quiet_skip | quiet_step (fail)
  first | go_big_quiet_skip | quiet_step (fail)
  first | go_big_quiet_skip | quiet_step (fail)
  first | go_big_quiet_skip | quiet_step (fail)
  quiet_step ((go_at_call 23;exact Calls.later_of (jZ.out _)))
  first | go_big_quiet_skip | quiet_step (fail)
  first | go_big_quiet_skip | quiet_step (fail)
  first | go_big_quiet_skip | quiet_step (fail)
  quiet_step ((go_at_call 26;exact Calls.later_of (kF.out _)))
  first | go_big_quiet_skip | quiet_step (fail)
  first | go_big_quiet_skip | quiet_step (fail)
  refine wpQuiet_nil ?_
  intro wz fI
  obtain ⟨pq,cV⟩:=fI
  have iX:Below eN eN wz:=cV ▸ pq.below
  clear cV C0 C1 C2 C3 C4 C5 C6 C7 C8 C9 fT fU fV R0 R1 R2 R3 R4 A0
  go_wp2_with fail
  go_ret
  exact ⟨rfl,(cW.out.thn cA.out).thn iX⟩
 have fF:¬ q=13:=by simpa using hq
 clear hq HQ
 refine Xv Oh Og ?_
 first | go_big_quiet_skip | quiet_step (fail)
 first | go_big_quiet_skip | quiet_step (fail)
 first | go_big_quiet_skip | quiet_step (fail)
 first | go_big_quiet_skip | quiet_step (fail)
 first | go_big_quiet_skip | quiet_step (fail)
 quiet_step ((go_at_call 23;exact Calls.later_of (jZ.out _)))
 first | go_big_quiet_skip | quiet_step (fail)
 first | go_big_quiet_skip | quiet_step (fail)
 first | go_big_quiet_skip | quiet_step (fail)
 quiet_step ((go_at_call 26;exact Calls.later_of (kF.out _)))
 first | go_big_quiet_skip | quiet_step (fail)
 first | go_big_quiet_skip | quiet_step (fail)
 refine wpQuiet_nil ?_
 intro wz fI
 obtain ⟨pq,cV⟩:=fI
 have iX:Below eN eN wz:=cV ▸ pq.below
 clear cV C0 C1 C2 C3 C4 C5 C6 C7 C8 C9 fT fU fV R0 R1 R2 R3 R4 A0
 go_wp2_with fail
 go_ret
 exact ⟨congrArg (fun b=>Ending.returned (Value.bool b)) (show (!(q==13))=true by simpa using fF),(cW.out.thn cA.out).thn iX⟩
end Go.Proofs.YtlanplhphiikjaaGreatDoor
