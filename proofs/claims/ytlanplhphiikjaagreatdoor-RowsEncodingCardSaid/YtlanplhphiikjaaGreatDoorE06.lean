import Derived.Test.YtlanplhphiikjaaGreatDoorE05
import Derived.Test.YtlanplhphiikjaaGreatDoorE04
set_option maxRecDepth 100000
set_option maxHeartbeats 400000000
namespace Go.Proofs.YtlanplhphiikjaaGreatDoor
open Go.RowKit Go.Shelf Go.Lib Tryz
theorem colZero (S:Nat->Prop) (w:World):Xw.R S w [Qxd,Qxc,Qxd,Qxc,Qxe,Qxe] ⟨[],.mk 0 [] 0 [] []⟩:=
 ⟨_,rfl,Qxz,Dy (s:=[]) Qxz (Sl.nil _ _ _) (Sl.nil _ _ _)⟩
def Fq (a b:Col):Int:=Yg a.name b.name
theorem row1_on (S:Nat->Prop):CmpOn prog 115 Xw S Fq:=fun W x y cx cy hx hy=>row1_any S x y cx cy W hx hy
theorem insCol (S:Nat->Prop) (B:Nat) (w:World) (q cap:Nat) (xs:List Col) (css:List (List Value)) (hO:Own Xw 79 S B w (.slice (some ⟨q,0,none⟩) xs.length cap) xs css)
  (ho:Srt Fq xs) (hl:xs.length<=1000000) (a b:Nat) (hab:a<=b) (hb:b<=xs.length):
  Calls prog 230 #[Qxa q 0 xs.length cap,a,b,.func (.func 115) #[] #[]] w fun e w'=>e=.returned (.tuple #[])/\Gr w w':=
 Qvz Tryz.insCol Xw Qxv 79 isAgg79 sizeOf79 Cl Fq 115 (enters_of func115 Qxx rfl) S B w q cap xs css hO _ _ (colZero _ _) (row1_on _) ho hl a b hab hb
theorem Qzq (S:Nat->Prop) (B:Nat) (w:World) (q cap:Nat) (xs:List Col) (css:List (List Value)) (hO:Own Xw 79 S B w (.slice (some ⟨q,0,none⟩) xs.length cap) xs css)
  (ho:Srt Fq xs) (hl:xs.length<=19):
  Calls prog 172 #[Qxa q 0 xs.length cap,xs.length,.func (.func 115) #[] #[]] w fun e w'=>e=.returned (.tuple #[])/\Gr w w':=by
 have A:=Qq (insCol S B w q cap xs css hO ho Qvu 0 xs.length (Q8 _) (Q9 _))
 clear hO ho
 have h1:(xs.length:Int)<20:=Qvu
 generalize xs.length=n at A h1 hl |-
 rw [show ((0:Nat):Int)=0 from rfl] at A
 go_enter func172,ntmps172
 go_wp2_with fail
 go_loop [7,8] (fun a b=>a=.int .i64 0/\b=.int .i64 20) (fun _ _=>0)
 case atStart=>exact ⟨rfl,rfl⟩
 obtain ⟨rfl,rfl⟩:=hrel
 go_wp2_with (go_at_call 230;refine A.out.mono ?_;rintro e w' ⟨rfl,hw⟩)
 go_loopw [6] (fun s wr=>s=.int .i64 20/\Gr w wr) (fun _ _=>0)
 case atStart=>exact ⟨rfl,hw⟩
 obtain ⟨rfl,hB⟩:=hrel
 have HB:=Qq hB
 clear hB hw
 go_wp2_with fail
 go_end0
 exact ⟨rfl,HB.out⟩
theorem sortCol (S:Nat->Prop) (B:Nat) (w:World) (p:Option Addr) (cap:Nat) (xs:List Col) (css:List (List Value)) (hO:Own Xw 79 S B w (.slice p xs.length cap) xs css)
  (ho:Srt Fq xs) (hl:xs.length<=19) (hne:xs≠[]):
  Calls prog 114 #[.slice p xs.length cap,.func (.func 115) #[] #[]] w fun e w'=>e=.returned (.tuple #[])/\Gr w w':=by
 have A:0<xs.length:=List.length_pos_iff.2 hne
 obtain ⟨q,D,hv,_⟩:=hO.row.form A
 simp only [Qr] at hv
 obtain ⟨rfl,-,rfl⟩:=hv
 have HI:=Qq (Qzq S B w q cap xs css hO ho hl)
 clear hO ho hne A
 generalize xs.length=n at HI hl |-
 go_enter func114,ntmps114
 go_wp2_with (go_at_call 172;refine HI.out.mono ?_;rintro e w' ⟨rfl,hw⟩)
 go_end0
 exact ⟨rfl,hw⟩
theorem Y1.cells {S:Nat->Prop} {w:World} {cs:List Value} {x:Ex} (h:Y1 S w cs x):∃ k s1 n s2 p1 n1 c1 p2 n2 c2 p3 n3 c3 a z,cs=[.int .i64 k,.string s1,.int .i64 n,.string s2,.slice p1 n1 c1,.slice p2 n2 c2,.slice p3 n3 c3,.int .i64 a,.int .i64 z]:=by
 cases h with
 | mk k nm n s names binds kids a z nv bv p cap b off cs hm hs hn hb=>
  obtain ⟨p1,c1,rfl,_⟩:=hn.len
  obtain ⟨p2,c2,rfl,_⟩:=hb.len
  exact ⟨_,_,_,_,_,_,_,_,_,_,_,_,_,_,_,rfl⟩
def tcs (t:Tbl) (cp:Option Addr) (cc:Nat) (kp:Option Addr) (kc:Nat) (rp:Option Addr) (rc:Nat) (k:Int) (s1:ByteArray) (n:Int) (s2:ByteArray) (p1:Option Addr) (n1 c1:Nat) (p2:Option Addr) (n2 c2:Nat) (p3:Option Addr) (n3 c3:Nat) (a z:Int):List Value:=
 [t.name,.slice cp t.columns.length cc,.slice kp t.key.length kc,.slice rp t.refs.length rc,k,.string s1,n,.string s2,.slice p1 n1 c1,.slice p2 n2 c2,.slice p3 n3 c3,a,z]
def Qxg (_ : Tbl) (_ : Option Addr) (_ : Nat) (_ : Option Addr) (_ : Nat) (_ : Option Addr) (_ : Nat) (_ : Int) (_ : ByteArray) (_ : Int) (_ : ByteArray) (_ : Option Addr) (_ _ : Nat) (_ : Option Addr) (_ _ : Nat) (_ : Option Addr) (_ _ : Nat) (_ _ : Int) : Qyk := ⟨0⟩
instance Qxg_l {x : Tbl} {g : Option Addr} {h : Nat} {i : Option Addr} {j : Nat} {l : Option Addr} {m : Nat} {k : Int} {s : ByteArray} {n : Int} {t : ByteArray} {p : Option Addr} {a b : Nat} {q : Option Addr} {c d : Nat} {r : Option Addr} {e f : Nat} {y z : Int} : CoeDep Qyk (Qxg x g h i j l m k s n t p a b q c d r e f y z) (List Value) := ⟨[.string ⟨x.name.toArray⟩, .slice g x.columns.length h, .slice i x.key.length j, .slice l x.refs.length m, .int .i64 k, .string s, .int .i64 n, .string t, .slice p a b, .slice q c d, .slice r e f, .int .i64 y, .int .i64 z]⟩
instance Qxg_a {x : Tbl} {g : Option Addr} {h : Nat} {i : Option Addr} {j : Nat} {l : Option Addr} {m : Nat} {k : Int} {s : ByteArray} {n : Int} {t : ByteArray} {p : Option Addr} {a b : Nat} {q : Option Addr} {c d : Nat} {r : Option Addr} {e f : Nat} {y z : Int} : CoeDep Qyk (Qxg x g h i j l m k s n t p a b q c d r e f y z) (Array Value) := ⟨#[.string ⟨x.name.toArray⟩, .slice g x.columns.length h, .slice i x.key.length j, .slice l x.refs.length m, .int .i64 k, .string s, .int .i64 n, .string t, .slice p a b, .slice q c d, .slice r e f, .int .i64 y, .int .i64 z]⟩
theorem Yj {S:Nat->Prop} {w:World} {cs:List Value} {t:Tbl} (h:Zl.R S w cs t):∃ cp cc kp kc rp rc k s1 n s2 p1 n1 c1 p2 n2 c2 p3 n3 c3 a z,cs=tcs t cp cc kp kc rp rc k s1 n s2 p1 n1 c1 p2 n2 c2 p3 n3 c3 a z/\t.name.length<=1000000 /\
  Sl Xw S w (.slice cp t.columns.length cc) t.columns/\Sl Zg S w (.slice kp t.key.length kc) t.key/\Sl Fw S w (.slice rp t.refs.length rc) t.refs/\Y1 S w (Qxh k s1 n s2 p1 n1 c1 p2 n2 c2 p3 n3 c3 a z) t.check:=by
 obtain ⟨cv,kv,rv,ec,rfl,h1,h2,h3,h4,h5⟩:=h
 obtain ⟨cp,cc,rfl,_⟩:=h2.len
 obtain ⟨kp,kc,rfl,_⟩:=h3.len
 obtain ⟨rp,rc,rfl,_⟩:=h4.len
 obtain ⟨k,s1,n,s2,p1,n1,c1,p2,n2,c2,p3,n3,c3,a,z,rfl⟩:=h5.cells
 exact ⟨cp,cc,kp,kc,rp,rc,k,s1,n,s2,p1,n1,c1,p2,n2,c2,p3,n3,c3,a,z,rfl,h1,h2,h3,h4,h5⟩
def Nm (t:Tbl):Ty:=.mk 5 [] 0 (t.columns.map Col.name) (t.columns.map Col.type)
def RowIs (w:World) (t:Tbl) (e:Ending) (w':World):Prop:=∃ cs',e=.returned (.agg cs'.toArray)/\Xc (fun _=>True) w' cs' (Nm t)/\Below w w w'
structure RowMid (w:World) (G:Nat) (cp:Option Addr) (ccap:Nat) (xs:List Col) (k:Nat) (np:Option Addr) (ncap:Nat) (kp:Option Addr) (kcap:Nat) (wr:World):Prop where
 below:Below w w wr
 hG:w+2<=G
 box:wr.heap[G]?=some (.cells #[.int .i64 5,Qxd,Qxc,.slice np k ncap,.slice kp k kcap] 65 (0,0))
 res:wr.heap[w.heap.size+1]?=some (.cells zY 65 (0,0))
 names:∃ ncs,Own Zg 9 (fun b=>b<G/\b≠w+1) (G+1) wr (.slice np k ncap) ((xs.take k).map Col.name) ncs
 kids:∃ kcs,Own Jo 65 (fun b=>b<G/\b≠w+1) (G+1) wr (.slice kp k kcap) ((xs.take k).map Col.type) kcs
 cols:Sl Xw (fun b=>b<G/\b≠w+1) wr (.slice cp xs.length ccap) xs
theorem row_any (S0:Nat->Prop) (t:Tbl) (cs:List Value) (w:World) (h0:Zl.R S0 w cs t) (ho:Srt Fq t.columns) (hl:t.columns.length<=19) (hne:t.columns≠[]):
  Calls prog 61 #[cs] w (RowIs w t):=by
 have h:Zl.R (fun b=>b<w) w cs t:=Zl.mono h0 (fun b hb _=>hb)
 obtain ⟨fD,fC,fO,fN,fQ,fP,k0,s1,n0,s2,p1,n1,c1,p2,n2,c2,p3,n3,c3,a0,z0,rfl,bT,aL,_,_,_⟩:=Yj h
 unfold tcs
 obtain ⟨HC,HO,dO⟩:=Qxn aL ho hne
 obtain ⟨i9,j1,j2,j3,j4⟩:=Y4 (P:=prog) (t:=9) (z:=.string ⟨#[]⟩) (n:=1) (b:=16) Qxx
 obtain ⟨eL,l1,l2,l3,l4⟩:=Y4 (P:=prog) (t:=65) (z:=.agg zY) (n:=5) (b:=80) Qxx
 obtain ⟨HJ,dF,dG,dH,HL,dK,dL,dM⟩:=Qxt j1 j2 j3 j4 l1 l2 l3 l4
 clear h h0 aL ho hne j1 j2 j3 j4 l1 l2 l3 l4
 go_enter func61,ntmps61
 go_wp2_with fail
 refine (S9 _ _ t.columns _ (HC.out.below (Zu _ _ _))).mono ?_
 rintro e w1 ⟨cp,aE,dX,rfl,cN,aS⟩
 have aM:=(aS.block (w+1) Qxz).trans (Q6 _ _ _)
 obtain ⟨dP,dA,bZ⟩:=Qxn aM ((Zu w _ _).thn aS) cN
 have eY:w.heap.size+2<=w1.heap.size:=by have:=aS.size;simpa using this
 clear aM aS cN
 go_wp2_with fail
 refine (sortCol _ _ _ cp aE t.columns dX bZ.out HO.out hl dO.out).mono ?_
 rintro e w2 ⟨rfl,bQ⟩
 have bI:=Qq bQ.bl
 have bA:w.heap.size+2<=w2.heap.size:=Qxj bQ.bl.size
 clear bQ
 go_wp2_with fail
 obtain ⟨W3,aR⟩:=eX (w2.alloc (.cells #[.int .i64 5,Qxd,Qxc,Qxe,Qxe] 65))
 rw [aR]
 have cI:RowMid w w2 cp aE t.columns 0 none 0 none 0 W3:=by
  have bO:=eqB aR (Ze _ _)
  refine ⟨dA.out.thn (bI.out.thn bO),bA,by rw [<- aR];exact Qw _ _,?_,⟨[],Own.nil _ _ _ _ _⟩,⟨[],Own.nil _ _ _ _ _⟩,?_⟩
  ·rw [bO.block _ Qvu,bI.out.block _ Qvu];exact dP.out
  refine (((bZ.out.sl Qvu (S':=fun b=>b≠w+1) (fun b hb=>?_) (fun b _ hb=>?_)).below bI.out).mono (S':=fun b=>b<w2/\b≠w+1) (fun b hb h=>⟨hb,h⟩)).below bO
  ·have h2:w.heap.size+2<=b:=by simpa using hb
   omega
  have h2:b<w.heap.size:=hb
  omega
 have bY:=Qq cI
 clear cI aR
 obtain ⟨n,hn⟩:=eX (t.columns.length)
 rw [hn] at hl |-
 have HN:=Qq hn
 clear hn
 generalize hG:w2.heap.size=G at bY bA |-
 clear hG
 go_loopw [15] (fun i wr=>∃ (k:Nat) (np:Option Addr) (I:Nat) (kp:Option Addr) (A:Nat),k<=n/\i=.int .i64 k/\RowMid w G cp aE t.columns k np I kp A wr) (fun i _=>n - (intOf i).toNat)
 case atStart=>exact ⟨0,none,0,none,0,Q8 _,rfl,bY.out⟩
 obtain ⟨k,np,I,kp,A,fM,rfl,U⟩:=hrel
 have O:=Qq U
 have fr:=fun j=>Qn _ _ j _ _ U.box
 have c0:=rA0 U.box;have dS:=rA1 U.box;have dT:=rA2 U.box;have dV:=rA3 U.box;have c4:=rA4 U.box
 have cH:=Z8 U.box
 by_cases bS:k<n
 ·have fK:(0:Int)<=(k:Int):=Qvu
  have fL:(k:Int)<(n:Int):=Qvu
  obtain ⟨x,hx⟩:∃ x,t.columns[k]?=some x:=⟨_,Qx (by rw [HN.out];exact bS)⟩
  obtain ⟨cb,eV,cc,rfl,fJ,eW,-,eI,V⟩:=U.cols.elem hx
  obtain ⟨tc,eE,eK,bU⟩:=eI
  obtain ⟨m1,m2,m3,m4,m5,m6,m7,m8,m9,rfl⟩:=bU.cells
  subst eE
  have d0:=V 0 _ rfl;have d1:=V 1 _ rfl;have d2:=V 2 _ rfl;have d3:=V 3 _ rfl;have d4:=V 4 _ rfl;have d5:=V 5 _ rfl
  simp only [show Xw.k=6 from rfl,Nat.add_zero] at d0 d1 d2 d3 d4 d5
  unfold sv at d0
  have HX:=Qq hx;have dQ:=Qq bU
  clear hx V bU c0 dS dT dV c4 fr U
  go_upto_region 7 with fail
  obtain ⟨W4,aI⟩:=eX (wr.alloc (.cells #[x.name,m1,.string m2,m3,.slice m4 m5 m6,.slice m7 m8 m9] 79))
  rw [aI]
  have aJ:=eqB aI (Ze _ _)
  have bB:W4=wr.heap.size+1:=by rw [<- aI];simp
  have bN:=eqH (b:=wr.heap.size) aI (Qw _ _)
  obtain ⟨cO,aH⟩:=O.out.names
  obtain ⟨eN,aG⟩:=O.out.kids
  have bT:((t.columns.take k).map Col.name).length=k:=by rw [Z7,Qm,HN.out];omega
  have cL:((t.columns.take k).map Col.type).length=k:=by rw [Z7,Qm,HN.out];omega
  have aF:=(aJ.block G cH).trans O.out.box
  have c3:=Qk _ _ 3 _ _ _ aF;have c4:=Qk _ _ 4 _ _ _ aF;have f3:=fA 3 aF
  have q0:=Qk _ _ 0 _ _ _ bN
  simp only [Qf,Qg,Qh] at c3 c4 q0
  have aW:=aH.below aJ
  have aU:=aG.below aJ
  obtain ⟨cE,dR,dB,T,cC,eZ,dN,dJ⟩:=Qxt aJ bN aF bB aW aU bT cL
  clear aI aJ bN aF aH aG aW aU bT cL d0 d1 d2 d3 d4 d5 bB
  go_upto_region 8 with (at_builtin;refine Yf (r:=Zg) Qxv rfl (.tmp 20) (.tmp 23) _ rfl 9 i9 (.string ⟨#[]⟩) 16 underlying46 HJ.out dF.out dG.out dH.out rfl Qvu (fun b=>b<G/\b≠w+1) (G+1) W4 (.slice np k I) ((t.columns.take k).map Col.name) cO [x.name] x.name rfl cC.out rfl ⟨rfl,eK⟩ (by simp [Value.oneCell']) k dN.out Qvu (Qxj T.out) ?_;intro p5 M aT w5 cJ bL;have cA:=Qq cJ;have aN:=Qq bL;have aO:=(bL.other G (Qxj T.out) (fun e=>by have:=(cC.out.row.lt G e.symm).1;omega)).trans dB.out;have eA:=fA 3 aO;have dW:=rA3 aO;have dC:=Qq aO;clear cJ bL aO)
  obtain ⟨W6,Z⟩:=eX (w5.setCell ⟨G,3,none⟩ (.slice p5 (k+1) M))
  rw [Z]
  have Y:∀ b,b≠G->W6.heap[b]?=w5.heap[b]?:=by intro b hb;rw [<- Z];exact Z9 hb
  have bD:W6.heap.size=w5.heap.size:=by rw [<- Z];simp [World.setCell]
  have aP:W6.heap[G]?=some (.cells #[.int .i64 5,Qxd,Qxc,.slice p5 (k+1) M,.slice kp k A] 65 (0,0)):=by rw [<- Z,Qi _ _ _ _ _ _ dC.out];rfl
  have aZ:∀ g,(Value.slice np k I).ownBlock=some g->wr.heap.size≠g:=fun g hg e=>by
   obtain ⟨_,h⟩:=O.out.names
   have:=(h.row.lt g hg).2
   omega
  have aA:W6.heap[wr.heap.size]?=some (.cells #[x.name,m1,.string m2,m3,.slice m4 m5 m6,.slice m7 m8 m9] 79 (0,0)):=by
   rw [Y _ Qvu,aN.out.other _ (Qxj T.out) (fun e=>aZ _ e.symm rfl)];exact dR.out
  have keep:∀ b,b<wr.heap.size->some b≠(Value.slice np k I).ownBlock->b≠G->W6.heap[b]?=wr.heap[b]?:=fun b hb hne bP=>by
   rw [Y b bP,aN.out.other b (Qxj T.out) hne];exact cE.out.block b hb
  obtain ⟨_,D⟩:=O.out.names
  obtain ⟨bF,N⟩:=O.out.kids
  have aV:Own Jo 65 (fun b=>b<G/\b≠w+1) (G+1) W6 (.slice kp k A) ((t.columns.take k).map Col.type) bF:=N.move (Q9 _) (fun b hb h=>by
   rcases h with h | h
   ·exact keep b hb (fun e=>by have:=(D.row.lt b e.symm).1;omega) Qvu
   exact keep b hb (fun e=>Yp N.row D.row Qxv h e.symm) (by have:=(N.row.lt b h).1;omega))
  have aX:Own Zg 9 (fun b=>b<G/\b≠w+1) (G+1) W6 (.slice p5 (k+1) M) ((t.columns.take k).map Col.name++[x.name]) aT:=cA.out.move (Q9 _) (fun b _ h=>Y b (by
   rcases h with h | h
   ·omega
   have:=(cA.out.row.lt b h).1;omega))
  have aY:Jo.R (But (fun b=>b<G/\b≠w+1) (.slice kp k A)) W6 [m1,.string m2,m3,.slice m4 m5 m6,.slice m7 m8 m9] x.type:=by
   refine Xc.move dQ.out (fun b hb bS=>keep b bS (fun e=>by have:=(D.row.lt b e.symm).1;omega) Qvu) (fun b _ hb=>⟨hb,fun e=>?_⟩)
   have:=(N.row.lt b e.symm).1
   omega
  have bC:=aN.out.size
  have g4:=Qk _ _ 4 _ _ _ aP;have eB:=fA 4 aP
  have y1:=Qk _ _ 1 _ _ _ aA;have y2:=Qk _ _ 2 _ _ _ aA;have y3:=Qk _ _ 3 _ _ _ aA;have y4:=Qk _ _ 4 _ _ _ aA;have y5:=Qk _ _ 5 _ _ _ aA
  simp only [Qf,Qg,Qh] at g4 y1 y2 y3 y4 y5
  obtain ⟨dI,J,aC,cD,dD,bK,bJ⟩:=Qxs keep aV aX aY aP bD bC
  have aK:Below w w W6:=O.out.below.trans (by
   have h1:=cE.out.mono O.out.below.size
   have h2:=(aN.out.below.mono (show w<=G+1 by omega))
   have h3:=(h1.trans h2).setCell (p:=⟨G,3,none⟩) (show w<=G by omega) (.slice p5 (k+1) M)
   rwa [Z] at h3)
  have bH:=Qq aK
  clear Z Y bD aP aZ aA keep D N aV aX aY bC c3 c4 f3 q0 eA dW aK
  go_wp2_with (at_builtin;refine Yf (r:=Jo) Qxv rfl (.tmp 27) (.tmp 30) _ rfl 65 eL (.agg zY) 80 underlying63 HL.out dK.out dL.out dM.out rfl Qvu (fun b=>b<G/\b≠w+1) (G+1) W6 (.slice kp k A) ((t.columns.take k).map Col.type) bF [m1,.string m2,m3,.slice m4 m5 m6,.slice m7 m8 m9] x.type rfl J.out rfl cD.out (by simp [Value.oneCell']) k dJ.out Qvu (by have:=bK.out;have:=bJ.out;have:=T.out;omega) ?_;intro p7 aD cF w7 cK bM;have cB:=Qq cK;have bX:=Qq bM;have aQ:=(bM.other G (by have:=bK.out;have:=bJ.out;have:=T.out;omega) (fun e=>by have:=(J.out.row.lt G e.symm).1;omega)).trans dD.out;have fE:=fA 4 aQ;have fB:=rA4 aQ;have dE:=Qq aQ;clear cK bM aQ)
  go_roundw
  case measure=>simp [intOf];omega
  case rel=>
   have eH:(t.columns.take (k+1)).map Col.name=(t.columns.take k).map Col.name++[x.name]:=by
    obtain ⟨bR,rfl⟩:=Qj HX.out
    rw [Zz bR,List.map_append];rfl
   have eG:(t.columns.take (k+1)).map Col.type=(t.columns.take k).map Col.type++[x.type]:=by
    obtain ⟨bR,rfl⟩:=Qj HX.out
    rw [Zz bR,List.map_append];rfl
   have cG:=O.out.hG
   obtain ⟨_,D⟩:=O.out.names
   have e6:=bK.out
   have e5:=bJ.out
   have e4:=T.out
   have k7:∀ b,b<W6.heap.size->some b≠(Value.slice kp k A).ownBlock->b≠G->(w7.setCell ⟨G,4,none⟩ (.slice p7 (k+1) aD)).heap[b]?=W6.heap[b]?:=fun b hb hne bP=>by
    rw [Z9 bP,bX.out.other b hb hne]
   have bE:∀ b,b<G->(w7.setCell ⟨G,4,none⟩ (.slice p7 (k+1) aD)).heap[b]?=wr.heap[b]?:=fun b hb=>by
    rw [k7 b Qvu (fun e=>by have:=(J.out.row.lt b e.symm).1;omega) Qvu,dI.out b Qvu (fun e=>by have:=(D.row.lt b e.symm).1;omega) Qvu]
   refine ⟨k+1,p5,M,p7,aD,Qvu,by go_num,⟨(bH.out.trans (bX.out.below.mono Qvu)).setCell (p:=⟨G,4,none⟩) (show w<=G by omega) _,cG,?_,?_,⟨aT,?_⟩,⟨cF,?_⟩,?_⟩⟩
   ·rw [Qi _ _ _ _ _ _ dE.out];rfl
   ·rw [bE _ Qvu];exact O.out.res
   ·rw [eH]
    refine aC.out.move (Q9 _) (fun b hb h=>?_)
    rcases h with h | h
    ·have h':b<G:=h.1
     exact k7 b hb (fun e=>by have:=(J.out.row.lt b e.symm).1;omega) Qvu
    have h':=(aC.out.row.lt b h).1
    exact k7 b hb (fun e=>Yp aC.out.row J.out.row Qxv h e.symm) Qvu
   ·rw [eG]
    refine cB.out.move (Q9 _) (fun b _ h=>Z9 ?_)
    rcases h with h | h
    ·have h':b<G:=h.1
     show b≠G
     omega
    have h':=(cB.out.row.lt b h).1
    show b≠G
    omega
   exact O.out.cols.frame (fun b hb _=>bE b hb.1)
 have cM:k=n:=Qvu
 subst cM
 have r0:=Qk _ _ 0 _ _ _ U.res
 have fz:=fun j=>Qn _ _ j _ _ U.res
 have rr:=fun j=>Qk _ _ j _ _ _ U.res
 obtain ⟨fF,fG,fH,fI,eB⟩:=Qxu fz
 obtain ⟨eP,eQ,eR,eS,eT⟩:=Qxu rr
 simp only [Qf,Qg,Qh] at eP eQ eR eS eT
 have cG:=U.hG
 clear fr fz rr U r0
 go_wp2_with fail
 show bodyPost _ _ _ _ _ (Zp wr _ _ _ _ _ _)
 refine Q7 (v:=.agg #[.int .i64 5,Qxd,Qxc,.slice np k I,.slice kp k A]) (by simp [results,results61,go_sem,Zd O.out.res]) rfl ⟨_,rfl,?_,Zf O.out.below Qvu⟩
 obtain ⟨cO,aH⟩:=O.out.names
 obtain ⟨eN,aG⟩:=O.out.kids
 rw [Zj (Qxj HN.out)] at aH aG
 refine Dy (s:=[]) Qxz ?_ ?_
 ·refine ((aH.sl (by rw [Z7];have:=HN.out;omega) (S':=fun b=>b≠w+1) (fun b hb=>?_) (fun b _ hb=>hb.2)).frame (fun b hb _=>Zi hb)).mono (fun _ _ _=>trivial)
  omega
 refine ((aG.sl (by rw [Z7];have:=HN.out;omega) (S':=fun b=>b≠w+1) (fun b hb=>?_) (fun b _ hb=>hb.2)).frame (fun b hb _=>Zi hb)).mono (fun _ _ _=>trivial)
 omega
end Go.Proofs.YtlanplhphiikjaaGreatDoor
