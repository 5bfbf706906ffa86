import Derived.Test.YtcljcblceodciaaGreatDoorU17
set_option maxRecDepth 100000
set_option maxHeartbeats 400000000
namespace Go.Proofs.YtcljcblceodciaaGreatDoor
open Go.RowKit Go.Shelf Go.Lib Tryz
structure Dr (w:World) where
 wd:World
 below:Below w w wd
instance {w:World}:Inhabited (Dr w):=⟨⟨w,Qz _ _⟩⟩
theorem Uw {P:Program} {id:Nat} {Q:Exit->Act->World->Prop} {a:Act} {w:World} {l:List Oper} (hm:P.follows .mixedOrders=true) (hB:Region.lexB .any l.toArray=true)
  (h:wpQuiet P l.toArray (fun w'=>∃ p:Dr w,w'=p.wd) (fun a'=>∀ w',(∃ p:Dr w,w'=p.wd)->Q .normal a' w') l a):(Code.region id l.toArray true).wp P Q a w:=
 wp_region_quiet (C:=fun w'=>∃ p:Dr w,w'=p.wd) hm hB ⟨⟨w.drew,(Qz _ _).drew⟩,rfl⟩ (by simpa using h)
theorem Kw {w:World} {b o:Nat} {v:Value} (hb:b<w) (h:w.cell? ⟨b,o,none⟩=some v) (p:Dr w):p.wd.cell? ⟨b,o,none⟩=some v:=kD p.below hb h
theorem Calls.later_of {P:Program} {f:FuncId} {args:Array Value} {w:World} {p:Dr w} {v:Value} (h:Calls P f args p.wd fun e w'=>e=.returned v/\Below p.wd.heap.size p.wd w'):Calls P f args p.wd fun e w''=>e=.returned v/\∃ q:Dr w,w''=q.wd:=
 h.mono fun _ w' ⟨he,hb⟩=>⟨he,⟨w',p.below.thn hb⟩,rfl⟩
theorem Lb (a b:Bs):Yc a b=- Yc b a:=by
 have:=Vl a b [] []
 have h:=Vl b a [] []
 simp only [List.append_nil,lex,Jr] at this h
 rw [<- this,<- h];exact Kp _ _
def Xc (v:Val):Prop:=∀ (S:Nat->Prop) (cs:List Value) (w:World),Z9 S w cs v->Calls prog 104 #[cs] w fun e w'=>e=.returned (.bool true)/\Below w w w'
theorem Oi (n:Int) (ks:List Val) (hks:ks=[]) (ih:∀ x ∈ ks,Xc x):Xc (.mk 0 n [] [] ks):=by
 intro S cs w h
 obtain ⟨p3,k3,p4,k4,V,hn,M,_⟩:=Z9.cells h
 simp only [vcs,Val.kind,Val.n,Val.s,Val.names,Val.kids,List.length_nil] at V hn M
 subst V
 obtain ⟨_,_,_,aH⟩:=M.len
 have HI:=Qq ih
 obtain ⟨m,Z⟩:=eX (ks.length)
 rw [Z] at M aH |-
 have aC:=Qq M;have HM:=Qq Z
 have mixed:prog.follows .mixedOrders=true:=Cd
 have aG:m=0:=by rw [<- Z,hks];rfl
 have aM:decide (0<m)=false:=by simp;omega
 clear Z hn hks aG
 clear h M ih
 go_enter func104,ntmps104
 go_wp2_with fail
 generalize J:w.alloc _=G
 have T:=eqB J (Zg _ _)
 have A:=eqH (b:=w.heap.size) J (Qw _ _)
 clear J
 have I:Hid (w<G.heap.size/\Cf G w 4 (.slice p4 m k4)):=Qq ⟨Z8 A,Qk _ _ 4 _ _ _ A⟩
 have aE:Hid (w<G.heap.size/\Cf G w 3 (.slice p3 0 k3)):=Qq ⟨Z8 A,Qk _ _ 3 _ _ _ A⟩
 have N:=Qq T
 clear A T
 go_loopw [5] (fun i wr=>i=.int .i64 0/\G=wr) (fun _ _=>0)
 case atStart=>exact ⟨rfl,rfl⟩
 obtain ⟨rfl,rfl⟩:=hrel
 have c4:=I.out.2
 have c3:=aE.out.2
 go_wp2_with fail
 clear c3 c4
 go_loopw [6] (fun i wr=>∃ k:Nat,k<=m/\i=.int .i64 k/\Aside (Below G G wr)) (fun i _=>m - (intOf i).toNat)
 case atStart=>exact ⟨0,Q8 _,rfl,Qz _ _⟩
 obtain ⟨k,M,rfl,O⟩:=hrel
 have D:=Qq (show Below G G wr from O)
 have c4:=(D.out.cell (p:=⟨w,4,none⟩) I.out.1).trans I.out.2
 clear O
 by_cases hlt:k<m
 ·have aK:(0:Int)<=(k:Int):=C7
  have aL:(k:Int)<(m:Int):=C7
  obtain ⟨y,hy⟩:∃ y,ks[k]?=some y:=⟨_,Qx (by rw [HM.out];exact hlt)⟩
  obtain ⟨b,aN,q3,l3,q4,l4,rfl,aJ,Y,d0,d1,d2,d3,d4⟩:=(aC.out.below (N.out.thn D.out)).val hy
  have aD:=Qq Y;have aB:=Qq (HI.out y (Qy hy))
  clear Y hy
  go_wp2_with (go_at_call 104;refine (aB.out _ _ _ aD.out).mono ?_;rintro e w5 ⟨rfl,U⟩;have aA:=Qq U;clear U)
  go_roundw
  case measure=>simp [intOf];omega
  case rel=>exact ⟨k+1,C7,by go_num,D.out.thn aA.out⟩
 have aF:k=m:=C7
 subst aF
 go_wp2_with fail
 go_ret
 exact ⟨rfl,N.out.thn D.out⟩
theorem No (sx:Bs) (ks:List Val) (hks:ks=[]) (ih:∀ x ∈ ks,Xc x):Xc (.mk 1 0 sx [] ks):=by
 intro S cs w h
 obtain ⟨p3,k3,p4,k4,V,hn,M,_⟩:=Z9.cells h
 simp only [vcs,Val.kind,Val.n,Val.s,Val.names,Val.kids,List.length_nil] at V hn M
 subst V
 obtain ⟨_,_,_,aH⟩:=M.len
 have HI:=Qq ih
 obtain ⟨m,Z⟩:=eX (ks.length)
 rw [Z] at M aH |-
 have aC:=Qq M;have HM:=Qq Z
 have mixed:prog.follows .mixedOrders=true:=Cd
 have aG:m=0:=by rw [<- Z,hks];rfl
 have aM:decide (0<m)=false:=by simp;omega
 clear Z hn hks aG
 clear h M ih
 go_enter func104,ntmps104
 go_wp2_with fail
 generalize J:w.alloc _=G
 have T:=eqB J (Zg _ _)
 have A:=eqH (b:=w.heap.size) J (Qw _ _)
 clear J
 have I:Hid (w<G.heap.size/\Cf G w 4 (.slice p4 m k4)):=Qq ⟨Z8 A,Qk _ _ 4 _ _ _ A⟩
 have aE:Hid (w<G.heap.size/\Cf G w 3 (.slice p3 0 k3)):=Qq ⟨Z8 A,Qk _ _ 3 _ _ _ A⟩
 have N:=Qq T
 clear A T
 go_loopw [5] (fun i wr=>i=.int .i64 0/\G=wr) (fun _ _=>0)
 case atStart=>exact ⟨rfl,rfl⟩
 obtain ⟨rfl,rfl⟩:=hrel
 have c4:=I.out.2
 have c3:=aE.out.2
 go_wp2_with fail
 clear c3 c4
 go_loopw [6] (fun i wr=>∃ k:Nat,k<=m/\i=.int .i64 k/\Aside (Below G G wr)) (fun i _=>m - (intOf i).toNat)
 case atStart=>exact ⟨0,Q8 _,rfl,Qz _ _⟩
 obtain ⟨k,M,rfl,O⟩:=hrel
 have D:=Qq (show Below G G wr from O)
 have c4:=(D.out.cell (p:=⟨w,4,none⟩) I.out.1).trans I.out.2
 clear O
 by_cases hlt:k<m
 ·have aK:(0:Int)<=(k:Int):=C7
  have aL:(k:Int)<(m:Int):=C7
  obtain ⟨y,hy⟩:∃ y,ks[k]?=some y:=⟨_,Qx (by rw [HM.out];exact hlt)⟩
  obtain ⟨b,aN,q3,l3,q4,l4,rfl,aJ,Y,d0,d1,d2,d3,d4⟩:=(aC.out.below (N.out.thn D.out)).val hy
  have aD:=Qq Y;have aB:=Qq (HI.out y (Qy hy))
  clear Y hy
  go_wp2_with (go_at_call 104;refine (aB.out _ _ _ aD.out).mono ?_;rintro e w5 ⟨rfl,U⟩;have aA:=Qq U;clear U)
  go_roundw
  case measure=>simp [intOf];omega
  case rel=>exact ⟨k+1,C7,by go_num,D.out.thn aA.out⟩
 have aF:k=m:=C7
 subst aF
 go_wp2_with fail
 go_ret
 exact ⟨rfl,N.out.thn D.out⟩
theorem Mq (ks:List Val) (hks:ks=[]) (ih:∀ x ∈ ks,Xc x):Xc (.mk 2 0 [] [] ks):=by
 intro S cs w h
 obtain ⟨p3,k3,p4,k4,V,hn,M,_⟩:=Z9.cells h
 simp only [vcs,Val.kind,Val.n,Val.s,Val.names,Val.kids,List.length_nil] at V hn M
 subst V
 obtain ⟨_,_,_,aH⟩:=M.len
 have HI:=Qq ih
 obtain ⟨m,Z⟩:=eX (ks.length)
 rw [Z] at M aH |-
 have aC:=Qq M;have HM:=Qq Z
 have mixed:prog.follows .mixedOrders=true:=Cd
 have aG:m=0:=by rw [<- Z,hks];rfl
 have aM:decide (0<m)=false:=by simp;omega
 clear Z hn hks aG
 clear h M ih
 go_enter func104,ntmps104
 go_wp2_with fail
 generalize J:w.alloc _=G
 have T:=eqB J (Zg _ _)
 have A:=eqH (b:=w.heap.size) J (Qw _ _)
 clear J
 have I:Hid (w<G.heap.size/\Cf G w 4 (.slice p4 m k4)):=Qq ⟨Z8 A,Qk _ _ 4 _ _ _ A⟩
 have aE:Hid (w<G.heap.size/\Cf G w 3 (.slice p3 0 k3)):=Qq ⟨Z8 A,Qk _ _ 3 _ _ _ A⟩
 have N:=Qq T
 clear A T
 go_loopw [5] (fun i wr=>i=.int .i64 0/\G=wr) (fun _ _=>0)
 case atStart=>exact ⟨rfl,rfl⟩
 obtain ⟨rfl,rfl⟩:=hrel
 have c4:=I.out.2
 have c3:=aE.out.2
 go_wp2_with fail
 clear c3 c4
 go_loopw [6] (fun i wr=>∃ k:Nat,k<=m/\i=.int .i64 k/\Aside (Below G G wr)) (fun i _=>m - (intOf i).toNat)
 case atStart=>exact ⟨0,Q8 _,rfl,Qz _ _⟩
 obtain ⟨k,M,rfl,O⟩:=hrel
 have D:=Qq (show Below G G wr from O)
 have c4:=(D.out.cell (p:=⟨w,4,none⟩) I.out.1).trans I.out.2
 clear O
 by_cases hlt:k<m
 ·have aK:(0:Int)<=(k:Int):=C7
  have aL:(k:Int)<(m:Int):=C7
  obtain ⟨y,hy⟩:∃ y,ks[k]?=some y:=⟨_,Qx (by rw [HM.out];exact hlt)⟩
  obtain ⟨b,aN,q3,l3,q4,l4,rfl,aJ,Y,d0,d1,d2,d3,d4⟩:=(aC.out.below (N.out.thn D.out)).val hy
  have aD:=Qq Y;have aB:=Qq (HI.out y (Qy hy))
  clear Y hy
  go_wp2_with (go_at_call 104;refine (aB.out _ _ _ aD.out).mono ?_;rintro e w5 ⟨rfl,U⟩;have aA:=Qq U;clear U)
  go_roundw
  case measure=>simp [intOf];omega
  case rel=>exact ⟨k+1,C7,by go_num,D.out.thn aA.out⟩
 have aF:k=m:=C7
 subst aF
 go_wp2_with fail
 go_ret
 exact ⟨rfl,N.out.thn D.out⟩
theorem Mw (ks:List Val) (hks:ks=[]) (ih:∀ x ∈ ks,Xc x):Xc (.mk 2 1 [] [] ks):=by
 intro S cs w h
 obtain ⟨p3,k3,p4,k4,V,hn,M,_⟩:=Z9.cells h
 simp only [vcs,Val.kind,Val.n,Val.s,Val.names,Val.kids,List.length_nil] at V hn M
 subst V
 obtain ⟨_,_,_,aH⟩:=M.len
 have HI:=Qq ih
 obtain ⟨m,Z⟩:=eX (ks.length)
 rw [Z] at M aH |-
 have aC:=Qq M;have HM:=Qq Z
 have mixed:prog.follows .mixedOrders=true:=Cd
 have aG:m=0:=by rw [<- Z,hks];rfl
 have aM:decide (0<m)=false:=by simp;omega
 clear Z hn hks aG
 clear h M ih
 go_enter func104,ntmps104
 go_wp2_with fail
 generalize J:w.alloc _=G
 have T:=eqB J (Zg _ _)
 have A:=eqH (b:=w.heap.size) J (Qw _ _)
 clear J
 have I:Hid (w<G.heap.size/\Cf G w 4 (.slice p4 m k4)):=Qq ⟨Z8 A,Qk _ _ 4 _ _ _ A⟩
 have aE:Hid (w<G.heap.size/\Cf G w 3 (.slice p3 0 k3)):=Qq ⟨Z8 A,Qk _ _ 3 _ _ _ A⟩
 have N:=Qq T
 clear A T
 go_loopw [5] (fun i wr=>i=.int .i64 0/\G=wr) (fun _ _=>0)
 case atStart=>exact ⟨rfl,rfl⟩
 obtain ⟨rfl,rfl⟩:=hrel
 have c4:=I.out.2
 have c3:=aE.out.2
 go_wp2_with fail
 clear c3 c4
 go_loopw [6] (fun i wr=>∃ k:Nat,k<=m/\i=.int .i64 k/\Aside (Below G G wr)) (fun i _=>m - (intOf i).toNat)
 case atStart=>exact ⟨0,Q8 _,rfl,Qz _ _⟩
 obtain ⟨k,M,rfl,O⟩:=hrel
 have D:=Qq (show Below G G wr from O)
 have c4:=(D.out.cell (p:=⟨w,4,none⟩) I.out.1).trans I.out.2
 clear O
 by_cases hlt:k<m
 ·have aK:(0:Int)<=(k:Int):=C7
  have aL:(k:Int)<(m:Int):=C7
  obtain ⟨y,hy⟩:∃ y,ks[k]?=some y:=⟨_,Qx (by rw [HM.out];exact hlt)⟩
  obtain ⟨b,aN,q3,l3,q4,l4,rfl,aJ,Y,d0,d1,d2,d3,d4⟩:=(aC.out.below (N.out.thn D.out)).val hy
  have aD:=Qq Y;have aB:=Qq (HI.out y (Qy hy))
  clear Y hy
  go_wp2_with (go_at_call 104;refine (aB.out _ _ _ aD.out).mono ?_;rintro e w5 ⟨rfl,U⟩;have aA:=Qq U;clear U)
  go_roundw
  case measure=>simp [intOf];omega
  case rel=>exact ⟨k+1,C7,by go_num,D.out.thn aA.out⟩
 have aF:k=m:=C7
 subst aF
 go_wp2_with fail
 go_ret
 exact ⟨rfl,N.out.thn D.out⟩
theorem Oa (ks:List Val) (ih:∀ x ∈ ks,Xc x):Xc (.mk 5 0 [] [] ks):=by
 intro S cs w h
 obtain ⟨p3,k3,p4,k4,V,hn,M,_⟩:=Z9.cells h
 simp only [vcs,Val.kind,Val.n,Val.s,Val.names,Val.kids,List.length_nil] at V hn M
 subst V
 obtain ⟨_,_,_,aG⟩:=M.len
 have HI:=Qq ih
 obtain ⟨m,hm⟩:=eX (ks.length)
 rw [hm] at M aG |-
 have aB:=Qq M;have HM:=Qq hm
 have mixed:prog.follows .mixedOrders=true:=Cd
 clear hm hn
 clear h M ih
 go_enter func104,ntmps104
 go_wp2_with fail
 generalize J:w.alloc _=G
 have T:=eqB J (Zg _ _)
 have A:=eqH (b:=w.heap.size) J (Qw _ _)
 clear J
 have I:Hid (w<G.heap.size/\Cf G w 4 (.slice p4 m k4)):=Qq ⟨Z8 A,Qk _ _ 4 _ _ _ A⟩
 have aD:Hid (w<G.heap.size/\Cf G w 3 (.slice p3 0 k3)):=Qq ⟨Z8 A,Qk _ _ 3 _ _ _ A⟩
 have N:=Qq T
 clear A T
 go_loopw [5] (fun i wr=>i=.int .i64 0/\G=wr) (fun _ _=>0)
 case atStart=>exact ⟨rfl,rfl⟩
 obtain ⟨rfl,rfl⟩:=hrel
 have c4:=I.out.2
 have c3:=aD.out.2
 go_wp2_with fail
 clear c3 c4
 go_loopw [6] (fun i wr=>∃ k:Nat,k<=m/\i=.int .i64 k/\Aside (Below G G wr)) (fun i _=>m - (intOf i).toNat)
 case atStart=>exact ⟨0,Q8 _,rfl,Qz _ _⟩
 obtain ⟨k,M,rfl,O⟩:=hrel
 have D:=Qq (show Below G G wr from O)
 have c4:=(D.out.cell (p:=⟨w,4,none⟩) I.out.1).trans I.out.2
 clear O
 by_cases hlt:k<m
 ·have aJ:(0:Int)<=(k:Int):=C7
  have aK:(k:Int)<(m:Int):=C7
  obtain ⟨y,hy⟩:∃ y,ks[k]?=some y:=⟨_,Qx (by rw [HM.out];exact hlt)⟩
  obtain ⟨b,aL,q3,l3,q4,l4,rfl,aI,Y,d0,d1,d2,d3,d4⟩:=(aB.out.below (N.out.thn D.out)).val hy
  have aC:=Qq Y;have aA:=Qq (HI.out y (Qy hy))
  clear Y hy
  go_wp2_with (go_at_call 104;refine (aA.out _ _ _ aC.out).mono ?_;rintro e w5 ⟨rfl,U⟩;have Z:=Qq U;clear U)
  go_roundw
  case measure=>simp [intOf];omega
  case rel=>exact ⟨k+1,C7,by go_num,D.out.thn Z.out⟩
 have aE:k=m:=C7
 subst aE
 go_wp2_with fail
 go_ret
 exact ⟨rfl,N.out.thn D.out⟩
theorem Ok (sx:Bs) (hsx:Gf sx) (ks:List Val) (hl:ks.length<=1) (ih:∀ x ∈ ks,Xc x):Xc (.mk 3 0 sx [] ks):=by
 intro S cs w h
 obtain ⟨p3,k3,p4,k4,V,hn,M,_⟩:=Z9.cells h
 simp only [vcs,Val.kind,Val.n,Val.s,Val.names,Val.kids,List.length_nil] at V hn M
 subst V
 obtain ⟨_,_,_,aI⟩:=M.len
 have HI:=Qq ih
 obtain ⟨m,hm⟩:=eX (ks.length)
 rw [hm] at M aI |-
 have aC:=Qq M;have HM:=Qq hm
 have mixed:prog.follows .mixedOrders=true:=Cd
 have aN:m<=1:=C7
 have aO:decide (1<m)=false:=by simp;omega
 have HF:=Qq (fun W=>Wg sx hsx W)
 unfold sv at HF
 clear hm hn hsx hl
 clear h M ih
 go_enter func104,ntmps104
 go_wp2_with fail
 refine (HF.out _).mono ?_
 rintro e D ⟨rfl,J⟩
 have A:D.heap[w.heap.size]?=some (.cells #[.int .i64 3,Ci,sx,.slice p3 0 k3,.slice p4 m k4] 36 (0,0)):=kE J Ca (Qw _ _)
 have T:=(Zg w _).thn J
 clear J
 obtain ⟨c0,c1,c2,c3,Z⟩:=row5 A
 go_wp2_with fail
 clear c0 c1 c2 c3 Z
 have I:Hid (w<D.heap.size/\Cf D w 4 (.slice p4 m k4)):=Qq ⟨Z8 A,Qk _ _ 4 _ _ _ A⟩
 have aE:Hid (w<D.heap.size/\Cf D w 3 (.slice p3 0 k3)):=Qq ⟨Z8 A,Qk _ _ 3 _ _ _ A⟩
 have N:=Qq T
 clear A T
 go_loopw [5] (fun i wr=>i=.int .i64 0/\D=wr) (fun _ _=>0)
 case atStart=>exact ⟨rfl,rfl⟩
 obtain ⟨rfl,rfl⟩:=hrel
 have Z:=I.out.2
 have c3:=aE.out.2
 go_wp2_with fail
 clear c3 Z
 go_loopw [6] (fun i wr=>∃ k:Nat,k<=m/\i=.int .i64 k/\Aside (Below D D wr)) (fun i _=>m - (intOf i).toNat)
 case atStart=>exact ⟨0,Q8 _,rfl,Qz _ _⟩
 obtain ⟨k,M,rfl,O⟩:=hrel
 have G:=Qq (show Below D D wr from O)
 have Z:=(G.out.cell (p:=⟨w,4,none⟩) I.out.1).trans I.out.2
 clear O
 by_cases hlt:k<m
 ·have aL:(0:Int)<=(k:Int):=C7
  have aM:(k:Int)<(m:Int):=C7
  obtain ⟨y,hy⟩:∃ y,ks[k]?=some y:=⟨_,Qx (by rw [HM.out];exact hlt)⟩
  obtain ⟨b,aP,q3,l3,q4,l4,rfl,aK,Y,d0,d1,d2,d3,d4⟩:=(aC.out.below (N.out.thn G.out)).val hy
  have aD:=Qq Y;have aB:=Qq (HI.out y (Qy hy))
  clear Y hy
  go_wp2_with (go_at_call 104;refine (aB.out _ _ _ aD.out).mono ?_;rintro e w5 ⟨rfl,U⟩;have aA:=Qq U;clear U)
  go_roundw
  case measure=>simp [intOf];omega
  case rel=>exact ⟨k+1,C7,by go_num,G.out.thn aA.out⟩
 have aG:k=m:=C7
 subst aG
 go_wp2_with fail
 go_ret
 exact ⟨rfl,N.out.thn G.out⟩
theorem Xa {P:Program} (k:Nat) (w:World) (dT sT ty elem:TypeId) (g o dLen dCap:Nat) (a:Addr) (sLen sCap:Nat) (cur:Array Value) (t:TypeId) (cs:List Value)
  (hu:P.underlying dT=some (.slice elem)) (hs:(P.info? elem).map (·.size)=some k)
  (hg:w.heap[g]?=some (.cells cur t (0,0))) (hn:cs.length=Nat.min sLen dLen*k)
  (hsrc:∀ j v,cs[j]?=some v->w.cell? (a.add j)=some v) (hfit:o+cs.length<=cur.size) (h1:∀ v ∈ cs,v.oneCell'=true):
  (Builtin.copy_ #[dT,sT] ty #[Cg g o dLen dCap,.slice (some a) sLen sCap]).run P w=
   .ok (goInt (Nat.min sLen dLen)) (w.setRow g (cur.toList.take o++cs++cur.toList.drop (o+cs.length)).toArray):=by
 have hl:=run_loadCells_list (P:=P) w a cs hsrc
 have A:=run_storeCells_at P g o t cs 0 cur w hg (by simpa using hfit) h1
 cases hq:P.info? elem with
 | none=>simp [hq] at hs
 | some i=>
  have hi:i.size=k:=by simpa [hq] using hs
  simp [Builtin.copy_,run_underlying hu,Builtin.lenOf,Builtin.firstCells,sizeOf,typeInfo,hq,hi,<- hn,hl,A]
theorem insRoom (S:Nat->Prop) (B:Nat) (w:World) (g n cap i:Nat) (xs:List Val) (css:List (List Value)) (y:Val) (cy:List Value) (qb qo c:Nat) (hO:Own Zd 36 S B w (.slice (some ⟨g,0,none⟩) n cap) xs css) (hn:xs.length=n) (hi:i<n) (hroom:n+1<=cap) (hqb:qb≠g)
  (hy:Z9 (But S (.slice (some ⟨g,0,none⟩) n cap)) w cy y) (hcy:∀ j u,cy[j]?=some u->w.cell? ⟨qb,qo+j,none⟩=some u) (hl:n<=100000)
  (tA:TypeId) (kA:Nat) (hsa:w.shape? qb=some (tA,kA)) (hfa:w.frozen? ⟨qb,qo,none⟩=false) (hfe:w.frozen? ⟨qb,kA,none⟩=false):
  Calls prog 83 #[Cg g 0 n cap,i,Cg qb qo 1 c] w (fun e w'=>e=.returned (.slice (some ⟨g,0,none⟩) (n+1) cap)/\∃ X,w'.heap[g]?=some (.cells X 36 (0,0))/\X.size=cap*5/\X.toList.take ((n+1)*5)=(css.take i).flatten++cy++(css.drop i).flatten/\(∀ k,k≠g->w'.heap[k]?=w.heap[k]?)/\w'=w.heap.size/\w.grownBy w' (some g)):=by
 obtain ⟨i0,j1,j2,j3,j4⟩:=Y7 (P:=prog) (t:=36) (z:=.agg zV) (n:=5) (b:=80) Cd
 have mixed:prog.follows .mixedOrders=true:=Cd
 have bB:(prog.info? 36).map (·.size)=some 5:=by rw [j1];simp [j3]
 rcases hO.row.2 with ⟨h,_⟩ | ⟨g',bK,I,hv,bR,aE,bT,bQ,aB,aC⟩
 ·cases h
 simp only [Qr,Zv,Addr.mk.injEq] at hv
 obtain ⟨⟨rfl,-,-⟩,-,rfl⟩:=hv
 have aN:=hO.cs.all
 have aO:=hO.cs.flat
 have aX:css.length=n:=by rw [hO.cs.len,hn]
 obtain ⟨A,hA⟩:=eX ((css.take i).flatten)
 obtain ⟨D,hD⟩:=eX ((css.drop i).flatten)
 have aL:css.flatten=A++D:=by rw [<- hA,<- hD,<- List.flatten_append,List.take_append_drop]
 have aM:A.length=i*5:=by rw [<- hA,Vm (fun c hc=>aN c (List.mem_of_mem_take hc)),Qm,aX,Z0 C7];rfl
 have Y:D.length=(n - i)*5:=by rw [<- hD,Vm (fun c hc=>aN c (Zw hc)),Zq,aX];rfl
 have N:∀ j v,(A++D)[j]?=some v->w.cell? ⟨g,j,none⟩=some v:=by
  intro j v O
  rw [<- aL,<- aC,List.getElem?_take] at O
  split at O
  ·rw [Qk w g j I _ (0,0) aE];simpa using O
  cases O
 have aT:∀ v ∈ D,v.oneCell'=true:=by
  intro u hu
  rw [<- hD] at hu
  obtain ⟨cc,aY,bI⟩:=List.mem_flatten.1 hu
  obtain ⟨j,O⟩:=Zk (Zw aY)
  have bF:=(Qj O).1
  exact Xx _ w cc _ (hO.cs.R j cc _ O (Qx (by rw [<- hO.cs.len];exact bF))) u bI
 have G:cy.length=5:=Zd.len hy
 have aU:∀ v ∈ cy,v.oneCell'=true:=Xx _ w cy y hy
 have bH:∀ lb cb,(callFunc 129 #[Cg qb qo 1 c,Cg g ((i+1)*5) lb cb]).run prog w=.ok (.value (.bool false)) w:=fun lb cb=>by
  rw [run_callFunc_extern func129 Cd Cd Cd (e:=Extern.SlicesOverlaps.overlaps #[34,34] #[4]) Cd,
   Lib.run_overlaps_apart w 34 4 36 underlying34 5 sizeOf36 ⟨qb,qo,none⟩ ⟨g,(i+1)*5,none⟩ 1 c lb cb hqb tA 36 kA (cap*5) hsa (by unfold World.shape?;rw [aE];simp [aB];rfl) C7 hfa hfe]
  rfl
 have bG:Zd.k=5:=rfl
 have aR:Nat.min (n+1 - i) (n+1 - (i+1))=n - i:=(show min (n+1 - i) (n+1 - (i+1))=n - i by omega)
 have aS:Nat.min 1 (n+1 - i)=1:=(show min 1 (n+1 - i)=1 by omega)
 rw [bG] at aB aC aO
 rw [hn] at aC
 have M:I.toList.length=cap*5:=by simpa using aB
 have aG:∀ j v,D[j]?=some v->w.cell? ⟨g,i*5+j,none⟩=some v:=fun j v O=>N _ v (by rw [Zx C7,aM,Nat.add_sub_cancel_left];exact O)
 obtain ⟨U,Z⟩:∃ U,U=(I.toList.take ((i+1)*5)++D++I.toList.drop ((i+1)*5+D.length)).toArray:=⟨_,rfl⟩
 have aI:∀ ty dc sc,(Builtin.copy_ #[34,34] ty #[.slice (some ⟨g,(i+1)*5,none⟩) (n+1 - (i+1)) dc,Cg g (i*5) (n+1 - i) sc]).run prog w.drew=.ok (goInt (n - i:Nat)) (w.drew.setRow g U):=fun ty dc sc=>by
  have h:=Xa (P:=prog) 5 w.drew 34 34 ty 36 g ((i+1)*5) (n+1 - (i+1)) dc ⟨g,i*5,none⟩ (n+1 - i) sc I 36 D underlying34 bB aE (by rw [Y,aR]) (fun j v O=>by rw [Addr.add_lit];exact aG j v O) (by simp only [Y,aB];omega) aT
  rw [<- Z,aR] at h
  exact h
 obtain ⟨T,J⟩:∃ T,T=w.drew.setRow g U:=⟨_,rfl⟩
 have aP:T.heap[g]?=some (.cells U 36 (0,0)):=by rw [J];exact setRow_heap _ _ _ _ _ _ aE
 have aF:∀ k,k≠g->T.heap[k]?=w.heap[k]?:=fun k hk=>by rw [J,setRow_other _ _ _ _ hk];rfl
 rw [<- J] at aI
 have aA:U.toList.length=cap*5:=by rw [Z];simp only [Ql,Qm,Zq,M,Y];rw [Z0 C7];omega
 have aH:U.size=cap*5:=by simpa using aA
 obtain ⟨V,aD⟩:∃ V,V=(U.toList.take (i*5)++cy++U.toList.drop (i*5+cy.length)).toArray:=⟨_,rfl⟩
 have aZ:∀ ty dc,(Builtin.copy_ #[34,34] ty #[Cg g (i*5) (n+1 - i) dc,Cg qb qo 1 c]).run prog T=.ok (goInt 1) (T.setRow g V):=fun ty dc=>by
  have h:=Xa (P:=prog) 5 T 34 34 ty 36 g (i*5) (n+1 - i) dc ⟨qb,qo,none⟩ 1 c U 36 cy underlying34 bB aP (by rw [G,aS]) (fun j v O=>by rw [Addr.add_lit];exact (World.cell?_of_block (aF qb hqb)).trans (hcy j v O)) (by rw [G,aH];omega) aU
  rw [<- aD,aS] at h
  exact h
 have aJ:(T.setRow g V).heap[g]?=some (.cells V 36 (0,0))/\V.size=cap*5/\V.toList.take ((n+1)*5)=A++cy++D/\(∀ k,k≠g->(T.setRow g V).heap[k]?=w.heap[k]?)/\(T.setRow g V).heap.size=w.heap.size/\w.grownBy (T.setRow g V) (some g):=by
  have bA:(T.setRow g V).heap.size=w.heap.size:=by rw [J];simp [World.setRow]
  refine ⟨setRow_heap _ _ _ _ _ _ aP,?_,?_,fun k hk=>(setRow_other _ _ _ _ hk).trans (aF k hk),bA,⟨by rw [J];rfl,by rw [J];rfl,by rw [J];rfl,by rw [bA];exact Q9 _,fun k _ hk=>(setRow_other _ _ _ _ (fun e=>hk (by rw [e]))).trans (aF k (fun e=>hk (by rw [e])))⟩⟩
  ·rw [aD];simp only [List.size_toArray,Ql,Qm,Zq,aA,G];rw [Z0 C7];omega
  have bE:I.toList.take (i*5)=A:=by
   have:(I.toList.take (n*5)).take (i*5)=A:=by rw [aC,aL,Z1 C7,Zj C7]
   rwa [List.take_take,Z0 C7] at this
  have e1:U.toList.take (i*5)=A:=by
   rw [Z,List.toList_toArray,List.append_assoc,Z1 (by rw [Qm,M,Z0 C7];omega),List.take_take,Z0 C7,bE]
  have e2:U.toList.drop (i*5+cy.length)=D++I.toList.drop ((i+1)*5+D.length):=by
   rw [Z,List.toList_toArray,List.append_assoc,G,List.drop_append_of_le_length (by rw [Qm,M,Z0 C7];omega),Qu (by rw [Qm,M,Z0 C7];omega),List.nil_append]
  rw [aD,List.toList_toArray,e1,e2,<- List.append_assoc,Z1 (by simp only [Ql,aM,G,Y];omega),Zj (by simp only [Ql,aM,G,Y];omega)]
 rw [show css.take i=css.take i from rfl] at hA
 rw [hA,hD]
 have HE:=Qq aJ
 clear aJ J Z aD aA aH aR aS aG N aC aB M aL hA hD hO aN hy hcy aT aU aF aP
 have bY:¬ ((i:Int)=(n:Int)):=C7
 have bW:IntKind.i64.wrap ((i:Int)+1)=(i:Int)+1:=by rw [IntKind.wrap_i64];omega
 have bX:IntKind.i64.wrap ((n:Int)+1)=(n:Int)+1:=by rw [IntKind.wrap_i64];omega
 have bU:¬ ((cap:Int)<(n:Int)+1):=C7
 have bM:(0:Int)<=(i:Int)+1:=C7
 have bL:(0:Int)<=(i:Int):=C7
 have bN:¬ (cap=i+1):=C7
 have bO:¬ (cap=i):=C7
 have bV:((i:Int)+1).toNat=i+1:=C7
 have bS:i<=n:=C7
 have bP:(i:Int)<=(n:Int)+1:=C7
 go_enter func83,ntmps83
 go_wp2_with (simp only [bH])
 go_region_law_o (refine step_copy_runI rfl _ _ 34 34 rfl _ _ (by simp [Act.eval,Act.put]) (by simp [Act.eval,Act.put]) (aI _ (cap - (i+1)) (cap - i)) ?_)
 go_wp2_with (at_builtin;refine wpList_copy_runI _ rfl _ _ 34 34 rfl _ _ (by simp [Act.eval,Act.put]) (by simp [Act.eval,Act.put]) (aZ _ (cap - i)) ?_)
 go_ret
 exact ⟨rfl,_,HE.out⟩
theorem insGrow (S:Nat->Prop) (B:Nat) (w:World) (g n i:Nat) (xs:List Val) (css:List (List Value)) (y:Val) (cy:List Value) (qb qo c:Nat) (hO:Own Zd 36 S B w (.slice (some ⟨g,0,none⟩) n n) xs css) (hn:xs.length=n) (hi:i<n)
  (hy:Z9 (But S (.slice (some ⟨g,0,none⟩) n n)) w cy y) (hcy:∀ j u,cy[j]?=some u->w.cell? ⟨qb,qo+j,none⟩=some u) (hl:n<=100000)
  (hqw:qb<w):
  Calls prog 83 #[Cg g 0 n n,i,Cg qb qo 1 c] w (fun e w'=>∃ G,e=.returned (.slice (some ⟨w,0,none⟩) (n+1) G)/\n+1<=G/\G<=maxLen/\∃ X,w'.heap[w.heap.size]?=some (.cells X 36 (0,0))/\X.size=G*5/\X.toList.take ((n+1)*5)=(css.take i).flatten++cy++(css.drop i).flatten/\(∀ k,k<w.heap.size->w'.heap[k]?=w.heap[k]?)/\w'=w.heap.size+1/\w.grownBy w' (some g)):=by
 obtain ⟨i0,j1,j2,j3,j4⟩:=Y7 (P:=prog) (t:=36) (z:=.agg zV) (n:=5) (b:=80) Cd
 have mixed:prog.follows .mixedOrders=true:=Cd
 have bX:(prog.info? 36).map (·.size)=some 5:=by rw [j1];simp [j3]
 rcases hO.row.2 with ⟨h,_⟩ | ⟨g',cG,bH,hv,cQ,aZ,cS,cP,aV,aM⟩
 ·cases h
 simp only [Qr,Zv,Addr.mk.injEq] at hv
 obtain ⟨⟨rfl,-,-⟩,-,rfl⟩:=hv
 have aU:=hO.cs.all
 have aW:=hO.cs.flat
 have bP:css.length=n:=by rw [hO.cs.len,hn]
 obtain ⟨A,hA⟩:=eX ((css.take i).flatten)
 obtain ⟨D,hD⟩:=eX ((css.drop i).flatten)
 have bL:css.flatten=A++D:=by rw [<- hA,<- hD,<- List.flatten_append,List.take_append_drop]
 have U:A.length=i*5:=by rw [<- hA,Vm (fun c hc=>aU c (List.mem_of_mem_take hc)),Qm,bP,Z0 C7];rfl
 have aD:D.length=(n - i)*5:=by rw [<- hD,Vm (fun c hc=>aU c (Zw hc)),Zq,bP];rfl
 have M:∀ j v,(A++D)[j]?=some v->w.cell? ⟨g,j,none⟩=some v:=by
  intro j v N
  rw [<- bL,<- aM,List.getElem?_take] at N
  split at N
  ·rw [Qk w g j bH _ (0,0) aZ];simpa using N
  cases N
 have bI:∀ v ∈ D,v.oneCell'=true:=by
  intro u hu
  rw [<- hD] at hu
  obtain ⟨cc,aF,bF⟩:=List.mem_flatten.1 hu
  obtain ⟨j,N⟩:=Zk (Zw aF)
  have bB:=(Qj N).1
  exact Xx _ w cc _ (hO.cs.R j cc _ N (Qx (by rw [<- hO.cs.len];exact bB))) u bF
 have J:cy.length=5:=Zd.len hy
 have bJ:∀ v ∈ cy,v.oneCell'=true:=Xx _ w cy y hy
 have cE:Zd.k=5:=rfl
 have aK:Nat.min (n+1 - i) (n+1 - (i+1))=n - i:=(show min (n+1 - i) (n+1 - (i+1))=n - i by omega)
 have aL:Nat.min 1 (n+1 - i)=1:=(show min 1 (n+1 - i)=1 by omega)
 rw [cE] at aV aM aW
 rw [hn] at aM
 have bR:bH.toList.length=n*5:=by simpa using aV
 have aN:∀ j v,D[j]?=some v->w.cell? ⟨g,i*5+j,none⟩=some v:=fun j v N=>M _ v (by rw [Zx C7,U,Nat.add_sub_cancel_left];exact N)
 have cB:∀ v ∈ A,v.oneCell'=true:=by
  intro u hu
  rw [<- hA] at hu
  obtain ⟨cc,aF,bF⟩:=List.mem_flatten.1 hu
  obtain ⟨j,N⟩:=Zk (List.mem_of_mem_take aF)
  have bB:=(Qj N).1
  exact Xx _ w cc _ (hO.cs.R j cc _ N (Qx (by rw [<- hO.cs.len];exact bB))) u bF
 have bS:g<w.heap.size:=(Array.getElem?_eq_some_iff.1 aZ).1
 have aS:(Builtin.firstCells i0.size i (.slice (some ⟨g,0,none⟩) i n)).run prog w.drew=.ok A.toArray w.drew:=by
  rw [j3]
  exact run_firstCells_some w.drew 5 i ⟨g,0,none⟩ i n A U (fun j v N=>by
   rw [Addr.add_lit,Nat.zero_add]
   exact M j v (by rw [List.getElem?_append_left (Qj N).1];exact N))
 have bA:i+(n+1 - i)=n+1:=C7
 have bT:(n:Int)+1 - (i:Int)=((n+1 - i:Nat):Int):=C7
 obtain ⟨G,hG⟩:∃ G,G=grownCap w (n+1) n 36:=⟨_,rfl⟩
 obtain ⟨I,Z⟩:∃ I:Array Value,I=A.toArray++Builtin.zeroCells (Value.agg zV).cells (n+1 - i)++Builtin.zeroCells (Value.agg zV).cells (G - (n+1)):=⟨_,rfl⟩
 have bU:∀ ty,(Builtin.append_ #[34,3] ty #[Cg g 0 i n,.int .i64 ((n:Int)+1 - (i:Int))]).run prog w=.ok (.slice (some ⟨w,0,none⟩) (n+1) G) (w.drew.alloc (.cells I 36)):=fun ty=>by
  have h:=Lib.run_append_grow_zeros w 34 3 ty 36 i0 _ .i64 .i64 underlying34 underlying3 j1 j2 (some ⟨g,0,none⟩) i n A aS (n+1 - i) C7 (by rw [j3];decide) C7 C7 (by rw [j4];omega) (by rw [j4,bA];exact growslice_fits C7 C7)
  rw [bA,<- hG,<- Z] at h
  rw [bT]
  exact h
 have cC:n+1<=G:=by rw [hG];exact grownCap_ge w _ _ _
 have bN:G<=maxLen:=by rw [hG];exact grownCap_le_maxLen w (n+1) n _ (by unfold maxLen;omega)
 have aT:I.size=G*5:=by
  rw [Z]
  simp [Builtin.zeroCells,Value.cells,U]
  omega
 have bO:I.toList.take (i*5)=A:=by
  rw [Z]
  simp only [Array.toList_append,List.append_assoc]
  rw [Z1 C7,Zj C7]
 obtain ⟨W1,aA⟩:∃ W1,W1=w.drew.alloc (.cells I 36):=⟨_,rfl⟩
 rw [<- aA] at bU
 have aX:W1.heap[w.heap.size]?=some (.cells I 36 (0,0)):=by rw [aA];exact Qw w.drew _
 have bC:∀ k,k<w.heap.size->W1.heap[k]?=w.heap[k]?:=fun k hk=>by rw [aA];exact Go.heap_alloc_old w.drew _ hk
 have bV:W1=w.heap.size+1:=by rw [aA];simp
 have O:w.grownBy W1 (some g):=by rw [aA];exact ⟨rfl,rfl,rfl,Ca,fun k hk _=>Go.heap_alloc_old w.drew _ hk⟩
 clear aA
 have aK:Nat.min 1 (n+1 - i)=1:=(show min 1 (n+1 - i)=1 by omega)
 have aL:Nat.min (n - i) (n+1 - (i+1))=n - i:=(show min (n - i) (n+1 - (i+1))=n - i by omega)
 obtain ⟨X1,aI⟩:∃ X1,X1=(I.toList.take (i*5)++cy++I.toList.drop (i*5+cy.length)).toArray:=⟨_,rfl⟩
 have aQ:∀ ty,(Builtin.copy_ #[34,34] ty #[Cg w (i*5) (n+1 - i) (G - i),Cg qb qo 1 c]).run prog W1=.ok (goInt 1) (W1.setRow w X1):=fun ty=>by
  have h:=Xa (P:=prog) 5 W1 34 34 ty 36 w (i*5) (n+1 - i) (G - i) ⟨qb,qo,none⟩ 1 c I 36 cy underlying34 bX aX (by rw [J,aK]) (fun j v N=>by rw [Addr.add_lit];exact (World.cell?_of_block (bC qb hqw)).trans (hcy j v N)) (by rw [J,aT];omega) bJ
  rw [<- aI,aK] at h
  exact h
 have aE:X1.toList.length=G*5:=by
  have:I.toList.length=G*5:=by simpa using aT
  rw [aI];simp only [Ql,Qm,Zq,this,J];rw [Z0 C7];omega
 have aP:X1.size=G*5:=by simpa using aE
 have aO:X1.toList.take (i*5+5)=A++cy:=by
  rw [aI,List.toList_toArray,bO,Z1 (by simp only [Ql,U,J];omega),Zj (by simp only [Ql,U,J];omega)]
 obtain ⟨Y,V⟩:∃ Y,Y=W1.setRow w X1:=⟨_,rfl⟩
 rw [<- V] at aQ
 have aY:Y.heap[w.heap.size]?=some (.cells X1 36 (0,0)):=by rw [V];exact setRow_heap _ _ _ _ _ _ aX
 have bD:∀ k,k<w.heap.size->Y.heap[k]?=w.heap[k]?:=fun k hk=>by rw [V,setRow_other _ _ _ _ C7];exact bC k hk
 have bE:Y=w.heap.size+1:=by rw [V,<- bV];simp [World.setRow]
 have T:w.grownBy Y (some g):=by rw [V];exact ⟨O.os,O.tape,O.output,by rw [<- V,bE];omega,fun k hk h=>(setRow_other _ _ _ _ C7).trans (O.block k hk h)⟩
 clear V
 obtain ⟨X2,aJ⟩:∃ X2,X2=(X1.toList.take ((i+1)*5)++D++X1.toList.drop ((i+1)*5+D.length)).toArray:=⟨_,rfl⟩
 have bQ:∀ ty,(Builtin.copy_ #[34,34] ty #[.slice (some ⟨w,(i+1)*5,none⟩) (n+1 - (i+1)) (G - (i+1)),Cg g (i*5) (n - i) (n - i)]).run prog Y.drew=.ok (goInt (n - i:Nat)) (Y.drew.setRow w X2):=fun ty=>by
  have h:=Xa (P:=prog) 5 Y.drew 34 34 ty 36 w ((i+1)*5) (n+1 - (i+1)) (G - (i+1)) ⟨g,i*5,none⟩ (n - i) (n - i) X1 36 D underlying34 bX aY (by rw [aD,aL]) (fun j v N=>by rw [Addr.add_lit];exact (World.cell?_of_block (w:=w) (bD g bS)).trans (aN j v N)) (by rw [aD,aP];omega) bI
  rw [<- aJ,aL] at h
  exact h
 have aR:(Y.drew.setRow w X2).heap[w.heap.size]?=some (.cells X2 36 (0,0))/\X2.size=G*5/\X2.toList.take ((n+1)*5)=A++cy++D/\(∀ k,k<w.heap.size->(Y.drew.setRow w X2).heap[k]?=w.heap[k]?)/\(Y.drew.setRow w X2).heap.size=w.heap.size+1/\w.grownBy (Y.drew.setRow w X2) (some g):=by
  have bW:(Y.drew.setRow w X2).heap.size=w.heap.size+1:=by rw [<- bE];simp [World.setRow]
  refine ⟨setRow_heap _ _ _ _ _ _ aY,?_,?_,fun k hk=>(setRow_other _ _ _ _ C7).trans (bD k hk),bW,⟨T.os,T.tape,T.output,by rw [bW];omega,fun k hk h=>(setRow_other _ _ _ _ C7).trans (T.block k hk h)⟩⟩
  ·rw [aJ];simp only [List.size_toArray,Ql,Qm,Zq,aE,aD];rw [Z0 C7];omega
  rw [aJ,List.toList_toArray,show (i+1)*5=i*5+5 by omega,aO,Z1 (by simp only [Ql,U,J,aD];omega),Zj (by simp only [Ql,U,J,aD];omega)]
 rw [hA,hD]
 have HE:=Qq aR
 have cX:¬ ((i:Int)=(n:Int)):=C7
 have cU:IntKind.i64.wrap ((i:Int)+1)=(i:Int)+1:=by rw [IntKind.wrap_i64];omega
 have cV:IntKind.i64.wrap ((n:Int)+1)=(n:Int)+1:=by rw [IntKind.wrap_i64];omega
 have cW:IntKind.i64.wrap ((n:Int)+1 - (i:Int))=(n:Int)+1 - (i:Int):=by rw [IntKind.wrap_i64];omega
 have cJ:(0:Int)<=(i:Int)+1:=C7
 have cI:(0:Int)<=(i:Int):=C7
 have cK:¬ (n=i):=C7
 have cM:¬ (G=i):=C7
 have cN:¬ (G=i+1):=C7
 have cT:((i:Int)+1).toNat=i+1:=C7
 have cR:i<=n:=C7
 have cL:(i:Int)<=(n:Int)+1:=C7
 have cO:(i:Int)<=(n:Int):=C7
 have cH:¬ (n=i):=C7
 have cA:=Qq cC;have bZ:=Qq bN
 clear aR aI aJ aE aP aO aK aL aN M aM aV bR bL hA hD hO aU hy hcy bI bJ cB bC aX bD aY bV bE O T aT bO Z hG aS bA bT bN bS hqw aZ
 go_enter func83,ntmps83
 go_wp2_with (first
  | (at_builtin;refine Lib.wpList_append_run _ rfl _ _ _ _ rfl _ _ rfl rfl _ _ (bU _) ?_)
  | (at_builtin;refine wpList_copy_runI _ rfl _ _ 34 34 rfl _ _ (by simp [Act.eval,Act.put]) (by simp [Act.eval,Act.put]) (aQ _) ?_))
 go_region_law_o (refine step_copy_runI rfl _ _ 34 34 rfl _ _ (by simp [Act.eval,Act.put]) (by simp [Act.eval,Act.put]) (bQ _) ?_)
 go_wp2_with fail
 go_ret
 exact ⟨_,rfl,cA.out,bZ.out,_,HE.out⟩
def InsIs (S:Nat->Prop) (B:Nat) (w:World) (v:Value) (xs:List Val) (e:Ending) (w':World):Prop:=
 ∃ p cap css,e=.returned (.slice p xs.length cap)/\Own Zd 36 S B w' (.slice p xs.length cap) xs css/\w.grownBy w' v.ownBlock/\((Value.slice p xs.length cap).ownBlock=v.ownBlock\/(Value.slice p xs.length cap).ownBlock=some w.heap.size)
theorem insEnd (S:Nat->Prop) (B:Nat) (w:World) (v:Value) (xs:List Val) (css:List (List Value)) (y:Val) (q:Option Addr) (c:Nat) (hO:Own Zd 36 S B w v xs css) (hY:Sl Zd (But S v) w (.slice q 1 c) [y]) (hl:xs.length<=100000) (hB:B<=w):
  Calls prog 83 #[v,xs.length,.slice q 1 c] w (InsIs S B w v (xs++[y])):=by
 obtain ⟨i0,j1,j2,j3,j4⟩:=Y7 (P:=prog) (t:=36) (z:=.agg zV) (n:=5) (b:=80) Cd
 obtain ⟨HJ,Y,Z,aA⟩:=Qjz j1 j2 j3 j4
 obtain ⟨qb,qo,_,rfl,_,_,_,_,_⟩:=hY.elem (i:=0) (x:=y) rfl
 have M:∀ N A D V,Own Zd 36 S B V (.slice N (xs.length+1) A) (xs++[y]) D->w.grownBy V v.ownBlock->((Value.slice N (xs.length+1) A).ownBlock=v.ownBlock\/(Value.slice N (xs.length+1) A).ownBlock=some w.heap.size)->InsIs S B w v (xs++[y]) (.returned (.slice N (xs.length+1) A)) V:=by
  intro N A D V h1 h2 h3
  refine ⟨N,A,D,by rw [Ql];rfl,by rw [Ql];exact h1,h2,by rw [Ql];exact h3⟩
 rcases hO.row.2 with ⟨rfl,h0⟩ | ⟨g,cap,aT,rfl,aU,_,aJ,aK,aN,_⟩
 ·have aH:xs=[]:=Zy h0
  obtain ⟨HO,HY,HE⟩:=Qjq hO hY M
  clear hO hY j1 j2 j3 j4 h0 M
  subst aH
  show Calls _ _ #[Cm,Ci,Cg qb qo 1 c] _ _
  go_enter func83,ntmps83
  go_wp2_with (at_builtin;refine Vp (r:=Zd) Cc rfl (.tmp 23) (.tmp 24) _ rfl 36 i0 (.agg zV) 80 underlying34 HJ.out Y.out Z.out aA.out rfl C7 S B w (.slice none 0 0) [] css [y] (some ⟨qb,qo,none⟩) 1 c rfl HO.out rfl HY.out rfl Ca Xx (by simp only [List.length_cons,List.length_nil];omega) hB ?_;intro N A D V I J G;obtain ⟨U,T,O⟩:=Qjq I J G;clear I J G)
  go_ret
  exact HE.out N A D V U.out T.out O.out
 obtain ⟨HO,HY,HE⟩:=Qjq hO hY M
 clear hO hY j1 j2 j3 j4 aN aK M
 have aI:(xs.length:Int)<=(cap:Int):=C7
 obtain ⟨n,hn⟩:=eX (xs.length)
 rw [hn] at HO HY hl aJ aI |-
 have HN:=Qq hn
 have aW:xs.length<=100000:=C7
 clear hn
 have aV:(0:Int)<=(n:Int):=C7
 by_cases hcn:cap=n
 ·subst hcn
  have aL:(cap:Int)<=(cap:Int):=C7
  go_enter func83,ntmps83
  go_wp2_with (at_builtin;refine Vp (r:=Zd) Cc rfl (.tmp 23) (.tmp 24) _ rfl 36 i0 (.agg zV) 80 underlying34 HJ.out Y.out Z.out aA.out rfl C7 S B w (.slice (some ⟨g,0,none⟩) cap cap) xs css [y] (some ⟨qb,qo,none⟩) 1 c rfl HO.out rfl HY.out rfl Ca Xx (by simp only [List.length_cons,List.length_nil];omega) hB ?_;intro N A D V I J G;obtain ⟨U,T,O⟩:=Qjq I J G;clear I J G)
  go_ret
  exact HE.out N A D V U.out T.out O.out
 have aL:(n:Int)<(cap:Int):=C7
 have hd:cap - n≠0:=C7
 go_enter func83,ntmps83
 go_wp2_with (at_builtin;refine Vp (r:=Zd) Cc rfl (.tmp 23) (.tmp 24) _ rfl 36 i0 (.agg zV) 80 underlying34 HJ.out Y.out Z.out aA.out rfl C7 S B w (.slice (some ⟨g,0,none⟩) n cap) xs css [y] (some ⟨qb,qo,none⟩) 1 c rfl HO.out rfl HY.out rfl Ca Xx (by simp only [List.length_cons,List.length_nil];omega) hB ?_;intro N A D V I J G;obtain ⟨U,T,O⟩:=Qjq I J G;clear I J G)
 go_ret
 exact HE.out N A D V U.out T.out O.out
theorem ins1_any (R:Nat) (S:Nat->Prop) (x:Val) (cx:List Value) (rows:List Val) (w:World) (hcx:∀ j u,cx[j]?=some u->w.cell? ⟨R,j,none⟩=some u) (hRl:R<w) (hx:Z9 S w cx x):
  Vo prog 81 #[Ch R] Zd S rows (fun v=>eqv v x) w:=by
 intro W v cs hb hv I
 have D:=hx.move (.of_below hb) Qje
 have HC:=Qq (fun W' (h':Below W W W')=>Nh S v x cs cx W' (Z9.move (show Z9 S W cs v from I) (.of_below h') Qje) (D.move (.of_below h') Qje))
 obtain ⟨p3,k3,p4,k4,G,_⟩:=Z9.cells (show Z9 S W cs v from I)
 obtain ⟨q3,l3,q4,l4,A,_⟩:=Z9.cells D
 simp only [vcs] at G A
 subst G;subst A
 have d:=fun j u hj=>(hb.cell (p:=⟨R,j,none⟩) hRl).trans (hcx j u hj)
 have d0:=d 0 _ rfl
 have d1:=d 1 _ rfl
 have d2:=d 2 _ rfl
 have d3:=d 3 _ rfl
 have d4:=d 4 _ rfl
 have J:R<W.heap.size:=Qv W _ d0
 show Calls prog 81 #[.agg (Cn v p3 k3 p4 k4),Ch R] W (fun e w'=>e=.returned (.bool (eqv v x))/\Below W W w')
 generalize eqv v x=b at HC |-
 clear d hcx hb hv I hx D
 go_enter func81,ntmps81
 go_wp2_with (go_at_call 59;refine (HC.out _ (Zg _ _)).mono ?_;rintro e w' ⟨rfl,hw⟩)
 go_ret
 exact ⟨rfl,(Zg _ _).thn hw⟩
theorem ins2_any (R:Nat) (S:Nat->Prop) (x:Val) (cx:List Value) (rows:List Val) (w:World) (hcx:∀ j u,cx[j]?=some u->w.cell? ⟨R,j,none⟩=some u) (hRl:R<w) (hx:Z9 S w cx x):
  Vo prog 82 #[Ch R] Zd S rows (fun v=>decide (0<Yv v x)) w:=by
 intro W v cs hb hv I
 have D:=hx.move (.of_below hb) Qje
 have HC:=Qq (fun W' (h':Below W W W')=>Fi S v x cs cx W' (Z9.move (show Z9 S W cs v from I) (.of_below h') Qje) (D.move (.of_below h') Qje))
 obtain ⟨p3,k3,p4,k4,G,_⟩:=Z9.cells (show Z9 S W cs v from I)
 obtain ⟨q3,l3,q4,l4,A,_⟩:=Z9.cells D
 simp only [vcs] at G A
 subst G;subst A
 have d:=fun j u hj=>(hb.cell (p:=⟨R,j,none⟩) hRl).trans (hcx j u hj)
 have d0:=d 0 _ rfl
 have d1:=d 1 _ rfl
 have d2:=d 2 _ rfl
 have d3:=d 3 _ rfl
 have d4:=d 4 _ rfl
 have J:R<W.heap.size:=Qv W _ d0
 show Calls prog 82 #[.agg (Cn v p3 k3 p4 k4),Ch R] W (fun e w'=>e=.returned (.bool (decide (0<Yv v x)))/\Below W W w')
 generalize Yv v x=b at HC |-
 clear d hcx hb hv I hx D
 go_enter func82,ntmps82
 go_wp2_with (go_at_call 16;refine (HC.out _ (Zg _ _)).mono ?_;rintro e w' ⟨rfl,hw⟩)
 go_ret
 exact ⟨rfl,(Zg _ _).thn hw.bl⟩
theorem Cs.take {T:Type} {r:Rd T} {S:Nat->Prop} {w:World} {css:List (List Value)} {xs:List T} (h:Cs r S w css xs) (i:Nat):Cs r S w (css.take i) (xs.take i):=by
 refine ⟨by rw [Qm,Qm,h.len],fun j c x A D=>?_⟩
 rw [List.getElem?_take] at A D
 by_cases hj:j<i
 ·rw [if_pos hj] at A D;exact h.R j c x A D
 rw [if_neg hj] at A;cases A
theorem Cs.drop {T:Type} {r:Rd T} {S:Nat->Prop} {w:World} {css:List (List Value)} {xs:List T} (h:Cs r S w css xs) (i:Nat):Cs r S w (css.drop i) (xs.drop i):=by
 refine ⟨by rw [Zq,Zq,h.len],fun j c x hc hx=>?_⟩
 rw [List.getElem?_drop] at hc hx
 exact h.R _ c x hc hx
def J4 {T:Type} (xs:List T) (i:Nat) (y:T):List T:=xs.take i++([y]++xs.drop i)
theorem Xo {T:Type} (xs:List T) (i:Nat) (y:T):(J4 xs i y).length=xs.length+1:=by
 unfold J4;simp;omega
theorem Nq {T:Type} (xs:List T) (y:T):J4 xs xs.length y=xs++[y]:=by unfold J4;simp
theorem insAny (S:Nat->Prop) (B:Nat) (w:World) (v:Value) (xs:List Val) (css:List (List Value)) (y:Val) (cy:List Value) (i q c:Nat) (hO:Own Zd 36 S B w v xs css) (hq:w.heap[q]?=some (.cells cy.toArray 36 (0,0))) (hqS:But S v q) (hy:Z9 (But S v) w cy y) (hi:i<=xs.length) (hl:xs.length<=100000) (hB:B<=w):
  Calls prog 83 #[v,i,Cg q 0 1 c] w (InsIs S B w v (J4 xs i y)):=by
 have A:∀ (j:Nat) (u:Value),cy[j]?=some u->w.cell? ⟨q,0+j,none⟩=some u:=by
  intro j u hj
  rw [Nat.zero_add,Qk w q j _ _ (0,0) hq];simpa using hj
 have N:q<w.heap.size:=(Array.getElem?_eq_some_iff.1 hq).1
 by_cases he:i=xs.length
 ·subst he
  rw [Nq]
  refine insEnd S B w v xs css y _ c hO ⟨_,_,rfl,Ca,fun _=>⟨q,0,rfl,hqS,N,fun j x hx=>?_⟩⟩ hl hB
  cases j with
  | zero=>
   simp at hx;subst hx
   refine ⟨cy,fun m u hm=>?_,hy⟩
   have:=A m u hm
   simpa using this
  | succ j=>simp at hx
 have M:i<xs.length:=C7
 have D:Cs Zd (But S v) w (J4 css i cy) (J4 xs i y):=(hO.cs.take i).app ((Cs.one hy).app (hO.cs.drop i))
 have I:(J4 css i cy).flatten=(css.take i).flatten++cy++(css.drop i).flatten:=by unfold J4;simp
 have J:(J4 css i cy).flatten.length=(xs.length+1)*Zd.k:=by rw [D.flat,Xo]
 rcases hO.row.2 with ⟨_,h0⟩ | ⟨g,cap,aH,rfl,aD,aE,aJ,aB,aK,aL⟩
 ·omega
 have aI:g<w.heap.size:=(Array.getElem?_eq_some_iff.1 aE).1
 have aF:q≠g:=fun e=>hqS.2 (by rw [e];rfl)
 by_cases hr:xs.length+1<=cap
 ·refine (insRoom S B w g xs.length cap i xs css y cy q 0 c hO rfl M hr aF hy A hl 36 cy.length (by unfold World.shape?;rw [hq];simp) (by simp [World.frozen?,hq]) (by simp [World.frozen?,hq])).mono ?_
  rintro e w' ⟨rfl,X,O,T,U,V,h5,Y⟩
  refine ⟨_,cap,J4 css i cy,by rw [Xo],⟨?_,?_⟩,Y,.inl rfl⟩
  ·rw [Xo]
   exact ⟨J,.inr ⟨g,cap,X,rfl,aD,O,hr,aB,T,by rw [I];exact U⟩⟩
  rw [Xo]
  exact D.move (fun b hb _=>V b (fun e=>hb.2 (by rw [e];rfl))) (fun b _ hb=>⟨hb.1,fun e=>hb.2 e⟩)
 have aC:cap=xs.length:=C7
 subst aC
 refine (insGrow S B w g xs.length i xs css y cy q 0 c hO rfl M hy A hl N).mono ?_
 rintro e w' ⟨G,rfl,Z,aA,X,O,T,U,V,h5,Y⟩
 refine ⟨_,G,J4 css i cy,by rw [Xo],⟨?_,?_⟩,Y,.inr rfl⟩
 ·rw [Xo]
  exact ⟨J,.inr ⟨w.heap.size,G,X,rfl,hB,O,Z,aA,T,by rw [I];exact U⟩⟩
 rw [Xo]
 refine D.move (fun b _ hb=>V b hb) (fun b hb hs=>⟨hs.1,fun e=>?_⟩)
 have:b=w.heap.size:=by simpa [Value.ownBlock] using e
 omega
def M7 (w:World) (u:Val) (tv t t':Value) (wx:World):Prop:=
 ∃ G q3 m3 q4 m4,t=.pointer (some ⟨G,0,none⟩)/\t'=tv/\wx.heap[G]?=some (.cells (Cn u q3 m3 q4 m4) 36 (0,0))/\Z9 (fun b=>w<=b/\b≠G) wx (vcs u q3 m3 q4 m4) u/\Below w w wx/\w.heap.size<=G
end Go.Proofs.YtcljcblceodciaaGreatDoor
