import Derived.Test.YtlanplhphiikjaaGreatDoorF05
import Derived.Test.YtlanplhphiikjaaGreatDoorF04
set_option maxRecDepth 100000
set_option maxHeartbeats 400000000
namespace Go.Proofs.YtlanplhphiikjaaGreatDoor
open Go.RowKit Go.Shelf Go.Lib Tryz
def Yh (v:Val) (i:Int):Bool:=decide (v.kind=4)&&decide (0<=i)&&decide (i<v.kids.length)
def Yi (v:Val) (x:Bs):Int:=V5 (fun y=>decide (y=x)) v.names
theorem Bc {k:IntKind} {a b:Int} {c d:Bool} (h:a=b) (h':c=d):Ending.returned (.tuple #[.int k a,.bool c])=.returned (.tuple #[.int k b,.bool d]):=by rw [h,h']
theorem Yv (w:World) (q:Nat):Below w w (w.drewN q):=⟨rfl,rfl,rfl,Q4 _,fun _ _=>rfl⟩
theorem O8 (S:Nat->Prop) (v:Val) (cs:List Value) (x:Bs) (w:World) (h:Z5 S w cs v):
  Calls prog 101 #[cs,sv x] w fun e w'=>e=.returned (.tuple #[(Yi v x),.bool (Yh v (Yi v x))])/\Below w w w':=by
 obtain ⟨p3,k3,p4,k4,J,hn,hk,_⟩:=Z5.cells h
 simp only [vcs] at J
 subst J
 have I:=Qq (fun W (hb:Below w w W)=>Hs S _ v.names x W (hn.below hb))
 rw [show V5 (fun y=>decide (y=x)) v.names=Yi v x from rfl] at I
 have hl:v.kids.length<=1000000:=by obtain ⟨_,_,_,h⟩:=hk.len;exact h
 generalize Yi v x=i at I |-
 clear h hn hk
 unfold sv at I |-
 by_cases h4:v.kind=4
 ·have L:(v.kind==4)=true:=by rw [h4];rfl
  by_cases h0:0<=i
  ·by_cases hlt:i<v.kids.length
   ·have D:Yh v i=true:=by unfold Yh;simp [h4,h0,hlt]
    have G:=Qq D
    rw [h4] at *
    clear D L h4
    go_enter func101,ntmps101
    go_wp2_with (go_at_call 149;refine (I.out _ (Zb _ _)).mono ?_;rintro e w' ⟨rfl,rfl⟩)
    go_quiet (fail)
    go_wp2
    go_ret2
    exact ⟨Bc rfl G.out.symm,(Zb _ _).thn (Yv _ _)⟩
   have D:Yh v i=false:=by unfold Yh;simp [hlt]
   have G:=Qq D
   have hd:decide (i<v.kids.length)=false:=by simpa using hlt
   rw [h4] at *
   clear D L h4 hlt
   go_enter func101,ntmps101
   go_wp2_with (go_at_call 149;refine (I.out _ (Zb _ _)).mono ?_;rintro e w' ⟨rfl,rfl⟩)
   go_quiet (fail)
   go_wp2
   go_ret2
   exact ⟨Bc rfl G.out.symm,(Zb _ _).thn (Yv _ _)⟩
  have D:Yh v i=false:=by unfold Yh;simp [h0]
  have G:=Qq D
  have hd:decide (0<=i)=false:=by simpa using h0
  rw [h4] at *
  clear D L h4 h0
  go_enter func101,ntmps101
  go_wp2_with (go_at_call 149;refine (I.out _ (Zb _ _)).mono ?_;rintro e w' ⟨rfl,rfl⟩)
  go_quiet (fail)
  go_wp2
  go_ret2
  exact ⟨Bc rfl G.out.symm,(Zb _ _).thn (Yv _ _)⟩
 have D:Yh v i=false:=by unfold Yh;simp [h4]
 have G:=Qq D
 have L:(v.kind==4)=false:=by simpa using h4
 clear D h4
 go_enter func101,ntmps101
 go_wp2_with (go_at_call 149;refine (I.out _ (Zb _ _)).mono ?_;rintro e w' ⟨rfl,rfl⟩)
 go_quiet (fail)
 go_wp2
 go_ret2
 exact ⟨Bc rfl G.out.symm,(Zb _ _).thn (Yv _ _)⟩
theorem Gw {v u:Val} {x:Bs} (h:Yn v x=some u):∃ i:Nat,Yi v x=i/\v.kids[i]?=some u/\Yh v (Yi v x)=true:=by
 unfold Yn at h
 split at h
 ·rename_i h4
  cases hn:Uk v.names x with
  | none=>rw [hn] at h;cases h
  | some i=>
   rw [hn] at h
   have hi:Yi v x=i:=by
    unfold Uk at hn
    unfold Yi V5
    rw [hn]
   have D:=(Qj h).1
   refine ⟨i,hi,h,?_⟩
   rw [hi];unfold Yh
   simp [h4,D]
 cases h
theorem Gp {v:Val} {x:Bs} (h:Yn v x=none):Yh v (Yi v x)=false:=by
 unfold Yn at h
 unfold Yh
 split at h
 ·cases hn:Uk v.names x with
  | none=>
   have D:Yi v x=-1:=by
    unfold Uk at hn
    unfold Yi V5
    rw [hn]
   rw [D];simp
  | some i=>
   rw [hn] at h
   have D:Yi v x=i:=by
    unfold Uk at hn
    unfold Yi V5
    rw [hn]
   rw [List.getElem?_eq_none_iff] at h
   rw [D];simp;intro _;omega
 rename_i h4
 simp [h4]
def Zn (W:World) (R:Nat) (a b c d e:Value):World:=((((W.setCell ⟨R,0,none⟩ a).setCell ⟨R,1,none⟩ b).setCell ⟨R,2,none⟩ c).setCell ⟨R,3,none⟩ d).setCell ⟨R,4,none⟩ e
def Pk (_ : World) (_ : Nat) (_ : Val) (_ : Option Addr) (_ : Nat) (_ : Option Addr) (_ : Nat) : P7 := ⟨0⟩
instance Pk_w {W : World} {R : Nat} {v : Val} {p : Option Addr} {a : Nat} {q : Option Addr} {b : Nat} : CoeDep P7 (Pk W R v p a q b) World := ⟨Zn W R (.int .i64 v.kind) (.int .i64 v.n) (.string ⟨v.s.toArray⟩) (.slice p v.names.length a) (.slice q v.kids.length b)⟩
theorem Xm {W:World} {R:Nat} {a b c d e x0 x1 x2 x3 x4:Value} {t:TypeId} (h:W.heap[R]?=some (.cells #[x0,x1,x2,x3,x4] t (0,0))):(Zn W R a b c d e).heap[R]?=some (.cells #[a,b,c,d,e] t (0,0)):=by
 have D:=Qd _ _ 0 _ _ a h;have D:=Qd _ _ 1 _ _ b D;have D:=Qd _ _ 2 _ _ c D;have D:=Qd _ _ 3 _ _ d D;have D:=Qd _ _ 4 _ _ e D
 simpa [Zn] using D
theorem Z8 {W:World} {R:Nat} {a b c d e x0 x1 x2 x3 x4:Value} {t:TypeId} (h:W.heap[R]?=some (.cells #[x0,x1,x2,x3,x4] t (0,0))) (j:Nat):(Zn W R a b c d e).cell? ⟨R,j,none⟩=#[a,b,c,d,e][j]?:=
 Qk _ _ _ _ _ _ (Xm h)
theorem Za {W:World} {R k:Nat} {a b c d e:Value} (h:k≠R):(Zn W R a b c d e).heap[k]?=W.heap[k]?:=Y1 h
theorem Z7 {B R:Nat} {w W:World} {a b c d e:Value} (h:Below B w W) (hR:B<=R):Below B w (Zn W R a b c d e):=
 ((((h.setCell (p:=⟨R,0,none⟩) hR _).setCell (p:=⟨R,1,none⟩) hR _).setCell (p:=⟨R,2,none⟩) hR _).setCell (p:=⟨R,3,none⟩) hR _).setCell (p:=⟨R,4,none⟩) hR _
def GetIs (w:World) (o:Option Val) (e:Ending) (w':World):Prop:=
 ∃ cs',e=.returned (.tuple #[.agg cs'.toArray,.bool o.isSome])/\Z5 (fun b=>w<=b) w' cs' (o.getD Val.zero)/\Below w w w'
theorem Yk (S:Nat->Prop) (w:World):Z5 S w [On,On,Oo,Ot,Ot] Val.zero:=
 Zu (s:=[]) Od (Sl.nil _ _ _) (Sl.nil _ _ _)
theorem B7 (S:Nat->Prop) (v:Val) (cs:List Value) (x:Bs) (w:World) (h:Z5 S w cs v):
  Calls prog 53 #[cs,sv x] w (GetIs w (Yn v x)):=by
 have U:=Qq (fun W (hb:Below w w W)=>O8 S v cs x W (h.move (.of_below hb) P8))
 obtain ⟨p3,k3,p4,k4,I,hn,hk,_⟩:=Z5.cells h
 simp only [vcs] at I
 subst I
 have HK:=Qq hk
 clear h hn hk
 unfold sv at U |-
 cases hg:Yn v x with
 | none=>
  rw [Gp hg] at U
  clear hg
  generalize Yi v x=i at U
  go_enter func53,ntmps53
  go_wp2_with (go_at_call 101;refine (U.out _ (Zl _ _ _)).mono ?_;rintro e w' ⟨rfl,J⟩;have HW:=Qq J;have hz:=J.size;obtain ⟨hc,hf⟩:=Di J;have r0:=fun o=>(hf (w+1) o Od);clear J)
  have Y:=(HW.out.block (w+1) Od).trans (Q1 _ _ _)
  show bodyPost _ _ _ _ _ (Zn w' _ _ _ _ _ _)
  refine Q2 (v:=.tuple #[.agg zV,.bool false]) (by simp [results,results53,go_sem,Z8 Y]) rfl ⟨_,rfl,Yk _ _,?_⟩
  exact Z7 ((Zl w _ _).thn HW.out) Oa
 | some u=>
  obtain ⟨i,hi,O,hb⟩:=Gw hg
  rw [hb,hi] at U
  obtain ⟨b,aK,q3,l3,q4,l4,rfl,G,V,d0,d1,d2,d3,d4⟩:=HK.out.val O
  have aI:i<v.kids.length:=(Qj O).1
  have aG:(0:Int)<=(i:Int):=Oa
  have aH:(i:Int)<(v.kids.length:Int):=Oa
  have aD:b<w.heap.size+1:=Oa
  have HV:=Qq V
  clear hg hi O hb V
  go_enter func53,ntmps53
  go_wp2_with fail
  refine (U.out _ (Zl _ _ _)).mono ?_
  rintro e w1 ⟨rfl,J⟩
  have HW:=Qq J
  have D:=(Zl w _ _).thn J
  have Y:=(J.block (w+1) Od).trans (Q1 _ _ _)
  have hX:=(J.block w (by simp;omega)).trans (Q0 _ _ _)
  have e0:=kD D G d0;have e1:=kD D G d1;have e2:=kD D G d2;have e3:=kD D G d3;have e4:=kD D G d4
  have x4:=rA4 hX
  have M:=Qq D;have HR:=Qq Y
  clear J D hX Y d0 d1 d2 d3 d4
  go_wp2_with fail
  refine (M9 u _ (vcs u q3 l3 q4 l4) _ (Z5.move HV.out (.of_below M.out) P8)).mono ?_
  rintro e w2 ⟨aF,rfl,T,N⟩
  obtain ⟨r3,m3,r4,m4,I,_⟩:=Z5.cells T
  simp only [vcs] at I
  subst I
  have L:=kB N HR.out
  have f:=fun j=>Qg _ _ j _ _ L
  have y:=fun j=>Qk _ _ j _ _ _ L
  obtain ⟨y0,y1,y2,y3,y4⟩:=P3 y
  obtain ⟨f0,f1,f2,f3,f4⟩:=P3 f
  simp only [Qa,Qb,Qc] at y0 y1 y2 y3 y4
  obtain ⟨Z,aB,aA⟩:=Px N T L
  clear N T L f y
  go_wp2_with fail
  show bodyPost _ _ _ _ _ (Zn w2 _ _ _ _ _ _)
  refine Q2 (v:=.tuple #[.agg (Ou u r3 m3 r4 m4),.bool true]) (by simp [results,results53,go_sem,Z8 aA.out]) rfl ⟨_,rfl,?_,Z7 (M.out.thn Z.out) Oa⟩
  have aJ:=M.out.size
  have aE:=Z3 HR.out
  refine Z5.move aB.out (fun b hb _=>Za ?_) (fun b _ hb=>?_)
  ·have:w1.heap.size<=b:=hb
   omega
  have:w1.heap.size<=b:=hb
  show w<=b
  omega
theorem Yj.cells {S:Nat->Prop} {w:World} {cs:List Value} {x:Ex} (h:Yj S w cs x):∃ k s1 n s2 p1 n1 c1 p2 n2 c2 p3 n3 c3 a z,cs=[.int .i64 k,.string s1,.int .i64 n,.string s2,.slice p1 n1 c1,.slice p2 n2 c2,.slice p3 n3 c3,.int .i64 a,.int .i64 z]:=by
 cases h with
 | mk k nm n s names binds kids a z nv bv p cap b off cs hm hs hn hb=>
  obtain ⟨p1,c1,rfl,_⟩:=hn.len
  obtain ⟨p2,c2,rfl,_⟩:=hb.len
  exact ⟨_,_,_,_,_,_,_,_,_,_,_,_,_,_,_,rfl⟩
def tcs (t:Tbl) (cp:Option Addr) (cc:Nat) (kp:Option Addr) (kc:Nat) (rp:Option Addr) (rc:Nat) (k:Int) (s1:ByteArray) (n:Int) (s2:ByteArray) (p1:Option Addr) (n1 c1:Nat) (p2:Option Addr) (n2 c2:Nat) (p3:Option Addr) (n3 c3:Nat) (a z:Int):List Value:=
 [t.name,.slice cp t.columns.length cc,.slice kp t.key.length kc,.slice rp t.refs.length rc,k,.string s1,n,.string s2,.slice p1 n1 c1,.slice p2 n2 c2,.slice p3 n3 c3,a,z]
def Pj (_ : Tbl) (_ : Option Addr) (_ : Nat) (_ : Option Addr) (_ : Nat) (_ : Option Addr) (_ : Nat) (_ : Int) (_ : ByteArray) (_ : Int) (_ : ByteArray) (_ : Option Addr) (_ _ : Nat) (_ : Option Addr) (_ _ : Nat) (_ : Option Addr) (_ _ : Nat) (_ _ : Int) : P7 := ⟨0⟩
instance Pj_l {x : Tbl} {g : Option Addr} {h : Nat} {i : Option Addr} {j : Nat} {l : Option Addr} {m : Nat} {k : Int} {s : ByteArray} {n : Int} {t : ByteArray} {p : Option Addr} {a b : Nat} {q : Option Addr} {c d : Nat} {r : Option Addr} {e f : Nat} {y z : Int} : CoeDep P7 (Pj x g h i j l m k s n t p a b q c d r e f y z) (List Value) := ⟨[.string ⟨x.name.toArray⟩, .slice g x.columns.length h, .slice i x.key.length j, .slice l x.refs.length m, .int .i64 k, .string s, .int .i64 n, .string t, .slice p a b, .slice q c d, .slice r e f, .int .i64 y, .int .i64 z]⟩
instance Pj_a {x : Tbl} {g : Option Addr} {h : Nat} {i : Option Addr} {j : Nat} {l : Option Addr} {m : Nat} {k : Int} {s : ByteArray} {n : Int} {t : ByteArray} {p : Option Addr} {a b : Nat} {q : Option Addr} {c d : Nat} {r : Option Addr} {e f : Nat} {y z : Int} : CoeDep P7 (Pj x g h i j l m k s n t p a b q c d r e f y z) (Array Value) := ⟨#[.string ⟨x.name.toArray⟩, .slice g x.columns.length h, .slice i x.key.length j, .slice l x.refs.length m, .int .i64 k, .string s, .int .i64 n, .string t, .slice p a b, .slice q c d, .slice r e f, .int .i64 y, .int .i64 z]⟩
theorem Zr {S:Nat->Prop} {w:World} {cs:List Value} {t:Tbl} (h:Zg.R S w cs t):∃ cp cc kp kc rp rc k s1 n s2 p1 n1 c1 p2 n2 c2 p3 n3 c3 a z,cs=tcs t cp cc kp kc rp rc k s1 n s2 p1 n1 c1 p2 n2 c2 p3 n3 c3 a z/\t.name.length<=1000000 /\
  Sl Yy S w (.slice cp t.columns.length cc) t.columns/\Sl Zi S w (.slice kp t.key.length kc) t.key/\Sl Dz S w (.slice rp t.refs.length rc) t.refs/\Yj S w (Pq k s1 n s2 p1 n1 c1 p2 n2 c2 p3 n3 c3 a z) t.check:=by
 obtain ⟨cv,kv,rv,ec,rfl,h1,h2,h3,h4,h5⟩:=h
 obtain ⟨cp,cc,rfl,_⟩:=h2.len
 obtain ⟨kp,kc,rfl,_⟩:=h3.len
 obtain ⟨rp,rc,rfl,_⟩:=h4.len
 obtain ⟨k,s1,n,s2,p1,n1,c1,p2,n2,c2,p3,n3,c3,a,z,rfl⟩:=h5.cells
 exact ⟨cp,cc,kp,kc,rp,rc,k,s1,n,s2,p1,n1,c1,p2,n2,c2,p3,n3,c3,a,z,rfl,h1,h2,h3,h4,h5⟩
def Ku (t:Tbl):Ty:=.mk 5 [] 0 (t.columns.map Col.name) (t.columns.map Col.type)
def RowIs (w:World) (t:Tbl) (e:Ending) (w':World):Prop:=∃ cs',e=.returned (.agg cs'.toArray)/\Y6 (fun _=>True) w' cs' (Ku t)/\Below w w w'
structure RowMid (w:World) (G:Nat) (cp:Option Addr) (ccap:Nat) (xs:List Col) (k:Nat) (np:Option Addr) (ncap:Nat) (kp:Option Addr) (kcap:Nat) (wr:World):Prop where
 below:Below w w wr
 hG:w+2<=G
 box:wr.heap[G]?=some (.cells #[.int .i64 5,Oo,On,.slice np k ncap,.slice kp k kcap] 65 (0,0))
 res:wr.heap[w.heap.size+1]?=some (.cells zY 65 (0,0))
 names:∃ ncs,Own Zi 9 (fun b=>b<G/\b≠w+1) (G+1) wr (.slice np k ncap) ((xs.take k).map Col.name) ncs
 kids:∃ kcs,Own Vf 65 (fun b=>b<G/\b≠w+1) (G+1) wr (.slice kp k kcap) ((xs.take k).map Col.type) kcs
 cols:Sl Yy (fun b=>b<G/\b≠w+1) wr (.slice cp xs.length ccap) xs
structure Fe (x:Bs):Prop where
 pos:0<x.length
 len:x.length<=16
 head:∀ c,x[0]?=some c->Gv c=true
 all:tk Gj x=x.length
 kw:Oq x=false
structure Md (x:Bs):Prop where
 pos:0<x.length
 len:x.length<=16
 head:∀ c,x[0]?=some c->Lq c=true
 all:tk Ek x=x.length
theorem lo_not (c:UInt8) (h:Gv c=true):Mq c=false/\((c.toNat:Int)==35)=false:=by
 rw [Fv] at h
 simp only [Bool.and_eq_true,decide_eq_true_eq] at h
 rw [Fm]
 constructor
 ·simp;omega
 simp;omega
theorem up_not (c:UInt8) (h:Lq c=true):Mq c=false/\((c.toNat:Int)==35)=false/\Gv c=false:=by
 rw [En] at h
 simp only [Bool.and_eq_true,decide_eq_true_eq] at h
 rw [Fm,Fv]
 refine ⟨?_,?_,?_⟩
 ·simp;omega
 ·simp;omega
 simp;omega
theorem V0 (x:Bs):(⟨x.toArray⟩:ByteArray).size=x.length:=by
 show x.toArray.size=_
 simp
theorem get_mk (x:Bs) (i:Nat) (h:i<(⟨x.toArray⟩:ByteArray).size):x[i]?=some ((⟨x.toArray⟩:ByteArray)[i]'h):=by
 have:=Lb ⟨x.toArray⟩ i h
 rwa [Gu] at this
theorem Bu (x:Bs):(⟨x.toArray⟩:ByteArray).extract 0 x.length=⟨x.toArray⟩:=by
 rw [ba_ext]
 simp [bl,ByteArray.data_extract]
theorem N1 (x:Bs) (h:Fe x) (w:World) (hT:X7 w):
  Calls prog 295 #[sv x] w fun e w'=>e=.returned (.tuple #[.int .i64 2,x.length])/\Below w w w':=by
 obtain ⟨hp,hl,hh,ha,hk⟩:=h
 have L:0<(⟨x.toArray⟩:ByteArray).size:=by rw [V0];exact hp
 have G:=hh _ (get_mk x 0 L)
 obtain ⟨c,hc⟩:=eX ((⟨x.toArray⟩:ByteArray)[0]'L)
 rw [hc] at G
 obtain ⟨n1,n2⟩:=lo_not c G
 have hR:∀ w,Calls prog 296 #[x,.func (.func 312) #[] #[]] w fun e w'=>e=.returned (.int .i64 (x.length:Nat))/\w=w':=fun w=>by
  have:=run_word ⟨x.toArray⟩ w (by rw [V0];unfold maxLen;omega)
  rwa [Gu,ha] at this
 have hK:∀ w,X7 w->Calls prog 313 #[.string ((⟨x.toArray⟩:ByteArray).extract 0 x.length)] w fun e w'=>e=.returned (.bool false)/\∃ q,w'=w.drewN q:=fun w hT=>by
  have:=Gx ⟨x.toArray⟩ w hT
  rwa [Gu,hk,<- Bu x] at this
 obtain ⟨J,I,HT⟩:=Px hR hK hT
 have hs:(⟨x.toArray⟩:ByteArray).size=x.length:=V0 x
 have D:x.length<=(⟨x.toArray⟩:ByteArray).size:=Oa
 unfold sv
 generalize (⟨x.toArray⟩:ByteArray)=s at L hc D J I |-
 generalize x.length=n at J I D hl |-
 clear hR hK hT ha hk hh hs hp
 go_enter func295,ntmps295
 go_wp2_with (first | (go_at_call 296;refine (J.out _).mono ?_;rintro e w' ⟨rfl,rfl⟩) | (go_at_call 313;refine (I.out _ HT.out).mono ?_;rintro e w' ⟨rfl,q,rfl⟩) | (go_at_call 310;refine (Gs _ _).mono ?_;rintro e w' ⟨rfl,rfl⟩) | (go_at_call 311;refine (Jk _ _).mono ?_;rintro e w' ⟨rfl,rfl⟩))
 go_ret2
 exact ⟨rfl,Yv _ _⟩
theorem good_cap (x:Bs) (h:Md x) (w:World):
  Calls prog 295 #[sv x] w fun e w'=>e=.returned (.tuple #[.int .i64 3,x.length])/\Below w w w':=by
 obtain ⟨hp,hl,hh,ha⟩:=h
 have I:0<(⟨x.toArray⟩:ByteArray).size:=by rw [V0];exact hp
 have D:=hh _ (get_mk x 0 I)
 obtain ⟨c,hc⟩:=eX ((⟨x.toArray⟩:ByteArray)[0]'I)
 rw [hc] at D
 obtain ⟨n1,n2,n3⟩:=up_not c D
 have hR:∀ w,Calls prog 296 #[x,.func (.func 315) #[] #[]] w fun e w'=>e=.returned (.int .i64 (x.length:Nat))/\w=w':=fun w=>by
  have:=run_name ⟨x.toArray⟩ w (by rw [V0];unfold maxLen;omega)
  rwa [Gu,ha] at this
 have G:=Qq hR
 unfold sv
 generalize (⟨x.toArray⟩:ByteArray)=s at I hc G |-
 generalize x.length=n at G hl |-
 clear hR ha hh hp
 go_enter func295,ntmps295
 go_wp2_with (first | (go_at_call 296;refine (G.out _).mono ?_;rintro e w' ⟨rfl,rfl⟩) | (go_at_call 314;refine (Gg _ _).mono ?_;rintro e w' ⟨rfl,rfl⟩) | (go_at_call 310;refine (Gs _ _).mono ?_;rintro e w' ⟨rfl,rfl⟩) | (go_at_call 311;refine (Jk _ _).mono ?_;rintro e w' ⟨rfl,rfl⟩))
 go_ret2
 exact ⟨rfl,Qz _ _⟩
def M1 (x:Bs) (k:Int) (w:World):Prop:=∀ W,Below w w W->Calls prog 295 #[sv x] W fun e w'=>e=.returned (.tuple #[k,x.length])/\Below W W w'
theorem next_at (x:Bs) (k:Int) (w:World) (hg:M1 x k w) (hp:0<x.length) (W:World) (hW:Below w w W):
  Calls prog 279 #[sv x] W fun e w'=>e=.returned (.tuple #[k,x.length])/\Below W W w':=by
 have D:=Qq (hg W hW)
 have G:(0:Int)<x.length:=Oa
 clear hg hW
 unfold sv at D |-
 generalize x.length=n at D hp G |-
 go_enter func279,ntmps279
 go_wp2_with (go_at_call 295;refine D.out.mono ?_;rintro e w' ⟨rfl,hw⟩)
 go_ret2
 exact ⟨rfl,hw⟩
theorem Ni (x:Bs) (k:Int) (w:World) (hg:M1 x k w) (hp:0<x.length) (W:World) (hW:Below w w W):
  Calls prog 251 #[sv x] W fun e w'=>e=.returned (.tuple #[k,.bool true])/\Below W W w':=by
 have D:=Qq (next_at x k w hg hp W hW)
 have h0:0<(⟨x.toArray⟩:ByteArray).size:=by rw [V0];exact hp
 have G:(⟨x.toArray⟩:ByteArray).toList.isEmpty=false:=by
  rw [Lib.toList_data]
  show (bl ⟨x.toArray⟩).isEmpty=false
  rw [Gu]
  cases x with
  | nil=>simp at hp
  | cons=>rfl
 have hs:((x.length:Int)==((⟨x.toArray⟩:ByteArray).size:Int))=true:=by rw [V0];simp
 clear hg hW h0
 unfold sv at D |-
 generalize (⟨x.toArray⟩:ByteArray)=s at D G hs |-
 generalize x.length=n at D hs |-
 go_enter func251,ntmps251
 go_wp2_with (go_at_call 279;refine D.out.mono ?_;rintro e w' ⟨rfl,hw⟩)
 go_ret2
 exact ⟨rfl,hw⟩
theorem Mp (x:Bs) (k at':Int) (w:World) (hk:k=2\/k=3) (hg:M1 x k w) (hp:0<x.length) (hl:x.length<=16):
  Calls prog 204 #[.agg #[k,sv x,at']] w fun e w'=>e=.returned (.bool true)/\Below w w w':=by
 have G:=Qq (fun W h=>Ni x k w hg hp W h)
 have I:((⟨x.toArray⟩:ByteArray).size:Int)<=16:=by rw [V0];omega
 clear hg
 unfold sv at G |-
 generalize (⟨x.toArray⟩:ByteArray)=s at G I |-
 rcases hk with rfl | rfl
 all_goals
  go_enter func204,ntmps204
  go_wp2_with fail
  refine (G.out _ (Zb _ _)).mono ?_
  rintro e w1 ⟨rfl,D⟩
  have c0:=(D.cell (p:=⟨w,0,none⟩) Od).trans (Qk _ _ 0 _ _ _ (Qw w _))
  have c1:=(D.cell (p:=⟨w,1,none⟩) Od).trans (Qk _ _ 1 _ _ _ (Qw w _))
  simp only [Qa,Qb,Qc] at c0 c1
  have HW:=Qq ((Zb w _).thn D)
  clear D
  go_wp2_with fail
  go_ret
  exact ⟨rfl,HW.out⟩
theorem X7.below {w w':World} (h:X7 w) (hb:Below w w w'):X7 w':=fun j v hv=>(hb.cell (p:=⟨_,0+j,none⟩) (Qv w _ (h j v hv))).trans (h j v hv)
theorem Lh (x:Bs) (h:Fe x) (w:World) (hT:X7 w):Calls prog 138 #[sv x] w fun e w'=>e=.returned (.bool true)/\Below w w w':=by
 have D:=Qq (fun W (hb:Below w w W)=>Mp x 2 0 W (.inl rfl) (fun W' h'=>N1 x h W' ((hT.below hb).below h')) h.pos h.len)
 clear hT h
 unfold sv at D |-
 generalize (⟨x.toArray⟩:ByteArray)=s at D |-
 go_enter func138,ntmps138
 go_wp2_with (go_at_call 204;refine (D.out _ (Qz _ _)).mono ?_;rintro e w' ⟨rfl,hw⟩)
 go_ret
 exact ⟨rfl,hw⟩
theorem O4 (x:Bs) (h:Md x) (w:World):Calls prog 137 #[sv x] w fun e w'=>e=.returned (.bool true)/\Below w w w':=by
 have D:=Qq (fun W=>Mp x 3 0 W (.inr rfl) (fun W' _=>good_cap x h W') h.pos h.len)
 clear h
 unfold sv at D |-
 generalize (⟨x.toArray⟩:ByteArray)=s at D |-
 go_enter func137,ntmps137
 go_wp2_with (go_at_call 204;refine (D.out _).mono ?_;rintro e w' ⟨rfl,hw⟩)
 go_ret
 exact ⟨rfl,hw⟩
end Go.Proofs.YtlanplhphiikjaaGreatDoor
