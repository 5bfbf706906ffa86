import Derived.Test.YtdpibdpbgokmoaaGreatDoorA47
import Derived.Test.YtdpibdpbgokmoaaGreatDoorA46
import Derived.Test.YtdpibdpbgokmoaaGreatDoorA45
import Derived.Test.YtdpibdpbgokmoaaGreatDoorA44
import Derived.Test.YtdpibdpbgokmoaaGreatDoorA43
import Derived.Test.YtdpibdpbgokmoaaGreatDoorA35
set_option maxRecDepth 100000
set_option maxHeartbeats 400000000
namespace Go.Proofs.YtdpibdpbgokmoaaGreatDoor
open Go.RowKit Go.Shelf Go.Lib Tryz
theorem Sy (S0 S1:Nat->Prop) (s:Sc) (cs:List Value) (lv:Value) (l:List Rel) (w:World) (hs:Ve S0 w cs s) (hl0:Sl Yk S1 w lv l) (hlen:l.length=s.tables.length) (hsm:Dd s.sums) (hT:∀ t ∈ s.tables,Pq t) (hR:∀ r ∈ l,∀ v ∈ r.rows,Kb v):
  Calls prog 10 #[cs,lv] w (Jq w s l (cfR s l)):=
 Kf.all Qqs Qzc Cw (Nw.all (G6.all Qqa Qqe)) Qji S0 S1 s cs lv l w hs hl0 hlen hsm hT hR
theorem Fd (l:List Rel) (t:Bs):Yr l t=(l.map Rel.table).findIdx? (λy=>decide (y=t)):=by
 unfold Yr;rw [List.findIdx?_map];rfl
theorem U6 {l:List Rel} {t:Bs} {i:Nat} (h:Yr l t=some i):∃ r,l[i]?=some r/\r.table=t:=by
 unfold Yr at h
 obtain ⟨h1,h2,_⟩:=List.findIdx?_eq_some_iff_getElem.1 h
 exact ⟨_,Qx h1,of_decide_eq_true h2⟩
theorem Bl {l:List Rel} {i:Nat} (zs:List Val):(l.set i ⟨(l.getD i ⟨[],[]⟩).table,zs⟩).map Rel.table=l.map Rel.table:=by
 apply List.ext_getElem?
 intro j
 simp only [List.getElem?_map,List.getElem?_set]
 by_cases hj:i=j
 ·subst hj
  rw [if_pos rfl]
  by_cases hl:i<l.length
  ·rw [if_pos hl];simp [Qx hl]
  rw [if_neg hl,List.getElem?_eq_none Ia]
 rw [if_neg hj]
theorem U4 {l:List Rel} {t:Bs} {i:Nat} {r:Rel} (h:Yr l t=some i) (hr:l[i]?=some r):Yg l t=r.rows:=by
 unfold Yg;rw [h];simp [hr]
theorem K9 {l:List Rel} {t:Bs} (h:Yr l t=none):Yg l t=[]:=by unfold Yg;rw [h]
theorem Fz {l:List Rel} {t:Bs} {i:Nat} (h:Yr l t=some i) (zs:List Val) (t':Bs):
  Yg (l.set i ⟨(l.getD i ⟨[],[]⟩).table,zs⟩) t'=if t'=t then zs else Yg l t':=by
 have J:∀ y,Yr (l.set i ⟨(l.getD i ⟨[],[]⟩).table,zs⟩) y=Yr l y:=λy=>by rw [Fd,Bl,<- Fd]
 obtain ⟨r,D,M⟩:=U6 h
 have I:=(Qj D).1
 by_cases ht:t'=t
 ·subst ht
  rw [if_pos rfl]
  exact U4 (by rw [J,h]) (by rw [List.getElem?_set,if_pos rfl,if_pos I])
 rw [if_neg ht]
 cases h':Yr l t' with
 | none=>rw [K9 h',K9 (by rw [J,h'])]
 | some j=>
  obtain ⟨s,A,N⟩:=U6 h'
  have G:i≠j:=λe=>by subst e;rw [D] at A;cases A;exact ht (N.symm.trans M)
  rw [U4 h' A]
  exact U4 (by rw [J,h']) (by rw [List.getElem?_set,if_neg G];exact A)
def Mf (l:List Rel) (t:Bs) (k:List Int):Prop:=k ∈ (Yg l t).map key
theorem delV_mem (l:List Val) (x:Val) (k:List Int):k ∈ (Kk l x).map key↔k ∈ l.map key/\k≠key x:=by
 unfold Kk
 simp only [List.mem_map,List.mem_filter]
 constructor
 ·rintro ⟨y,⟨D,he⟩,rfl⟩
  exact ⟨⟨y,D,rfl⟩,λe=>by simp [eqv,e] at he⟩
 rintro ⟨⟨y,D,rfl⟩,A⟩
 exact ⟨y,⟨D,by simp [eqv,A]⟩,rfl⟩
theorem Dm (l:List Rel) (t:Bs) (x:Val) (t':Bs) (k:List Int):Mf (Vy l t x) t' k↔Mf l t' k/\¬ (t'=t/\k=key x):=by
 unfold Mf Vy
 cases h:Yr l t with
 | none=>
  refine ⟨λA=>⟨A,?_⟩,λA=>A.1⟩
  rintro ⟨rfl,_⟩
  rw [K9 h] at A
  cases A
 | some i=>
  show k ∈ (Yg (l.set i ⟨(l.getD i ⟨[],[]⟩).table,Kk (l.getD i ⟨[],[]⟩).rows x⟩) t').map key↔_
  obtain ⟨r,hr,_⟩:=U6 h
  rw [Fz h]
  by_cases ht:t'=t
  ·subst ht
   rw [if_pos rfl,U4 h hr,show (l.getD i ⟨[],[]⟩).rows=r.rows by simp [hr],delV_mem]
   simp
  rw [if_neg ht];simp [ht]
theorem Dt {l:List Rel} {t:Bs} (x:Val) (t':Bs) (k:List Int) (hin:t ∈ l.map Rel.table):Mf (Xn l t x) t' k↔Mf l t' k\/(t'=t/\k=key x):=by
 unfold Mf Xn
 cases h:Yr l t with
 | none=>
  rw [Fd,List.findIdx?_eq_none_iff] at h
  exact absurd (h t hin) Ib
 | some i=>
  show k ∈ (Yg (l.set i ⟨(l.getD i ⟨[],[]⟩).table,Uk (l.getD i ⟨[],[]⟩).rows x⟩) t').map key↔_
  obtain ⟨r,hr,_⟩:=U6 h
  rw [Fz h]
  by_cases ht:t'=t
  ·subst ht
   rw [if_pos rfl,U4 h hr,show (l.getD i ⟨[],[]⟩).rows=r.rows by simp [hr],putV_mem]
   simp [or_comm]
  rw [if_neg ht];simp [ht]
theorem Xi (l:List Rel) (t:Bs) (x:Val):(Vy l t x).map Rel.table=l.map Rel.table:=by
 unfold Vy;cases Yr l t with
 | none=>rfl
 | some i=>exact Bl _
theorem Jf (l:List Rel) (t:Bs) (x:Val):(Xn l t x).map Rel.table=l.map Rel.table:=by
 unfold Xn;cases Yr l t with
 | none=>rfl
 | some i=>exact Bl _
theorem Ds {p:List Val->Prop} {l:List Rel} (h:∀ r ∈ l,p r.rows) (t:Bs) (x:Val) (hp:∀ xs,p xs->p (Kk xs x)):∀ r ∈ Vy l t x,p r.rows:=by
 unfold Vy
 cases e:Yr l t with
 | none=>exact h
 | some i=>
  obtain ⟨r0,A,_⟩:=U6 e
  intro r D
  rcases List.mem_or_eq_of_mem_set D with D | rfl
  ·exact h r D
  show p (Kk _ x)
  rw [show (l.getD i ⟨[],[]⟩).rows=r0.rows by simp [A]]
  exact hp _ (h r0 (Qy A))
theorem Lj {p q:List Val->Prop} {l:List Rel} (h:∀ r ∈ l,p r.rows) (t:Bs) (x:Val) (hp:∀ xs,p xs->q (Uk xs x)) (hq:∀ xs,p xs->q xs):∀ r ∈ Xn l t x,q r.rows:=by
 unfold Xn
 cases e:Yr l t with
 | none=>exact λr A=>hq _ (h r A)
 | some i=>
  obtain ⟨r0,D,_⟩:=U6 e
  intro r A
  rcases List.mem_or_eq_of_mem_set A with A | rfl
  ·exact hq _ (h r A)
  show q (Uk _ x)
  rw [show (l.getD i ⟨[],[]⟩).rows=r0.rows by simp [D]]
  exact hp _ (h r0 (Qy D))
structure Hx (T:List Bs) (c:Nat) (l:List Rel):Prop where
 tabs:l.map Rel.table=T
 up:∀ r ∈ l,UpV r.rows
 few:∀ r ∈ l,r.rows.length<=c
theorem Ml (l:List Val) (x:Val):(Uk l x).length<=l.length+1:=by
 unfold Uk
 split
 ·omega
 simp;omega
theorem Hx.del {T:List Bs} {c:Nat} {l:List Rel} (h:Hx T c l) (t:Bs) (x:Val):Hx T c (Vy l t x):=
 ⟨by rw [Xi];exact h.tabs,Ds h.up t x (λxs A=>List.Pairwise.filter _ A),Ds (p:=λxs=>xs.length<=c) h.few t x (λxs A=>Qc (List.length_filter_le _ _) A)⟩
theorem Hx.ins {T:List Bs} {c:Nat} {l:List Rel} (h:Hx T c l) (t:Bs) (x:Val):Hx T (c+1) (Xn l t x):=
 ⟨by rw [Jf];exact h.tabs,Lj h.up t x (λxs A=>Av A x) (λ_ h=>h),Lj (p:=λxs=>xs.length<=c) (q:=λxs=>xs.length<=c+1) h.few t x (λxs A=>Qc (Ml xs x) Ia) (λxs A=>Ia)⟩
theorem Ei {l:List Rel} (hd:(l.map Rel.table).Nodup) {i:Nat} {r:Rel} (h:l[i]?=some r):Yr l r.table=some i:=by
 obtain ⟨hi,he⟩:=Qj h
 rw [Fd,List.findIdx?_eq_some_iff_getElem]
 refine ⟨by simpa using hi,by simp [he],λj hj=>?_⟩
 simp only [List.getElem_map,Qt,decide_eq_false_iff_not]
 intro e
 rw [<- he] at e
 exact (List.pairwise_iff_getElem.1 hd) j i (by simpa using (by omega:j<l.length)) (by simpa using hi) hj (by simpa using e)
theorem L4:∀ {a b:List Val},Fq a b=true->Iu eqv a b=true
 | [],[],_=>rfl
 | [],_::_,h=>by simp [Fq] at h
 | _::_,[],h=>by simp [Fq] at h
 | x::s,y::t,h=>by
  rw [Rl,Bool.and_eq_true] at h
  unfold Iu
  rw [h.1,L4 h.2];rfl
theorem Nu {A B:Type} {p:A->B->Bool}:∀ {a:List A} {b:List B},a.length=b.length->(∀ (i:Nat) (x:A) (y:B),a[i]?=some x->b[i]?=some y->p x y=true)->Iu p a b=true
 | [],[],_,_=>rfl
 | [],_::_,h,_=>by simp at h
 | _::_,[],h,_=>by simp at h
 | x::s,y::t,h,hp=>by
  unfold Iu
  rw [hp 0 x y rfl rfl,Nu (by simpa using h) (λi x' y' h1 h2=>hp (i+1) x' y' (by simpa using h1) (by simpa using h2))];rfl
theorem Bu {T:List Bs} {c d:Nat} {a b:List Rel} (ha:Hx T c a) (hb:Hx T d b) (hd:T.Nodup) (hk:∀ t k,Mf a t k↔Mf b t k):Iu Kh a b=true:=by
 refine Nu (by have I:=congrArg List.length ha.tabs;have J:=congrArg List.length hb.tabs;simp at I J;omega) (λi x y D G=>?_)
 have M:T[i]?=some x.table:=by rw [<- ha.tabs];simp [D]
 have A:T[i]?=some y.table:=by rw [<- hb.tabs];simp [G]
 have ht:x.table=y.table:=by rw [M] at A;exact Qb A
 have I:=U4 (Ei (by rw [ha.tabs];exact hd) D) D
 have J:=U4 (Ei (by rw [hb.tabs];exact hd) G) G
 unfold Kh
 rw [L4 (upV_same (ha.up x (Qy D)) (hb.up y (Qy G)) (λk=>?_)),ht]
 ·simp
 have:=hk x.table k
 unfold Mf at this
 rw [I,ht,J] at this
 exact this
def nmK:Nat->Bs
 | 0=>[121]
 | _=>[120]
def Nh:Nat->List Bs
 | 0=>[]
 | 1=>[[121]]
 | _=>[[120],[121]]
def Nn (u v:Val):Nat->List Val
 | 0=>[]
 | 1=>[u]
 | _=>[v,u]
theorem Hi (k:Nat) (h:k<=2):(Nh k).length=k:=by match k,h with | 0,_=>rfl | 1,_=>rfl | 2,_=>rfl
theorem By (u v:Val) (k:Nat) (h:k<=2):(Nn u v k).length=k:=by match k,h with | 0,_=>rfl | 1,_=>rfl | 2,_=>rfl
theorem Qqz (k:Nat) (h:k<2):Un (Nh k) 0 (nmK k)=Nh (k+1):=by match k,h with | 0,_=>rfl | 1,_=>rfl
theorem Qqu (u v:Val) (k:Nat) (h:k<2) {x:Val} (hx:[u,v][k]?=some x):Un (Nn u v k) 0 x=Nn u v (k+1):=by
 match k,h,hx with
 | 0,_,hx=>cases hx;rfl
 | 1,_,hx=>cases hx;rfl
theorem nmK_word (k:Nat):Vi (nmK k):=by
 match k with
 | 0=>exact ⟨Ih,Ih,by intro c A;simp [nmK] at A;subst A;decide,Ih,Ih⟩
 | k+1=>exact ⟨by simp [nmK],by simp [nmK],by intro c A;simp [nmK] at A;subst A;decide,by simp [nmK];decide,by simp [nmK];decide⟩
theorem Kl {E:TypeId} {S S':Nat->Prop} {B:Nat} {w:World} {v:Value} {xs:List Bs} {css:List (List Value)} (h:Own Zh E S B w v xs css):Own Zh E S' B w v xs css:=⟨h.row,⟨h.cs.len,λj c x hc hx=>h.cs.R j c x hc hx⟩⟩
theorem bs_k (k:Nat) (hk:k<2) (S:Nat->Prop) (p:Option Addr) (c:Nat) (W:World) (h:Sl Zh S W (.slice p k c) (Nh k)):
  Calls prog 168 #[.slice p k c,(nmK k)] W λe w'=>e=.returned (.tuple #[Ic,.bool false])/\Below W W w':=by
 match k,hk with
 | 0,_=>
  have mixed:prog.follows .mixedOrders=true:=Ir
  clear h
  go_enter func168,ntmps168
  go_wp2_with fail
  go_loopw [7,8] (λt7 t8 wr=>t7=.int .i64 0/\t8=.int .i64 0/\Aside (Below W W wr)) (λ_ _ _=>0)
  case atStart=>
   exact ⟨by first | rfl | go_num,by first | rfl | go_num,Qz _ _⟩
  obtain ⟨rfl,rfl,hb⟩:=hrel
  go_wp2_with fail
  go_ret2
  exact ⟨rfl,hb.o⟩
 | 1,_=>
  obtain ⟨b,A,rfl,hc,_⟩:=h.str (i:=0) (x:=[121]) rfl
  refine (Any2.slices_BinarySearch_string Tryz.laysBS b A 1 c (λ_=>⟨#[121]⟩) ⟨#[120]⟩ W Ia (λj hj=>by
   obtain rfl:j=0:=Ia
   exact hc)).mono ?_
  rintro e w' ⟨rfl,q,rfl⟩
  have e1:Op.bytesLess [121] [120]=false:=Ih
  refine ⟨?_,Yz _ _⟩
  simp [Lib.bsGo,ByteArray.toList_mk,e1]
def Pb (w:World) (u v:Val) (k:Nat) (wr:World):Prop:=
 ∃ np nc cssN kp kc cssV,wr.heap[w.heap.size+1]?=some (.cells #[.int .i64 4,Ic,Ig,.slice np k nc,.slice kp k kc] 36 (0,0))/\wr.heap[w.heap.size]?=some (.cells zV 36 (0,0)) /\
  Own Zh 9 (λb=>w+2<=b) (w+2) wr (.slice np k nc) (Nh k) cssN/\Own Zc 36 (λb=>w+2<=b/\some b≠(Value.ownBlock (.slice np k nc))) (w+2) wr (.slice kp k kc) (Nn u v k) cssV/\Below w w wr
theorem rec_xy (u v:Val):RecAt [[121],[120]] [u,v] (Vf [[120],[121]] [v,u]):=by
 intro S S' nv vv w eL eN eQ
 have hn:Sl Zh (λb=>b<w) w nv [[121],[120]]:=eN.mono (λb hb _=>hb)
 have hv:Sl Zc (λb=>b<w) w vv [u,v]:=eQ.mono (λb hb _=>hb)
 obtain ⟨ap,ac,rfl,_⟩:=hn.len
 obtain ⟨vp,vc,rfl,_⟩:=hv.len
 obtain ⟨HN,HV,fB⟩:=Im hn hv eL
 have mixed:prog.follows .mixedOrders=true:=Ir
 clear eN eQ hn hv eL
 show Calls prog 136 #[.slice ap 2 ac,.slice vp 2 vc] w _
 go_enter func136,ntmps136
 go_upto_region 4 with fail
 generalize cH:World.alloc _ _=W1
 have eJ:=Iq cH (Zs _ _ _)
 have eG:=Ik (b:=w.heap.size) cH (Q5 _ _ _)
 have eC:=Ik (b:=w.heap.size+1) cH (Q6 _ _ _)
 have HM:Pb w u v 0 W1:=⟨none,0,[],none,0,[],eC,eG,Own.nil _ _ _ _ _,Own.nil _ _ _ _ _,eJ⟩
 have dU:=Qq HM
 clear cH eJ eG eC HM
 go_wp2_with fail
 go_loopw [20] (λdN wr=>∃ k:Nat,k<=2/\dN=.int .i64 k/\Aside (Pb w u v k wr)) (λdN _=>2 - (intOf dN).toNat)
 case atStart=>exact ⟨0,Q8 _,rfl,dU.o⟩
 obtain ⟨k,dJ,rfl,hA⟩:=hrel
 obtain ⟨np,nc,dZ,kp,kc,eA,bE,bF,eE,eF,eB⟩:=hA.o
 obtain ⟨dT,dD,aR,dB,cD⟩:=AO bE bF eE eF eB
 have fI:=Z8 bE
 clear hA eE eF eB dU
 by_cases hlt:k<2
 ·have fR:(0:Int)<=(k:Int):=Ia
  have fS:(k:Int)<2:=Ia
  have eO:([[121],[120]]:List Bs)[k]?=some (nmK k):=by match k,hlt with | 0,_=>rfl | 1,_=>rfl
  obtain ⟨x,hx⟩:∃ x,[u,v][k]?=some x:=⟨_,Qx (by simpa using hlt)⟩
  obtain ⟨nb,fP,rfl,dL,eP⟩:=HN.o.str eO
  obtain ⟨vb,cA,x3,m3,x4,m4,rfl,bW,eR,d0,d1,d2,d3,d4⟩:=HV.o.val hx
  obtain ⟨fD,HX,dV⟩:=Im eR hx eP
  have dR:=Qq (λW (h:Below w w W)=>(show (BD W vb (cA+k*5) x.kind x.n x.s (.slice x3 x.names.length m3) (.slice x4 x.kids.length m4):Prop) from ⟨kD h bW d0,kD h bW d1,kD h bW d2,kD h bW d3,kD h bW d4⟩))
  have cP:=Qq (by have h:=aR.o.sl (S':=(λb=>w+2<=b)) (by rw [Hi k dJ];omega) (λb h=>h) (λb _ h=>h);exact h:Sl Zh (λb=>w+2<=b) wr (.slice np k nc) (Nh k))
  obtain ⟨nm,dM⟩:=eX (nmK k)
  have cG:=Qq (λW (h:Below wr wr W)=>L5 (nmK k) (nmK_word k) W (fB.o.below (cD.o.n h)))
  have cW:=Qq (λW (h:Below wr wr W)=>bs_k k hlt _ np nc W (cP.o.below h))
  have dW:=Qq (Qqz k hlt)
  have dL:=kC cD.o dL
  rw [dM] at cG cW dL dV dW
  unfold sv at cG
  have fQ:=Qq dM
  have rr:=λj=>Qk _ _ j _ _ _ bE
  obtain ⟨r0,r1,r2,r3,r4⟩:=Iw rr
  simp only [Qf,Qg,Qh] at r0 r1 r2 r3 r4
  clear rr
  clear bE bF hx eR eO dM eP d0 d1 d2 d3 d4 cP
  go_upto_region 12 with (first
   | (have h9:=cV.o;clear h9;go_at_call 112;refine (cG.o _ cV.o).mono ?_;rintro e w5 ⟨rfl,hb⟩;have bD:=Qq (cV.o.n hb);clear hb)
   | (go_at_call 168;refine (cW.o _ (Qz _ _)).mono ?_;rintro e w4 ⟨rfl,hb⟩;have cV:=Qq hb;clear hb))
  have dF:=kE bD.o fI dT.o
  have cY:=Qq dF
  clear r0 r1 r2 r3 r4
  have rr:=λj=>Qk _ _ j _ _ _ dF
  obtain ⟨r0,r1,r2,r3,r4⟩:=Iw rr
  simp only [Qf,Qg,Qh] at r0 r1 r2 r3 r4
  clear rr
  have cZ:=Qq (insAnyS (λb=>w+2<=b) (w+2) (w5.alloc (.cells #[nm] 9)) (.slice np k nc) (Nh k) dZ nm [nm] 0 w5 1 (aR.o.below (bD.o.n (Zg _ _))) (Qw _ _) ⟨by have:=bD.o.size;omega,λe=>by have:=(aR.o.row.lt _ e.symm).2;have:=bD.o.size;omega⟩ ⟨rfl,dV.o⟩ (Q8 _) (by rw [Hi k dJ];omega) (by have:=bD.o.size;simp;omega))
  rw [dW.o] at cZ
  have eK:Below w5 w5 (w5.alloc (.cells #[nm] 9)):=Zg _ _
  have bK:=Qq (bD.o.n eK)
  have bB:=Qq (dB.o.below bK.o);have cO:=Qq (aR.o.below bK.o)
  clear dF eK
  go_upto_region 13 with (go_at_call 169;refine cZ.o.mono ?_;rintro e w7 ⟨p7,c7,bN,rfl,dG,dI,bR⟩;have aZ:(Nh (k+1)).length=k+1:=Hi (k+1) Ia;rw [aZ] at dG bR |-;have eD:some (w.heap.size+1)≠(Value.slice np k nc).ownBlock:=(λe=>by have:=(aR.o.row.lt _ e.symm).1;omega);have eM:w.heap.size+1<(w5.alloc (.cells #[nm] 9)).heap.size:=(Z8 (kB (Zg w5 _) cY.o));have cI:=(dI.block _ eM eD).trans (kB (Zg w5 _) cY.o);have dX:=Qq cI;have f3:=fA 3 cI;have t3:=AH cI;obtain ⟨dA,cE,dQ⟩:=Im dG dI bR;clear cI dG dI bR)
  have bG:=Qi _ _ 3 _ _ (.slice p7 (k+1) c7) dX.o
  have bV:∀ b,b≠w.heap.size+1->(w7.setCell ⟨w+1,3,none⟩ (.slice p7 (k+1) c7)).heap[b]?=w7.heap[b]?:=λb hb=>Za hb
  simp only [List.setIfInBounds_toArray,List.set_cons_zero,List.set_cons_succ] at bG
  have eH:=(cE.o.block _ (by have:=Z8 dD.o;have:=bK.o.size;omega) (λe=>by have:=(aR.o.row.lt _ e.symm).1;omega)).trans (kB bK.o dD.o)
  have cQ:Below w w w7:=by
   have hb:=cD.o.n bK.o
   have hg:=cE.o
   exact ⟨hg.os.trans hb.os,hg.tape.trans hb.tape,hg.output.trans hb.output,Qc hb.size hg.size,λb h=>(hg.block b (Ix hb.size) (λe=>by have:=(aR.o.row.lt _ e.symm).1;omega)).trans (hb.block b h)⟩
  have bS:Below w w (w7.setCell ⟨w+1,3,none⟩ (.slice p7 (k+1) c7)):=cQ.setCell (p:=⟨w+1,3,none⟩) (by show w<=w.heap.size+1;omega) _
  have bP:=dA.o.move (w':=w7.setCell ⟨w+1,3,none⟩ (.slice p7 (k+1) c7)) (Q9 _) (λb hb h=>bV b (by
   rcases h with h | h
   ·have h':w.heap.size+2<=b:=h
    omega
   have:=(dA.o.row.lt b h).1
   omega))
  have bQ:=((bB.o.wide (S':=λb=>(w+2<=b/\some b≠(Value.slice np k nc).ownBlock)/\b<(w5.alloc (.cells #[nm] 9)).heap.size) (λb hb h=>⟨h,hb⟩)).move (w':=w7.setCell ⟨w+1,3,none⟩ (.slice p7 (k+1) c7)) (Q9 _) (λb hb h=>(bV b (by
   rcases h with h | h
   ·have:=h.1.1
    omega
   ·have:=(bB.o.row.lt b h).1
    omega)).trans (cE.o.block b hb (by
   rcases h with h | h
   ·exact h.1.2
   ·exact λe=>Yl bB.o.row cO.o.row Ih h e.symm)))).wide (S':=(λb=>w+2<=b/\some b≠(Value.ownBlock (.slice p7 (k+1) c7)))) (λb hb h=>⟨h.1.1,λe=>by
   rcases dQ.o with h7 | h7
   ·exact h.1.2 (by rw [<- h7];exact e)
   rw [h7] at e
   have e':=Qb e
   have:=h.2
   omega⟩)
  generalize World.setCell _ _ _=w8 at bG bV bS bP bQ |-
  have eI:=(bV _ Ia).trans eH
  obtain ⟨dE,dC,G,T,aE⟩:=AO bG eI bS bP bQ
  have dK:=Z8 bG
  obtain ⟨d0,d1,d2,d3,d4⟩:=dR.o w8 bS
  have rr:=λj=>Qk _ _ j _ _ _ bG
  obtain ⟨r0,r1,r2,r3,r4⟩:=Iw rr
  simp only [Qf,Qg,Qh] at r0 r1 r2 r3 r4
  clear rr
  have fC:=Qq (Qqu u v k hlt HX.o)
  have cX:=Qq (λW (h:Below w8 w8 W)=>Bw x _ _ W (fD.o.move (.f (bS.n h)) Ij))
  unfold Il at cX
  have bA:=Qq (λ(w9:World) (y3 y4:Option Addr) (l3 l4:Nat) (h:Below w8 w8 w9) (hv:Z9 (λb=>w8<=b) w9 (Il x y3 l3 y4 l4) x)=>insAny (λb=>w+2<=b/\some b≠(Value.ownBlock (.slice p7 (k+1) c7))) (w+2) (w9.alloc (.cells (Is x y3 l3 y4 l4) 36)) (.slice kp k kc) (Nn u v k) eA x (Is x y3 l3 y4 l4) 0 w9 1 (aE.o.below (h.n (Zg _ _))) (Qw _ _)
   ⟨⟨by have:=h.size;omega,λe=>by have:=(T.o.row.lt _ e.symm).2;have:=h.size;omega⟩,λe=>by have:=(aE.o.row.lt _ e.symm).2;have:=h.size;omega⟩
   (Z9.move (Z9.move hv (.refl _ _) (λb hb h1=>(⟨⟨Ia,λe=>by have:=(T.o.row.lt _ e.symm).2;omega⟩,λe=>by have:=(aE.o.row.lt _ e.symm).2;omega⟩:But (λb=>w+2<=b/\some b≠(Value.ownBlock (.slice p7 (k+1) c7))) (.slice kp k kc) b))) (.f (Zg _ _)) Ij) (Q8 _) (by rw [By u v k dJ];omega) (by have:=h.size;simp;omega))
  rw [fC.o] at bA
  clear bG eI bS bP bQ bV eH cQ dX cE dQ dA cO bB cZ cY aR dB dT dD cW cG
  have R4:=Qq r4
  have aD:=Qq (show ∀ W,Below w w W->(λW=>((BD W vb (cA+k*5) x.kind x.n x.s (.slice x3 x.names.length m3) (.slice x4 x.kids.length m4):Prop))/\Below w w W) W from λW h=>⟨dR.o W h,h⟩)
  refine wp_region_held_drew (S:=λW=>((BD W vb (cA+k*5) x.kind x.n x.s (.slice x3 x.names.length m3) (.slice x4 x.kids.length m4):Prop))/\Below w w W) Ir (aD.o _ G.o.drew) (λD=>?_)
  refine In (v:=?_) 0 (λw0 Y=>?_) ?_;rotate_left
  ·(obtain ⟨⟨y0,y1,y2,y3,y4⟩,_⟩:=Y;go_simp;try with_reducible rfl)
  refine In (v:=?_) 2 (λw0 Y=>?_) ?_;rotate_left
  ·(obtain ⟨⟨y0,y1,y2,y3,y4⟩,_⟩:=Y;go_simp;try with_reducible rfl)
  refine In (v:=?_) 3 (λw0 Y=>?_) ?_;rotate_left
  ·(obtain ⟨⟨y0,y1,y2,y3,y4⟩,_⟩:=Y;go_simp;try with_reducible rfl)
  refine In (v:=?_) 4 (λw0 Y=>?_) ?_;rotate_left
  ·(obtain ⟨⟨y0,y1,y2,y3,y4⟩,_⟩:=Y;go_simp;try with_reducible rfl)
  refine In (v:=?_) 5 (λw0 Y=>?_) ?_;rotate_left
  ·(obtain ⟨⟨y0,y1,y2,y3,y4⟩,_⟩:=Y;go_simp;try with_reducible rfl)
  refine In (v:=?_) 6 (λw0 Y=>?_) ?_;rotate_left
  ·(obtain ⟨⟨y0,y1,y2,y3,y4⟩,_⟩:=Y;go_simp;try with_reducible rfl)
  have aS:Hid (Below w8 w8 w8.drew):=Qq (Qz _ _).drew
  have fL:=aS.o.size
  generalize w8.drew=wd at D aS fL |-
  clear r0 r1 r2 r3 r4 d0 d1 d2 d3 d4
  refine BH [1,7] ?_
  refine AZ (λK O=>?_) ?_
  ·have b4:=kC aS.o R4.o
   go_simp
   clear b4
   try dsimp only
   refine O.o _ _ (aD.o _ (G.o.n aS.o)) (λD=>?_)
   clear O K
   refine AE 7 (λK O=>?_) ?_
   ·go_simp
    refine (cX.o _ aS.o).mono ?_
    rintro e w9 ⟨fF,rfl,hv,hb⟩
    obtain ⟨y3,l3,y4,l4,bT,_⟩:=Z9.cells hv
    simp only [Il] at bT
    subst bT
    have aN:Hid (Below w8 w8 w9):=Qq (aS.o.n hb)
    have cF:Hid (Z9 (λb=>w8<=b) w9 (Il x y3 l3 y4 l4) x):=Qq (Z9.move hv (.refl _ _) (λb _ h=>by have h':wd.heap.size<=b:=h;show w8<=b;omega))
    clear hv hb
    try dsimp only
    refine O.o _ _ (aD.o _ (G.o.n aN.o)) (λD=>?_)
    clear O K
    refine AE 8 (λK O=>?_) ?_
    ·go_simp
     have aO:=bA.o w9 y3 y4 l3 l4 aN.o cF.o
     generalize aJ:World.alloc w9 (.cells (Is x y3 l3 y4 l4) 36)=cB at aO |-
     have A:Below w8 w8 cB:=by rw [<- aJ];exact aN.o.n (Zg _ _)
     have N:=Qq A;have aU:=Qq aO
     clear aJ A aO
     try dsimp only
     refine O.o _ _ (aD.o _ (G.o.n N.o)) (λD=>?_)
     clear O K
     refine AE 9 (λK O=>?_) ?_
     ·go_simp
      refine aU.o.mono ?_
      rintro e I ⟨p9,c9,aW,rfl,hO,hg,aX⟩
      have aZ:(Nn u v (k+1)).length=k+1:=By u v (k+1) Ia
      rw [aZ] at hO aX |-
      have A:=N.o
      have aL:=A.size
      have M:∀ b,b<w.heap.size+2->some b≠(Value.slice kp k kc).ownBlock:=λb hb e=>by have:=(aE.o.row.lt _ e.symm).1;omega
      have aK:Below w w I:=⟨hg.os.trans (A.os.trans G.o.os),hg.tape.trans (A.tape.trans G.o.tape),hg.output.trans (A.output.trans G.o.output),by have:=G.o.size;have:=hg.size;omega,λb h=>(hg.block b (Ix G.o.size) (M b Ia)).trans ((A.block b (Ix G.o.size)).trans (G.o.block b h))⟩
      have J:=(hg.block _ Ia (M (w+1) Ia)).trans (kE A dK dE.o)
      obtain ⟨aV,aG,aT,aF⟩:=It J hO hg aK
      have f4:=fA 4 J;have t4:=Iz J
      clear J hO hg aX A aK
      try dsimp only
      refine O.o _ _ (aD.o _ aF.o) (λD=>?_)
      clear O K
      refine In (v:=?_) 10 (λw0 Y=>?_) ?_;rotate_left
      ·(obtain ⟨⟨y0,y1,y2,y3,y4⟩,_⟩:=Y;go_simp;try with_reducible rfl)
      refine AE 11 (λK O=>?_) Qo
      go_simp
      have Z:=Qi _ _ 4 _ _ (.slice p9 (k+1) c9) aV.o
      have aB:∀ b,b≠w.heap.size+1->(I.setCell ⟨w+1,4,none⟩ (.slice p9 (k+1) c9)).heap[b]?=I.heap[b]?:=λb hb=>Za hb
      simp only [List.setIfInBounds_toArray,List.set_cons_zero,List.set_cons_succ] at Z
      have A:=N.o
      have aL:=A.size
      have aP:∀ b,b<w8.heap.size->some b≠(Value.slice kp k kc).ownBlock->(I.setCell ⟨w+1,4,none⟩ (.slice p9 (k+1) c9)).heap[b]?=w8.heap[b]?\/b=w.heap.size+1:=λb hb bU=>by
       by_cases h:b=w.heap.size+1
       ·exact .inr h
       exact .inl ((aB b h).trans ((aT.o.block b Ia bU).trans (A.block b hb)))
      have aI:=((aP w Ia (M _ Ia)).resolve_right Ia).trans dC.o
      have aA:Below w w (I.setCell ⟨w+1,4,none⟩ (.slice p9 (k+1) c9)):=by
       exact aF.o.setCell (p:=⟨w+1,4,none⟩) (by show w<=w.heap.size+1;omega) _
      have U:=Kl (S':=(λb=>w+2<=b)) ((Kl (S':=λ_=>False) T.o).move (w':=I.setCell ⟨w+1,4,none⟩ (.slice p9 (k+1) c9)) (Q9 _) (λb hb h=>by
       rcases h with h | h
       ·exact h.elim
       have h1:=(T.o.row.lt b h).1
       exact (aP b hb (λe=>Yl T.o.row aE.o.row Ih h e.symm)).resolve_right Ia))
      have V:=aG.o.move (w':=I.setCell ⟨w+1,4,none⟩ (.slice p9 (k+1) c9)) (Q9 _) (λb hb h=>aB b (by
       rcases h with h | h
       ·have:=h.1
        omega
       have:=(aG.o.row.lt b h).1
       omega))
      have HE:=Qq (show Pb w u v (k+1) (I.setCell ⟨w+1,4,none⟩ (.slice p9 (k+1) c9)) from ⟨p7,c7,bN,p9,c9,aW,Z,aI,U,V,aA⟩)
      have bL:=Qq aA
      clear Z aB A aP M aI aA U V aL
      refine O.o _ _ (aD.o _ bL.o) (λD=>?_)
      refine wpAnyH_done Ir ?_ _
      clear O K D
      go_wp2_with fail
      go_roundw
      case measure=>simp [intOf];omega
      case rel=>exact ⟨k+1,Ia,by go_num,HE.o⟩
     exact Qo
    exact Qo
   exact Qo
  refine AZ (λK O=>?_) ?_
  ·go_simp
   refine (cX.o _ aS.o).mono ?_
   rintro e w9 ⟨fF,rfl,hv,hb⟩
   obtain ⟨y3,l3,y4,l4,bT,_⟩:=Z9.cells hv
   simp only [Il] at bT
   subst bT
   have aN:Hid (Below w8 w8 w9):=Qq (aS.o.n hb)
   have cF:Hid (Z9 (λb=>w8<=b) w9 (Il x y3 l3 y4 l4) x):=Qq (Z9.move hv (.refl _ _) (λb _ h=>by have h':wd.heap.size<=b:=h;show w8<=b;omega))
   clear hv hb
   try dsimp only
   refine O.o _ _ (aD.o _ (G.o.n aN.o)) (λD=>?_)
   clear O K
   refine BH [1,8] ?_
   refine AZ (λK O=>?_) ?_
   ·have b4:=kC aN.o R4.o
    go_simp
    clear b4
    try dsimp only
    refine O.o _ _ (aD.o _ (G.o.n aN.o)) (λD=>?_)
    clear O K
    refine AE 8 (λK O=>?_) ?_
    ·go_simp
     have aO:=bA.o w9 y3 y4 l3 l4 aN.o cF.o
     generalize aJ:World.alloc w9 (.cells (Is x y3 l3 y4 l4) 36)=cB at aO |-
     have A:Below w8 w8 cB:=by rw [<- aJ];exact aN.o.n (Zg _ _)
     have N:=Qq A;have aU:=Qq aO
     clear aJ A aO
     try dsimp only
     refine O.o _ _ (aD.o _ (G.o.n N.o)) (λD=>?_)
     clear O K
     refine AE 9 (λK O=>?_) ?_
     ·go_simp
      refine aU.o.mono ?_
      rintro e I ⟨p9,c9,aW,rfl,hO,hg,aX⟩
      have aZ:(Nn u v (k+1)).length=k+1:=By u v (k+1) Ia
      rw [aZ] at hO aX |-
      have A:=N.o
      have aL:=A.size
      have M:∀ b,b<w.heap.size+2->some b≠(Value.slice kp k kc).ownBlock:=λb hb e=>by have:=(aE.o.row.lt _ e.symm).1;omega
      have aK:Below w w I:=⟨hg.os.trans (A.os.trans G.o.os),hg.tape.trans (A.tape.trans G.o.tape),hg.output.trans (A.output.trans G.o.output),by have:=G.o.size;have:=hg.size;omega,λb h=>(hg.block b (Ix G.o.size) (M b Ia)).trans ((A.block b (Ix G.o.size)).trans (G.o.block b h))⟩
      have J:=(hg.block _ Ia (M (w+1) Ia)).trans (kE A dK dE.o)
      obtain ⟨aV,aG,aT,aF⟩:=It J hO hg aK
      have f4:=fA 4 J;have t4:=Iz J
      clear J hO hg aX A aK
      try dsimp only
      refine O.o _ _ (aD.o _ aF.o) (λD=>?_)
      clear O K
      refine In (v:=?_) 10 (λw0 Y=>?_) ?_;rotate_left
      ·(obtain ⟨⟨y0,y1,y2,y3,y4⟩,_⟩:=Y;go_simp;try with_reducible rfl)
      refine AE 11 (λK O=>?_) Qo
      go_simp
      have Z:=Qi _ _ 4 _ _ (.slice p9 (k+1) c9) aV.o
      have aB:∀ b,b≠w.heap.size+1->(I.setCell ⟨w+1,4,none⟩ (.slice p9 (k+1) c9)).heap[b]?=I.heap[b]?:=λb hb=>Za hb
      simp only [List.setIfInBounds_toArray,List.set_cons_zero,List.set_cons_succ] at Z
      have A:=N.o
      have aL:=A.size
      have aP:∀ b,b<w8.heap.size->some b≠(Value.slice kp k kc).ownBlock->(I.setCell ⟨w+1,4,none⟩ (.slice p9 (k+1) c9)).heap[b]?=w8.heap[b]?\/b=w.heap.size+1:=λb hb bU=>by
       by_cases h:b=w.heap.size+1
       ·exact .inr h
       exact .inl ((aB b h).trans ((aT.o.block b Ia bU).trans (A.block b hb)))
      have aI:=((aP w Ia (M _ Ia)).resolve_right Ia).trans dC.o
      have aA:Below w w (I.setCell ⟨w+1,4,none⟩ (.slice p9 (k+1) c9)):=by
       exact aF.o.setCell (p:=⟨w+1,4,none⟩) (by show w<=w.heap.size+1;omega) _
      have U:=Kl (S':=(λb=>w+2<=b)) ((Kl (S':=λ_=>False) T.o).move (w':=I.setCell ⟨w+1,4,none⟩ (.slice p9 (k+1) c9)) (Q9 _) (λb hb h=>by
       rcases h with h | h
       ·exact h.elim
       have h1:=(T.o.row.lt b h).1
       exact (aP b hb (λe=>Yl T.o.row aE.o.row Ih h e.symm)).resolve_right Ia))
      have V:=aG.o.move (w':=I.setCell ⟨w+1,4,none⟩ (.slice p9 (k+1) c9)) (Q9 _) (λb hb h=>aB b (by
       rcases h with h | h
       ·have:=h.1
        omega
       have:=(aG.o.row.lt b h).1
       omega))
      have HE:=Qq (show Pb w u v (k+1) (I.setCell ⟨w+1,4,none⟩ (.slice p9 (k+1) c9)) from ⟨p7,c7,bN,p9,c9,aW,Z,aI,U,V,aA⟩)
      have bL:=Qq aA
      clear Z aB A aP M aI aA U V aL
      refine O.o _ _ (aD.o _ bL.o) (λD=>?_)
      refine wpAnyH_done Ir ?_ _
      clear O K D
      go_wp2_with fail
      go_roundw
      case measure=>simp [intOf];omega
      case rel=>exact ⟨k+1,Ia,by go_num,HE.o⟩
     exact Qo
    exact Qo
   refine AZ (λK O=>?_) ?_
   ·go_simp
    have aO:=bA.o w9 y3 y4 l3 l4 aN.o cF.o
    generalize aJ:World.alloc w9 (.cells (Is x y3 l3 y4 l4) 36)=cB at aO |-
    have A:Below w8 w8 cB:=by rw [<- aJ];exact aN.o.n (Zg _ _)
    have N:=Qq A;have aU:=Qq aO
    clear aJ A aO
    try dsimp only
    refine O.o _ _ (aD.o _ (G.o.n N.o)) (λD=>?_)
    clear O K
    refine AE 1 (λK O=>?_) ?_
    ·have b4:=kC N.o R4.o
     go_simp
     clear b4
     try dsimp only
     refine O.o _ _ (aD.o _ (G.o.n N.o)) (λD=>?_)
     clear O K
     refine AE 9 (λK O=>?_) ?_
     ·go_simp
      refine aU.o.mono ?_
      rintro e I ⟨p9,c9,aW,rfl,hO,hg,aX⟩
      have aZ:(Nn u v (k+1)).length=k+1:=By u v (k+1) Ia
      rw [aZ] at hO aX |-
      have A:=N.o
      have aL:=A.size
      have M:∀ b,b<w.heap.size+2->some b≠(Value.slice kp k kc).ownBlock:=λb hb e=>by have:=(aE.o.row.lt _ e.symm).1;omega
      have aK:Below w w I:=⟨hg.os.trans (A.os.trans G.o.os),hg.tape.trans (A.tape.trans G.o.tape),hg.output.trans (A.output.trans G.o.output),by have:=G.o.size;have:=hg.size;omega,λb h=>(hg.block b (Ix G.o.size) (M b Ia)).trans ((A.block b (Ix G.o.size)).trans (G.o.block b h))⟩
      have J:=(hg.block _ Ia (M (w+1) Ia)).trans (kE A dK dE.o)
      obtain ⟨aV,aG,aT,aF⟩:=It J hO hg aK
      have f4:=fA 4 J;have t4:=Iz J
      clear J hO hg aX A aK
      try dsimp only
      refine O.o _ _ (aD.o _ aF.o) (λD=>?_)
      clear O K
      refine In (v:=?_) 10 (λw0 Y=>?_) ?_;rotate_left
      ·(obtain ⟨⟨y0,y1,y2,y3,y4⟩,_⟩:=Y;go_simp;try with_reducible rfl)
      refine AE 11 (λK O=>?_) Qo
      go_simp
      have Z:=Qi _ _ 4 _ _ (.slice p9 (k+1) c9) aV.o
      have aB:∀ b,b≠w.heap.size+1->(I.setCell ⟨w+1,4,none⟩ (.slice p9 (k+1) c9)).heap[b]?=I.heap[b]?:=λb hb=>Za hb
      simp only [List.setIfInBounds_toArray,List.set_cons_zero,List.set_cons_succ] at Z
      have A:=N.o
      have aL:=A.size
      have aP:∀ b,b<w8.heap.size->some b≠(Value.slice kp k kc).ownBlock->(I.setCell ⟨w+1,4,none⟩ (.slice p9 (k+1) c9)).heap[b]?=w8.heap[b]?\/b=w.heap.size+1:=λb hb bU=>by
       by_cases h:b=w.heap.size+1
       ·exact .inr h
       exact .inl ((aB b h).trans ((aT.o.block b Ia bU).trans (A.block b hb)))
      have aI:=((aP w Ia (M _ Ia)).resolve_right Ia).trans dC.o
      have aA:Below w w (I.setCell ⟨w+1,4,none⟩ (.slice p9 (k+1) c9)):=by
       exact aF.o.setCell (p:=⟨w+1,4,none⟩) (by show w<=w.heap.size+1;omega) _
      have U:=Kl (S':=(λb=>w+2<=b)) ((Kl (S':=λ_=>False) T.o).move (w':=I.setCell ⟨w+1,4,none⟩ (.slice p9 (k+1) c9)) (Q9 _) (λb hb h=>by
       rcases h with h | h
       ·exact h.elim
       have h1:=(T.o.row.lt b h).1
       exact (aP b hb (λe=>Yl T.o.row aE.o.row Ih h e.symm)).resolve_right Ia))
      have V:=aG.o.move (w':=I.setCell ⟨w+1,4,none⟩ (.slice p9 (k+1) c9)) (Q9 _) (λb hb h=>aB b (by
       rcases h with h | h
       ·have:=h.1
        omega
       have:=(aG.o.row.lt b h).1
       omega))
      have HE:=Qq (show Pb w u v (k+1) (I.setCell ⟨w+1,4,none⟩ (.slice p9 (k+1) c9)) from ⟨p7,c7,bN,p9,c9,aW,Z,aI,U,V,aA⟩)
      have bL:=Qq aA
      clear Z aB A aP M aI aA U V aL
      refine O.o _ _ (aD.o _ bL.o) (λD=>?_)
      refine wpAnyH_done Ir ?_ _
      clear O K D
      go_wp2_with fail
      go_roundw
      case measure=>simp [intOf];omega
      case rel=>exact ⟨k+1,Ia,by go_num,HE.o⟩
     exact Qo
    exact Qo
   exact Qo
  exact Qo
 have fH:k=2:=Ia
 subst fH
 have HR:=Qq bF
 have rr:=λj=>Qk _ _ j _ _ _ bE
 obtain ⟨x0,x1,x2,x3,x4⟩:=Iw rr
 simp only [Qf,Qg,Qh] at x0 x1 x2 x3 x4
 clear rr
 have fz:=λj=>Qn _ _ j _ _ bF
 obtain ⟨f0,f1,f2,f3,f4⟩:=Iw fz
 have rr:=λj=>Qk _ _ j _ _ _ bF
 obtain ⟨r0,r1,r2,r3,r4⟩:=Iw rr
 simp only [Qf,Qg,Qh] at r0 r1 r2 r3 r4
 clear rr fz
 clear bE bF
 go_wp2_with fail
 show bodyPost _ _ _ _ _ (Zl wr w (.int .i64 4) Ic Ig (.slice np 2 nc) (.slice kp 2 kc))
 refine Q7 (v:=.tuple #[.agg #[.int .i64 4,Ic,Ig,.slice np 2 nc,.slice kp 2 kc],Ic]) (by simp [results,results136,go_sem,Ze HR.o]) rfl ⟨_,rfl,?_,Zd cD.o (Q9 _)⟩
 refine Yb (k:=4) (n:=0) (s:=[]) (names:=[[120],[121]]) (kids:=[v,u]) Ib ?_ ?_
 ·have h:Sl Zh (λb=>w+2<=b) wr (.slice np 2 nc) [[120],[121]]:=aR.o.sl (S':=(λb=>w+2<=b)) (by simp [Nh]) (λb h=>h) (λb _ h=>h)
  exact (h.frame (λb hS _=>Zf (by have h':w.heap.size+2<=b:=hS;omega))).mono (λb _ hS=>by have h':w.heap.size+2<=b:=hS;show w<=b;omega)
 have h:Sl Zc (λb=>w+2<=b) wr (.slice kp 2 kc) [v,u]:=dB.o.sl (S':=(λb=>w+2<=b)) (by simp [Nn]) (λb h=>h) (λb _ h=>h.1)
 exact (h.frame (λb hS _=>Zf (by have h':w.heap.size+2<=b:=hS;omega))).mono (λb _ hS=>by have h':w.heap.size+2<=b:=hS;show w<=b;omega)
end Go.Proofs.YtdpibdpbgokmoaaGreatDoor
