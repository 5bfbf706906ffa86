import Derived.Test.YtdpibdpbgokmoaaGreatDoorC07
set_option maxRecDepth 100000
set_option maxHeartbeats 400000000
namespace Go.Proofs.YtdpibdpbgokmoaaGreatDoor
open Go.RowKit Go.Shelf Go.Lib Tryz
theorem Zs {w:World} {b o:Nat} {v:Value} (hb:b<w) (h:w.cell? ⟨b,o,none⟩=some v):∀ n os,(Sort.grow (w.drewN n) os).cell? ⟨b,o,none⟩=some v:=fun n os=>cell_grown hb h n os
theorem Yg (w:World) (n:Nat) (os:Array Obj):Gr w (Sort.grow (w.drewN n) os):=⟨n,os,rfl⟩
def Xi (code:Int) (p:Val→Bool) (rows:List Val):Ft:=match rows.findIdx? (fun r=>!p r) with
 | none=>Ft.zero
 | some i=>⟨code,[],rows.getD i Val.zero,Val.zero⟩
theorem bad1_any (h:Nat) (lbh:Array Value) (eh:∀ args w,(callFunc h args).run prog w=.ok (.enter h args) w) (G:Nat) (S:Nat→Prop) (rows:List Val) (p:Val→Bool) (w:World) (hp:Uz prog h lbh Ze S rows p w) (hc:w.cell? ⟨G,0,none⟩=some (.func (.func h) #[] lbh)):
  Uz prog 80 #[Qqc G] Ze S rows (fun r=>!p r) w:=by
 intro W x cs hb hx J
 have I:W.cell? ⟨G,0,none⟩=some (.func (.func h) #[] lbh):=kD hb (Qv w _ hc) hc
 have D:=Qv W _ I
 have hG:G<W.heap.size:=D
 have HP:=Qq (fun W' (h':Below W W W')=>hp W' x cs (hb.thn h') hx (Ze.frame J (.of_below h')))
 obtain ⟨p3,k3,p4,k4,A,_⟩:=Z9.cells (show Z9 S W cs x from J)
 simp only [vcs] at A
 subst A
 show Calls prog 80 #[.agg (Qqg x p3 k3 p4 k4),Qqc G] W (fun e w'=>e=.returned (.bool (!p x))∧Below W W w')
 generalize p x=b at HP ⊢
 clear hp hc hb hx J D
 go_enter func80,ntmps80
 go_wp2_with (go_at_fn h;refine (HP.out _ (Zg _ _)).mono ?_;rintro e w' ⟨rfl,hw⟩)
 go_ret
 exact ⟨rfl,(Zg _ _).thn hw⟩
theorem N4 (code:Int) (h:Nat) (lbh:Array Value) (eh:∀ args w,(callFunc h args).run prog w=.ok (.enter h args) w) (S0:Nat→Prop) (v:Value) (rows:List Val) (p:Val→Bool) (w:World) (hv0:Sl Ze S0 w v rows) (hp:Uz prog h lbh Ze (fun b=>S0 b∧b<w) rows p w):
  Calls prog 28 #[code,v,.func (.func h) #[] lbh] w (Dq S0 w (Xi code p rows)):=by
 have hv:=hv0.up
 obtain ⟨vp,bX,rfl,hl⟩:=hv.len
 have HI:=Qq (fun W (hb:Below w w W) (hc:W.cell? ⟨w,0,none⟩=some (.func (.func h) #[] lbh))=>H8 Tryz.ixVal Ze isAgg36 sizeOf36 80 #[Qqc w] (enters_of func80 Qqy rfl) _ _ rows W _ (hv.below hb)
  (bad1_any h lbh eh w _ rows p W (fun W' x cs h1 h2 h3=>hp W' x cs (hb.thn h1) h2 h3) hc))
 have HV:=Qq hv
 clear hv hv0 hp
 have hB:∃ r,Xi code p rows=r:=⟨_,rfl⟩
 obtain ⟨r,hr⟩:=hB
 rw [hr]
 have A:V5 (fun r=>!p r) rows=(match rows.findIdx? (fun r=>!p r) with | some i=>(i:Int) | none=>-1):=by unfold V5;cases rows.findIdx? (fun r=>!p r) <;> rfl
 cases hf:rows.findIdx? (fun r=>!p r) with
 | none=>
  have M:r=Ft.zero:=by rw [← hr];unfold Xi;rw [hf]
  rw [hf] at A
  simp only at A
  rw [A] at HI
  have HR:=Qq M
  clear M hr A hf
  go_enter func28,ntmps28
  go_wp2_with fail
  refine (HI.out _ (Zt _ _ _) Qqk).mono ?_
  rintro e w5 ⟨rfl,hw⟩
  have D:=(hw.block (w+1) Qqk).trans (Q6 w _ _)
  have fz:=fun j=>Qn _ _ j _ _ D
  have rr:=fun j=>Qk _ _ j _ _ _ D
  obtain ⟨f0,f1,f2,f3,f4,f5,f6,f7,f8,f9,aC,aD⟩:=Qzz fz
  obtain ⟨r0,r1,r2,r3,r4,r5,r6,r7,r8,r9,U,V⟩:=Qzz rr
  simp only [Qf,Qg,Qh] at r0 r1 r2 r3 r4 r5 r6 r7 r8 r9 U V
  have Z:=Qq ((Zt w _ _).thn hw);have aB:=Qq D
  clear fz rr D hw
  go_wp2_with fail
  obtain ⟨W,Y⟩:=eX (Yb w5 (w+1) Qqd Qqe Qqd Qqd Qqe Qqf Qqf Qqd Qqd Qqe Qqf Qqf)
  have q:∀ j,W.cell? ⟨w+1,j,none⟩=zF[j]?:=fun j=>by rw [← Y];exact Ya aB.out j
  have G:Below w w W:=by rw [← Y];exact Yy Z.out Qqj
  show bodyPost _ _ _ _ _ (Yb w5 (w+1) Qqd Qqe Qqd Qqd Qqe Qqf Qqf Qqd Qqd Qqe Qqf Qqf)
  rw [Y]
  have J:=Qq G
  obtain ⟨q0,q1,q2,q3,q4,q5,q6,q7,q8,q9,O,T⟩:=Qzz q
  simp only [Qf,Qg,Qh] at q0 q1 q2 q3 q4 q5 q6 q7 q8 q9 O T
  clear Y G q r0 r1 r2 r3 r4 r5 r6 r7 r8 r9 U V f0 f1 f2 f3 f4 f5 f6 f7 f8 f9 aC aD
  refine Q7 (v:=.agg zF) (by simp [results,results28,go_sem,q0,q1,q2,q3,q4,q5,q6,q7,q8,q9,O,T]) rfl ⟨[Qqd,Qqe,Qqd,Qqd,Qqe,Qqf,Qqf,Qqd,Qqd,Qqe,Qqf,Qqf],rfl,by rw [HR.out];exact Kk _ _,J.out⟩
 | some i=>
  obtain ⟨bU,_,_⟩:=List.findIdx?_eq_some_iff_getElem.1 hf
  obtain ⟨x,hx⟩:∃ x,rows[i]?=some x:=⟨_,Qx bU⟩
  have M:r=⟨code,[],x,Val.zero⟩:=by rw [← hr];unfold Xi;rw [hf];simp only;rw [Qs,hx];rfl
  rw [hf] at A
  simp only at A
  rw [A] at HI
  obtain ⟨xb,bY,p3,k3,p4,k4,rfl,N,aJ,d0,d1,d2,d3,d4⟩:=HV.out.val hx
  have bZ:(0:Int)≤(i:Int):=Qqj
  have cA:(i:Int)<(rows.length:Int):=Qqj
  have HR:=Qq M;have bM:=Qq aJ
  clear M hr A hf hx aJ
  go_enter func28,ntmps28
  go_wp2_with fail
  refine (HI.out _ (Zt _ _ _) Qqk).mono ?_
  rintro e w5 ⟨rfl,hw⟩
  have D:=(hw.block (w+1) Qqk).trans (Q6 w _ _)
  have I:=(Zt w _ _).thn hw
  have e0:=kD I N d0;have e1:=kD I N d1;have e2:=kD I N d2;have e3:=kD I N d3;have e4:=kD I N d4
  have fz:=fun j=>Qn _ _ j _ _ D
  have rr:=fun j=>Qk _ _ j _ _ _ D
  obtain ⟨f0,f1,f2,f3,f4,f5,f6,f7,f8,f9,aC,aD⟩:=Qzz fz
  obtain ⟨r0,r1,r2,r3,r4,r5,r6,r7,r8,r9,U,V⟩:=Qzz rr
  simp only [Qf,Qg,Qh] at r0 r1 r2 r3 r4 r5 r6 r7 r8 r9 U V
  have Z:=Qq I;have aB:=Qq D
  clear fz rr D hw I d0 d1 d2 d3 d4
  go_wp2_with fail
  obtain ⟨W,Y⟩:=eX (Yb w5 (w+1) code Qqe x.kind x.n x.s (.slice p3 x.names.length k3) (.slice p4 x.kids.length k4) Qqd Qqd Qqe Qqf Qqf)
  have q:∀ j,W.cell? ⟨w+1,j,none⟩=#[.int .i64 code,.string ⟨#[]⟩,.int .i64 x.kind,.int .i64 x.n,.string ⟨x.s.toArray⟩,.slice p3 x.names.length k3,.slice p4 x.kids.length k4,.int .i64 0,.int .i64 0,.string ⟨#[]⟩,.slice none 0 0,.slice none 0 0][j]?:=fun j=>by rw [← Y];exact Ya aB.out j
  have aA:∀ b,b<w.heap.size→W.heap[b]?=w5.heap[b]?:=fun b hb=>by rw [← Y];exact Xq Qqj
  have G:Below w w W:=by rw [← Y];exact Yy Z.out Qqj
  show bodyPost _ _ _ _ _ (Yb w5 (w+1) code Qqe x.kind x.n x.s (.slice p3 x.names.length k3) (.slice p4 x.kids.length k4) Qqd Qqd Qqe Qqf Qqf)
  rw [Y]
  have J:=Qq G;have aG:=Qq aA
  obtain ⟨q0,q1,q2,q3,q4,q5,q6,q7,q8,q9,O,T⟩:=Qzz q
  simp only [Qf,Qg,Qh] at q0 q1 q2 q3 q4 q5 q6 q7 q8 q9 O T
  clear Y G aA q r0 r1 r2 r3 r4 r5 r6 r7 r8 r9 U V f0 f1 f2 f3 f4 f5 f6 f7 f8 f9 aC aD e0 e1 e2 e3 e4
  refine Q7 (v:=.agg #[code,Qqe,x.kind,x.n,x.s,.slice p3 x.names.length k3,.slice p4 x.kids.length k4,Qqd,Qqd,Qqe,Qqf,Qqf]) (by simp [results,results28,go_sem,q0,q1,q2,q3,q4,q5,q6,q7,q8,q9,O,T]) rfl ⟨_,rfl,?_,J.out⟩
  rw [HR.out]
  refine ⟨vcs x p3 k3 p4 k4,_,rfl,Qqk,?_,Yw _ _⟩
  exact Z9.move (S':=S0) bM.out (fun b hb bV=>(aG.out b hb.2).trans (Z.out.block b bV)) (fun _ _ h=>h.1)
def lkP (ks:List Bs) (key:List Val) (v:Val):Bool:=eqL eqv ((keyOf ks v).getD []) key
theorem Qja (X K:Nat) (S:Nat→Prop) (x:Tbl) (ct:List Value) (kv:Value) (key:List Val) (rows:List Val) (w:World) (hct:∀ j u,ct[j]?=some u→w.cell? ⟨X,j,none⟩=some u) (hXl:X<w)
  (hx:Zn.R S w ct x) (hkl:x.key.length≤1000) (hk:w.cell? ⟨K,0,none⟩=some kv) (hkey:Sl Ze S w kv key):
  Uz prog 127 #[Qqc X,Qqc K] Ze S rows (lkP x.key key) w:=by
 intro W v cs hb _ hr
 have bN:=Qv w _ hk
 obtain ⟨kp,kc,rfl,_⟩:=hkey.len
 have Y:=Zn.frame hx (.of_below hb)
 obtain ⟨aE,aD,aO,aN,aW,aV,k9,aX,n9,aY,aS,aP,aA,aT,aQ,aB,aU,aR,aC,a9,z9,I,_⟩:=Yj Y
 simp only [tcs] at I
 subst I
 obtain ⟨p3,k3,p4,k4,I,_⟩:=Z9.cells (show Z9 S W cs v from hr)
 simp only [vcs] at I
 subst I
 have aL:=hkey.below hb
 have d:=fun j u hj=>(hb.cell (p:=⟨X,j,none⟩) hXl).trans (hct j u hj)
 have dk:W.cell? ⟨K,0,none⟩=some (.slice kp key.length kc):=kD hb bN hk
 have d0:=d 0 (.string ⟨x.name.toArray⟩) rfl
 have d1:=d 1 (.slice aE x.columns.length aD) rfl
 have d2:=d 2 (.slice aO x.key.length aN) rfl
 have d3:=d 3 (.slice aW x.refs.length aV) rfl
 have d4:=d 4 (.int .i64 k9) rfl
 have d5:=d 5 (.string aX) rfl
 have d6:=d 6 (.int .i64 n9) rfl
 have d7:=d 7 (.string aY) rfl
 have d8:=d 8 (.slice aS aP aA) rfl
 have d9:=d 9 (.slice aT aQ aB) rfl
 have aF:=d 10 (.slice aU aR aC) rfl
 have aG:=d 11 (.int .i64 a9) rfl
 have aH:=d 12 (.int .i64 z9) rfl
 have A:X<W.heap.size:=Qv W _ d0
 have bM:K<W.heap.size:=Qv W _ dk
 obtain ⟨Z,N⟩:=eX (W.alloc (.cells (Qqg v p3 k3 p4 k4) 36))
 have U:=eqB N (Zg _ _)
 have bS:Z=W.heap.size+1:=by rw [← N];simp
 refine let_mvar% ?Lq1:=fun w':World=>(Qzb w' X x.name (.slice aE x.columns.length aD) (.slice aO x.key.length aN) (.slice aW x.refs.length aV) k9 (.string aX) n9 (.string aY) (.slice aS aP aA) (.slice aT aQ aB) (.slice aU aR aC) a9 z9 (Qqa w' K 0 (.slice kp key.length kc)∧Qzw w' W v.kind v.n v.s (.slice p3 v.names.length k3) (.slice p4 v.kids.length k4) (Below (W+1) Z w')):Prop);?_
 have HS:∀ w',Below (W+1) Z w'→?Lq1 w':=by
  intro w' h
  have D:∀ {b j:Nat} {u:Value},b<W→W.cell? ⟨b,j,none⟩=some u→w'.cell? ⟨b,j,none⟩=some u:=fun aM hc=>kD h (Nat.lt_succ_of_lt aM) (kD U aM hc)
  have J:w'.heap[W.heap.size]?=some (.cells (Qqg v p3 k3 p4 k4) 36 (0,0)):=kE h (Nat.lt_succ_self _) (by rw [← N];exact Qw _ _)
  exact ⟨D A d0,D A d1,D A d2,D A d3,D A d4,D A d5,D A d6,D A d7,D A d8,D A d9,D A aF,D A aG,D A aH,D bM dk,Qk _ _ 0 _ _ _ J,Qk _ _ 1 _ _ _ J,Qk _ _ 2 _ _ _ J,Qk _ _ 3 _ _ _ J,Qk _ _ 4 _ _ _ J,h⟩
 have M:∀ w',?Lq1 w'→Below (W+1) Z w':=fun w' h=>h.2.2.2.2.2.2.2.2.2.2.2.2.2.2.2.2.2.2.2
 have T:∀ w' O,?Lq1 w'→Below w' w' O→?Lq1 O:=fun w' O h h2=>HS O ((M w' h).trans (h2.mono (by have:=(M w' h).size;omega)))
 have G:∀ w',?Lq1 w'→Below W W w':=fun w' h=>U.trans ((M w' h).mono (Nat.le_succ _))
 have HK:=Qq (fun W' (h':?Lq1 W')=>(Tl S S x v _ _ W' (Zn.frame Y (.of_below (G _ h'))) (Ze.frame hr (.of_below (G _ h'))) hkl).mono (R':=fun e w2=>∃ p n cap,e=.returned (.slice p n cap)∧Sl Ze (fun _=>True) w2 (.slice p n cap) ((keyOf x.key v).getD [])∧?Lq1 w2) (by
  rintro e w2 ⟨p,n,cap,rfl,_,h3,h4⟩
  exact ⟨p,n,cap,rfl,h3.mono (fun _ _ _=>trivial),T _ _ h' h4⟩))
 have HE:=Qq (fun W' p n cap (h':?Lq1 W') (h2:Sl Ze (fun _=>True) W' (.slice p n cap) ((keyOf x.key v).getD []))=>(Ag 53 #[] (enters_of func53 Qqy rfl) (fun _=>True) (.slice p n cap) (.slice kp key.length kc) ((keyOf x.key v).getD []) key W' h2 ((aL.below (G _ h')).mono (fun _ _ _=>trivial)) eqv (fun V a b ca cb hV _ _ h3 h4=>Ou (fun _=>True) a b ca cb V h3 h4)).mono (R':=fun e w2=>e=.returned (.bool (eqL eqv ((keyOf x.key v).getD []) key))∧?Lq1 w2) (by
  rintro e w2 ⟨rfl,h4⟩
  exact ⟨rfl,T _ _ h' h4⟩))
 have bF:=Qq HS
 have bE:=Qq G
 clear HS d dk d0 d1 d2 d3 d4 d5 d6 d7 d8 d9 aF aG aH hct hk hkey aL hx Y hr U hb M T G
 show Calls prog 127 #[.agg (Qqg v p3 k3 p4 k4),Qqc X,Qqc K] W (fun e w'=>e=.returned (.bool (eqL eqv ((keyOf x.key v).getD []) key))∧Below W W w')
 generalize eqL eqv ((keyOf x.key v).getD []) key=res at HE ⊢
 go_enter func127,ntmps127
 go_upto_region 1 with fail
 clear N
 have bL:Below (W+1) Z Z:=.refl _ _
 go_region_held3 ?Lq1 (first | exact bF.out _ (Below.drew bL) | assumption)
  (first
   | (go_at_call 83;refine (HK.out _ Qqw).mono ?_;rintro e w2 ⟨bV,bU,bT,rfl,aK,bO⟩)
   | (go_at_call 56;refine (HE.out _ _ _ _ Qqw aK).mono ?_;rintro e w3 ⟨rfl,aJ⟩))
 have bD:=Qq (bE.out _ aJ)
 clear aJ aK bO
 go_wp2_with fail
 go_ret
 exact ⟨rfl,bD.out⟩
def Jz (f:Ex→Option Val):List Ex→Option (List Val)
 | []=>some []
 | e::es=>match f e,Jz f es with
  | some v,some vs=>some (v::vs)
  | _,_=>none
theorem Bz (f:Ex→Option Val) (e:Ex) (v:Val) (hv:f e=some v):∀ (es:List Ex) (l:List Val),Jz f es=some l→Jz f (es++[e])=some (l++[v])
 | [],l,h=>by simp only [Jz,Zv] at h;subst h;simp [Jz,hv]
 | x::es,l,h=>by
  simp only [Jz] at h
  cases hx:f x with
  | none=>rw [hx] at h;cases h
  | some u=>
   cases hs:Jz f es with
   | none=>rw [hx,hs] at h;cases h
   | some vs=>
    rw [hx,hs] at h
    simp only [Zv] at h
    subst h
    simp [Jz,hx,Bz f e v hv es vs hs]
theorem Gu (f:Ex→Option Val) (e:Ex) (hv:f e=none):∀ (es:List Ex),e ∈ es→Jz f es=none
 | [],h=>by cases h
 | x::es,h=>by
  rcases Z3.1 h with rfl | h
  ·simp [Jz,hv]
  simp only [Jz,Gu f e hv es h];cases f x <;> rfl
mutual
def Vx:Ex→Bool
 | .mk k _ _ _ _ _ kids _ _=>!([4,10,15,16].any fun y=>decide (y=k))&&Lj kids
def Lj:List Ex→Bool
 | []=>true
 | e::l=>Vx e&&Lj l
end
theorem Fa (l:List Ex):Lj l=!(l.any fun e=>!Vx e):=by
 induction l with
 | nil=>rfl
 | cons e l ih=>simp only [Lj,ih,List.any_cons,Bool.not_or,Bool.not_not]
theorem Fm {T:Type} {l:List T} {k:Nat} {x:T} (h:l[k]?=some x):l.take (k+1)=l.take k++[x]:=by rw [List.take_add_one,h];rfl
def Ec (x:Bs) (ns:List Bs) (vs:List Val):Nat→Option Val
 | 0=>none
 | i+1=>if ns[i]?=some x then vs[i]? else Ec x ns vs i
def opV (f:Ex→Option Val) (nm:Bs):List Ex→Option Val
 | [a]=>if nm=[110,111,116] then (f a).bind fun u=>if u.kind=2 then some (Vv (decide (u.n=0))) else none else none
 | [a,b]=>if nm=[110,111,116] then none else (f a).bind fun u=>
  if nm=[97,110,100] then (if u.kind=2 then (if u.n=0 then some u else (f b).bind fun v=>if v.kind=2 then some v else none) else none)
  else if nm=[111,114] then (if u.kind=2 then (if u.n=1 then some u else (f b).bind fun v=>if v.kind=2 then some v else none) else none)
  else (f b).bind fun v=>two nm u v
 | _=>none
def Gl (f:Ex→List Bs→List Val→Option Val) (names binds:List Bs) (kids:List Ex) (ns:List Bs) (vs:List Val):Option Val:=
 (kids[0]?.bind fun x=>f x ns vs).bind fun v=>if v.kind=3 then (match V9 names v.s with
  | some i=>(kids[i+1]?).bind fun x=>if binds.getD i []=[] then f x ns vs else (match v.kids with
   | [u]=>f x (ns++[binds.getD i []]) (vs++[u])
   | _=>none)
  | none=>none) else none
theorem Tv {l:List Bs} {x:Bs} {j:Nat} (h:l[j]?=some x) (hb:∀ y ∈ l.take j,y≠x):V9 l x=some j:=by
 obtain ⟨hj,he⟩:=Qj h
 unfold V9
 rw [List.findIdx?_eq_some_iff_getElem]
 refine ⟨hj,by simpa using he,fun i hi=>?_⟩
 have h2:=hb l[i] (List.mem_take_iff_getElem.2 ⟨i,Qqj,rfl⟩)
 simpa using h2
theorem P0 {l:List Bs} {x:Bs} (hb:∀ y ∈ l,y≠x):V9 l x=none:=by
 unfold V9
 rw [List.findIdx?_eq_none_iff]
 intro y hy
 simpa using hb y hy
section
variable {f:Ex→List Bs→List Val→Option Val} {names binds ns:List Bs} {kids:List Ex} {vs:List Val} {x0 x1:Ex} {v u:Val} {j:Nat} {z:Bs}
theorem matV_no (h0:kids[0]?=some x0) (hv:f x0 ns vs=none):Gl f names binds kids ns vs=none:=by
 unfold Gl;rw [h0];show (f x0 ns vs).bind _=none;rw [hv];rfl
theorem Wo (h0:kids[0]?=some x0) (hv:f x0 ns vs=some v) (hk:v.kind≠3):Gl f names binds kids ns vs=none:=by
 unfold Gl;rw [h0];show (f x0 ns vs).bind _=none;rw [hv];exact if_neg hk
theorem Cq (h0:kids[0]?=some x0) (hv:f x0 ns vs=some v) (hn:V9 names v.s=none):Gl f names binds kids ns vs=none:=by
 unfold Gl;rw [h0];show (f x0 ns vs).bind _=none;rw [hv]
 show (if v.kind=3 then _ else none)=none
 rw [hn];split <;> rfl
theorem matV_at (h0:kids[0]?=some x0) (hv:f x0 ns vs=some v) (hk:v.kind=3) (hn:V9 names v.s=some j) (h1:kids[j+1]?=some x1) (hz:binds[j]?=some z):Gl f names binds kids ns vs=if z=[] then f x1 ns vs else (match v.kids with | [u]=>f x1 (ns++[z]) (vs++[u]) | _=>none):=by
 unfold Gl;rw [h0];show (f x0 ns vs).bind _=_;rw [hv]
 show (if v.kind=3 then _ else none)=_
 rw [if_pos hk,hn]
 show (kids[j+1]?).bind _=_
 rw [h1]
 have e:binds.getD j []=z:=by rw [Qs,hz];rfl
 rw [e];rfl
end
section
variable {f:Ex→Option Val} {nm:Bs} {kids:List Ex} {x0 x1:Ex} {v u:Val}
theorem Ff (hk:kids.length=2) (h0:kids[0]?=some x0) (h1:kids[1]?=some x1):kids=[x0,x1]:=by
 match kids,hk with
 | [a,b],_=>cases h0;cases h1;rfl
theorem Wq (h:f x0=none):opV f nm [x0,x1]=none:=by
 show (if nm=[110,111,116] then none else (f x0).bind _)=none
 rw [h]
 split <;> rfl
theorem Ev (n0:¬ nm=[97,110,100]) (n1:¬ nm=[111,114]) (n2:¬ nm=[110,111,116]) (h0:f x0=some v):opV f nm [x0,x1]=(f x1).bind fun u=>two nm v u:=by
 show (if nm=[110,111,116] then none else (f x0).bind _)=_
 rw [if_neg n2,h0]
 show (if nm=[97,110,100] then _ else _)=_
 rw [if_neg n0,if_neg n1]
theorem opV_not (hk:kids.length=1) (h0:kids[0]?=some x0) (hn:nm=[110,111,116]):opV f nm kids=(f x0).bind fun u=>if u.kind=2 then some (Vv (decide (u.n=0))) else none:=by
 match kids,hk with
 | [a],_=>cases h0;exact if_pos hn
theorem opV_and (hk:kids.length=2) (h0:kids[0]?=some x0) (h1:kids[1]?=some x1) (hn:nm=[97,110,100]):opV f nm kids=(f x0).bind fun u=>if u.kind=2 then (if u.n=0 then some u else (f x1).bind fun v=>if v.kind=2 then some v else none) else none:=by
 rw [Ff hk h0 h1]
 subst hn
 show (if ([97,110,100]:Bs)=[110,111,116] then none else (f x0).bind _)=_
 rw [if_neg Qqx]
 congr 1
theorem opV_or (hk:kids.length=2) (h0:kids[0]?=some x0) (h1:kids[1]?=some x1) (hn:nm=[111,114]):opV f nm kids=(f x0).bind fun u=>if u.kind=2 then (if u.n=1 then some u else (f x1).bind fun v=>if v.kind=2 then some v else none) else none:=by
 rw [Ff hk h0 h1]
 subst hn
 show (if ([111,114]:Bs)=[110,111,116] then none else (f x0).bind _)=_
 rw [if_neg Qqx]
 congr 1
end
theorem Sl.int {S:Nat→Prop} {w:World} {p:Option Addr} {n cap:Nat} {xs:List Int} (h:Sl Fk S w (.slice p n cap) xs) {i:Nat} {x:Int} (hx:xs[i]?=some x):
  ∃ b off,p=some ⟨b,off,none⟩∧Qqa w b (off+i) x∧True:=by
 obtain ⟨p',c',h1,_,h3⟩:=h
 simp only [Qr] at h1
 obtain ⟨rfl,_,_⟩:=h1
 obtain ⟨b,off,e,_,_,hc⟩:=h3 (by intro e;subst e;simp at hx)
 obtain ⟨cs,h4,h5⟩:=hc i x hx
 refine ⟨b,off,e,?_,trivial⟩
 have:=h4 0 (.int .i64 x) (by rw [h5];rfl)
 rwa [Nat.add_zero,show Fk.k=1 from rfl,Nat.mul_one] at this
theorem T2 (S:Nat→Prop) (v:Value) (l:List Int) (x:Int) (w:World) (hs:Sl Fk S w v l):
  Calls prog 166 #[v,x] w fun e w'=>e=.returned (.int .i64 (V5 (fun y=>decide (y=x)) l))∧w=w':=by
 obtain ⟨p,cap,rfl,hl⟩:=hs.len
 have HS:=Qq hs
 clear hs
 obtain ⟨n,G⟩:=eX (l.length)
 rw [G] at HS hl;rw [G]
 have HN:=Qq G
 clear G
 go_enter func166,ntmps166
 go_wp2_with fail
 go_loop [8] (fun i=>∃ k:Nat,k≤n∧i=.int .i64 k∧Aside (∀ (j:Nat) (y:Int),j<k→l[j]?=some y→decide (y=x)=false)) (fun i=>n - (intOf i).toNat)
 case atStart=>exact ⟨0,Q8 _,rfl,fun j _ hj=>absurd hj (Z6 _)⟩
 obtain ⟨k,hk,rfl,A⟩:=hrel
 by_cases hlt:k<n
 ·have O:(0:Int)≤(k:Int):=Qqj
  have T:(k:Int)<(n:Int):=Qqj
  obtain ⟨y,D⟩:∃ y,l[k]?=some y:=⟨_,Qx (by rw [HN.out];exact hlt)⟩
  obtain ⟨b,U,rfl,hc,-⟩:=HS.out.int D
  have HY:=Qq D
  clear D
  by_cases he:y=x
  ·have hq:(x==y)=true:=by rw [he];simp
   have J:decide (x=y)=true:=by rw [he];simp
   have I:=Qq he
   clear he
   go_wp2_with fail
   go_ret
   refine ⟨?_,rfl⟩
   rw [K8 HY.out (by rw [I.out];simp) A.out]
   rfl
  have hq:(x==y)=false:=by rw [← Qt,beq_iff_eq];exact fun e=>he e.symm
  have J:decide (x=y)=false:=by simpa using fun e=>he e.symm
  have I:=Qq he
  clear he
  go_wp2_with fail
  go_round
  case measure=>simp [intOf];omega
  case rel=>
   refine ⟨k+1,Qqj,by go_num,(show Aside _ from fun j z hj M=>?_)⟩
   by_cases e:j=k
   ·subst e
    have:=HY.out
    rw [this] at M
    cases M
    simpa using I.out
   exact A.out j z Qqj M
 have N:¬ (k:Int)<(n:Int):=Qqj
 have:k=n:=Qqj
 subst this
 go_wp2_with fail
 go_ret
 refine ⟨?_,rfl⟩
 rw [Uc (fun j y D=>A.out j y (by have:=(Qj D).1;have:=HN.out;omega) D)]
 rfl
theorem Tw (S:Nat→Prop) (v:Value) (l:List Int) (x:Int) (w:World) (hs:Sl Fk S w v l):
  Calls prog 128 #[v,x] w fun e w'=>e=.returned (.bool (l.any fun y=>decide (y=x)))∧w=w':=by
 rw [← Db]
 have HI:=Qq (fun W=>T2 S v l x W)
 have HS:=Qq hs
 clear hs
 generalize V5 _ l=i at HI ⊢
 go_enter func128,ntmps128
 go_wp2_with (go_at_call 166;refine (HI.out _ HS.out).mono ?_;rintro e w' ⟨rfl,rfl⟩)
 go_ret
 exact ⟨rfl,rfl⟩
def Mg (e:Ex):Prop:=∀ (S:Nat→Prop) (cs:List Value) (w:World),Yv S w cs e →
 Calls prog 88 #[cs] w fun r w'=>r=.returned (.bool (Vx e))∧Below w w w'
theorem Ai (S:Nat→Prop) (kids:List Ex) (ih:∀ x ∈ kids,Mg x) (w:World):Uz prog 130 #[] Xp S kids (fun e=>!Vx e) w:=by
 intro W x cs hb hx D
 have HI:=Qq (fun W' (h':Below W W W')=>ih x hx S cs W' (Xp.frame D (.of_below h')))
 obtain ⟨k,s1,n,s2,p1,n1,c1,p2,n2,c2,p3,n3,c3,a,z,A⟩:=Yv.cells (show Yv S W cs x from D)
 subst A
 show Calls prog 130 #[.agg (Qqi k s1 n s2 p1 n1 c1 p2 n2 c2 p3 n3 c3 a z)] W (fun e w'=>e=.returned (.bool (!Vx x))∧Below W W w')
 generalize Vx x=b at HI ⊢
 clear hb hx D ih
 go_enter func130,ntmps130
 go_wp2_with (go_at_call 88;refine (HI.out _ (Zg _ _)).mono ?_;rintro e w' ⟨rfl,hw⟩)
 go_ret
 exact ⟨rfl,(Zg _ _).thn hw⟩
theorem sl_ints4 (w:World) (a b c d:Int) (g:Nat) (E:TypeId) (h:w.heap[g]?=some (.cells #[a,b,c,d] E (0,0))):Sl Fk (fun _=>True) w (.slice (some ⟨g,0,none⟩) 4 4) [a,b,c,d]:=by
 refine Sl.of_css (r:=Fk) (xs:=[a,b,c,d]) (css:=[[.int .i64 a],[b],[c],[d]]) Qqk ?_ trivial (Z8 h) (fun j u hu=>?_)
 ·exact (Cs.one (r:=Fk) rfl).app ((Cs.one (r:=Fk) rfl).app ((Cs.one (r:=Fk) rfl).app (Cs.one (r:=Fk) rfl)))
 rw [Nat.zero_add,Qk _ _ _ _ _ _ h]
 simpa using hu
theorem Qjo (k:Int) (nm:Bs) (n:Int) (s:Bs) (names binds:List Bs) (kids:List Ex) (a z:Int) (ih:∀ x ∈ kids,Mg x):Mg (.mk k nm n s names binds kids a z):=by
 intro S cs w h
 obtain ⟨nv,bv,kv,rfl,hm,hs,hn,hb,G⟩:=Yx.1 h
 obtain ⟨np,nc,rfl,_⟩:=hn.len
 obtain ⟨bp,bc,rfl,_⟩:=hb.len
 obtain ⟨kp,kc,rfl,J⟩:=G.len
 have HC:=Qq (fun W (hb:Below w w W)=>conFn Tryz.cfExpr Xp isAgg46 sizeOf46 130 #[] (enters_of func130 Qqy rfl) S (.slice kp kids.length kc) kids W (fun e=>!Vx e) (G.below hb) (Ai S kids ih W))
 have D:=Qq (fun W g (h:W.heap[g]?=some (.cells #[.int .i64 4,.int .i64 10,.int .i64 15,.int .i64 16] 3 (0,0)))=>Tw _ (.slice (some ⟨g,0,none⟩) 4 4) [4,10,15,16] k W (sl_ints4 W 4 10 15 16 g _ h))
 have hF:Vx (.mk k nm n s names binds kids a z)=(!([4,10,15,16].any fun y=>decide (y=k))&&!(kids.any fun e=>!Vx e)):=by rw [Vx,Fa]
 rw [hF]
 obtain ⟨q,I⟩:=eX (([4,10,15,16].any fun y=>decide (y=k)))
 obtain ⟨q2,A⟩:=eX ((kids.any fun e=>!Vx e))
 rw [I] at D
 rw [A] at HC
 rw [I,A]
 clear hF I A h hn hb G ih
 unfold sv
 cases q
 ·rw [Bool.not_false,Bool.true_and]
  go_enter func88,ntmps88
  go_wp2_with fail
  refine (D.out _ (w+1) (Q6 _ _ _)).mono ?_
  rintro e w1 ⟨rfl,rfl⟩
  go_wp2_with (go_at_call 129;refine (HC.out _ (Zt _ _ _)).mono ?_;rintro e w' ⟨rfl,hw⟩)
  go_ret
  exact ⟨rfl,(Zt _ _ _).thn hw⟩
 go_enter func88,ntmps88
 go_wp2_with fail
 refine (D.out _ (w+1) (Q6 _ _ _)).mono ?_
 rintro e w1 ⟨rfl,rfl⟩
 go_wp2_with fail
 go_ret
 exact ⟨rfl,Zt _ _ _⟩
theorem Ng:∀ x:Ex,Mg x
 | .mk k nm n s names binds kids a z=>Qjo k nm n s names binds kids a z fun x _=>Ng x
termination_by x=>SizeOf.sizeOf x
decreasing_by
 have:=List.sizeOf_lt_of_mem ‹_ ∈ kids›
 simp only [Ex.mk.sizeOf_spec]
 omega
theorem Xd {P:Program} (k:Nat) (w:World) (dT sT ty elem:TypeId) (g o dLen dCap:Nat) (a:Addr) (sLen sCap:Nat) (cur:Array Value) (t:TypeId) (cs:List Value)
  (hu:P.underlying dT=some (.slice elem)) (hs:(P.info? elem).map (·.size)=some k)
  (hg:w.heap[g]?=some (.cells cur t (0,0))) (hn:cs.length=Nat.min sLen dLen*k)
  (hsrc:∀ j v,cs[j]?=some v→w.cell? (a.add j)=some v) (hfit:o+cs.length≤cur.size) (h1:∀ v ∈ cs,v.oneCell'=true):
  (Builtin.copy_ #[dT,sT] ty #[Qqb g o dLen dCap,.slice (some a) sLen sCap]).run P w=
   .ok (goInt (Nat.min sLen dLen)) (w.setRow g (cur.toList.take o++cs++cur.toList.drop (o+cs.length)).toArray):=by
 have hl:=run_loadCells_list (P:=P) w a cs hsrc
 have A:=run_storeCells_at P g o t cs 0 cur w hg (by simpa using hfit) h1
 cases hq:P.info? elem with
 | none=>simp [hq] at hs
 | some i=>
  have hi:i.size=k:=by simpa [hq] using hs
  simp [Builtin.copy_,run_underlying hu,Builtin.lenOf,Builtin.firstCells,sizeOf,typeInfo,hq,hi,← hn,hl,A]
theorem insRoom (S:Nat→Prop) (B:Nat) (w:World) (g n cap i:Nat) (xs:List Val) (css:List (List Value)) (y:Val) (cy:List Value) (qb qo c:Nat) (hO:Own Ze 36 S B w (.slice (some ⟨g,0,none⟩) n cap) xs css) (hn:xs.length=n) (hi:i<n) (hroom:n+1≤cap) (hqb:qb≠g)
  (hy:Z9 (But S (.slice (some ⟨g,0,none⟩) n cap)) w cy y) (hcy:∀ j u,cy[j]?=some u→w.cell? ⟨qb,qo+j,none⟩=some u) (hl:n≤100000)
  (tA:TypeId) (kA:Nat) (hsa:w.shape? qb=some (tA,kA)) (hfa:w.frozen? ⟨qb,qo,none⟩=false) (hfe:w.frozen? ⟨qb,kA,none⟩=false):
  Calls prog 62 #[Qqb g 0 n cap,i,Qqb qb qo 1 c] w (fun e w'=>e=.returned (.slice (some ⟨g,0,none⟩) (n+1) cap)∧∃ X,w'.heap[g]?=some (.cells X 36 (0,0))∧X.size=cap*5∧X.toList.take ((n+1)*5)=(css.take i).flatten++cy++(css.drop i).flatten∧(∀ k,k≠g→w'.heap[k]?=w.heap[k]?)∧w'=w.heap.size∧w.grownBy w' (some g)):=by
 obtain ⟨i0,j1,j2,j3,j4⟩:=Y9 (P:=prog) (t:=36) (z:=.agg zV) (n:=5) (b:=80) Qqy
 have mixed:prog.follows .mixedOrders=true:=Qqy
 have bB:(prog.info? 36).map (·.size)=some 5:=by rw [j1];simp [j3]
 rcases hO.row.2 with ⟨h,_⟩ | ⟨g',bK,I,hv,bR,aE,bT,bQ,aB,aC⟩
 ·cases h
 simp only [Qr,Zv,Addr.mk.injEq] at hv
 obtain ⟨⟨rfl,-,-⟩,-,rfl⟩:=hv
 have aN:=hO.cs.all
 have aO:=hO.cs.flat
 have aX:css.length=n:=by rw [hO.cs.len,hn]
 obtain ⟨A,hA⟩:=eX ((css.take i).flatten)
 obtain ⟨D,hD⟩:=eX ((css.drop i).flatten)
 have aL:css.flatten=A++D:=by rw [← hA,← hD,← List.flatten_append,List.take_append_drop]
 have aM:A.length=i*5:=by rw [← hA,Vu (fun c hc=>aN c (List.mem_of_mem_take hc)),Qm,aX,Z0 Qqj];rfl
 have Y:D.length=(n - i)*5:=by rw [← hD,Vu (fun c hc=>aN c (Zw hc)),Zq,aX];rfl
 have N:∀ j v,(A++D)[j]?=some v→w.cell? ⟨g,j,none⟩=some v:=by
  intro j v O
  rw [← aL,← aC,List.getElem?_take] at O
  split at O
  ·rw [Qk w g j I _ (0,0) aE];simpa using O
  cases O
 have aT:∀ v ∈ D,v.oneCell'=true:=by
  intro u hu
  rw [← hD] at hu
  obtain ⟨cc,aY,bI⟩:=List.mem_flatten.1 hu
  obtain ⟨j,O⟩:=Zk (Zw aY)
  have bF:=(Qj O).1
  exact Xw _ w cc _ (hO.cs.R j cc _ O (Qx (by rw [← hO.cs.len];exact bF))) u bI
 have G:cy.length=5:=Ze.len hy
 have aU:∀ v ∈ cy,v.oneCell'=true:=Xw _ w cy y hy
 have bH:∀ lb cb,(callFunc 104 #[Qqb qb qo 1 c,Qqb g ((i+1)*5) lb cb]).run prog w=.ok (.value (.bool false)) w:=fun lb cb=>by
  rw [run_callFunc_extern func104 Qqy Qqy Qqy (e:=Extern.SlicesOverlaps.overlaps #[34,34] #[4]) Qqy,
   Lib.run_overlaps_apart w 34 4 36 underlying34 5 sizeOf36 ⟨qb,qo,none⟩ ⟨g,(i+1)*5,none⟩ 1 c lb cb hqb tA 36 kA (cap*5) hsa (by unfold World.shape?;rw [aE];simp [aB];rfl) Qqj hfa hfe]
  rfl
 have bG:Ze.k=5:=rfl
 have aR:Nat.min (n+1 - i) (n+1 - (i+1))=n - i:=(show min (n+1 - i) (n+1 - (i+1))=n - i by omega)
 have aS:Nat.min 1 (n+1 - i)=1:=(show min 1 (n+1 - i)=1 by omega)
 rw [bG] at aB aC aO
 rw [hn] at aC
 have M:I.toList.length=cap*5:=by simpa using aB
 have aG:∀ j v,D[j]?=some v→w.cell? ⟨g,i*5+j,none⟩=some v:=fun j v O=>N _ v (by rw [Zx Qqj,aM,Nat.add_sub_cancel_left];exact O)
 obtain ⟨U,Z⟩:∃ U,U=(I.toList.take ((i+1)*5)++D++I.toList.drop ((i+1)*5+D.length)).toArray:=⟨_,rfl⟩
 have aI:∀ ty dc sc,(Builtin.copy_ #[34,34] ty #[.slice (some ⟨g,(i+1)*5,none⟩) (n+1 - (i+1)) dc,Qqb g (i*5) (n+1 - i) sc]).run prog w.drew=.ok (goInt (n - i:Nat)) (w.drew.setRow g U):=fun ty dc sc=>by
  have h:=Xd (P:=prog) 5 w.drew 34 34 ty 36 g ((i+1)*5) (n+1 - (i+1)) dc ⟨g,i*5,none⟩ (n+1 - i) sc I 36 D underlying34 bB aE (by rw [Y,aR]) (fun j v O=>by rw [Addr.add_lit];exact aG j v O) (by simp only [Y,aB];omega) aT
  rw [← Z,aR] at h
  exact h
 obtain ⟨T,J⟩:∃ T,T=w.drew.setRow g U:=⟨_,rfl⟩
 have aP:T.heap[g]?=some (.cells U 36 (0,0)):=by rw [J];exact setRow_heap _ _ _ _ _ _ aE
 have aF:∀ k,k≠g→T.heap[k]?=w.heap[k]?:=fun k hk=>by rw [J,setRow_other _ _ _ _ hk];rfl
 rw [← J] at aI
 have aA:U.toList.length=cap*5:=by rw [Z];simp only [Ql,Qm,Zq,M,Y];rw [Z0 Qqj];omega
 have aH:U.size=cap*5:=by simpa using aA
 obtain ⟨V,aD⟩:∃ V,V=(U.toList.take (i*5)++cy++U.toList.drop (i*5+cy.length)).toArray:=⟨_,rfl⟩
 have aZ:∀ ty dc,(Builtin.copy_ #[34,34] ty #[Qqb g (i*5) (n+1 - i) dc,Qqb qb qo 1 c]).run prog T=.ok (goInt 1) (T.setRow g V):=fun ty dc=>by
  have h:=Xd (P:=prog) 5 T 34 34 ty 36 g (i*5) (n+1 - i) dc ⟨qb,qo,none⟩ 1 c U 36 cy underlying34 bB aP (by rw [G,aS]) (fun j v O=>by rw [Addr.add_lit];exact (World.cell?_of_block (aF qb hqb)).trans (hcy j v O)) (by rw [G,aH];omega) aU
  rw [← aD,aS] at h
  exact h
 have aJ:(T.setRow g V).heap[g]?=some (.cells V 36 (0,0))∧V.size=cap*5∧V.toList.take ((n+1)*5)=A++cy++D∧(∀ k,k≠g→(T.setRow g V).heap[k]?=w.heap[k]?)∧(T.setRow g V).heap.size=w.heap.size∧w.grownBy (T.setRow g V) (some g):=by
  have bA:(T.setRow g V).heap.size=w.heap.size:=by rw [J];simp [World.setRow]
  refine ⟨setRow_heap _ _ _ _ _ _ aP,?_,?_,fun k hk=>(setRow_other _ _ _ _ hk).trans (aF k hk),bA,⟨by rw [J];rfl,by rw [J];rfl,by rw [J];rfl,by rw [bA];exact Q9 _,fun k _ hk=>(setRow_other _ _ _ _ (fun e=>hk (by rw [e]))).trans (aF k (fun e=>hk (by rw [e])))⟩⟩
  ·rw [aD];simp only [List.size_toArray,Ql,Qm,Zq,aA,G];rw [Z0 Qqj];omega
  have bE:I.toList.take (i*5)=A:=by
   have:(I.toList.take (n*5)).take (i*5)=A:=by rw [aC,aL,Z1 Qqj,Zj Qqj]
   rwa [List.take_take,Z0 Qqj] at this
  have e1:U.toList.take (i*5)=A:=by
   rw [Z,List.toList_toArray,List.append_assoc,Z1 (by rw [Qm,M,Z0 Qqj];omega),List.take_take,Z0 Qqj,bE]
  have e2:U.toList.drop (i*5+cy.length)=D++I.toList.drop ((i+1)*5+D.length):=by
   rw [Z,List.toList_toArray,List.append_assoc,G,List.drop_append_of_le_length (by rw [Qm,M,Z0 Qqj];omega),Qu (by rw [Qm,M,Z0 Qqj];omega),List.nil_append]
  rw [aD,List.toList_toArray,e1,e2,← List.append_assoc,Z1 (by simp only [Ql,aM,G,Y];omega),Zj (by simp only [Ql,aM,G,Y];omega)]
 rw [show css.take i=css.take i from rfl] at hA
 rw [hA,hD]
 have HE:=Qq aJ
 clear aJ J Z aD aA aH aR aS aG N aC aB M aL hA hD hO aN hy hcy aT aU aF aP
 have bY:¬ ((i:Int)=(n:Int)):=Qqj
 have bW:IntKind.i64.wrap ((i:Int)+1)=(i:Int)+1:=by rw [IntKind.wrap_i64];omega
 have bX:IntKind.i64.wrap ((n:Int)+1)=(n:Int)+1:=by rw [IntKind.wrap_i64];omega
 have bU:¬ ((cap:Int)<(n:Int)+1):=Qqj
 have bM:(0:Int)≤(i:Int)+1:=Qqj
 have bL:(0:Int)≤(i:Int):=Qqj
 have bN:¬ (cap=i+1):=Qqj
 have bO:¬ (cap=i):=Qqj
 have bV:((i:Int)+1).toNat=i+1:=Qqj
 have bS:i≤n:=Qqj
 have bP:(i:Int)≤(n:Int)+1:=Qqj
 go_enter func62,ntmps62
 go_wp2_with (simp only [bH])
 go_region_law_o (refine step_copy_runI rfl _ _ 34 34 rfl _ _ (by simp [Act.eval,Act.put]) (by simp [Act.eval,Act.put]) (aI _ (cap - (i+1)) (cap - i)) ?_)
 go_wp2_with (at_builtin;refine wpList_copy_runI _ rfl _ _ 34 34 rfl _ _ (by simp [Act.eval,Act.put]) (by simp [Act.eval,Act.put]) (aZ _ (cap - i)) ?_)
 go_ret
 exact ⟨rfl,_,HE.out⟩
theorem insGrow (S:Nat→Prop) (B:Nat) (w:World) (g n i:Nat) (xs:List Val) (css:List (List Value)) (y:Val) (cy:List Value) (qb qo c:Nat) (hO:Own Ze 36 S B w (.slice (some ⟨g,0,none⟩) n n) xs css) (hn:xs.length=n) (hi:i<n)
  (hy:Z9 (But S (.slice (some ⟨g,0,none⟩) n n)) w cy y) (hcy:∀ j u,cy[j]?=some u→w.cell? ⟨qb,qo+j,none⟩=some u) (hl:n≤100000)
  (hqw:qb<w):
  Calls prog 62 #[Qqb g 0 n n,i,Qqb qb qo 1 c] w (fun e w'=>∃ G,e=.returned (.slice (some ⟨w,0,none⟩) (n+1) G)∧n+1≤G∧G≤maxLen∧∃ X,w'.heap[w.heap.size]?=some (.cells X 36 (0,0))∧X.size=G*5∧X.toList.take ((n+1)*5)=(css.take i).flatten++cy++(css.drop i).flatten∧(∀ k,k<w.heap.size→w'.heap[k]?=w.heap[k]?)∧w'=w.heap.size+1∧w.grownBy w' (some g)):=by
 obtain ⟨i0,j1,j2,j3,j4⟩:=Y9 (P:=prog) (t:=36) (z:=.agg zV) (n:=5) (b:=80) Qqy
 have mixed:prog.follows .mixedOrders=true:=Qqy
 have bX:(prog.info? 36).map (·.size)=some 5:=by rw [j1];simp [j3]
 rcases hO.row.2 with ⟨h,_⟩ | ⟨g',cG,bH,hv,cQ,aZ,cS,cP,aV,aM⟩
 ·cases h
 simp only [Qr,Zv,Addr.mk.injEq] at hv
 obtain ⟨⟨rfl,-,-⟩,-,rfl⟩:=hv
 have aU:=hO.cs.all
 have aW:=hO.cs.flat
 have bP:css.length=n:=by rw [hO.cs.len,hn]
 obtain ⟨A,hA⟩:=eX ((css.take i).flatten)
 obtain ⟨D,hD⟩:=eX ((css.drop i).flatten)
 have bL:css.flatten=A++D:=by rw [← hA,← hD,← List.flatten_append,List.take_append_drop]
 have U:A.length=i*5:=by rw [← hA,Vu (fun c hc=>aU c (List.mem_of_mem_take hc)),Qm,bP,Z0 Qqj];rfl
 have aD:D.length=(n - i)*5:=by rw [← hD,Vu (fun c hc=>aU c (Zw hc)),Zq,bP];rfl
 have M:∀ j v,(A++D)[j]?=some v→w.cell? ⟨g,j,none⟩=some v:=by
  intro j v N
  rw [← bL,← aM,List.getElem?_take] at N
  split at N
  ·rw [Qk w g j bH _ (0,0) aZ];simpa using N
  cases N
 have bI:∀ v ∈ D,v.oneCell'=true:=by
  intro u hu
  rw [← hD] at hu
  obtain ⟨cc,aF,bF⟩:=List.mem_flatten.1 hu
  obtain ⟨j,N⟩:=Zk (Zw aF)
  have bB:=(Qj N).1
  exact Xw _ w cc _ (hO.cs.R j cc _ N (Qx (by rw [← hO.cs.len];exact bB))) u bF
 have J:cy.length=5:=Ze.len hy
 have bJ:∀ v ∈ cy,v.oneCell'=true:=Xw _ w cy y hy
 have cE:Ze.k=5:=rfl
 have aK:Nat.min (n+1 - i) (n+1 - (i+1))=n - i:=(show min (n+1 - i) (n+1 - (i+1))=n - i by omega)
 have aL:Nat.min 1 (n+1 - i)=1:=(show min 1 (n+1 - i)=1 by omega)
 rw [cE] at aV aM aW
 rw [hn] at aM
 have bR:bH.toList.length=n*5:=by simpa using aV
 have aN:∀ j v,D[j]?=some v→w.cell? ⟨g,i*5+j,none⟩=some v:=fun j v N=>M _ v (by rw [Zx Qqj,U,Nat.add_sub_cancel_left];exact N)
 have cB:∀ v ∈ A,v.oneCell'=true:=by
  intro u hu
  rw [← hA] at hu
  obtain ⟨cc,aF,bF⟩:=List.mem_flatten.1 hu
  obtain ⟨j,N⟩:=Zk (List.mem_of_mem_take aF)
  have bB:=(Qj N).1
  exact Xw _ w cc _ (hO.cs.R j cc _ N (Qx (by rw [← hO.cs.len];exact bB))) u bF
 have bS:g<w.heap.size:=(Array.getElem?_eq_some_iff.1 aZ).1
 have aS:(Builtin.firstCells i0.size i (.slice (some ⟨g,0,none⟩) i n)).run prog w.drew=.ok A.toArray w.drew:=by
  rw [j3]
  exact run_firstCells_some w.drew 5 i ⟨g,0,none⟩ i n A U (fun j v N=>by
   rw [Addr.add_lit,Nat.zero_add]
   exact M j v (by rw [List.getElem?_append_left (Qj N).1];exact N))
 have bA:i+(n+1 - i)=n+1:=Qqj
 have bT:(n:Int)+1 - (i:Int)=((n+1 - i:Nat):Int):=Qqj
 obtain ⟨G,hG⟩:∃ G,G=grownCap w (n+1) n 36:=⟨_,rfl⟩
 obtain ⟨I,Z⟩:∃ I:Array Value,I=A.toArray++Builtin.zeroCells (Value.agg zV).cells (n+1 - i)++Builtin.zeroCells (Value.agg zV).cells (G - (n+1)):=⟨_,rfl⟩
 have bU:∀ ty,(Builtin.append_ #[34,3] ty #[Qqb g 0 i n,.int .i64 ((n:Int)+1 - (i:Int))]).run prog w=.ok (.slice (some ⟨w,0,none⟩) (n+1) G) (w.drew.alloc (.cells I 36)):=fun ty=>by
  have h:=Lib.run_append_grow_zeros w 34 3 ty 36 i0 _ .i64 .i64 underlying34 underlying3 j1 j2 (some ⟨g,0,none⟩) i n A aS (n+1 - i) Qqj (by rw [j3];decide) Qqj Qqj (by rw [j4];omega) (by rw [j4,bA];exact growslice_fits Qqj Qqj)
  rw [bA,← hG,← Z] at h
  rw [bT]
  exact h
 have cC:n+1≤G:=by rw [hG];exact grownCap_ge w _ _ _
 have bN:G≤maxLen:=by rw [hG];exact grownCap_le_maxLen w (n+1) n _ (by unfold maxLen;omega)
 have aT:I.size=G*5:=by
  rw [Z]
  simp [Builtin.zeroCells,Value.cells,U]
  omega
 have bO:I.toList.take (i*5)=A:=by
  rw [Z]
  simp only [Array.toList_append,List.append_assoc]
  rw [Z1 Qqj,Zj Qqj]
 obtain ⟨W1,aA⟩:∃ W1,W1=w.drew.alloc (.cells I 36):=⟨_,rfl⟩
 rw [← aA] at bU
 have aX:W1.heap[w.heap.size]?=some (.cells I 36 (0,0)):=by rw [aA];exact Qw w.drew _
 have bC:∀ k,k<w.heap.size→W1.heap[k]?=w.heap[k]?:=fun k hk=>by rw [aA];exact Go.heap_alloc_old w.drew _ hk
 have bV:W1=w.heap.size+1:=by rw [aA];simp
 have O:w.grownBy W1 (some g):=by rw [aA];exact ⟨rfl,rfl,rfl,Qqk,fun k hk _=>Go.heap_alloc_old w.drew _ hk⟩
 clear aA
 have aK:Nat.min 1 (n+1 - i)=1:=(show min 1 (n+1 - i)=1 by omega)
 have aL:Nat.min (n - i) (n+1 - (i+1))=n - i:=(show min (n - i) (n+1 - (i+1))=n - i by omega)
 obtain ⟨X1,aI⟩:∃ X1,X1=(I.toList.take (i*5)++cy++I.toList.drop (i*5+cy.length)).toArray:=⟨_,rfl⟩
 have aQ:∀ ty,(Builtin.copy_ #[34,34] ty #[Qqb w (i*5) (n+1 - i) (G - i),Qqb qb qo 1 c]).run prog W1=.ok (goInt 1) (W1.setRow w X1):=fun ty=>by
  have h:=Xd (P:=prog) 5 W1 34 34 ty 36 w (i*5) (n+1 - i) (G - i) ⟨qb,qo,none⟩ 1 c I 36 cy underlying34 bX aX (by rw [J,aK]) (fun j v N=>by rw [Addr.add_lit];exact (World.cell?_of_block (bC qb hqw)).trans (hcy j v N)) (by rw [J,aT];omega) bJ
  rw [← aI,aK] at h
  exact h
 have aE:X1.toList.length=G*5:=by
  have:I.toList.length=G*5:=by simpa using aT
  rw [aI];simp only [Ql,Qm,Zq,this,J];rw [Z0 Qqj];omega
 have aP:X1.size=G*5:=by simpa using aE
 have aO:X1.toList.take (i*5+5)=A++cy:=by
  rw [aI,List.toList_toArray,bO,Z1 (by simp only [Ql,U,J];omega),Zj (by simp only [Ql,U,J];omega)]
 obtain ⟨Y,V⟩:∃ Y,Y=W1.setRow w X1:=⟨_,rfl⟩
 rw [← V] at aQ
 have aY:Y.heap[w.heap.size]?=some (.cells X1 36 (0,0)):=by rw [V];exact setRow_heap _ _ _ _ _ _ aX
 have bD:∀ k,k<w.heap.size→Y.heap[k]?=w.heap[k]?:=fun k hk=>by rw [V,setRow_other _ _ _ _ Qqj];exact bC k hk
 have bE:Y=w.heap.size+1:=by rw [V,← bV];simp [World.setRow]
 have T:w.grownBy Y (some g):=by rw [V];exact ⟨O.os,O.tape,O.output,by rw [← V,bE];omega,fun k hk h=>(setRow_other _ _ _ _ Qqj).trans (O.block k hk h)⟩
 clear V
 obtain ⟨X2,aJ⟩:∃ X2,X2=(X1.toList.take ((i+1)*5)++D++X1.toList.drop ((i+1)*5+D.length)).toArray:=⟨_,rfl⟩
 have bQ:∀ ty,(Builtin.copy_ #[34,34] ty #[.slice (some ⟨w,(i+1)*5,none⟩) (n+1 - (i+1)) (G - (i+1)),Qqb g (i*5) (n - i) (n - i)]).run prog Y.drew=.ok (goInt (n - i:Nat)) (Y.drew.setRow w X2):=fun ty=>by
  have h:=Xd (P:=prog) 5 Y.drew 34 34 ty 36 w ((i+1)*5) (n+1 - (i+1)) (G - (i+1)) ⟨g,i*5,none⟩ (n - i) (n - i) X1 36 D underlying34 bX aY (by rw [aD,aL]) (fun j v N=>by rw [Addr.add_lit];exact (World.cell?_of_block (w:=w) (bD g bS)).trans (aN j v N)) (by rw [aD,aP];omega) bI
  rw [← aJ,aL] at h
  exact h
 have aR:(Y.drew.setRow w X2).heap[w.heap.size]?=some (.cells X2 36 (0,0))∧X2.size=G*5∧X2.toList.take ((n+1)*5)=A++cy++D∧(∀ k,k<w.heap.size→(Y.drew.setRow w X2).heap[k]?=w.heap[k]?)∧(Y.drew.setRow w X2).heap.size=w.heap.size+1∧w.grownBy (Y.drew.setRow w X2) (some g):=by
  have bW:(Y.drew.setRow w X2).heap.size=w.heap.size+1:=by rw [← bE];simp [World.setRow]
  refine ⟨setRow_heap _ _ _ _ _ _ aY,?_,?_,fun k hk=>(setRow_other _ _ _ _ Qqj).trans (bD k hk),bW,⟨T.os,T.tape,T.output,by rw [bW];omega,fun k hk h=>(setRow_other _ _ _ _ Qqj).trans (T.block k hk h)⟩⟩
  ·rw [aJ];simp only [List.size_toArray,Ql,Qm,Zq,aE,aD];rw [Z0 Qqj];omega
  rw [aJ,List.toList_toArray,show (i+1)*5=i*5+5 by omega,aO,Z1 (by simp only [Ql,U,J,aD];omega),Zj (by simp only [Ql,U,J,aD];omega)]
 rw [hA,hD]
 have HE:=Qq aR
 have cX:¬ ((i:Int)=(n:Int)):=Qqj
 have cU:IntKind.i64.wrap ((i:Int)+1)=(i:Int)+1:=by rw [IntKind.wrap_i64];omega
 have cV:IntKind.i64.wrap ((n:Int)+1)=(n:Int)+1:=by rw [IntKind.wrap_i64];omega
 have cW:IntKind.i64.wrap ((n:Int)+1 - (i:Int))=(n:Int)+1 - (i:Int):=by rw [IntKind.wrap_i64];omega
 have cJ:(0:Int)≤(i:Int)+1:=Qqj
 have cI:(0:Int)≤(i:Int):=Qqj
 have cK:¬ (n=i):=Qqj
 have cM:¬ (G=i):=Qqj
 have cN:¬ (G=i+1):=Qqj
 have cT:((i:Int)+1).toNat=i+1:=Qqj
 have cR:i≤n:=Qqj
 have cL:(i:Int)≤(n:Int)+1:=Qqj
 have cO:(i:Int)≤(n:Int):=Qqj
 have cH:¬ (n=i):=Qqj
 have cA:=Qq cC;have bZ:=Qq bN
 clear aR aI aJ aE aP aO aK aL aN M aM aV bR bL hA hD hO aU hy hcy bI bJ cB bC aX bD aY bV bE O T aT bO Z hG aS bA bT bN bS hqw aZ
 go_enter func62,ntmps62
 go_wp2_with (first
  | (at_builtin;refine Lib.wpList_append_run _ rfl _ _ _ _ rfl _ _ rfl rfl _ _ (bU _) ?_)
  | (at_builtin;refine wpList_copy_runI _ rfl _ _ 34 34 rfl _ _ (by simp [Act.eval,Act.put]) (by simp [Act.eval,Act.put]) (aQ _) ?_))
 go_region_law_o (refine step_copy_runI rfl _ _ 34 34 rfl _ _ (by simp [Act.eval,Act.put]) (by simp [Act.eval,Act.put]) (bQ _) ?_)
 go_wp2_with fail
 go_ret
 exact ⟨_,rfl,cA.out,bZ.out,_,HE.out⟩
end Go.Proofs.YtdpibdpbgokmoaaGreatDoor
