import Derived.Test.YtcljcblceodciaaGreatDoorU09
set_option maxRecDepth 100000
set_option maxHeartbeats 400000000
namespace Go.Proofs.YtcljcblceodciaaGreatDoor
open Go.RowKit Go.Shelf Go.Lib Tryz
def lkP (ks:List Bs) (key:List Val) (v:Val):Bool:=eqL eqv ((keyOf ks v).getD []) key
theorem Ah (X K:Nat) (S:Nat->Prop) (x:Tbl) (ct:List Value) (kv:Value) (key:List Val) (rows:List Val) (w:World) (hct:∀ j u,ct[j]?=some u->w.cell? ⟨X,j,none⟩=some u) (hXl:X<w)
  (hx:Zm.R S w ct x) (hkl:x.key.length<=1000) (hk:w.cell? ⟨K,0,none⟩=some kv) (hkey:Sl Zd S w kv key):
  Vo prog 57 #[Ch X,Ch K] Zd S rows (lkP x.key key) w:=by
 intro W v cs hb _ hr
 have bN:=Qv w _ hk
 obtain ⟨kp,kc,rfl,_⟩:=hkey.len
 have Y:=Zm.frame hx (.of_below hb)
 obtain ⟨aE,aD,aO,aN,aW,aV,k9,aX,n9,aY,aS,aP,aA,aT,aQ,aB,aU,aR,aC,a9,z9,I,_⟩:=Zt Y
 simp only [tcs] at I
 subst I
 obtain ⟨p3,k3,p4,k4,I,_⟩:=Z9.cells (show Z9 S W cs v from hr)
 simp only [vcs] at I
 subst I
 have aL:=hkey.below hb
 have d:=fun j u hj=>(hb.cell (p:=⟨X,j,none⟩) hXl).trans (hct j u hj)
 have dk:W.cell? ⟨K,0,none⟩=some (.slice kp key.length kc):=kD hb bN hk
 have d0:=d 0 (.string ⟨x.name.toArray⟩) rfl
 have d1:=d 1 (.slice aE x.columns.length aD) rfl
 have d2:=d 2 (.slice aO x.key.length aN) rfl
 have d3:=d 3 (.slice aW x.refs.length aV) rfl
 have d4:=d 4 (.int .i64 k9) rfl
 have d5:=d 5 (.string aX) rfl
 have d6:=d 6 (.int .i64 n9) rfl
 have d7:=d 7 (.string aY) rfl
 have d8:=d 8 (.slice aS aP aA) rfl
 have d9:=d 9 (.slice aT aQ aB) rfl
 have aF:=d 10 (.slice aU aR aC) rfl
 have aG:=d 11 (.int .i64 a9) rfl
 have aH:=d 12 (.int .i64 z9) rfl
 have A:X<W.heap.size:=Qv W _ d0
 have bM:K<W.heap.size:=Qv W _ dk
 obtain ⟨Z,N⟩:=eX (W.alloc (.cells (Cn v p3 k3 p4 k4) 36))
 have U:=eqB N (Zg _ _)
 have bS:Z=W.heap.size+1:=by rw [<- N];simp
 refine let_mvar% ?Lq1:=fun w':World=>(Qji w' X x.name (.slice aE x.columns.length aD) (.slice aO x.key.length aN) (.slice aW x.refs.length aV) k9 (.string aX) n9 (.string aY) (.slice aS aP aA) (.slice aT aQ aB) (.slice aU aR aC) a9 z9 (Cf w' K 0 (.slice kp key.length kc)/\Qjg w' W v.kind v.n v.s (.slice p3 v.names.length k3) (.slice p4 v.kids.length k4) (Below (W+1) Z w')):Prop);?_
 have HS:∀ w',Below (W+1) Z w'->?Lq1 w':=by
  intro w' h
  have D:∀ {b j:Nat} {u:Value},b<W->W.cell? ⟨b,j,none⟩=some u->w'.cell? ⟨b,j,none⟩=some u:=fun aM hc=>kD h (Nat.lt_succ_of_lt aM) (kD U aM hc)
  have J:w'.heap[W.heap.size]?=some (.cells (Cn v p3 k3 p4 k4) 36 (0,0)):=kE h (Nat.lt_succ_self _) (by rw [<- N];exact Qw _ _)
  exact ⟨D A d0,D A d1,D A d2,D A d3,D A d4,D A d5,D A d6,D A d7,D A d8,D A d9,D A aF,D A aG,D A aH,D bM dk,Qk _ _ 0 _ _ _ J,Qk _ _ 1 _ _ _ J,Qk _ _ 2 _ _ _ J,Qk _ _ 3 _ _ _ J,Qk _ _ 4 _ _ _ J,h⟩
 have M:∀ w',?Lq1 w'->Below (W+1) Z w':=fun w' h=>h.2.2.2.2.2.2.2.2.2.2.2.2.2.2.2.2.2.2.2
 have T:∀ w' O,?Lq1 w'->Below w' w' O->?Lq1 O:=fun w' O h h2=>HS O ((M w' h).trans (h2.mono (by have:=(M w' h).size;omega)))
 have G:∀ w',?Lq1 w'->Below W W w':=fun w' h=>U.trans ((M w' h).mono (Nat.le_succ _))
 have HK:=Qq (fun W' (h':?Lq1 W')=>(B9 S S x v _ _ W' (Zm.frame Y (.of_below (G _ h'))) (Zd.frame hr (.of_below (G _ h'))) hkl).mono (R':=fun e w2=>∃ p n cap,e=.returned (.slice p n cap)/\Sl Zd (fun _=>True) w2 (.slice p n cap) ((keyOf x.key v).getD [])/\?Lq1 w2) (by
  rintro e w2 ⟨p,n,cap,rfl,_,h3,h4⟩
  exact ⟨p,n,cap,rfl,h3.mono (fun _ _ _=>trivial),T _ _ h' h4⟩))
 have HE:=Qq (fun W' p n cap (h':?Lq1 W') (h2:Sl Zd (fun _=>True) W' (.slice p n cap) ((keyOf x.key v).getD []))=>(T7 59 #[] (enters_of func59 Cd rfl) (fun _=>True) (.slice p n cap) (.slice kp key.length kc) ((keyOf x.key v).getD []) key W' h2 ((aL.below (G _ h')).mono (fun _ _ _=>trivial)) eqv (fun V a b ca cb hV _ _ h3 h4=>Nh (fun _=>True) a b ca cb V h3 h4)).mono (R':=fun e w2=>e=.returned (.bool (eqL eqv ((keyOf x.key v).getD []) key))/\?Lq1 w2) (by
  rintro e w2 ⟨rfl,h4⟩
  exact ⟨rfl,T _ _ h' h4⟩))
 have bF:=Qq HS
 have bE:=Qq G
 clear HS d dk d0 d1 d2 d3 d4 d5 d6 d7 d8 d9 aF aG aH hct hk hkey aL hx Y hr U hb M T G
 show Calls prog 57 #[.agg (Cn v p3 k3 p4 k4),Ch X,Ch K] W (fun e w'=>e=.returned (.bool (eqL eqv ((keyOf x.key v).getD []) key))/\Below W W w')
 generalize eqL eqv ((keyOf x.key v).getD []) key=res at HE |-
 go_enter func57,ntmps57
 go_upto_region 1 with fail
 clear N
 have bL:Below (W+1) Z Z:=.refl _ _
 go_region_held3 ?Lq1 (first | exact bF.out _ (Below.drew bL) | assumption)
  (first
   | (go_at_call 15;refine (HK.out _ Ce).mono ?_;rintro e w2 ⟨bV,bU,bT,rfl,aK,bO⟩)
   | (go_at_call 58;refine (HE.out _ _ _ _ Ce aK).mono ?_;rintro e w3 ⟨rfl,aJ⟩))
 have bD:=Qq (bE.out _ aJ)
 clear aJ aK bO
 go_wp2_with fail
 go_ret
 exact ⟨rfl,bD.out⟩
def Fz (S:Nat->Prop) (w:World) (v:Val) (e:Ending) (w':World):Prop:=∃ cs',e=.returned (.agg cs'.toArray)/\Z9 S w' cs' v/\Below w w w'
def Vf (b:Bool):Val:=.mk 2 (if b then 1 else 0) [] [] []
theorem L1 (S:Nat->Prop) (w:World) (b:Bool):Z9 S w [.int .i64 2,.int .i64 (if b then 1 else 0),Cl,Cm,Cm] (Vf b):=
 Y5 (s:=[]) Ca (Sl.nil _ _ _) (Sl.nil _ _ _)
theorem X9 (w:World):Calls prog 142 #[.bool true] w fun e w'=>e=.returned (.tuple #[])/\w=w':=by
 go_enter func142,ntmps142
 go_wp2_with fail
 go_end0
 exact ⟨rfl,rfl⟩
theorem Vs (b:Bool) (S:Nat->Prop) (w:World):Calls prog 143 #[.bool b] w (Fz S w (Vf b)):=by
 cases b
 ·go_enter func143,ntmps143
  go_wp2_with fail
  generalize A:w.alloc _=W
  have hb:=eqB A (Zg _ _)
  have D:=eqH (b:=w.heap.size) A (Qw _ _)
  refine Q7 (v:=.agg #[.int .i64 2,Ci,Cl,Cm,Cm]) (by simp [results,results143,go_sem,Qk _ _ _ _ _ _ D]) rfl ⟨_,rfl,L1 _ _ false,hb⟩
 go_enter func143,ntmps143
 go_wp2_with fail
 generalize A:w.alloc _=W
 have hb:=eqB A (Zg _ _)
 have D:=eqH (b:=w.heap.size) A (Qw _ _)
 refine Q7 (v:=.agg #[.int .i64 2,.int .i64 1,Cl,Cm,Cm]) (by simp [results,results143,go_sem,Qk _ _ _ _ _ _ D]) rfl ⟨_,rfl,L1 _ _ true,hb⟩
theorem En (k:Int) (S:Nat->Prop) (v:Val) (cs:List Value) (w:World) (h:Z9 S w cs v) (hk:v.kind=k):Calls prog 139 #[k,cs] w fun e w'=>e=.returned (.agg cs.toArray)/\Below w w w':=by
 have HM:=Qq X9
 obtain ⟨p3,k3,p4,k4,A,_⟩:=Z9.cells h
 simp only [vcs] at A
 subst A
 subst hk
 clear h
 go_enter func139,ntmps139
 go_wp2_with (go_at_call 142;refine (HM.out _).mono ?_;rintro e w' ⟨rfl,rfl⟩)
 generalize hW:(w.alloc _).alloc _=W
 have hb:=eqB hW (Zu _ _ _)
 have hR:=eqH (b:=w.heap.size+1) hW (Q6 _ _ _)
 refine Q7 (v:=.agg (Cn v p3 k3 p4 k4)) (by simp [results,results139,go_sem,Qk _ _ _ _ _ _ hR]) rfl ⟨rfl,hb⟩
theorem fld1 (a b c d e:Value) (w:World):(Instr.field 36 (.agg #[a,b,c,d,e]) 1).run prog w=.ok b w:=by
 simp [Instr.field,go_sem,part,asAgg]
theorem truth_ok (b:Bool) (S:Nat->Prop) (cs:List Value) (w:World) (h:Z9 S w cs (Vf b)):Calls prog 102 #[cs] w fun e w'=>e=.returned (.bool b)/\Below w w w':=by
 have D:=Qq (fun W (hb:Below w w W)=>En 2 S (Vf b) cs W (Z9.move h (.of_below hb) Qje) rfl)
 obtain ⟨N,J,O,M,A,_⟩:=Z9.cells h
 simp only [vcs] at A
 subst A
 clear h
 have I:(Vf b).kind=2:=rfl
 have hn:((Vf b).n==1)=b:=by cases b <;> rfl
 generalize Vf b=v at I hn D |-
 subst hn
 rw [I] at D |-
 clear I
 have G:Hid (∀ W,Below w w W->Calls prog 139 #[.int .i64 2,.agg #[.int .i64 2,v.n,v.s,.slice N v.names.length J,.slice O v.kids.length M]] W fun e w'=>e=.returned (.agg #[.int .i64 2,v.n,v.s,.slice N v.names.length J,.slice O v.kids.length M])/\Below W W w'):=D
 clear D
 have hf:=fld1 (.int .i64 2) (.int .i64 v.n) (.string ⟨v.s.toArray⟩) (.slice N v.names.length J) (.slice O v.kids.length M)
 go_enter func102,ntmps102
 go_wp2_with (go_at_call 139;refine (G.out _ (Zg _ _)).mono ?_;rintro e w' ⟨rfl,hw⟩)
 go_ret
 exact ⟨rfl,(Zg _ _).thn hw⟩
inductive Xk (S:Nat->Prop) (w:World):Value->List (Bs × Val)->Prop
 | nil:Xk S w (.pointer none) []
 | cons (b:Nat) (outer:Option Addr) (x:Bs) (v:Val) (p3:Option Addr) (k3:Nat) (p4:Option Addr) (k4:Nat) (env:List (Bs × Val)) (hS:S b) (h0:w.heap[b]?=some (.cells #[.pointer outer,x,v.kind,v.n,v.s,.slice p3 v.names.length k3,.slice p4 v.kids.length k4] 131 (0,0)))
   (hx:x.length<=1000000) (hv:Z9 S w (vcs v p3 k3 p4 k4) v) (ho:Xk S w (.pointer outer) env):Xk S w (.pointer (some ⟨b,0,none⟩)) ((x,v)::env)
theorem Xk.move {S S':Nat->Prop} {w w':World} {p:Value} {env:List (Bs × Val)} (h:Xk S w p env) (hA:Uf S w w') (hS:∀ b,b<w.heap.size->S b->S' b):Xk S' w' p env:=by
 induction h with
 | nil=>exact .nil
 | cons b outer x v p3 k3 p4 k4 env hSb h0 hx hv ho ih=>exact .cons b outer x v p3 k3 p4 k4 env (hS b (Z8 h0) hSb) ((hA b hSb (Z8 h0)).trans h0) hx (hv.move hA hS) ih
theorem Xk.ptr {S:Nat->Prop} {w:World} {p:Value} {env:List (Bs × Val)} (h:Xk S w p env):∃ q,p=.pointer q:=by cases h <;> exact ⟨_,rfl⟩
theorem Zo (w:World) (A B C:Obj):(((w.alloc A).alloc B).alloc C).heap[w.heap.size+1]?=some B:=
 ((Zg ((w.alloc A).alloc B) C).block (w+1) Ca).trans (Q6 w A B)
theorem Zp (w:World) (A B C:Obj):(((w.alloc A).alloc B).alloc C).heap[w.heap.size]?=some A:=
 ((Zg ((w.alloc A).alloc B) C).block w (by simp;omega)).trans (Q5 w A B)
def EvV (e:Ex) (env:List (Bs × Val)) (v:Val):Prop:=∀ (S S':Nat->Prop) (cs:List Value) (p:Value) (w:World),Yx S' w cs e->Xk S w p env->Calls prog 103 #[cs,p] w (Fz S w v)
theorem Sa (nm:Bs) (n:Int) (s:Bs) (names binds:List Bs) (kids:List Ex) (a z:Int) (env:List (Bs × Val)):EvV (.mk 2 nm n s names binds kids a z) env (Vf (n==1)):=by
 intro S S' cs p w hx he
 obtain ⟨nv,bv,kv,rfl,_,_,hn,hb,hk⟩:=Yy.1 hx
 obtain ⟨np,nc,rfl,_⟩:=hn.len
 obtain ⟨bp,bc,rfl,_⟩:=hb.len
 obtain ⟨kp,kc,rfl,_⟩:=hk.len
 obtain ⟨q,rfl⟩:=he.ptr
 have HB:=Qq (Vs (n==1) (fun b=>S b/\b<w))
 clear hx he hn hb hk
 unfold sv
 go_enter func103,ntmps103
 obtain ⟨v,hv⟩:=eX (Vf (n==1))
 rw [hv] at HB |-
 clear hv
 go_wp2_with fail
 refine (HB.out _).mono ?_
 rintro e w1 ⟨N,rfl,G,D⟩
 obtain ⟨q3,l3,q4,l4,I,_⟩:=Z9.cells G
 simp only [vcs] at I
 subst I
 have A:=Qq ((D.block (w+1+1) Ca).trans (Zl w _ _ _))
 have J:=Qq ((Xm w _ _ _).thn D);have M:=Qq G
 have fz:=fun j=>Qn _ _ j _ _ A.out
 obtain ⟨f0,f1,f2,f3,f4⟩:=Qjw fz
 have rr:=fun j=>Qk _ _ j _ _ _ A.out
 obtain ⟨r0,r1,r2,r3,r4⟩:=Qjw rr
 simp only [Qf,Qg,Qh] at r0 r1 r2 r3 r4
 clear fz rr G D
 go_wp2_with fail
 show bodyPost _ _ _ _ _ (Cu w1 (w+1+1) v q3 l3 q4 l4)
 refine Q7 (v:=.agg (Cn v q3 l3 q4 l4)) (by simp [results,results103,go_sem,Ze A.out]) rfl ⟨_,rfl,?_,Zc J.out C7⟩
 exact Z9.move M.out (fun b hb _=>Zf (by have:=hb.2;omega)) (fun _ _ h=>h.1)
theorem Pu (nm:Bs) (n:Int) (s:Bs) (names binds:List Bs) (kids:List Ex) (a z:Int) (env:List (Bs × Val)) (v:Val) (hlk:Ea nm env=some v):EvV (.mk 3 nm n s names binds kids a z) env v:=by
 intro S0 S' cs p w hx T
 have he:Xk (fun b=>S0 b/\b<w) w p env:=T.move (.refl _ _) (fun b hb h=>⟨h,hb⟩)
 obtain ⟨nv,bv,kv,rfl,_,_,hn,hb,hk⟩:=Yy.1 hx
 obtain ⟨np,nc,rfl,_⟩:=hn.len
 obtain ⟨bp,bc,rfl,_⟩:=hb.len
 obtain ⟨kp,kc,rfl,_⟩:=hk.len
 obtain ⟨q,rfl⟩:=he.ptr
 have HE:=Qq he;have aB:=Qq hlk
 clear hx he T hn hb hk hlk
 unfold sv
 go_enter func103,ntmps103
 go_upto_region 3 with fail
 generalize G:((w.alloc _).alloc _).alloc _=w3
 have J:=eqB G (Xm _ _ _ _)
 have h0:=eqH (b:=w.heap.size) G (Zp _ _ _ _)
 have h1:=eqH (b:=w.heap.size+1) G (Zo _ _ _ _)
 have h2:=eqH (b:=w.heap.size+1+1) G (Zl _ _ _ _)
 have c0:=rA0 h0;have d0:=rA0 h1
 obtain ⟨H0,H2,Y,Z⟩:=Qjz h0 h2 J (HE.out.move (.of_below J) Qje)
 clear h0 h1 h2 J G HE
 go_wp2_with fail
 go_loopg [7] env.length (fun k p wr=>∃ A,k=A.length/\Xk (fun b=>S0 b/\b<w) wr p A/\Aside (Ea nm A=some v)/\Below w3 w3 wr)
 case atStart=>exact ⟨env,rfl,Z.out,aB.out,Qz _ _⟩
 obtain ⟨A,rfl,hE,V,D⟩:=hrel
 cases hE with
 | nil=>cases V.out
 | cons b outer x u p3 k3 p4 k4 rest hS hb0 hxl hu ho=>
  have c1:=rA1 ((kB D H0.out));have x0:=rA0 hb0;have x1:=rA1 hb0;have x2:=rA2 hb0;have x3:=rA3 hb0;have x4:=rA4 hb0;have x5:=rA5 hb0;have x6:=rA6 hb0
  have O:=kB D H2.out
  obtain ⟨HR,HU,HO,M,aG⟩:=Qjk O hu ho D hS
  have I:=V.out
  by_cases hxn:x=nm
  ·have U:u=v:=by
    have h:(if x=nm then some u else Ea nm rest)=some v:=I
    rw [if_pos hxn] at h;exact Qb h
   have aD:=Qq U
   subst hxn
   have fz:=fun j=>Qn _ _ j _ _ O
   obtain ⟨f0,f1,f2,f3,f4⟩:=Qjw fz
   have rr:=fun j=>Qk _ _ j _ _ _ O
   obtain ⟨r0,r1,r2,r3,r4⟩:=Qjw rr
   simp only [Qf,Qg,Qh] at r0 r1 r2 r3 r4
   clear V I D O hu ho hb0 fz rr U hS
   go_wp2_with fail
   go_quiet (fail)
   go_wp2_with fail
   have aC:=Qq (kB (Yz wr nq) HR.out)
   show bodyPost _ _ _ _ _ (Cu (wr.drewN nq) (w+1+1) u p3 k3 p4 k4)
   refine Q7 (v:=.agg (Cn u p3 k3 p4 k4)) (by simp [results,results103,go_sem,Ze aC.out]) rfl ⟨_,rfl,?_,Zc ((Y.out.thn M.out).thn (Yz wr nq)) C7⟩
   rw [<- aD.out]
   exact Z9.move HU.out (fun b hb _=>Zf (by have:=hb.2;omega)) (fun _ _ h=>h.1)
  have N:Ea nm rest=some v:=by
   have h:(if x=nm then some u else Ea nm rest)=some v:=I
   rw [if_neg hxn] at h;exact h
  have aA:=Qq N
  have hq:(x==nm)=false:=by simpa using hxn
  clear V I N D O hu ho hb0 hxn hS
  go_wp2_with fail
  go_quiet (fail)
  go_wp2_with fail
  go_roundg rest.length
  case measure=>simp
  case rel=>exact ⟨rest,rfl,HO.out.move (.of_below (Yz wr nq)) Qje,aA.out,M.out.thn (Yz wr nq)⟩
theorem kid_any (E V k:Nat) (S0 S':Nat->Prop) (kp:Option Addr) (kc:Nat) (kids:List Ex) (e:Ex) (p:Value) (env:List (Bs × Val)) (v:Val) (w:World) (h6:w.cell? ⟨E,6,none⟩=some (.slice kp kids.length kc)) (hk:Sl Xp S' w (.slice kp kids.length kc) kids) (hV:w.cell? ⟨V,0,none⟩=some p)
  (he0:Xk S0 w p env) (hx:kids[k]?=some e) (hev:EvV e env v):Calls prog 140 #[k,Ch E,Ch V] w (Fz S0 w v):=by
 have he:Xk (fun b=>S0 b/\b<w) w p env:=he0.move (.refl _ _) (fun b hb h=>⟨h,hb⟩)
 obtain ⟨q,rfl⟩:=he.ptr
 obtain ⟨N,A,cs,bS,D,_,_,hr,G⟩:=hk.elem hx
 subst bS
 have aH:=Qq (fun W (hb:Below w w W)=>hev (fun b=>S0 b/\b<w) S' cs (.pointer q) W (Xp.frame hr (.of_below hb)) (he.move (.of_below hb) Qje))
 obtain ⟨ek,bP,en,bQ,bM,bJ,bG,bN,bK,bH,bO,bL,bI,ea,ez,aB⟩:=Yx.cells (show Yx S' w cs e from hr)
 subst aB
 have aL:=Qv _ _ h6
 have aN:=Qv _ _ hV
 have bZ:k<kids.length:=(Qj hx).1
 have bX:(0:Int)<=(k:Int):=C7
 have bY:(k:Int)<(kids.length:Int):=C7
 have d0:=G 0 _ rfl
 have d1:=G 1 _ rfl
 have d2:=G 2 _ rfl
 have d3:=G 3 _ rfl
 have d4:=G 4 _ rfl
 have d5:=G 5 _ rfl
 have d6:=G 6 _ rfl
 have d7:=G 7 _ rfl
 have d8:=G 8 _ rfl
 simp only [show Xp.k=9 from rfl,Nat.add_zero] at d0 d1 d2 d3 d4 d5 d6 d7 d8
 obtain ⟨w1,aA⟩:=eX (w.alloc (.cells zV 36))
 have aO:=eqB aA (Zg _ _)
 have bV:w1=w.heap.size+1:=by rw [<- aA];simp
 have aM:=eqH (b:=w.heap.size) aA (Qw _ _)
 refine let_mvar% ?Lq1:=fun w':World=>Cf w' E 6 (Cg N A kids.length kc)/\Cf w' N (A+k*9) ek/\Cf w' N (A+k*9+1) (.string bP)/\Cf w' N (A+k*9+2) en/\Cf w' N (A+k*9+3) (.string bQ)/\Cf w' N (A+k*9+4) (.slice bM bJ bG)/\Cf w' N (A+k*9+5) (.slice bN bK bH)/\Cf w' N (A+k*9+6) (.slice bO bL bI)/\Cf w' N (A+k*9+7) ea/\Cf w' N (A+k*9+8) ez/\Cf w' V 0 (.pointer q)/\(∃ U y1 y2 y3 Y,w'.heap[w.heap.size]?=some (.cells #[U,y1,y2,y3,Y] 36 (0,0)))/\Below w w w';?_
 have HS:∀ w',Below w w w'->(∃ U y1 y2 y3 Y,w'.heap[w.heap.size]?=some (.cells #[U,y1,y2,y3,Y] 36 (0,0)))->?Lq1 w':=by
  intro w' h hy
  have M:∀ {b j:Nat} {u:Value},b<w->w.cell? ⟨b,j,none⟩=some u->w'.cell? ⟨b,j,none⟩=some u:=fun bT G=>kD h bT G
  exact ⟨M aL h6,M D d0,M D d1,M D d2,M D d3,M D d4,M D d5,M D d6,M D d7,M D d8,M aN hV,hy,h⟩
 have I:∀ w',?Lq1 w'->Below w w w':=fun w' h=>h.2.2.2.2.2.2.2.2.2.2.2.2
 have O:∀ w',?Lq1 w'->(∃ U y1 y2 y3 Y,w'.heap[w.heap.size]?=some (.cells #[U,y1,y2,y3,Y] 36 (0,0))):=fun w' h=>h.2.2.2.2.2.2.2.2.2.2.2.1
 have aJ:∀ w' T,?Lq1 w'->Below w' w' T->?Lq1 T:=fun w' T h h2=>HS T ((I w' h).thn h2) (by
  obtain ⟨U,y1,y2,y3,Y,hy⟩:=O w' h
  exact ⟨U,y1,y2,y3,Y,kB h2 hy⟩)
 have Z:∀ w' a b c d e,?Lq1 w'->?Lq1 (Zi w' w a b c d e):=fun w' a b c d e h=>HS _ (Zc (I w' h) (Q9 _)) (by
  obtain ⟨U,y1,y2,y3,Y,hy⟩:=O w' h
  exact ⟨a,b,c,d,e,Yw hy⟩)
 unfold Zi at Z
 have HC:=Qq (fun W' (h':?Lq1 W')=>(aH.out W' (I _ h')).mono (R':=fun e w2=>∃ q3 l3 q4 l4,e=.returned (.agg (Cn v q3 l3 q4 l4))/\Z9 (fun b=>S0 b/\b<w) w2 (vcs v q3 l3 q4 l4) v/\?Lq1 w2) (by
  rintro e w2 ⟨bW,rfl,h3,h4⟩
  obtain ⟨q3,l3,q4,l4,aB,_⟩:=Z9.cells h3
  subst aB
  exact ⟨q3,l3,q4,l4,rfl,h3,aJ _ _ h' h4⟩))
 obtain ⟨aU,aG,aK,aI⟩:=Qjz (HS w1.drew aO.drew ⟨_,_,_,_,_,aM⟩) I O Z
 clear HS I aJ O Z aH G h6 hk hV he he0 hx hev hr aO d0 d1 d2 d3 d4 d5 d6 d7 d8 aL aN aM bV
 go_enter func140,ntmps140
 go_upto_region 1 with fail
 go_region_held3 ?Lq1 (first | with_reducible exact aU.out | with_reducible exact J | with_reducible exact aI.out _ _ _ _ _ _ J)
  (first
   | (go_at_call 103;refine (HC.out _ Ce).mono ?_;rintro e w2 ⟨q3,l3,q4,l4,rfl,aP,J⟩;obtain ⟨g0,g1,g2,g3,g4,r2⟩:=aK.out _ J;obtain ⟨f0,f1,f2,f3,f4⟩:=frz5 r2;obtain ⟨U,y1,y2,y3,Y⟩:=row5 r2;have aV:=Qq r2;clear r2))
 have aT:=Qq (aG.out _ J);have aW:=Qq aP
 clear aP J
 go_wp2_with fail
 show bodyPost _ _ _ _ _ (Cu w2 w v q3 l3 q4 l4)
 refine Q7 (v:=.agg (Cn v q3 l3 q4 l4)) (by simp [results,results140,go_sem,Ze aV.out]) rfl ⟨_,rfl,?_,Zc aT.out (Q9 _)⟩
 exact Z9.move aW.out (fun b hb _=>Zf (by have:=hb.2;omega)) (fun _ _ h=>h.1)
theorem less_any (g:Nat) (lb:Array Value) (eg:∀ args w,(callFunc g args).run prog w=.ok (.enter g args) w) (S0:Nat->Prop) (u v:Val) (w:World) (hS0:∀ b,S0 b->b<w.heap.size)
  (h0:∀ W,Below w w W->Calls prog g (#[.int .i64 0]++lb) W (Fz S0 W u)) (h1:∀ W,Below w w W->Calls prog g (#[.int .i64 1]++lb) W (Fz S0 W v)):
  Calls prog 147 #[.string ⟨#[60]⟩,.func (.func g) #[] lb,.int .i64 2] w (Fz S0 w (Vf (decide (Yv u v<0)))):=by
 obtain ⟨H0,H1,HM,aO⟩:=Qjz h0 h1 X9 hS0
 have J:=Qq (fun cu cv W (hu:Z9 S0 W cu u) (hv:Z9 S0 W cv v)=>Fi S0 u v cu cv W hu hv)
 have M:=Qq (Vs (decide (Yv u v<0)) S0)
 obtain ⟨r,U⟩:=eX (Vf (decide (Yv u v<0)))
 rw [U] at M |-
 clear h0 h1 U hS0
 generalize Yv u v=c at J M
 go_enter func147,ntmps147
 go_wp2_with (go_at_call 142;refine (HM.out _).mono ?_;rintro e w' ⟨rfl,rfl⟩)
 refine (H0.out _ (Zg _ _)).mono ?_
 rintro e w1 ⟨cu,rfl,hu,N⟩
 obtain ⟨a3,m3,a4,m4,A,_⟩:=Z9.cells hu
 simp only [vcs] at A
 subst A
 obtain ⟨aB,aA,HU⟩:=Qjq ((N.block w Ca).trans (Qw w _)) ((Zg w _).thn N) hu
 clear hu N
 go_wp2_with fail
 refine (H1.out _ aA.out).mono ?_
 rintro e w2 ⟨cv,rfl,hv,I⟩
 obtain ⟨b3,n3,b4,n4,A,_⟩:=Z9.cells hv
 simp only [vcs] at A
 subst A
 have aC:=Qq ((I.block w (Z8 aB.out)).trans aB.out);have aI:=Qq (aA.out.thn I)
 have aP:=Qq (Z9.move HU.out (.of_below I) Qje);have aQ:=Qq hv
 clear hv I
 go_upto_region 10 with fail
 generalize G:(w2.alloc _).alloc _=w4
 have D:=eqB G (Zu _ _ _)
 have Y:=eqH (b:=w2.heap.size) G (Q5 _ _ _)
 have Z:=eqH (b:=w2.heap.size+1) G (Q6 _ _ _)
 have aD:=Qq ((D.block w (Z8 aC.out)).trans aC.out);have aJ:=Qq (aI.out.thn D)
 have aM:=Qq (fun W (hb:Below w4 w4 W)=>J.out _ _ W (Z9.move (Z9.move aP.out (.of_below D) Qje) (.of_below hb) Qje) (Z9.move (Z9.move aQ.out (.of_below D) Qje) (.of_below hb) Qje))
 have x0:=rA0 Y;have y0:=rA0 Z;have x1:=rA1 Y;have y1:=rA1 Z;have x2:=rA2 Y;have y2:=rA2 Z;have x3:=rA3 Y;have y3:=rA3 Z;have x4:=rA4 Y;have y4:=rA4 Z
 clear D Y Z G
 go_wp2_with fail
 refine (aM.out _ (Qz _ _)).mono ?_
 rintro e w5 ⟨rfl,aF⟩
 have O:=aF.bl
 have aE:=Qq ((O.block w (Z8 aD.out)).trans aD.out);have aK:=Qq (aJ.out.thn O)
 clear O aF
 go_wp2_with (go_at_call 143;refine (M.out _).mono ?_;rintro e w6 ⟨cr,rfl,V,T⟩;obtain ⟨q3,l3,q4,l4,A,_⟩:=Z9.cells V;simp only [vcs] at A;subst A;have aL:=Qq T;have aR:=Qq V;have U:=(T.block w (Z8 aE.out)).trans aE.out;have aN:=Qq U;obtain ⟨f0,f1,f2,f3,f4⟩:=frz5 U;obtain ⟨r0,r1,r2,r3,r4⟩:=row5 U;clear V T U)
 show bodyPost _ _ _ _ _ (Cu w6 w r q3 l3 q4 l4)
 refine Q7 (v:=.agg (Cn r q3 l3 q4 l4)) (by simp [results,results147,go_sem,Ze aN.out]) rfl ⟨_,rfl,?_,Zc (aK.out.thn aL.out) (Q9 _)⟩
 exact Z9.move aR.out (fun b hb _=>Zf (by have:=aO.out b hb;omega)) Qje
def Ux (n m:Int):Int:=(if n<0 then -(n+1) else n) % m
theorem N1 (n m:Int) (hm:0<m):0<=Ux n m/\Ux n m<m:=by
 unfold Ux;exact ⟨Int.emod_nonneg _ C7,Int.emod_lt_of_pos _ hm⟩
theorem ret_intE {k:IntKind} {a b:Int} (h:a=b):Ending.returned (.int k a)=.returned (.int k b):=by rw [h]
theorem Re (n m:Int) (w:World) (hn1:-9223372036854775808<=n) (hn2:n<=9223372036854775807) (hm:1<=m) (hm2:m<=9223372036854775807):
  Calls prog 22 #[n,m] w fun e w'=>e=.returned (.int .i64 (Ux n m))/\w=w':=by
 have hz:(m==0)=false:=by simpa using (by omega:¬ m=0)
 by_cases h:n<0
 ·have A:Ux n m=(-(n+1)) % m:=by unfold Ux;rw [if_pos h]
  rw [A]
  clear A
  have h1:0<=-(n+1):=C7
  go_enter func22,ntmps22
  go_wp2
  go_ret
  exact ⟨ret_intE (by rw [<- Int.neg_tmod,Int.tmod_eq_emod_of_nonneg h1]),rfl⟩
 have A:Ux n m=n % m:=by unfold Ux;rw [if_neg h]
 rw [A]
 clear A
 go_enter func22,ntmps22
 go_wp2
 go_ret
 exact ⟨rfl,rfl⟩
def Yl (l:List Int) (i:Nat) (m:Int):Int:=match l[i]? with
 | some n=>Ux n m
 | none=>0
def Uh (l:List Int):Prop:=∀ n ∈ l,-9223372036854775808<=n/\n<=9223372036854775807
def Eo (w:World) (x:Val) (e:Ending) (w':World):Prop:=∃ cs,e=.returned (.agg cs.toArray)/\Z9 (fun b=>w<=b) w' cs x/\Below w w w'
theorem Y2 {T:Type} {r:Rd T} {S:Nat->Prop} {w:World} {b n:Nat} {E:TypeId} {cells:Array Value} {xs:List T} {css:List (List Value)} (hb:w.heap[b]?=some (.cells cells E (0,0))) (hS:S b) (hcs:Cs r S w css xs) (hc:css.flatten=cells.toList) (hn:n=xs.length) (hl:xs.length<=1000000):Sl r S w (.slice (some ⟨b,0,none⟩) n n) xs:=by
 subst hn
 refine Sl.of_css hl hcs hS (Array.getElem?_eq_some_iff.1 hb).1 (fun j u hu=>?_)
 rw [Nat.zero_add,Qk _ _ _ _ _ _ hb]
 rw [hc] at hu
 simpa using hu
theorem Ge (S:Nat->Prop) (w:World) (n:Int):Z9 S w [Ci,n,Cl,Cm,Cm] (Yf n):=Y5 (s:=[]) Ca (Sl.nil _ _ _) (Sl.nil _ _ _)
theorem N6 (S:Nat->Prop) (w:World) (a b:Bs) (ha:a.length<=1000000) (hb:b.length<=1000000):Cs Zh S w [[.string ⟨a.toArray⟩],[b]] [a,b]:=
 (Cs.one (r:=Zh) (x:=a) (show Zh.R S w [a] a from ⟨rfl,ha⟩)).app (Cs.one (r:=Zh) (x:=b) (show Zh.R S w [b] b from ⟨rfl,hb⟩))
theorem Fh (a b:Bs) (x y:Int) (w:World) (ha:a.length<=1000000) (hb:b.length<=1000000):
  Calls prog 53 #[sv a,x,sv b,y] w (Eo w (Vw [a,b] [Yf x,Yf y])):=by
 unfold sv
 go_enter func53,ntmps53
 go_wp2_with fail
 generalize A:((w.alloc _).alloc _).alloc _=W
 have h0:=eqH (b:=w.heap.size) A (Zp _ _ _ _)
 have h1:=eqH (b:=w.heap.size+1) A (Zo _ _ _ _)
 have h2:=eqH (b:=w.heap.size+1+1) A (Zl _ _ _ _)
 have D:=eqB A (Xm _ _ _ _)
 refine Q7 (v:=.agg #[.int .i64 4,Ci,Cl,Cg (w+1) 0 2 2,Cg (w+1+1) 0 2 2]) (by simp [results,results53,go_sem,Qk _ _ _ _ _ _ h0]) rfl ⟨_,rfl,?_,D⟩
 refine Y5 (s:=[]) Ca ?_ ?_
 ·exact Y2 h1 (by show w<=w.heap.size+1;omega) (N6 _ _ a b ha hb) rfl rfl Ca
 exact Y2 h2 (by show w<=w.heap.size+1+1;omega) ((Cs.one (r:=Zd) (Ge _ W x)).app (Cs.one (r:=Zd) (Ge _ W y))) rfl rfl Ca
end Go.Proofs.YtcljcblceodciaaGreatDoor
