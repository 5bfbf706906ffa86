import Derived.Test.YtppbaladeefnkaaGreatDoorV11
import Derived.Test.YtppbaladeefnkaaGreatDoorV10
set_option maxRecDepth 100000
set_option maxHeartbeats 400000000
namespace Go.Proofs.YtppbaladeefnkaaGreatDoor
open Go.RowKit Go.Shelf Go.Lib Tryz
def lkP (ks:List Bs) (key:List Val) (v:Val):Bool:=eqL eqv ((keyOf ks v).getD []) key
theorem R5 (X K:Nat) (S:Nat→Prop) (x:Tbl) (ct:List Value) (kv:Value) (key:List Val) (rows:List Val) (w:World) (hct:∀ j u,ct[j]?=some u→w.cell? ⟨X,j,none⟩=some u) (hXl:X<w.heap.size)
  (hx:Qt.R S w ct x) (hkl:x.key.length≤1000) (hk:w.cell? ⟨K,0,none⟩=some kv) (hkey:Sl Ql S w kv key):
  Xp prog 43 #[.pointer (some ⟨X,0,none⟩),.pointer (some ⟨K,0,none⟩)] Ql S rows (lkP x.key key) w:=by
 intro W v cs hb _ hr
 have hKl:=Qv w _ hk
 obtain ⟨kp,kc,rfl,_⟩:=hkey.len
 have hxr:=Qt.frame hx (.of_below hb)
 obtain ⟨cp9,cc9,kp9,kc9,rp9,rc9,k9,s19,n9,s29,p19,n19,c19,p29,n29,c29,p39,n39,c39,a9,z9,hcs,_⟩:=Zk hxr
 simp only [tcs] at hcs
 subst hcs
 obtain ⟨p3,k3,p4,k4,hcs,_⟩:=Qh.cells (show Qh S W cs v from hr)
 simp only [vcs] at hcs
 subst hcs
 have hkW:=hkey.below hb
 have d:=fun j u hj=>(hb.cell (p:=⟨X,j,none⟩) hXl).trans (hct j u hj)
 have dk:W.cell? ⟨K,0,none⟩=some (.slice kp key.length kc):=(hb.cell (p:=⟨K,0,none⟩) hKl).trans hk
 have d0:=d 0 (.string ⟨x.name.toArray⟩) rfl
 have d1:=d 1 (.slice cp9 x.columns.length cc9) rfl
 have d2:=d 2 (.slice kp9 x.key.length kc9) rfl
 have d3:=d 3 (.slice rp9 x.refs.length rc9) rfl
 have d4:=d 4 (.int .i64 k9) rfl
 have d5:=d 5 (.string s19) rfl
 have d6:=d 6 (.int .i64 n9) rfl
 have d7:=d 7 (.string s29) rfl
 have d8:=d 8 (.slice p19 n19 c19) rfl
 have d9:=d 9 (.slice p29 n29 c29) rfl
 have d10:=d 10 (.slice p39 n39 c39) rfl
 have d11:=d 11 (.int .i64 a9) rfl
 have d12:=d 12 (.int .i64 z9) rfl
 have hXW:X<W.heap.size:=Qv W _ d0
 have hKW:K<W.heap.size:=Qv W _ dk
 obtain ⟨W1,hW1⟩:=eX (W.alloc (.cells #[.int .i64 v.kind,.int .i64 v.n,.string ⟨v.s.toArray⟩,.slice p3 v.names.length k3,.slice p4 v.kids.length k4] 44))
 have hbW:=eqB hW1 (Qn _ _)
 have hsz:W1.heap.size=W.heap.size+1:=by rw [← hW1];simp
 refine let_mvar% ?Lq1:=fun w':World=>w'.cell? ⟨X,0,none⟩=some (.string ⟨x.name.toArray⟩)∧w'.cell? ⟨X,1,none⟩=some (.slice cp9 x.columns.length cc9)∧w'.cell? ⟨X,2,none⟩=some (.slice kp9 x.key.length kc9)∧w'.cell? ⟨X,3,none⟩=some (.slice rp9 x.refs.length rc9)∧w'.cell? ⟨X,4,none⟩=some (.int .i64 k9)∧w'.cell? ⟨X,5,none⟩=some (.string s19)∧w'.cell? ⟨X,6,none⟩=some (.int .i64 n9)∧w'.cell? ⟨X,7,none⟩=some (.string s29)∧w'.cell? ⟨X,8,none⟩=some (.slice p19 n19 c19)∧w'.cell? ⟨X,9,none⟩=some (.slice p29 n29 c29)∧w'.cell? ⟨X,10,none⟩=some (.slice p39 n39 c39)∧w'.cell? ⟨X,11,none⟩=some (.int .i64 a9)∧w'.cell? ⟨X,12,none⟩=some (.int .i64 z9)∧w'.cell? ⟨K,0,none⟩=some (.slice kp key.length kc)∧w'.cell? ⟨W.heap.size,0,none⟩=some (.int .i64 v.kind)∧w'.cell? ⟨W.heap.size,1,none⟩=some (.int .i64 v.n)∧w'.cell? ⟨W.heap.size,2,none⟩=some (.string ⟨v.s.toArray⟩)∧w'.cell? ⟨W.heap.size,3,none⟩=some (.slice p3 v.names.length k3)∧w'.cell? ⟨W.heap.size,4,none⟩=some (.slice p4 v.kids.length k4)∧Below (W.heap.size+1) W1 w';?_
 have HS:∀ w',Below (W.heap.size+1) W1 w'→?Lq1 w':=by
  intro w' h
  have hh:∀ {b j:Nat} {u:Value},b<W.heap.size→W.cell? ⟨b,j,none⟩=some u→w'.cell? ⟨b,j,none⟩=some u:=fun hlt hc=>kD h (Nat.lt_succ_of_lt hlt) ((hbW.cell (p:=⟨_,_,none⟩) hlt).trans hc)
  have hr1:w'.heap[W.heap.size]?=some (.cells #[.int .i64 v.kind,.int .i64 v.n,.string ⟨v.s.toArray⟩,.slice p3 v.names.length k3,.slice p4 v.kids.length k4] 44 (0,0)):=kE h (Nat.lt_succ_self _) (by rw [← hW1];exact Qw _ _)
  exact ⟨hh hXW d0,hh hXW d1,hh hXW d2,hh hXW d3,hh hXW d4,hh hXW d5,hh hXW d6,hh hXW d7,hh hXW d8,hh hXW d9,hh hXW d10,hh hXW d11,hh hXW d12,hh hKW dk,Qk _ _ 0 _ _ _ hr1,Qk _ _ 1 _ _ _ hr1,Qk _ _ 2 _ _ _ hr1,Qk _ _ 3 _ _ _ hr1,Qk _ _ 4 _ _ _ hr1,h⟩
 have HB9:∀ w',?Lq1 w'→Below (W.heap.size+1) W1 w':=fun w' h=>h.2.2.2.2.2.2.2.2.2.2.2.2.2.2.2.2.2.2.2
 have HX9:∀ w' w'',?Lq1 w'→Below w'.heap.size w' w''→?Lq1 w'':=fun w' w'' h h2=>HS w'' ((HB9 w' h).trans (h2.mono (by have:=(HB9 w' h).size;omega)))
 have HWW:∀ w',?Lq1 w'→Below W.heap.size W w':=fun w' h=>hbW.trans ((HB9 w' h).mono (Nat.le_succ _))
 have HK:=Qq (fun W' (h':?Lq1 W')=>(Or S S x v _ _ W' (Qt.frame hxr (.of_below (HWW _ h'))) (Ql.frame hr (.of_below (HWW _ h'))) hkl).mono (R':=fun e w2=>∃ p n cap,e=.returned (.slice p n cap)∧Sl Ql (fun _=>True) w2 (.slice p n cap) ((keyOf x.key v).getD [])∧?Lq1 w2) (by
  rintro e w2 ⟨p,n,cap,rfl,_,h3,h4⟩
  exact ⟨p,n,cap,rfl,h3.mono (fun _ _ _=>trivial),HX9 _ _ h' h4⟩))
 have HE:=Qq (fun W' p n cap (h':?Lq1 W') (h2:Sl Ql (fun _=>True) W' (.slice p n cap) ((keyOf x.key v).getD []))=>(Rv 45 #[] (enters_of func45 (by kernel_rfl) rfl) (fun _=>True) (.slice p n cap) (.slice kp key.length kc) ((keyOf x.key v).getD []) key W' h2 ((hkW.below (HWW _ h')).mono (fun _ _ _=>trivial)) eqv (fun V a b ca cb hV _ _ h3 h4=>Gz (fun _=>True) a b ca cb V h3 h4)).mono (R':=fun e w2=>e=.returned (.bool (eqL eqv ((keyOf x.key v).getD []) key))∧?Lq1 w2) (by
  rintro e w2 ⟨rfl,h4⟩
  exact ⟨rfl,HX9 _ _ h' h4⟩))
 have HHS:=Qq HS
 have HHB:=Qq HWW
 clear HS d dk d0 d1 d2 d3 d4 d5 d6 d7 d8 d9 d10 d11 d12 hct hk hkey hkW hx hxr hr hbW hb HB9 HX9 HWW
 show Calls prog 43 #[.agg #[.int .i64 v.kind,.int .i64 v.n,.string ⟨v.s.toArray⟩,.slice p3 v.names.length k3,.slice p4 v.kids.length k4],.pointer (some ⟨X,0,none⟩),.pointer (some ⟨K,0,none⟩)] W (fun e w'=>e=.returned (.bool (eqL eqv ((keyOf x.key v).getD []) key))∧Below W.heap.size W w')
 generalize eqL eqv ((keyOf x.key v).getD []) key=res at HE ⊢
 go_enter func43,ntmps43
 go_upto_region 1 with fail
 clear hW1
 have hB0:Below (W.heap.size+1) W1 W1:=.refl _ _
 go_region_held3 ?Lq1 (first | exact HHS.out _ (Below.drew hB0) | assumption)
  (first
   | (go_at_call 14;refine (HK.out _ (by assumption)).mono ?_;rintro e w2 ⟨kp2,kn2,kc2,rfl,hk2,hb2⟩)
   | (go_at_call 44;refine (HE.out _ _ _ _ (by assumption) hk2).mono ?_;rintro e w3 ⟨rfl,hb3⟩))
 have HB3:=Qq (HHB.out _ hb3)
 clear hb3 hk2 hb2
 go_wp2_with fail
 go_ret
 exact ⟨rfl,HB3.out⟩
inductive Vl (S:Nat→Prop) (w:World):Value→List (Bs × Val)→Prop
 | nil:Vl S w (.pointer none) []
 | cons (b:Nat) (outer:Option Addr) (x:Bs) (v:Val) (p3:Option Addr) (k3:Nat) (p4:Option Addr) (k4:Nat) (env:List (Bs × Val)) (hS:S b) (h0:w.heap[b]?=some (.cells #[.pointer outer,.string ⟨x.toArray⟩,.int .i64 v.kind,.int .i64 v.n,.string ⟨v.s.toArray⟩,.slice p3 v.names.length k3,.slice p4 v.kids.length k4] 150 (0,0)))
   (hx:x.length≤1000000) (hv:Qh S w (vcs v p3 k3 p4 k4) v) (ho:Vl S w (.pointer outer) env):Vl S w (.pointer (some ⟨b,0,none⟩)) ((x,v)::env)
theorem Vl.move {S S':Nat→Prop} {w w':World} {p:Value} {env:List (Bs × Val)} (h:Vl S w p env) (hA:Vm S w w') (hS:∀ b,b<w.heap.size→S b→S' b):Vl S' w' p env:=by
 induction h with
 | nil=>exact .nil
 | cons b outer x v p3 k3 p4 k4 env hSb h0 hx hv ho ih=>exact .cons b outer x v p3 k3 p4 k4 env (hS b (Qf h0) hSb) ((hA b hSb (Qf h0)).trans h0) hx (hv.move hA hS) ih
theorem Vl.ptr {S:Nat→Prop} {w:World} {p:Value} {env:List (Bs × Val)} (h:Vl S w p env):∃ q,p=.pointer q:=by cases h <;> exact ⟨_,rfl⟩
theorem Z9 (w:World) (A B C:Obj):(((w.alloc A).alloc B).alloc C).heap[w.heap.size+1]?=some B:=
 ((Qn ((w.alloc A).alloc B) C).block (w.heap.size+1) (by simp)).trans (Q6 w A B)
theorem Zd (w:World) (A B C:Obj):(((w.alloc A).alloc B).alloc C).heap[w.heap.size]?=some A:=
 ((Qn ((w.alloc A).alloc B) C).block w.heap.size (by simp;omega)).trans (Q5 w A B)
def EvV (e:Ex) (env:List (Bs × Val)) (v:Val):Prop:=∀ (S S':Nat→Prop) (cs:List Value) (p:Value) (w:World),Z6 S' w cs e→Vl S w p env→Calls prog 130 #[.agg cs.toArray,p] w (Gq S w v)
theorem ev_bool (nm:Bs) (n:Int) (s:Bs) (names binds:List Bs) (kids:List Ex) (a z:Int) (env:List (Bs × Val)):EvV (.mk 2 nm n s names binds kids a z) env (J9 (n==1)):=by
 intro S S' cs p w hx he
 obtain ⟨nv,bv,kv,rfl,_,_,hn,hb,hk⟩:=Zf.1 hx
 obtain ⟨np,nc,rfl,_⟩:=hn.len
 obtain ⟨bp,bc,rfl,_⟩:=hb.len
 obtain ⟨kp,kc,rfl,_⟩:=hk.len
 obtain ⟨q,rfl⟩:=he.ptr
 have HB:=Qq (Fq (n==1) (fun b=>S b∧b<w.heap.size))
 clear hx he hn hb hk
 unfold sv
 go_enter func130,ntmps130
 obtain ⟨v,hv⟩:=eX (J9 (n==1))
 rw [hv] at HB ⊢
 clear hv
 go_wp2_with fail
 refine (HB.out _).mono ?_
 rintro e w1 ⟨cs',rfl,hv1,hb1⟩
 obtain ⟨q3,l3,q4,l4,hcs,_⟩:=Qh.cells hv1
 simp only [vcs] at hcs
 subst hcs
 have HR1:=Qq ((hb1.block (w.heap.size+1+1) (by simp)).trans (Zw w _ _ _))
 have HB1:=Qq ((Xr w _ _ _).thn hb1);have HV1:=Qq hv1
 have fz:=fun j=>frozen_of_row _ _ j _ _ HR1.out
 have f0:=fz 0;have f1:=fz 1;have f2:=fz 2;have f3:=fz 3;have f4:=fz 4
 have rr:=fun j=>Qk _ _ j _ _ _ HR1.out
 have r0:=rr 0;have r1:=rr 1;have r2:=rr 2;have r3:=rr 3;have r4:=rr 4
 simp only [List.getElem?_toArray,List.getElem?_cons_zero,List.getElem?_cons_succ] at r0 r1 r2 r3 r4
 clear fz rr hv1 hb1
 go_wp2_with fail
 show bodyPost _ _ _ _ _ (Zz w1 (w.heap.size+1+1) (.int .i64 v.kind) (.int .i64 v.n) (.string ⟨v.s.toArray⟩) (.slice q3 v.names.length l3) (.slice q4 v.kids.length l4))
 refine Q7 (v:=.agg #[.int .i64 v.kind,.int .i64 v.n,.string ⟨v.s.toArray⟩,.slice q3 v.names.length l3,.slice q4 v.kids.length l4]) (by simp [results,results130,go_sem,Qm HR1.out]) rfl ⟨_,rfl,?_,Qo HB1.out (by omega)⟩
 exact Qh.move HV1.out (fun b hb _=>Qu (by have:=hb.2;omega)) (fun _ _ h=>h.1)
theorem ev_var (nm:Bs) (n:Int) (s:Bs) (names binds:List Bs) (kids:List Ex) (a z:Int) (env:List (Bs × Val)) (v:Val) (hlk:Eo nm env=some v):EvV (.mk 3 nm n s names binds kids a z) env v:=by
 intro S0 S' cs p w hx he0
 have he:Vl (fun b=>S0 b∧b<w.heap.size) w p env:=he0.move (.refl _ _) (fun b hb h=>⟨h,hb⟩)
 obtain ⟨nv,bv,kv,rfl,_,_,hn,hb,hk⟩:=Zf.1 hx
 obtain ⟨np,nc,rfl,_⟩:=hn.len
 obtain ⟨bp,bc,rfl,_⟩:=hb.len
 obtain ⟨kp,kc,rfl,_⟩:=hk.len
 obtain ⟨q,rfl⟩:=he.ptr
 have HE:=Qq he;have HLK:=Qq hlk
 clear hx he he0 hn hb hk hlk
 unfold sv
 go_enter func130,ntmps130
 go_upto_region 3 with fail
 generalize hW3:((w.alloc _).alloc _).alloc _=w3
 have hb3:=eqB hW3 (Xr _ _ _ _)
 have h0:=eqH (b:=w.heap.size) hW3 (Zd _ _ _ _)
 have h1:=eqH (b:=w.heap.size+1) hW3 (Z9 _ _ _ _)
 have h2:=eqH (b:=w.heap.size+1+1) hW3 (Zw _ _ _ _)
 have c0:=rA0 h0;have d0:=rA0 h1
 have H0:=Qq h0;have H2:=Qq h2;have HB3:=Qq hb3;have HE3:=Qq (HE.out.move (.of_below hb3) (fun _ _ h=>h))
 clear h0 h1 h2 hb3 hW3 HE
 go_wp2_with fail
 go_loopg [7] env.length (fun k p wr=>∃ env',k=env'.length∧Vl (fun b=>S0 b∧b<w.heap.size) wr p env'∧Aside (Eo nm env'=some v)∧Below w3.heap.size w3 wr)
 case atStart=>exact ⟨env,rfl,HE3.out,HLK.out,Qz _ _⟩
 obtain ⟨env',rfl,hE,hL,hBr⟩:=hrel
 cases hE with
 | nil=>cases hL.out
 | cons b outer x u p3 k3 p4 k4 rest hS hb0 hxl hu ho=>
  have c1:=rA1 ((kB hBr H0.out));have x0:=rA0 hb0;have x1:=rA1 hb0;have x2:=rA2 hb0;have x3:=rA3 hb0;have x4:=rA4 hb0;have x5:=rA5 hb0;have x6:=rA6 hb0
  have hR:=kB hBr H2.out
  have HR:=Qq hR;have HU:=Qq hu;have HO:=Qq ho;have HBr:=Qq hBr;have HSb:=Qq hS
  have hL2:=hL.out
  by_cases hxn:x=nm
  ·have hvu:u=v:=by
    have h:(if x=nm then some u else Eo nm rest)=some v:=hL2
    rw [if_pos hxn] at h;exact Qb h
   have HVU:=Qq hvu
   subst hxn
   have fz:=fun j=>frozen_of_row _ _ j _ _ hR
   have f0:=fz 0;have f1:=fz 1;have f2:=fz 2;have f3:=fz 3;have f4:=fz 4
   have rr:=fun j=>Qk _ _ j _ _ _ hR
   have r0:=rr 0;have r1:=rr 1;have r2:=rr 2;have r3:=rr 3;have r4:=rr 4
   simp only [List.getElem?_toArray,List.getElem?_cons_zero,List.getElem?_cons_succ] at r0 r1 r2 r3 r4
   clear hL hL2 hBr hR hu ho hb0 fz rr hvu hS
   go_wp2_with fail
   go_quiet (fail)
   go_wp2_with fail
   have HR5:=Qq (kB (Zy wr nq) HR.out)
   show bodyPost _ _ _ _ _ (Zz (wr.drewN nq) (w.heap.size+1+1) (.int .i64 u.kind) (.int .i64 u.n) (.string ⟨u.s.toArray⟩) (.slice p3 u.names.length k3) (.slice p4 u.kids.length k4))
   refine Q7 (v:=.agg #[.int .i64 u.kind,.int .i64 u.n,.string ⟨u.s.toArray⟩,.slice p3 u.names.length k3,.slice p4 u.kids.length k4]) (by simp [results,results130,go_sem,Qm HR5.out]) rfl ⟨_,rfl,?_,Qo ((HB3.out.thn HBr.out).thn (Zy wr nq)) (by omega)⟩
   rw [← HVU.out]
   exact Qh.move HU.out (fun b hb _=>Qu (by have:=hb.2;omega)) (fun _ _ h=>h.1)
  have hL3:Eo nm rest=some v:=by
   have h:(if x=nm then some u else Eo nm rest)=some v:=hL2
   rw [if_neg hxn] at h;exact h
  have HL3:=Qq hL3
  have hq:(x==nm)=false:=by simpa using hxn
  clear hL hL2 hL3 hBr hR hu ho hb0 hxn hS
  go_wp2_with fail
  go_quiet (fail)
  go_wp2_with fail
  go_roundg rest.length
  case measure=>simp
  case rel=>exact ⟨rest,rfl,HO.out.move (.of_below (Zy wr nq)) (fun _ _ h=>h),HL3.out,HBr.out.thn (Zy wr nq)⟩
theorem kid_any (E V k:Nat) (S0 S':Nat→Prop) (kp:Option Addr) (kc:Nat) (kids:List Ex) (e:Ex) (p:Value) (env:List (Bs × Val)) (v:Val) (w:World) (h6:w.cell? ⟨E,6,none⟩=some (.slice kp kids.length kc)) (hk:Sl Ys S' w (.slice kp kids.length kc) kids) (hV:w.cell? ⟨V,0,none⟩=some p)
  (he0:Vl S0 w p env) (hx:kids[k]?=some e) (hev:EvV e env v):Calls prog 162 #[.int .i64 k,.pointer (some ⟨E,0,none⟩),.pointer (some ⟨V,0,none⟩)] w (Gq S0 w v):=by
 have he:Vl (fun b=>S0 b∧b<w.heap.size) w p env:=he0.move (.refl _ _) (fun b hb h=>⟨h,hb⟩)
 obtain ⟨q,rfl⟩:=he.ptr
 obtain ⟨xb,xoff,cs,hkp,hxb,_,_,hr,hc⟩:=hk.elem hx
 subst hkp
 have HEv:=Qq (fun W (hb:Below w.heap.size w W)=>hev (fun b=>S0 b∧b<w.heap.size) S' cs (.pointer q) W (Ys.frame hr (.of_below hb)) (he.move (.of_below hb) (fun _ _ h=>h)))
 obtain ⟨ek,es1,en,es2,ep1,en1,ec1,ep2,en2,ec2,ep3,en3,ec3,ea,ez,hcs⟩:=Z6.cells (show Z6 S' w cs e from hr)
 subst hcs
 have hEl:=Qv _ _ h6
 have hVl:=Qv _ _ hV
 have hki:k<kids.length:=(Qj hx).1
 have hi1:(0:Int)≤(k:Int):=by omega
 have hi2:(k:Int)<(kids.length:Int):=by omega
 have d0:=hc 0 _ rfl
 have d1:=hc 1 _ rfl
 have d2:=hc 2 _ rfl
 have d3:=hc 3 _ rfl
 have d4:=hc 4 _ rfl
 have d5:=hc 5 _ rfl
 have d6:=hc 6 _ rfl
 have d7:=hc 7 _ rfl
 have d8:=hc 8 _ rfl
 simp only [show Ys.k=9 from rfl,Nat.add_zero] at d0 d1 d2 d3 d4 d5 d6 d7 d8
 obtain ⟨w1,hW1⟩:=eX (w.alloc (.cells zV 44))
 have hbW:=eqB hW1 (Qn _ _)
 have hsz:w1.heap.size=w.heap.size+1:=by rw [← hW1];simp
 have hR1:=eqH (b:=w.heap.size) hW1 (Qw _ _)
 refine let_mvar% ?Lq1:=fun w':World=>w'.cell? ⟨E,6,none⟩=some (.slice (some ⟨xb,xoff,none⟩) kids.length kc)∧w'.cell? ⟨xb,xoff+k*9,none⟩=some (.int .i64 ek)∧w'.cell? ⟨xb,xoff+k*9+1,none⟩=some (.string es1)∧w'.cell? ⟨xb,xoff+k*9+2,none⟩=some (.int .i64 en)∧w'.cell? ⟨xb,xoff+k*9+3,none⟩=some (.string es2)∧w'.cell? ⟨xb,xoff+k*9+4,none⟩=some (.slice ep1 en1 ec1)∧w'.cell? ⟨xb,xoff+k*9+5,none⟩=some (.slice ep2 en2 ec2)∧w'.cell? ⟨xb,xoff+k*9+6,none⟩=some (.slice ep3 en3 ec3)∧w'.cell? ⟨xb,xoff+k*9+7,none⟩=some (.int .i64 ea)∧w'.cell? ⟨xb,xoff+k*9+8,none⟩=some (.int .i64 ez)∧w'.cell? ⟨V,0,none⟩=some (.pointer q)∧(∃ y0 y1 y2 y3 y4,w'.heap[w.heap.size]?=some (.cells #[y0,y1,y2,y3,y4] 44 (0,0)))∧Below w.heap.size w w';?_
 have HS:∀ w',Below w.heap.size w w'→(∃ y0 y1 y2 y3 y4,w'.heap[w.heap.size]?=some (.cells #[y0,y1,y2,y3,y4] 44 (0,0)))→?Lq1 w':=by
  intro w' h hy
  have hh:∀ {b j:Nat} {u:Value},b<w.heap.size→w.cell? ⟨b,j,none⟩=some u→w'.cell? ⟨b,j,none⟩=some u:=fun hlt hc=>kD h hlt hc
  exact ⟨hh hEl h6,hh hxb d0,hh hxb d1,hh hxb d2,hh hxb d3,hh hxb d4,hh hxb d5,hh hxb d6,hh hxb d7,hh hxb d8,hh hVl hV,hy,h⟩
 have HB9:∀ w',?Lq1 w'→Below w.heap.size w w':=fun w' h=>h.2.2.2.2.2.2.2.2.2.2.2.2
 have HY9:∀ w',?Lq1 w'→(∃ y0 y1 y2 y3 y4,w'.heap[w.heap.size]?=some (.cells #[y0,y1,y2,y3,y4] 44 (0,0))):=fun w' h=>h.2.2.2.2.2.2.2.2.2.2.2.1
 have HX9:∀ w' w'',?Lq1 w'→Below w'.heap.size w' w''→?Lq1 w'':=fun w' w'' h h2=>HS w'' ((HB9 w' h).thn h2) (by
  obtain ⟨y0,y1,y2,y3,y4,hy⟩:=HY9 w' h
  exact ⟨y0,y1,y2,y3,y4,kB h2 hy⟩)
 have HP9:∀ w' a b c d e,?Lq1 w'→?Lq1 (Zz w' w.heap.size a b c d e):=fun w' a b c d e h=>HS _ (Qo (HB9 w' h) (Q9 _)) (by
  obtain ⟨y0,y1,y2,y3,y4,hy⟩:=HY9 w' h
  exact ⟨a,b,c,d,e,Yr hy⟩)
 unfold Zz at HP9
 have HC:=Qq (fun W' (h':?Lq1 W')=>(HEv.out W' (HB9 _ h')).mono (R':=fun e w2=>∃ q3 l3 q4 l4,e=.returned (.agg #[.int .i64 v.kind,.int .i64 v.n,.string ⟨v.s.toArray⟩,.slice q3 v.names.length l3,.slice q4 v.kids.length l4])∧Qh (fun b=>S0 b∧b<w.heap.size) w2 (vcs v q3 l3 q4 l4) v∧?Lq1 w2) (by
  rintro e w2 ⟨cs',rfl,h3,h4⟩
  obtain ⟨q3,l3,q4,l4,hcs,_⟩:=Qh.cells h3
  subst hcs
  exact ⟨q3,l3,q4,l4,rfl,h3,HX9 _ _ h' h4⟩))
 have HHS:=Qq (HS w1.drew hbW.drew ⟨_,_,_,_,_,hR1⟩);have HB9':=Qq HB9;have HY9':=Qq HY9;have HP9':=Qq HP9
 clear HS HB9 HX9 HY9 HP9 HEv hc h6 hk hV he he0 hx hev hr hbW d0 d1 d2 d3 d4 d5 d6 d7 d8 hEl hVl hR1 hsz
 go_enter func162,ntmps162
 go_upto_region 1 with fail
 go_region_held3 ?Lq1 (first | with_reducible exact HHS.out | with_reducible exact hS2 | with_reducible exact HP9'.out _ _ _ _ _ _ hS2)
  (first
   | (go_at_call 130;refine (HC.out _ (by assumption)).mono ?_;rintro e w2 ⟨q3,l3,q4,l4,rfl,hv2,hS2⟩;obtain ⟨g0,g1,g2,g3,g4,r2⟩:=HY9'.out _ hS2;obtain ⟨f0,f1,f2,f3,f4⟩:=frz5 r2;obtain ⟨y0,y1,y2,y3,y4⟩:=row5 r2;have HR2:=Qq r2;clear r2))
 have HB2:=Qq (HB9'.out _ hS2);have HV2:=Qq hv2
 clear hv2 hS2
 go_wp2_with fail
 show bodyPost _ _ _ _ _ (Zz w2 w.heap.size (.int .i64 v.kind) (.int .i64 v.n) (.string ⟨v.s.toArray⟩) (.slice q3 v.names.length l3) (.slice q4 v.kids.length l4))
 refine Q7 (v:=.agg #[.int .i64 v.kind,.int .i64 v.n,.string ⟨v.s.toArray⟩,.slice q3 v.names.length l3,.slice q4 v.kids.length l4]) (by simp [results,results162,go_sem,Qm HR2.out]) rfl ⟨_,rfl,?_,Qo HB2.out (Q9 _)⟩
 exact Qh.move HV2.out (fun b hb _=>Qu (by have:=hb.2;omega)) (fun _ _ h=>h.1)
theorem less_any (g:Nat) (lb:Array Value) (eg:∀ args w,(callFunc g args).run prog w=.ok (.enter g args) w) (S0:Nat→Prop) (u v:Val) (w:World) (hS0:∀ b,S0 b→b<w.heap.size)
  (h0:∀ W,Below w.heap.size w W→Calls prog g (#[.int .i64 0]++lb) W (Gq S0 W u)) (h1:∀ W,Below w.heap.size w W→Calls prog g (#[.int .i64 1]++lb) W (Gq S0 W v)):
  Calls prog 169 #[.string ⟨#[60]⟩,.func (.func g) #[] lb,.int .i64 2] w (Gq S0 w (J9 (decide (Z1 u v<0)))):=by
 have H0:=Qq h0;have H1:=Qq h1;have HM:=Qq Pc;have HS0:=Qq hS0
 have HCmp:=Qq (fun cu cv W (hu:Qh S0 W cu u) (hv:Qh S0 W cv v)=>Dw S0 u v cu cv W hu hv)
 have HBo:=Qq (Fq (decide (Z1 u v<0)) S0)
 obtain ⟨r,hr⟩:=eX (J9 (decide (Z1 u v<0)))
 rw [hr] at HBo ⊢
 clear h0 h1 hr hS0
 generalize Z1 u v=c at HCmp HBo
 go_enter func169,ntmps169
 go_wp2_with (go_at_call 164;refine (HM.out _).mono ?_;rintro e w' ⟨rfl,rfl⟩)
 refine (H0.out _ (Qn _ _)).mono ?_
 rintro e w1 ⟨cu,rfl,hu,hb1⟩
 obtain ⟨a3,m3,a4,m4,hcs,_⟩:=Qh.cells hu
 simp only [vcs] at hcs
 subst hcs
 have HR1:=Qq ((hb1.block w.heap.size (by simp)).trans (Qw w _));have HB1:=Qq ((Qn w _).thn hb1);have HU:=Qq hu
 clear hu hb1
 go_wp2_with fail
 refine (H1.out _ HB1.out).mono ?_
 rintro e w2 ⟨cv,rfl,hv,hb2⟩
 obtain ⟨b3,n3,b4,n4,hcs,_⟩:=Qh.cells hv
 simp only [vcs] at hcs
 subst hcs
 have HR2:=Qq ((hb2.block w.heap.size (Qf HR1.out)).trans HR1.out);have HB2:=Qq (HB1.out.thn hb2)
 have HU2:=Qq (Qh.move HU.out (.of_below hb2) (fun _ _ h=>h));have HV2:=Qq hv
 clear hv hb2
 go_upto_region 10 with fail
 generalize hW4:(w2.alloc _).alloc _=w4
 have hb4:=eqB hW4 (Zv _ _ _)
 have g1:=eqH (b:=w2.heap.size) hW4 (Q5 _ _ _)
 have g2:=eqH (b:=w2.heap.size+1) hW4 (Q6 _ _ _)
 have HR4:=Qq ((hb4.block w.heap.size (Qf HR2.out)).trans HR2.out);have HB4:=Qq (HB2.out.thn hb4)
 have HC4:=Qq (fun W (hb:Below w4.heap.size w4 W)=>HCmp.out _ _ W (Qh.move (Qh.move HU2.out (.of_below hb4) (fun _ _ h=>h)) (.of_below hb) (fun _ _ h=>h)) (Qh.move (Qh.move HV2.out (.of_below hb4) (fun _ _ h=>h)) (.of_below hb) (fun _ _ h=>h)))
 have x0:=rA0 g1;have y0:=rA0 g2;have x1:=rA1 g1;have y1:=rA1 g2;have x2:=rA2 g1;have y2:=rA2 g2;have x3:=rA3 g1;have y3:=rA3 g2;have x4:=rA4 g1;have y4:=rA4 g2
 clear hb4 g1 g2 hW4
 go_wp2_with fail
 refine (HC4.out _ (Qz _ _)).mono ?_
 rintro e w5 ⟨rfl,hg5⟩
 have hb5:=hg5.bl
 have HR5:=Qq ((hb5.block w.heap.size (Qf HR4.out)).trans HR4.out);have HB5:=Qq (HB4.out.thn hb5)
 clear hb5 hg5
 go_wp2_with (go_at_call 165;refine (HBo.out _).mono ?_;rintro e w6 ⟨cr,rfl,hr6,hb6⟩;obtain ⟨q3,l3,q4,l4,hcs,_⟩:=Qh.cells hr6;simp only [vcs] at hcs;subst hcs;have HB6:=Qq hb6;have HV6:=Qq hr6;have hr:=(hb6.block w.heap.size (Qf HR5.out)).trans HR5.out;have HR6:=Qq hr;obtain ⟨f0,f1,f2,f3,f4⟩:=frz5 hr;obtain ⟨r0,r1,r2,r3,r4⟩:=row5 hr;clear hr6 hb6 hr)
 show bodyPost _ _ _ _ _ (Zz w6 w.heap.size (.int .i64 r.kind) (.int .i64 r.n) (.string ⟨r.s.toArray⟩) (.slice q3 r.names.length l3) (.slice q4 r.kids.length l4))
 refine Q7 (v:=.agg #[.int .i64 r.kind,.int .i64 r.n,.string ⟨r.s.toArray⟩,.slice q3 r.names.length l3,.slice q4 r.kids.length l4]) (by simp [results,results169,go_sem,Qm HR6.out]) rfl ⟨_,rfl,?_,Qo (HB5.out.thn HB6.out) (Q9 _)⟩
 exact Qh.move HV6.out (fun b hb _=>Qu (by have:=HS0.out b hb;omega)) (fun _ _ h=>h)
theorem ev_less (n:Int) (s:Bs) (names binds:List Bs) (x y:Ex) (a z:Int) (env:List (Bs × Val)) (u v:Val) (hx:EvV x env u) (hy:EvV y env v):EvV (.mk 14 [60] n s names binds [x,y] a z) env (J9 (decide (Z1 u v<0))):=by
 intro S0 S' cs p w hex he0
 have he:Vl (fun b=>S0 b∧b<w.heap.size) w p env:=he0.move (.refl _ _) (fun b hb h=>⟨h,hb⟩)
 obtain ⟨nv,bv,kv,rfl,_,_,hn,hb,hk⟩:=Zf.1 hex
 obtain ⟨np,nc,rfl,_⟩:=hn.len
 obtain ⟨bp,bc,rfl,_⟩:=hb.len
 obtain ⟨kp,kc,rfl,_⟩:=hk.len
 obtain ⟨q,rfl⟩:=he.ptr
 have HE:=Qq he;have HK:=Qq hk;have HX:=Qq hx;have HY:=Qq hy
 clear hex he he0 hn hb hk hx hy
 unfold sv
 obtain ⟨r,hr⟩:=eX (J9 (decide (Z1 u v<0)))
 rw [hr]
 have HRes:=Qq hr
 clear hr
 rw [show [x,y].length=2 from rfl]
 show Calls prog 130 #[.agg #[.int .i64 14,.string ⟨#[60]⟩,.int .i64 n,.string ⟨s.toArray⟩,.slice np names.length nc,.slice bp binds.length bc,.slice kp 2 kc,.int .i64 a,.int .i64 z],.pointer q] w (Gq S0 w r)
 go_enter func130,ntmps130
 go_upto_region 3 with fail
 generalize hW3:((w.alloc _).alloc _).alloc _=w3
 have hb3:=eqB hW3 (Xr _ _ _ _)
 have h0:=eqH (b:=w.heap.size) hW3 (Zd _ _ _ _)
 have h1:=eqH (b:=w.heap.size+1) hW3 (Z9 _ _ _ _)
 have h2:=eqH (b:=w.heap.size+1+1) hW3 (Zw _ _ _ _)
 have hsz:w.heap.size+1+1<w3.heap.size:=Qf h2
 have HKid:=Qq (fun (k:Nat) e t (hke:[x,y][k]?=some e) (hev:EvV e env t) W (hbw:Below w3.heap.size w3 W)=>kid_any w.heap.size (w.heap.size+1) k (fun b=>S0 b∧b<w.heap.size) S' kp kc [x,y] e (.pointer q) env t W
  ((Qk _ _ 6 _ _ _ (kB hbw h0)).trans rfl) ((HK.out.below hb3).below hbw) ((Qk _ _ 0 _ _ _ (kB hbw h1)).trans rfl) ((HE.out.move (.of_below hb3) (fun _ _ h=>h)).move (.of_below hbw) (fun _ _ h=>h)) hke hev)
 have HL:=Qq (less_any 162 #[.pointer (some ⟨w.heap.size,0,none⟩),.pointer (some ⟨w.heap.size+1,0,none⟩)] (enters_of func162 (by kernel_rfl) rfl) (fun b=>S0 b∧b<w.heap.size) u v w3 (fun b hb=>by have:=hb.2;omega)
  (HKid.out 0 x u rfl HX.out) (HKid.out 1 y v rfl HY.out))
 rw [HRes.out] at HL
 have c0:=rA0 h0;have c1:=rA1 h0;have c6:=rA6 h0
 have H2:=Qq h2;have HB3:=Qq hb3
 clear h0 h1 h2 hb3 hW3 HE HK HX HY HKid HRes
 go_wp2_with fail
 refine HL.out.mono ?_
 rintro e w4 ⟨cr,rfl,hr4,hb4⟩
 obtain ⟨q3,l3,q4,l4,hcs,_⟩:=Qh.cells hr4
 simp only [vcs] at hcs
 subst hcs
 have hR:=kB hb4 H2.out
 have HB4:=Qq (HB3.out.thn hb4);have HV4:=Qq hr4;have HR:=Qq hR
 have fz:=fun j=>frozen_of_row _ _ j _ _ hR
 have f0:=fz 0;have f1:=fz 1;have f2:=fz 2;have f3:=fz 3;have f4:=fz 4
 have rr:=fun j=>Qk _ _ j _ _ _ hR
 have r0:=rr 0;have r1:=rr 1;have r2:=rr 2;have r3:=rr 3;have r4:=rr 4
 simp only [List.getElem?_toArray,List.getElem?_cons_zero,List.getElem?_cons_succ] at r0 r1 r2 r3 r4
 clear fz rr hr4 hb4 hR
 go_wp2_with fail
 show bodyPost _ _ _ _ _ (Zz w4 (w.heap.size+1+1) (.int .i64 r.kind) (.int .i64 r.n) (.string ⟨r.s.toArray⟩) (.slice q3 r.names.length l3) (.slice q4 r.kids.length l4))
 refine Q7 (v:=.agg #[.int .i64 r.kind,.int .i64 r.n,.string ⟨r.s.toArray⟩,.slice q3 r.names.length l3,.slice q4 r.kids.length l4]) (by simp [results,results130,go_sem,Qm HR.out]) rfl ⟨_,rfl,?_,Qo HB4.out (by omega)⟩
 exact Qh.move HV4.out (fun b hb _=>Qu (by have:=hb.2;omega)) (fun _ _ h=>h.1)
theorem S9 (p:Addr) (w:World):
  CallsD prog 128 #[.pointer (some p)] .returning w fun e u' w'=>e=.returned (.tuple #[])∧u'=.returning∧w'=w:=by
 refine callsD_of_wpS func128 rfl fun c₀ cs hu=>?_
 apply wpS_seq
 apply wpS_region
 simp [wpOpsS,go_sem,recoverD,hu,ntmps128,Exit.thenS]
 rw [show (#[Value.pointer (some p)]++(Array.replicate 9 undef).setIfInBounds 3 Value.nilIface)=#[.pointer (some p),undef,undef,undef,.nilIface,undef,undef,undef,undef,undef] from rfl]
 refine wpS_of_wp ?_
 go_wp2_with fail
 cases c₀
 simp_all [bodyPostS,results,results128]
def Gu (v:Val):List (Bs × Val):=(v.names.zip v.kids).reverse
theorem He (l:List Bs) (m:List Val):l.zip (m.take l.length)=l.zip m:=by
 induction l generalizing m with
 | nil=>rfl
 | cons a l ih=>cases m with
  | nil=>rfl
  | cons b m=>simp [ih]
theorem zip_snoc (l:List Bs) (m:List Val) (k:Nat) (x:Bs) (u:Val) (hx:l[k]?=some x) (hu:m[k]?=some u):((l.take (k+1)).zip (m.take (k+1))).reverse=(x,u)::((l.take k).zip (m.take k)).reverse:=by
 rw [List.take_add_one,List.take_add_one,hx,hu]
 have h1:k<l.length:=(Qj hx).1
 have h2:k<m.length:=(Qj hu).1
 rw [List.zip_append (by rw [List.length_take,List.length_take];omega)]
 simp
theorem sat_ok (S0 S1:Nat→Prop) (t:Tbl) (v:Val) (ct cr:List Value) (b:Bool) (w:World) (ht0:Qt.R S0 w ct t) (hr0:Qh S1 w cr v) (hsi:Ux t.check=true) (hev:EvV t.check (Gu v) (J9 b)) (hln:v.names.length≤v.kids.length):
  Calls prog 96 #[.agg ct.toArray,.agg cr.toArray] w fun e w'=>e=.returned (.bool b)∧Below w.heap.size w w':=by
 have hmf:∀ (fn:Fn) (first cap:Array Value) (w:World),(Instr.makeFunc fn first cap).run prog w=.ok (.func fn first cap) w:=fun _ _ _ _=>rfl
 have ht:Qt.R (fun b=>b<w.heap.size) w ct t:=Qt.mono ht0 (fun b hb _=>hb)
 have hr:Qh (fun b=>b<w.heap.size) w cr v:=hr0.move (.refl _ _) (fun b hb _=>hb)
 obtain ⟨cp9,cc9,kp9,kc9,rp9,rc9,k9,s19,n9,s29,p19,n19,c19,p29,n29,c29,p39,n39,c39,a9,z9,hcs,_,_,_,_,hex⟩:=Zk ht
 simp only [tcs] at hcs
 subst hcs
 obtain ⟨p3,k3,p4,k4,hcs,hnm,hkd,_⟩:=Qh.cells hr
 simp only [vcs] at hcs
 subst hcs
 have HSi:=Qq (fun W (hb:Below w.heap.size w W)=>hsi ▸ simpAt t.check _ _ W (Z6.move hex (.of_below hb) (fun _ _ h=>h)))
 have HEv:=Qq (fun p W (hb:Below w.heap.size w W) (he:Vl (fun _=>True) W p (Gu v))=>hev (fun _=>True) _ _ p W (Z6.move hex (.of_below hb) (fun _ _ h=>h)) he)
 have HNm:=Qq hnm;have HKd:=Qq hkd
 obtain ⟨n,hn⟩:=eX (v.names.length)
 have hnl:n≤1000000:=by rw [← hn];obtain ⟨_,_,_,h⟩:=hnm.len;exact h
 rw [hn] at HNm hln ⊢
 have HN:=Qq hn;have HLn:=Qq hln
 clear ht ht0 hr hr0 hex hnm hkd hsi hev hn hln
 go_enter_defers func96,ntmps96
 go_wp2_with fail
 refine (HSi.out _ (Xr _ _ _ _)).mono ?_
 rintro e w1 ⟨rfl,hb1⟩
 have h0:=(hb1.block w.heap.size (by simp;omega)).trans (Zd w _ _ _)
 have h1:=(hb1.block (w.heap.size+1) (by simp)).trans (Z9 w _ _ _)
 have h2:=(hb1.block (w.heap.size+1+1) (by simp)).trans (Zw w _ _ _)
 have HB1:=Qq ((Xr w _ _ _).thn hb1)
 have H0:=Qq h0;have H1:=Qq h1;have H2:=Qq h2
 have x3:=rA3 h1;have x4:=rA4 h1
 clear hb1 h0 h1 h2 HSi
 go_wp2_with fail
 go_loopw [5,16] (fun p i wr=>∃ k:Nat,k≤n∧i=.int .i64 k∧Vl (fun _=>True) wr p ((v.names.take k).zip (v.kids.take k)).reverse∧Below w1.heap.size w1 wr) (fun _ i _=>n - (intOf i).toNat)
 case atStart=>exact ⟨0,Q8 _,rfl,by simp only [List.take_zero,List.zip_nil_left,List.reverse_nil];exact .nil,Qz _ _⟩
 obtain ⟨k,hkn,rfl,hE,hBr⟩:=hrel
 have HBr:=Qq hBr
 have HBw:=Qq (HB1.out.thn hBr)
 have HA0:=Qq (kB hBr H0.out)
 have HA2:=Qq (kB hBr H2.out)
 have y4:=rA4 ((kB hBr H1.out))
 obtain ⟨q,rfl⟩:=hE.ptr
 have HE:=Qq hE
 clear hBr hE
 by_cases hlt:k<n
 ·have hi1:(0:Int)≤(k:Int):=by omega
  have hi2:(k:Int)<(n:Int):=by omega
  have hkv:k<v.kids.length:=by have:=HLn.out;omega
  have hi3:(k:Int)<(v.kids.length:Int):=by omega
  obtain ⟨x,hx⟩:∃ x,v.names[k]?=some x:=⟨_,Qx (by rw [HN.out];exact hlt)⟩
  obtain ⟨u,hu⟩:∃ u,v.kids[k]?=some u:=⟨_,Qx hkv⟩
  obtain ⟨nb,noff,rfl,hnc,hxl⟩:=(HNm.out.below HBw.out).str hx
  obtain ⟨kb,koff,q3,l3,q4,l4,rfl,hkb,hvu,d0,d1,d2,d3,d4⟩:=(HKd.out.below HBw.out).val hu
  have HZ:=Qq (zip_snoc v.names v.kids k x u hx hu)
  have HXL:=Qq hxl;have HVU:=Qq hvu
  clear hx hu hvu hxl hkv
  go_wp2_with fail
  go_roundw
  case measure=>simp [intOf];omega
  case rel=>
   refine ⟨k+1,by omega,by go_num,?_,HBr.out.alloc (by have:=HBr.out.size;omega) _⟩
   rw [HZ.out]
   exact .cons _ q x u q3 l3 q4 l4 _ trivial (Qw _ _) HXL.out (Qh.move HVU.out (.of_below (Qn _ _)) (fun _ _ _=>trivial)) (HE.out.move (.of_below (Qn _ _)) (fun _ _ h=>h))
 have hke:k=n:=by omega
 have hd:decide ((k:Int)<(n:Int))=false:=by simpa using hlt
 have hz:((v.names.take k).zip (v.kids.take k)).reverse=Gu v:=by
  unfold Gu
  rw [hke,← HN.out,List.take_length,He]
 rw [hz] at HE
 have HEV:=Qq (HEv.out (.pointer q) wr HBw.out HE.out)
 have z4:=rA4 HA0.out;have z5:=rA5 HA0.out;have z6:=rA6 HA0.out;have z7:=rA7 HA0.out;have z8:=rA8 HA0.out;have z9':=rA9 HA0.out;have z10:=rA10 HA0.out;have z11:=rA11 HA0.out;have z12:=rA12 HA0.out
 clear hz hke HE HEv
 go_wp2_with fail
 refine HEV.out.mono ?_
 rintro e w5 ⟨cs',rfl,hv5,hb5⟩
 have HTr:=Qq (truth_ok b _ cs' w5 hv5)
 obtain ⟨q3,l3,q4,l4,hcs,_⟩:=Qh.cells hv5
 simp only [vcs] at hcs
 subst hcs
 have HA5:=Qq (kB hb5 HA2.out)
 have HB5:=Qq (HBw.out.thn hb5)
 clear hv5 hb5
 go_wp2_with fail
 refine HTr.out.mono ?_
 rintro e w6 ⟨rfl,hb6⟩
 have hA6:=kB hb6 HA5.out
 have HB6:=Qq (HB5.out.thn hb6)
 have f0:=fA 0 hA6;have r0:=rA0 hA6
 have HA6:=Qq hA6
 clear hb6 hA6
 go_wp2_with fail
 refine leaves_cons (f:=128) (args:=#[.pointer (some ⟨w.heap.size+1+1,0,none⟩)]) (by simp) (by simp [go_sem]) ?_
 refine (S9 ⟨w.heap.size+1+1,0,none⟩ _).mono ?_
 rintro e u' w'' ⟨rfl,rfl,rfl⟩
 have hc:(w6.setCell ⟨w.heap.size+1+1,0,none⟩ (.bool b)).cell? ⟨w.heap.size+1+1,0,none⟩=some (.bool b):=by
  rw [Qk _ _ 0 _ _ _ (heap_setCell_same _ _ _ _ _ _ HA6.out)]
  rfl
 have hb:Below w.heap.size w (w6.setCell ⟨w.heap.size+1+1,0,none⟩ (.bool b)):=HB6.out.setCell (by show w.heap.size≤w.heap.size+1+1;omega) _
 refine ⟨.bool b,by simp [results,results96,go_sem,hc],rfl,hb⟩
end Go.Proofs.YtppbaladeefnkaaGreatDoor
