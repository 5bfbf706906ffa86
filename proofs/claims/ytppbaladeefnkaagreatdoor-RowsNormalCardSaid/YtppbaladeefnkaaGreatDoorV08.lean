import Derived.Test.YtppbaladeefnkaaGreatDoorV07
set_option maxRecDepth 100000
set_option maxHeartbeats 400000000
namespace Go.Proofs.YtppbaladeefnkaaGreatDoor
open Go.RowKit Go.Shelf Go.Lib Go.WideMaps Go.Maps
def Zh (W:World) (R:Nat) (a0 a1 a2 a3 a4 a5 a6 a7 a8 a9 a10 a11:Value):World:=((((((((((((W.setCell ⟨R,0,none⟩ a0).setCell ⟨R,1,none⟩ a1).setCell ⟨R,2,none⟩ a2).setCell ⟨R,3,none⟩ a3).setCell ⟨R,4,none⟩ a4).setCell ⟨R,5,none⟩ a5).setCell ⟨R,6,none⟩ a6).setCell ⟨R,7,none⟩ a7).setCell ⟨R,8,none⟩ a8).setCell ⟨R,9,none⟩ a9).setCell ⟨R,10,none⟩ a10).setCell ⟨R,11,none⟩ a11)
theorem Gv {W:World} {R:Nat} {a0 a1 a2 a3 a4 a5 a6 a7 a8 a9 a10 a11 x0 x1 x2 x3 x4 x5 x6 x7 x8 x9 x10 x11:Value} {t:TypeId} (h:W.heap[R]?=some (.cells #[x0,x1,x2,x3,x4,x5,x6,x7,x8,x9,x10,x11] t (0,0))):(Zh W R a0 a1 a2 a3 a4 a5 a6 a7 a8 a9 a10 a11).heap[R]?=some (.cells #[a0,a1,a2,a3,a4,a5,a6,a7,a8,a9,a10,a11] t (0,0)):=by
 have hq9:=heap_setCell_same _ _ 0 _ _ a0 h;have hq9:=heap_setCell_same _ _ 1 _ _ a1 hq9;have hq9:=heap_setCell_same _ _ 2 _ _ a2 hq9;have hq9:=heap_setCell_same _ _ 3 _ _ a3 hq9;have hq9:=heap_setCell_same _ _ 4 _ _ a4 hq9;have hq9:=heap_setCell_same _ _ 5 _ _ a5 hq9;have hq9:=heap_setCell_same _ _ 6 _ _ a6 hq9;have hq9:=heap_setCell_same _ _ 7 _ _ a7 hq9;have hq9:=heap_setCell_same _ _ 8 _ _ a8 hq9;have hq9:=heap_setCell_same _ _ 9 _ _ a9 hq9;have hq9:=heap_setCell_same _ _ 10 _ _ a10 hq9;have hq9:=heap_setCell_same _ _ 11 _ _ a11 hq9
 simpa [Zh] using hq9
theorem Zb {W:World} {R:Nat} {a0 a1 a2 a3 a4 a5 a6 a7 a8 a9 a10 a11 x0 x1 x2 x3 x4 x5 x6 x7 x8 x9 x10 x11:Value} {t:TypeId} (h:W.heap[R]?=some (.cells #[x0,x1,x2,x3,x4,x5,x6,x7,x8,x9,x10,x11] t (0,0))) (j:Nat):(Zh W R a0 a1 a2 a3 a4 a5 a6 a7 a8 a9 a10 a11).cell? ⟨R,j,none⟩=#[a0,a1,a2,a3,a4,a5,a6,a7,a8,a9,a10,a11][j]?:=
 Qk _ _ _ _ _ _ (Gv h)
theorem Yz {W:World} {R k:Nat} {a0 a1 a2 a3 a4 a5 a6 a7 a8 a9 a10 a11:Value} (h:k≠R):(Zh W R a0 a1 a2 a3 a4 a5 a6 a7 a8 a9 a10 a11).heap[k]?=W.heap[k]?:=by
 unfold Zh
 repeat rw [Qg h]
theorem Z3 {B R:Nat} {w W:World} {a0 a1 a2 a3 a4 a5 a6 a7 a8 a9 a10 a11:Value} (h:Below B w W) (hR:B≤R):Below B w (Zh W R a0 a1 a2 a3 a4 a5 a6 a7 a8 a9 a10 a11):=
 (((((((((((h.setCell (p:=⟨R,0,none⟩) hR _).setCell (p:=⟨R,1,none⟩) hR _).setCell (p:=⟨R,2,none⟩) hR _).setCell (p:=⟨R,3,none⟩) hR _).setCell (p:=⟨R,4,none⟩) hR _).setCell (p:=⟨R,5,none⟩) hR _).setCell (p:=⟨R,6,none⟩) hR _).setCell (p:=⟨R,7,none⟩) hR _).setCell (p:=⟨R,8,none⟩) hR _).setCell (p:=⟨R,9,none⟩) hR _).setCell (p:=⟨R,10,none⟩) hR _).setCell (p:=⟨R,11,none⟩) hR _
def Y3 (P:List Bs) (k:Bs):Option Nat:=P.findIdx? (fun y=>decide (y=k))
theorem Kn (P:List Bs) (k s:Bs):Y3 (P++[k]) s=(match Y3 P s with | some a=>some a | none=>if k=s then some P.length else none):=by
 unfold Y3
 rw [List.findIdx?_append]
 cases P.findIdx? (fun y=>decide (y=s)) with
 | some a=>rfl
 | none=>by_cases h:k=s <;> simp [h]
def Ui (P:List Bs) (st:Nat × Nat) (k:Bs):Nat × Nat:=match Y3 P k with
 | none=>st
 | some a=>if a<st.1 then (a,P.length) else st
def ust (n:Nat) (ks:List Bs):Nat→Nat × Nat
 | 0=>(n,0)
 | i+1=>Ui (ks.take i) (ust n ks i) (ks.getD i [])
theorem Gt {P:List Bs} {k:Bs} {a:Nat} (h:Y3 P k=some a):a<P.length:=by
 unfold Y3 at h
 rw [List.findIdx?_eq_some_iff_getElem] at h
 exact h.1
theorem ust_bd (n:Nat) (ks:List Bs):∀ i,i≤ks.length→(ust n ks i).1=n∨((ust n ks i).1<i∧(ust n ks i).2<i)
 | 0,_=>.inl rfl
 | i+1,hi=>by
  have ih:=ust_bd n ks i (by omega)
  have hl:(ks.take i).length=i:=by rw [List.length_take];omega
  have e:ust n ks (i+1)=Ui (ks.take i) (ust n ks i) (ks.getD i []):=rfl
  rw [e]
  generalize ust n ks i=st at ih ⊢
  unfold Ui
  cases hf:Y3 (ks.take i) (ks.getD i []) with
  | none=>
   rcases ih with h | h
   ·exact .inl h
   exact .inr ⟨by show st.1<i+1;omega,by show st.2<i+1;omega⟩
  | some a=>
   have ha:=Gt hf
   by_cases hlt:a<st.1
   ·simp only [if_pos hlt]
    exact .inr ⟨by omega,by omega⟩
   simp only [if_neg hlt]
   rcases ih with h | h
   ·exact .inl h
   exact .inr ⟨by omega,by omega⟩
def T6 (D:DataW Unit) (P:List Bs):Prop:=IsMap D∧∀ s:Bs,Maps.has D (.string s)=(Y3 P s).isSome∧∀ a,Y3 P s=some a→D.atKey (.string s) (.lit (.int .i64 0))=.lit (.int .i64 (a:Nat))
theorem invD_nil:T6 (.map []) []:=⟨isMap_empty,fun _=>⟨rfl,fun _ h=>by cases h⟩⟩
theorem keyLit (s:Bs):WideAt.IsKeyLit (.string s):=by simp [WideAt.IsKeyLit]
theorem invD_new {D:DataW Unit} {P:List Bs} {k:Bs} (h:T6 D P) (hk:Y3 P k=none):T6 (D.put (.string k) (.lit (.int .i64 (P.length:Nat)))) (P++[k]):=by
 refine ⟨h.1.put _ _,fun s=>?_⟩
 rw [Kn]
 by_cases hs:s=k
 ·subst hs
  rw [hk]
  simp only [if_true]
  refine ⟨has_put_same h.1 (keyLit _) _,fun a ha=>?_⟩
  cases ha
  exact atKey_put_same h.1 (keyLit _) _ _
 have hne:(Lit.string s)≠.string k:=fun e=>hs (by injection e)
 rw [has_put_other hne,atKey_put_other hne]
 have h2:=(h.2 s)
 cases hf:Y3 P s with
 | none=>rw [hf] at h2;simp only [if_neg (fun e=>hs (Eq.symm e))];exact ⟨h2.1,fun a ha=>by cases ha⟩
 | some a=>rw [hf] at h2;exact h2
theorem L9 {D:DataW Unit} {P:List Bs} {k:Bs} {a:Nat} (h:T6 D P) (hk:Y3 P k=some a):T6 D (P++[k]):=by
 refine ⟨h.1,fun s=>?_⟩
 rw [Kn]
 have h2:=h.2 s
 cases hf:Y3 P s with
 | some b=>rw [hf] at h2;exact h2
 | none=>
  have hs:k≠s:=fun e=>by subst e;rw [hf] at hk;cases hk
  rw [hf] at h2
  simp only [if_neg hs]
  exact h2
theorem Hc {w w':World} {k:TypeId} {R:Value→Option (DataW Unit × List MemPlace)} {b n:Nat} {D:DataW Unit} (h:w.ownsMap Tryz.prog k R b n D) (e:w'.heap[b]?=w.heap[b]?):w'.ownsMap Tryz.prog k R b n D:=by
 obtain ⟨es,c,h1,h2⟩:=h
 exact ⟨es,c,e.trans h1,h2⟩
theorem Gc {w:World} {k:TypeId} {R:Value→Option (DataW Unit × List MemPlace)} {b n:Nat} {D:DataW Unit} (h:w.ownsMap Tryz.prog k R b n D):b<w.heap.size:=by
 obtain ⟨es,c,h1,h2⟩:=h
 exact Qf h1
def kb (l:List Int):Bs:=(l.map J3).flatten
structure Hg (t:Tbl) (rows:List Val) (K:Val→List Int):Prop where
 key:∀ row ∈ rows,keyOf t.key row=some ((K row).map Xi)
 bd:∀ row ∈ rows,∀ x ∈ K row,-2305843009213693952≤x∧x<2305843009213693952
 len:∀ row ∈ rows,(K row).length≤3
def U7 (rows:List Val) (st:Nat × Nat):Ft:=if st.1=rows.length then Ft.zero else ⟨11,[],rows.getD st.1 Val.zero,rows.getD st.2 Val.zero⟩
structure UMid (w W1:World) (ks:List Bs) (k:Nat) (wr:World):Prop where
 below:Below w.heap.size w wr
 keep:∀ b,b<w.heap.size+2→wr.heap[b]?=W1.heap[b]?
 map:∃ D,wr.ownsMap Tryz.prog 9 (plainElem Tryz.prog 3) (w.heap.size+2) k D∧T6 D (ks.take k)
theorem law9:Keyed Tryz.prog 9:=string_keyed Tryz.underlying9
theorem zero3 (w:World):(zeroValue 3).run Tryz.prog w=.ok (.int .i64 0) w:=by kernel_rfl
theorem O2 (S S':Nat→Prop) (t:Tbl) (rows:List Val) (K:Val→List Int) (ct:List Value) (v:Value) (w:World) (ht:Qt.R S w ct t) (hv0:Sl Ql S' w v rows) (hK:Hg t rows K) (hl:rows.length≤100000) (hkl:t.key.length≤1000):
  Calls Tryz.prog 91 #[.agg ct.toArray,v] w (Ka S' w (U7 rows (ust rows.length (rows.map fun r=>kb (K r)) rows.length))):=by
 have hmm:=@run_makeMap Tryz.prog
 have hv:=hv0.up
 have HKey:=Qq (fun row cr (hm:row ∈ rows) W (hb:Below w.heap.size w W) (hr:Qh (fun b=>S' b∧b<w.heap.size) W cr row)=>(hK.key row hm) ▸ Or S (fun b=>S' b∧b<w.heap.size) t row ct cr W (Qt.frame ht (.of_below hb)) hr hkl)
 have HEnc:=Qq (fun (n:Int) cs W (h0:-2305843009213693952≤n) (h1:n<2305843009213693952) (h:Qh (fun _=>True) W cs (Xi n))=>Nz _ n [] [] cs W h h0 h1)
 obtain ⟨cp0,cc0,kp0,kc0,rp0,rc0,k0,s1,n0,s2,p1,n1,c1,p2,n2,c2,p3,n3,c3,a0,z0,rfl,_,_,_,_,_⟩:=Zk ht
 obtain ⟨vp,vcap,rfl,_⟩:=hv.len
 unfold tcs at HKey ⊢
 have HV:=Qq hv;have HKK:=Qq hK
 obtain ⟨i5,j1,j2,j3,j4⟩:=Za (P:=Tryz.prog) (t:=5) (z:=.int .u8 0) (n:=1) (b:=1) (by kernel_rfl)
 have HJ:=Qq j1;have HJ2:=Qq j2;have HJ3:=Qq j3;have HJ4:=Qq j4
 clear ht hv hv0 hK j1 j2 j3 j4
 obtain ⟨ks,hks⟩:=eX ((rows.map fun r=>kb (K r)))
 rw [hks]
 have hkn:ks.length=rows.length:=by rw [← hks,List.length_map]
 obtain ⟨n,hn⟩:=eX (rows.length)
 rw [hn] at HV hl hkn ⊢
 have HN:=Qq hn;have HKs:=Qq hks;have HKN:=Qq hkn
 clear hn hks hkn
 go_enter Tryz.func91,Tryz.ntmps91
 go_wp2_with fail
 generalize hW1:((w.alloc (.cells #[.string ⟨t.name.toArray⟩,.slice cp0 t.columns.length cc0,.slice kp0 t.key.length kc0,.slice rp0 t.refs.length rc0,.int .i64 k0,.string s1,.int .i64 n0,.string s2,.slice p1 n1 c1,.slice p2 n2 c2,.slice p3 n3 c3,.int .i64 a0,.int .i64 z0] 37)).alloc (.cells zF 94)).alloc (.map #[] 0)=W1
 have hM0:UMid w W1 ks 0 W1:=by
  refine ⟨by rw [← hW1];exact Xr _ _ _ _,fun _ _=>rfl,.map [],?_,invD_nil⟩
  rw [← hW1]
  have e:((w.alloc (.cells #[.string ⟨t.name.toArray⟩,.slice cp0 t.columns.length cc0,.slice kp0 t.key.length kc0,.slice rp0 t.refs.length rc0,.int .i64 k0,.string s1,.int .i64 n0,.string s2,.slice p1 n1 c1,.slice p2 n2 c2,.slice p3 n3 c3,.int .i64 a0,.int .i64 z0] 37)).alloc (.cells zF 94)).heap.size=w.heap.size+2:=by simp
  rw [← e]
  exact World.ownsMap_made _ _ _ _
 have hX0:W1.heap[w.heap.size]?=some (.cells #[.string ⟨t.name.toArray⟩,.slice cp0 t.columns.length cc0,.slice kp0 t.key.length kc0,.slice rp0 t.refs.length rc0,.int .i64 k0,.string s1,.int .i64 n0,.string s2,.slice p1 n1 c1,.slice p2 n2 c2,.slice p3 n3 c3,.int .i64 a0,.int .i64 z0] 37 (0,0)):=by rw [← hW1,Below.heap_alloc _ _ _ (by simp;omega)];exact Q5 _ _ _
 have hR0:W1.heap[w.heap.size+1]?=some (.cells zF 94 (0,0)):=by rw [← hW1,Below.heap_alloc _ _ _ (by simp)];exact Q6 _ _ _
 have HM0:=Qq hM0;have HX0:=Qq hX0;have HR0:=Qq hR0
 clear hM0 hX0 hR0 hW1
 go_loopw [6,7,21] (fun bst oth i wr=>∃ (k:Nat) (st:Nat × Nat),k≤n∧i=.int .i64 k∧Aside (ust n ks k=st)∧bst=.int .i64 (st.1:Nat)∧oth=.int .i64 (st.2:Nat)∧UMid w W1 ks k wr) (fun _ _ i _=>n - (intOf i).toNat)
 case atStart=>exact ⟨0,(n,0),Q8 _,rfl,rfl,rfl,rfl,HM0.out⟩
 obtain ⟨k,st,hk,rfl,hst,rfl,rfl,hM⟩:=hrel
 have HM:=Qq hM;have HSt:=Qq hst.out
 have hX:=(hM.keep _ (by omega)).trans HX0.out
 have hR:=(hM.keep _ (by omega)).trans HR0.out
 have hszr:w.heap.size+2<wr.heap.size:=by
  obtain ⟨D,hD,_⟩:=hM.map
  exact Gc hD
 clear hst
 have hx0:w.heap.size<wr.heap.size:=by omega
 have hxn:w.heap.size≠wr.heap.size:=by omega
 by_cases hlt:k<n
 ·have hi1:(0:Int)≤(k:Int):=by omega
  have hi2:(k:Int)<(n:Int):=by omega
  obtain ⟨row,hrow⟩:∃ row,rows[k]?=some row:=⟨_,Qx (by rw [HN.out];exact hlt)⟩
  obtain ⟨vb',voff,p3',k3',p4',k4',rfl,hvb,hvr,d0,d1,d2,d3,d4⟩:=(HV.out.below hM.below).val hrow
  obtain ⟨y0,y1,y2,y3,y4,y5,y6,y7,y8,y9,y10,y11,y12⟩:=row13 hX
  have hmem:=Qy hrow
  have hKey5:=HKey.out row (vcs row p3' k3' p4' k4') hmem (wr.alloc (.cells #[.int .i64 row.kind,.int .i64 row.n,.string ⟨row.s.toArray⟩,.slice p3' row.names.length k3',.slice p4' row.kids.length k4'] 44)) (hM.below.thn (Qn _ _)) (hvr.move (.of_below (Qn _ _)) (fun _ _ h=>h))
  have HKey5:=Qq hKey5
  have hbd:=HKK.out.bd row hmem
  have hlen3:=HKK.out.len row hmem
  have hkey:ks[k]?=some (kb (K row)):=by rw [← HKs.out,List.getElem?_map,hrow];rfl
  have HBd:=Qq hbd;have HKs1:=Qq hkey
  clear hrow hvr hmem hKey5 hbd hkey hM hX hR
  obtain ⟨L,hL⟩:=eX (K row)
  rw [hL] at HKey5 HBd HKs1 hlen3
  clear hL
  go_wp2_with fail
  unfold vcs at HKey5
  refine HKey5.out.mono ?_
  rintro e w5 ⟨kp,kn,kcap,rfl,hkn5,hsl5,hb5⟩
  rw [Option.getD_some,List.length_map] at hkn5
  subst hkn5
  rw [Option.getD_some] at hsl5
  have hbr5:Below wr.heap.size wr w5:=(Qn _ _).thn hb5
  have HSl5:=Qq (hsl5.mono (S':=fun _=>True) (fun _ _ _=>trivial));have HBr5:=Qq hbr5
  have hsz5:=hbr5.size
  clear hsl5 hb5 hbr5 y0 y1 y2 y3 y4 y5 y6 y7 y8 y9 y10 y11 y12 d0 d1 d2 d3 d4
  go_wp2_with fail
  go_loopw [11,31] (fun b j wv=>∃ (q:Nat) (bs:Bs) (p:Option Addr) (cap:Nat),q≤L.length∧j=.int .i64 q∧b=.slice p bs.length cap∧Aside (bs=kb (L.take q))∧Below w5.heap.size w5 wv∧bs.length≤20*q ∧
   ∃ css,Own Xz 5 (fun _=>True) w5.heap.size wv (.slice p bs.length cap) bs css) (fun _ j _=>L.length - (intOf j).toNat)
  case atStart=>exact ⟨0,[],none,0,Q8 _,rfl,rfl,rfl,Qz _ _,by simp,[],Own.nil _ _ _ _ _⟩
  obtain ⟨q,bs,p,cap,hq,rfl,rfl,hE,hBv,hbl,css,hO⟩:=hrel
  have HBv:=Qq hBv;have HO:=Qq hO;have HE:=Qq hE.out
  have hszv:=hBv.size
  clear hBv hO hE
  by_cases hql:q<L.length
  ·have hi3:(0:Int)≤(q:Int):=by omega
   have hi4:(q:Int)<(L.length:Int):=by omega
   obtain ⟨x,hx⟩:∃ x,L[q]?=some x:=⟨_,Qx hql⟩
   have hxv:(L.map Xi)[q]?=some (Xi x):=by rw [List.getElem?_map,hx];rfl
   have hsv:=(HSl5.out.below HBv.out).val hxv
   simp only [Xi,Val.kind,Val.n,Val.s,Val.names,Val.kids,List.length_nil] at hsv
   obtain ⟨ub,uoff,q3,l3,q4,l4,rfl,hub,huv,e0,e1,e2,e3,e4⟩:=hsv
   simp only [vcs,Val.kind,Val.n,Val.s,Val.names,Val.kids,List.length_nil] at huv
   have HX:=Qq hx
   have hbx:=HBd.out x (Qy hx)
   have hEn:=HEnc.out x _ (wr.alloc (.cells #[.int .i64 0,.int .i64 x,.string ⟨#[]⟩,.slice q3 0 l3,.slice q4 0 l4] 44)) hbx.1 hbx.2 (Qh.move huv (.of_below (Qn _ _)) (fun _ _ h=>h))
   have HEn:=Qq hEn
   have hel:=Mm hbx.1 hbx.2
   have hne:J3 x≠[]:=by
    unfold J3
    intro e
    have:=congrArg List.length e
    rw [List.length_append] at this
    have h2:vb (zz 0)=[0]:=by rw [show zz 0=0 from rfl,Fj (by omega)];rfl
    rw [h2] at this
    simp at this
   have HNe:=Qq hne
   clear hx hxv huv hbx hEn hne
   go_wp2_with fail
   refine HEn.out.mono ?_
   rintro e w6 ⟨ep,ecap,ecs,rfl,hO6,hb6⟩
   have hb6':Below wr.heap.size wr w6:=(Qn _ _).thn hb6
   have hOv:Own Xz 5 (fun _=>True) w5.heap.size w6 (.slice p bs.length cap) bs css:=HO.out.below hb6'
   have hY:Sl Xz (But (fun _=>True) (.slice p bs.length cap)) w6 (.slice ep (J3 x).length ecap) (J3 x):=by
    have hO6':Own Xz 5 (fun _=>False) _ w6 (.slice ep (J3 x).length ecap) (J3 x) ecs:=⟨hO6.row,⟨hO6.cs.len,fun i c y hc hy=>hO6.cs.R i c y hc hy⟩⟩
    refine hO6'.sl (by omega) (fun b hb=>⟨trivial,fun e=>?_⟩) (fun b hb h=>h.elim)
    have h1:=(HO.out.row.lt b e.symm).2
    have h2:wr.heap.size+1≤b:=by simpa using hb
    omega
   have HB6:=Qq hb6';have HOv:=Qq hOv;have HY:=Qq hY
   have hsz6:=hb6'.size
   clear hO6 hb6 hb6' hOv hY e0 e1 e2 e3 e4
   go_wp2_with (at_builtin;refine J0 (r:=Xz) (by decide) rfl (.tmp 35) (.tmp 37) _ rfl 5 i5 (.int .u8 0) 1 Tryz.underlying143 HJ.out HJ2.out HJ3.out HJ4.out rfl (by omega) (fun _=>True) w5.heap.size w6 (.slice p bs.length cap) bs css (J3 x) ep (J3 x).length ecap rfl HOv.out rfl HY.out rfl HNe.out Ly (by omega) (by omega) ?_;intro p7 cap7 css7 w7 hO7 hg7 hat7;have HO7:=Qq hO7;have HG7:=Qq hg7;clear hO7 hg7 hat7)
   go_roundw
   case measure=>simp [intOf];omega
   case rel=>
    refine ⟨q+1,bs++J3 x,p7,cap7,by omega,by go_num,by rw [List.length_append],(show Aside _ from ?_),(HBv.out.thn HB6.out).grown HG7.out (by omega) (fun g hg=>(HOv.out.row.lt g hg).1),by rw [List.length_append];omega,css7,by rw [List.length_append];exact HO7.out⟩
    have:bs++J3 x=kb (L.take (q+1)):=by
     obtain ⟨hq',rfl⟩:=Qj HX.out
     rw [HE.out,List.take_succ_eq_append_getElem hq']
     unfold kb
     rw [List.map_append,List.flatten_append]
     simp only [List.map_cons,List.map_nil,List.flatten_cons,List.flatten_nil,List.append_nil]
    exact this
  have hqm:q=L.length:=by omega
  subst hqm
  have hbs:bs=kb L:=by rw [HE.out,List.take_of_length_le (Q9 _)]
  have hconv:=conv_own HO.out
  obtain ⟨D,hD,hI⟩:=HM.out.map
  have hDv:wr.ownsMap Tryz.prog 9 (plainElem Tryz.prog 3) (w.heap.size+2) k D:=Hc hD (by rw [HBv.out.block _ (by omega),HBr5.out.block _ hszr])
  have hko:Go.keyOf Tryz.prog 9 (.string ⟨bs.toArray⟩)=some (.string bs):=keyOf_string_mk Tryz.underlying9 (by rw [Yo];unfold maxLen;omega)
  have Qi:∀ b,b<w.heap.size+2→wr.heap[b]?=W1.heap[b]?:=fun b hb=>by
   rw [HBv.out.block _ (by omega),HBr5.out.block _ (by omega)]
   exact HM.out.keep b hb
  have hbelow:Below w.heap.size w wr:=HM.out.below.thn (HBr5.out.thn HBv.out)
  have hlk:(ks.take k).length=k:=by rw [List.length_take,HKN.out];omega
  have htk:ks.take (k+1)=ks.take k++[bs]:=by
   obtain ⟨hk',e⟩:=Qj HKs1.out
   rw [List.take_succ_eq_append_getElem hk',e,hbs]
  have hus:ust n ks (k+1)=Ui (ks.take k) st bs:=by
   show Ui (ks.take k) (ust n ks k) (ks.getD k [])=_
   rw [HSt.out,List.getD_eq_getElem?_getD,HKs1.out,Option.getD_some,hbs]
  have HD:=Qq hDv;have HI:=Qq hI;have HKO:=Qq hko;have HKeep:=Qq Qi;have HBel:=Qq hbelow;have HLk:=Qq hlk;have HTk:=Qq htk;have HUs:=Qq hus
  have hwf:(Lit.int .i64 (k:Int)).wf=true:=WalkArith.wf_i64 (by omega)
  have HWf:=Qq hwf
  clear hbs hD hI hDv hko Qi hbelow hlk htk hus hwf
  cases hf:Y3 (ks.take k) bs with
  | none=>
   have hhas:Maps.has D (.string bs)=false:=by rw [(HI.out.2 bs).1,hf];rfl
   have HF:=Qq hf
   clear hf
   go_wp2_with (first | (at_lookup;refine wpList_lookup_own_ok_int _ rfl (.tmp 41) (.tmp 43) _ rfl 9 3 .i64 law9 Tryz.underlying142 Tryz.underlying3 (zero3 _) (w.heap.size+2) k D rfl HD.out (.string ⟨bs.toArray⟩) (.string bs) rfl HKO.out ?_;intro c hat hwc;clear hat hwc) | (at_mapUpdate;refine wpList_mapUpdate_own _ rfl (.tmp 49) (.tmp 51) (.tmp 52) _ rfl 9 3 law9 Tryz.underlying142 _ (w.heap.size+2) k D rfl HD.out (by unfold maxLen;omega) (.string ⟨bs.toArray⟩) (.int .i64 k) (.string bs) rfl rfl HKO.out _ [] (plainElem_int Tryz.underlying3 HWf.out) ?_;intro w8 hown8 hgrow8;have HO8:=Qq hown8;have HG8:=Qq hgrow8;clear hown8 hgrow8))
   go_roundw
   case measure=>simp [intOf];omega
   case rel=>
    have hlt2:=Gc HD.out
    refine ⟨k+1,st,by omega,by go_num,(show Aside _ from ?_),rfl,rfl,⟨HBel.out.grown HG8.out HBel.out.size (fun g hg=>by have:=Qb hg;omega),fun b hb=>?_,_,HO8.out,?_⟩⟩
    ·have:ust n ks (k+1)=st:=by rw [HUs.out];unfold Ui;rw [HF.out]
     exact this
    ·rw [HG8.out.block b (by omega) (fun e=>by have:=Qb e;omega)];exact HKeep.out b hb
    rw [HTk.out]
    have:=invD_new HI.out HF.out
    rwa [HLk.out] at this
  | some a=>
   have hhas:Maps.has D (.string bs)=true:=by rw [(HI.out.2 bs).1,hf];rfl
   have HAt:=Qq ((HI.out.2 bs).2 a hf)
   have hal:=Gt hf
   rw [HLk.out] at hal
   have HF:=Qq hf
   clear hf
   by_cases hab:a<st.1
   ·have hab':(a:Int)<(st.1:Int):=by omega
    go_wp2_with (at_lookup;refine wpList_lookup_own_ok_int _ rfl (.tmp 41) (.tmp 43) _ rfl 9 3 .i64 law9 Tryz.underlying142 Tryz.underlying3 (zero3 _) (w.heap.size+2) k D rfl HD.out (.string ⟨bs.toArray⟩) (.string bs) rfl HKO.out ?_;intro c hat hwc;obtain rfl:c=(a:Int):=(by have h1:=hat.symm.trans HAt.out;simpa using h1);clear hat hwc)
    go_roundw
    case measure=>simp [intOf];omega
    case rel=>
     refine ⟨k+1,(a,k),by omega,by go_num,(show Aside _ from ?_),rfl,rfl,⟨HBel.out,HKeep.out,D,?_,?_⟩⟩
     ·have:ust n ks (k+1)=(a,k):=by rw [HUs.out];unfold Ui;rw [HF.out];simp only [if_pos hab,HLk.out]
      exact this
     ·obtain ⟨es,cl,h1,h2,h3,h4⟩:=HD.out
      exact ⟨es,cl,h1,h2,by omega,h4⟩
     rw [HTk.out];exact L9 HI.out HF.out
   have hab':¬ ((a:Int)<(st.1:Int)):=by omega
   go_wp2_with (at_lookup;refine wpList_lookup_own_ok_int _ rfl (.tmp 41) (.tmp 43) _ rfl 9 3 .i64 law9 Tryz.underlying142 Tryz.underlying3 (zero3 _) (w.heap.size+2) k D rfl HD.out (.string ⟨bs.toArray⟩) (.string bs) rfl HKO.out ?_;intro c hat hwc;obtain rfl:c=(a:Int):=(by have h1:=hat.symm.trans HAt.out;simpa using h1);clear hat hwc)
   go_roundw
   case measure=>simp [intOf];omega
   case rel=>
    refine ⟨k+1,st,by omega,by go_num,(show Aside _ from ?_),rfl,rfl,⟨HBel.out,HKeep.out,D,?_,?_⟩⟩
    ·have:ust n ks (k+1)=st:=by rw [HUs.out];unfold Ui;rw [HF.out];simp only [if_neg hab]
     exact this
    ·obtain ⟨es,cl,h1,h2,h3,h4⟩:=HD.out
     exact ⟨es,cl,h1,h2,by omega,h4⟩
    rw [HTk.out];exact L9 HI.out HF.out
 have hkn':k=n:=by omega
 subst hkn'
 have fz:=fun j=>frozen_of_row _ _ j _ _ hR
 have rr:=fun j=>Qk _ _ j _ _ _ hR
 have r0:=rr 0;have f0:=fz 0;have r1:=rr 1;have f1:=fz 1;have r2:=rr 2;have f2:=fz 2;have r3:=rr 3;have f3:=fz 3;have r4:=rr 4;have f4:=fz 4;have r5:=rr 5;have f5:=fz 5;have r6:=rr 6;have f6:=fz 6;have r7:=rr 7;have f7:=fz 7;have r8:=rr 8;have f8:=fz 8;have r9:=rr 9;have f9:=fz 9;have r10:=rr 10;have f10:=fz 10;have r11:=rr 11;have f11:=fz 11
 simp only [List.getElem?_toArray,List.getElem?_cons_zero,List.getElem?_cons_succ] at r0 r1 r2 r3 r4 r5 r6 r7 r8 r9 r10 r11
 have HR:=Qq hR
 have hbd:=ust_bd k ks k (by rw [HKN.out];exact Q9 _)
 rw [HSt.out] at hbd
 clear fz rr hR hX hM
 by_cases hz:st.1=k
 ·have hq:((st.1:Int)==(k:Int))=true:=by rw [hz];simp
  have hun:U7 rows (ust k ks k)=Ft.zero:=by rw [HSt.out];unfold U7;rw [if_pos (by rw [HN.out];exact hz)]
  have HUn:=Qq hun
  clear hun hbd
  have HZ:=Qq hz
  clear hz
  go_wp2_with fail
  show bodyPost _ _ _ _ _ (Zh wr _ _ _ _ _ _ _ _ _ _ _ _ _)
  refine Q7 (v:=.agg zF) (by simp [results,Tryz.results91,go_sem,Zb HR.out]) rfl ⟨[.int .i64 0,.string ⟨#[]⟩,.int .i64 0,.int .i64 0,.string ⟨#[]⟩,.slice none 0 0,.slice none 0 0,.int .i64 0,.int .i64 0,.string ⟨#[]⟩,.slice none 0 0,.slice none 0 0],rfl,by rw [HUn.out];exact Ug _ _,Z3 HM.out.below (by omega)⟩
 obtain ⟨hb1,hb2⟩:=hbd.resolve_left hz
 have hq:((st.1:Int)==(k:Int))=false:=by rw [← Bool.not_eq_true,beq_iff_eq];omega
 obtain ⟨x,hx⟩:∃ x,rows[st.1]?=some x:=⟨_,Qx (by rw [HN.out];exact hb1)⟩
 obtain ⟨y,hy⟩:∃ y,rows[st.2]?=some y:=⟨_,Qx (by rw [HN.out];exact hb2)⟩
 have hun:U7 rows (ust k ks k)=⟨11,[],x,y⟩:=by
  rw [HSt.out]
  unfold U7
  rw [if_neg (by rw [HN.out];exact hz),List.getD_eq_getElem?_getD,List.getD_eq_getElem?_getD,hx,hy];rfl
 have HUn:=Qq hun
 obtain ⟨xb,xoff,p3',k3',p4',k4',rfl,hxb,hvx,d0,d1,d2,d3,d4⟩:=(HV.out.below HM.out.below).val hx
 obtain ⟨yb,yoff,q3',l3',q4',l4',he,hyb,hvy,e0,e1,e2,e3,e4⟩:=(HV.out.below HM.out.below).val hy
 obtain ⟨rfl,rfl,-⟩:xb=yb∧xoff=yoff∧True:=by simpa using he
 have hi1:(0:Int)≤(st.1:Int):=by omega
 have hi2:(st.1:Int)<(k:Int):=by omega
 have hi3:(0:Int)≤(st.2:Int):=by omega
 have hi4:(st.2:Int)<(k:Int):=by omega
 have HVX:=Qq hvx;have HVY:=Qq hvy
 clear hun hbd hz hx hy he hvx hvy hb1 hb2
 go_wp2_with fail
 go_region
 go_wp2_with fail
 obtain ⟨W,hW⟩:=eX (Zh wr (w.heap.size+1) (.int .i64 11) (.string ⟨#[]⟩) (.int .i64 x.kind) (.int .i64 x.n) (.string ⟨x.s.toArray⟩) (.slice p3' x.names.length k3') (.slice p4' x.kids.length k4') (.int .i64 y.kind) (.int .i64 y.n) (.string ⟨y.s.toArray⟩) (.slice q3' y.names.length l3') (.slice q4' y.kids.length l4'))
 have q:∀ j,W.cell? ⟨w.heap.size+1,j,none⟩=#[.int .i64 11,.string ⟨#[]⟩,.int .i64 x.kind,.int .i64 x.n,.string ⟨x.s.toArray⟩,.slice p3' x.names.length k3',.slice p4' x.kids.length k4',.int .i64 y.kind,.int .i64 y.n,.string ⟨y.s.toArray⟩,.slice q3' y.names.length l3',.slice q4' y.kids.length l4'][j]?:=fun j=>by rw [← hW];exact Zb HR.out j
 have hoth:∀ b,b<w.heap.size→W.heap[b]?=wr.heap[b]?:=fun b hb=>by rw [← hW];exact Yz (by omega)
 have hbel:Below w.heap.size w W:=by rw [← hW];exact Z3 HM.out.below (by omega)
 show bodyPost _ _ _ _ _ (World.drew (Zh wr (w.heap.size+1) (.int .i64 11) (.string ⟨#[]⟩) (.int .i64 x.kind) (.int .i64 x.n) (.string ⟨x.s.toArray⟩) (.slice p3' x.names.length k3') (.slice p4' x.kids.length k4') (.int .i64 y.kind) (.int .i64 y.n) (.string ⟨y.s.toArray⟩) (.slice q3' y.names.length l3') (.slice q4' y.kids.length l4')))
 rw [hW]
 have HOth:=Qq hoth;have HBel:=Qq hbel
 have q0:=q 0;have q1:=q 1;have q2:=q 2;have q3:=q 3;have q4:=q 4;have q5:=q 5;have q6:=q 6;have q7:=q 7;have q8:=q 8;have q9:=q 9;have q10:=q 10;have q11:=q 11
 simp only [List.getElem?_toArray,List.getElem?_cons_zero,List.getElem?_cons_succ] at q0 q1 q2 q3 q4 q5 q6 q7 q8 q9 q10 q11
 clear hW hoth hbel q r0 r1 r2 r3 r4 r5 r6 r7 r8 r9 r10 r11 f0 f1 f2 f3 f4 f5 f6 f7 f8 f9 f10 f11
 refine Q7 (v:=.agg #[.int .i64 11,.string ⟨#[]⟩,.int .i64 x.kind,.int .i64 x.n,.string ⟨x.s.toArray⟩,.slice p3' x.names.length k3',.slice p4' x.kids.length k4',.int .i64 y.kind,.int .i64 y.n,.string ⟨y.s.toArray⟩,.slice q3' y.names.length l3',.slice q4' y.kids.length l4']) (by simp [results,Tryz.results91,go_sem,q0,q1,q2,q3,q4,q5,q6,q7,q8,q9,q10,q11]) rfl ⟨[.int .i64 11,.string ⟨#[]⟩,.int .i64 x.kind,.int .i64 x.n,.string ⟨x.s.toArray⟩,.slice p3' x.names.length k3',.slice p4' x.kids.length k4',.int .i64 y.kind,.int .i64 y.n,.string ⟨y.s.toArray⟩,.slice q3' y.names.length l3',.slice q4' y.kids.length l4'],rfl,?_,HBel.out.drew⟩
 rw [HUn.out]
 refine ⟨vcs x p3' k3' p4' k4',vcs y q3' l3' q4' l4',rfl,by simp,?_,?_⟩
 ·exact Qh.move (S':=S') HVX.out (fun b hb _=>HOth.out b hb.2) (fun _ _ h=>h.1)
 exact Qh.move (S':=S') HVY.out (fun b hb _=>HOth.out b hb.2) (fun _ _ h=>h.1)
open Go.RowKit Go.Shelf Go.Lib Tryz
def Xa (W:World) (R:Nat) (a0 a1 a2 a3 a4 a5 a6 a7 a8 a9 a10 a11 a12:Value):World:=(((((((((((((W.setCell ⟨R,0,none⟩ a0).setCell ⟨R,1,none⟩ a1).setCell ⟨R,2,none⟩ a2).setCell ⟨R,3,none⟩ a3).setCell ⟨R,4,none⟩ a4).setCell ⟨R,5,none⟩ a5).setCell ⟨R,6,none⟩ a6).setCell ⟨R,7,none⟩ a7).setCell ⟨R,8,none⟩ a8).setCell ⟨R,9,none⟩ a9).setCell ⟨R,10,none⟩ a10).setCell ⟨R,11,none⟩ a11).setCell ⟨R,12,none⟩ a12)
theorem G7 {W:World} {R:Nat} {a0 a1 a2 a3 a4 a5 a6 a7 a8 a9 a10 a11 a12 x0 x1 x2 x3 x4 x5 x6 x7 x8 x9 x10 x11 x12:Value} {t:TypeId} (h:W.heap[R]?=some (.cells #[x0,x1,x2,x3,x4,x5,x6,x7,x8,x9,x10,x11,x12] t (0,0))):(Xa W R a0 a1 a2 a3 a4 a5 a6 a7 a8 a9 a10 a11 a12).heap[R]?=some (.cells #[a0,a1,a2,a3,a4,a5,a6,a7,a8,a9,a10,a11,a12] t (0,0)):=by
 have hq9:=heap_setCell_same _ _ 0 _ _ a0 h;have hq9:=heap_setCell_same _ _ 1 _ _ a1 hq9;have hq9:=heap_setCell_same _ _ 2 _ _ a2 hq9;have hq9:=heap_setCell_same _ _ 3 _ _ a3 hq9;have hq9:=heap_setCell_same _ _ 4 _ _ a4 hq9;have hq9:=heap_setCell_same _ _ 5 _ _ a5 hq9;have hq9:=heap_setCell_same _ _ 6 _ _ a6 hq9;have hq9:=heap_setCell_same _ _ 7 _ _ a7 hq9;have hq9:=heap_setCell_same _ _ 8 _ _ a8 hq9;have hq9:=heap_setCell_same _ _ 9 _ _ a9 hq9;have hq9:=heap_setCell_same _ _ 10 _ _ a10 hq9;have hq9:=heap_setCell_same _ _ 11 _ _ a11 hq9;have hq9:=heap_setCell_same _ _ 12 _ _ a12 hq9
 simpa [Xa] using hq9
theorem Vw {W:World} {R:Nat} {a0 a1 a2 a3 a4 a5 a6 a7 a8 a9 a10 a11 a12 x0 x1 x2 x3 x4 x5 x6 x7 x8 x9 x10 x11 x12:Value} {t:TypeId} (h:W.heap[R]?=some (.cells #[x0,x1,x2,x3,x4,x5,x6,x7,x8,x9,x10,x11,x12] t (0,0))) (j:Nat):(Xa W R a0 a1 a2 a3 a4 a5 a6 a7 a8 a9 a10 a11 a12).cell? ⟨R,j,none⟩=#[a0,a1,a2,a3,a4,a5,a6,a7,a8,a9,a10,a11,a12][j]?:=
 Qk _ _ _ _ _ _ (G7 h)
theorem Vf {W:World} {R k:Nat} {a0 a1 a2 a3 a4 a5 a6 a7 a8 a9 a10 a11 a12:Value} (h:k≠R):(Xa W R a0 a1 a2 a3 a4 a5 a6 a7 a8 a9 a10 a11 a12).heap[k]?=W.heap[k]?:=by
 unfold Xa
 repeat rw [Qg h]
theorem Yd {B R:Nat} {w W:World} {a0 a1 a2 a3 a4 a5 a6 a7 a8 a9 a10 a11 a12:Value} (h:Below B w W) (hR:B≤R):Below B w (Xa W R a0 a1 a2 a3 a4 a5 a6 a7 a8 a9 a10 a11 a12):=
 ((((((((((((h.setCell (p:=⟨R,0,none⟩) hR _).setCell (p:=⟨R,1,none⟩) hR _).setCell (p:=⟨R,2,none⟩) hR _).setCell (p:=⟨R,3,none⟩) hR _).setCell (p:=⟨R,4,none⟩) hR _).setCell (p:=⟨R,5,none⟩) hR _).setCell (p:=⟨R,6,none⟩) hR _).setCell (p:=⟨R,7,none⟩) hR _).setCell (p:=⟨R,8,none⟩) hR _).setCell (p:=⟨R,9,none⟩) hR _).setCell (p:=⟨R,10,none⟩) hR _).setCell (p:=⟨R,11,none⟩) hR _).setCell (p:=⟨R,12,none⟩) hR _
def Tbl.zero:Tbl:=⟨[],[],[],[],.mk 0 [] 0 [] [] [] [] 0 0⟩
theorem K8 (S:Nat→Prop) (w:World):Qt.R S w [.string ⟨#[]⟩,.slice none 0 0,.slice none 0 0,.slice none 0 0,.int .i64 0,.string ⟨#[]⟩,.int .i64 0,.string ⟨#[]⟩,.slice none 0 0,.slice none 0 0,.slice none 0 0,.int .i64 0,.int .i64 0] Tbl.zero:=
 ⟨_,_,_,_,rfl,by simp [Tbl.zero],Sl.nil _ _ _,Sl.nil _ _ _,Sl.nil _ _ _,Yk (nm:=[]) (s:=[]) (by simp) (by simp) (Sl.nil _ _ _) (Sl.nil _ _ _) (Sl.nil _ _ _)⟩
theorem O6 (S:Nat→Prop) (t:Tbl) (ct:List Value) (w:World) (h:Qt.R S w ct t):
  Calls prog 77 #[.agg ct.toArray] w fun e w'=>e=.returned (sv t.name)∧Below w.heap.size w w':=by
 obtain ⟨cp,cc,kp,kc,rp,rc,k,s1,n,s2,p1,n1,c1,p2,n2,c2,p3,n3,c3,a,z,hcs,_⟩:=Zk h
 simp only [tcs] at hcs
 subst hcs
 clear h
 unfold sv
 go_enter func77,ntmps77
 go_wp2_with fail
 go_ret
 exact ⟨rfl,Qn _ _⟩
def Z5 (l:List Tbl) (x:Bs):Option Tbl:=l.find? (fun t=>decide (t.name=x))
def NamedIs (S:Nat→Prop) (w:World) (o:Option Tbl) (e:Ending) (w':World):Prop:=∃ cs',e=.returned (.tuple #[.agg cs'.toArray,.bool o.isSome])∧Qt.R (fun b=>S b∧b<w.heap.size) w' cs' (o.getD Tbl.zero)∧Below w.heap.size w w'
theorem Ra (S:Nat→Prop) (l:List Tbl) (v:Value) (x0:Bs) (w:World) (hv0:Sl Qt S w v l):
  Calls prog 76 #[v,.func (.func 77) #[] #[],sv x0] w (NamedIs S w (Z5 l x0)):=by
 have hv:=hv0.up
 obtain ⟨vp,vcap,rfl,hl⟩:=hv.len
 have HV:=Qq hv
 clear hv hv0
 obtain ⟨m,hm⟩:=eX (l.length)
 rw [hm] at HV hl ⊢
 have HN:=Qq hm
 clear hm
 obtain ⟨r,hr⟩:=eX (Z5 l x0)
 rw [hr]
 have HR:=Qq hr
 clear hr
 unfold sv
 go_enter func76,ntmps76
 go_wp2_with fail
 generalize hW1:w.alloc (.cells zT 37)=W1
 have hb1:=eqB hW1 (Qn _ _)
 have hR1:=eqH (b:=w.heap.size) hW1 (Qw _ _)
 have HB1:=Qq hb1;have HR1:=Qq hR1
 clear hW1 hb1 hR1
 go_loopw [13] (fun i wr=>∃ k:Nat,k≤m∧i=.int .i64 k∧Aside (∀ (j:Nat) (y:Tbl),j<k→l[j]?=some y→decide (y.name=x0)=false)∧Below W1.heap.size W1 wr) (fun i _=>m - (intOf i).toNat)
 case atStart=>exact ⟨0,Q8 _,rfl,fun j _ hj=>absurd hj (Nat.not_lt_zero _),Qz _ _⟩
 obtain ⟨k,hk,rfl,hA,hB⟩:=hrel
 have hres:=kB hB HR1.out
 have hlt0:=Qf hres
 have HA:=Qq hA.out;have HB:=Qq (HB1.out.thn hB);have HBr:=Qq hB
 clear hA hB
 by_cases hlt:k<m
 ·have hi1:(0:Int)≤(k:Int):=by omega
  have hi2:(k:Int)<(m:Int):=by omega
  obtain ⟨x,hx⟩:∃ x,l[k]?=some x:=⟨_,Qx (by rw [HN.out];exact hlt)⟩
  obtain ⟨bb,off,cx,rfl,hbb,-,-,hvx,hcx⟩:=(HV.out.below HB.out).elem hx
  have HNm:=Qq (O6 _ x cx (wr.alloc (.cells cx.toArray 37)) (Qt.frame hvx (.of_below (Qn _ _))))
  have HVX:=Qq hvx
  obtain ⟨cp9,cc9,kp9,kc9,rp9,rc9,k9,s19,n9,s29,p19,n19,c19,p29,n29,c29,p39,n39,c39,a9,z9,hcs,_⟩:=Zk hvx
  simp only [tcs] at hcs
  subst hcs
  have y0:=hcx 0 _ rfl;have y1:=hcx 1 _ rfl;have y2:=hcx 2 _ rfl;have y3:=hcx 3 _ rfl;have y4:=hcx 4 _ rfl;have y5:=hcx 5 _ rfl;have y6:=hcx 6 _ rfl;have y7:=hcx 7 _ rfl;have y8:=hcx 8 _ rfl;have y9:=hcx 9 _ rfl;have y10:=hcx 10 _ rfl;have y11:=hcx 11 _ rfl;have y12:=hcx 12 _ rfl
  simp only [show Qt.k=13 from rfl,Nat.add_zero] at y0 y1 y2 y3 y4 y5 y6 y7 y8 y9 y10 y11 y12
  have HX:=Qq hx;have HRes:=Qq hres
  clear hx hvx hcx hres
  unfold sv at HNm
  by_cases he:x.name=x0
  ·have hq:(x.name==x0)=true:=by rw [he];simp
   have hr1:r=some x:=by
    rw [← HR.out]
    unfold Z5
    obtain ⟨hk',hxe⟩:=Qj HX.out
    rw [List.find?_eq_some_iff_getElem]
    refine ⟨by simp [he],k,hk',hxe,fun j hj=>?_⟩
    have:=HA.out j _ hj (Qx (by omega))
    simpa using this
   have HR2:=Qq hr1
   clear hr1 he
   go_wp2_with fail
   refine HNm.out.mono ?_
   rintro e w5 ⟨rfl,hw⟩
   have hX5:=(hw.block wr.heap.size (by simp)).trans (Qw wr _)
   have hR5:=(hw.block w.heap.size (by simp;omega)).trans ((Below.heap_alloc wr _ _ hlt0).trans HRes.out)
   have x0':=Qk _ _ 0 _ _ _ hX5;have x1':=Qk _ _ 1 _ _ _ hX5;have x2':=Qk _ _ 2 _ _ _ hX5;have x3':=Qk _ _ 3 _ _ _ hX5;have x4':=Qk _ _ 4 _ _ _ hX5;have x5':=Qk _ _ 5 _ _ _ hX5;have x6':=Qk _ _ 6 _ _ _ hX5;have x7':=Qk _ _ 7 _ _ _ hX5;have x8':=Qk _ _ 8 _ _ _ hX5;have x9':=Qk _ _ 9 _ _ _ hX5;have x10':=Qk _ _ 10 _ _ _ hX5;have x11':=Qk _ _ 11 _ _ _ hX5;have x12':=Qk _ _ 12 _ _ _ hX5
   have fz:=fun j=>frozen_of_row _ _ j _ _ hR5
   have rr:=fun j=>Qk _ _ j _ _ _ hR5
   have f0:=fz 0;have f1:=fz 1;have f2:=fz 2;have f3:=fz 3;have f4:=fz 4;have f5:=fz 5;have f6:=fz 6;have f7:=fz 7;have f8:=fz 8;have f9:=fz 9;have f10:=fz 10;have f11:=fz 11;have f12:=fz 12
   have r0:=rr 0;have r1:=rr 1;have r2:=rr 2;have r3:=rr 3;have r4:=rr 4;have r5:=rr 5;have r6:=rr 6;have r7:=rr 7;have r8:=rr 8;have r9:=rr 9;have r10:=rr 10;have r11:=rr 11;have r12:=rr 12
   simp only [List.getElem?_toArray,List.getElem?_cons_zero,List.getElem?_cons_succ] at x0' x1' x2' x3' x4' x5' x6' x7' x8' x9' x10' x11' x12' r0 r1 r2 r3 r4 r5 r6 r7 r8 r9 r10 r11 r12
   have HB5:=Qq (HB.out.thn ((Qn wr _).thn hw));have HR5:=Qq hR5
   have HBr5:=Qq ((Qn wr _).thn hw)
   clear fz rr hX5 hR5 hw y0 y1 y2 y3 y4 y5 y6 y7 y8 y9 y10 y11 y12
   go_wp2_with fail
   obtain ⟨W,hW⟩:=eX (Xa w5 w.heap.size (.string ⟨x.name.toArray⟩) (.slice cp9 x.columns.length cc9) (.slice kp9 x.key.length kc9) (.slice rp9 x.refs.length rc9) (.int .i64 k9) (.string s19) (.int .i64 n9) (.string s29) (.slice p19 n19 c19) (.slice p29 n29 c29) (.slice p39 n39 c39) (.int .i64 a9) (.int .i64 z9))
   have q:∀ j,W.cell? ⟨w.heap.size,j,none⟩=#[.string ⟨x.name.toArray⟩,.slice cp9 x.columns.length cc9,.slice kp9 x.key.length kc9,.slice rp9 x.refs.length rc9,.int .i64 k9,.string s19,.int .i64 n9,.string s29,.slice p19 n19 c19,.slice p29 n29 c29,.slice p39 n39 c39,.int .i64 a9,.int .i64 z9][j]?:=fun j=>by rw [← hW];exact Vw HR5.out j
   have hoth:∀ b,b<w.heap.size→W.heap[b]?=w5.heap[b]?:=fun b hb=>by rw [← hW];exact Vf (by omega)
   have hbel:Below w.heap.size w W:=by rw [← hW];exact Yd HB5.out (Q9 _)
   show bodyPost _ _ _ _ _ (Xa w5 w.heap.size (.string ⟨x.name.toArray⟩) (.slice cp9 x.columns.length cc9) (.slice kp9 x.key.length kc9) (.slice rp9 x.refs.length rc9) (.int .i64 k9) (.string s19) (.int .i64 n9) (.string s29) (.slice p19 n19 c19) (.slice p29 n29 c29) (.slice p39 n39 c39) (.int .i64 a9) (.int .i64 z9))
   rw [hW]
   have HOth:=Qq hoth;have HBel:=Qq hbel
   have q0:=q 0;have q1:=q 1;have q2:=q 2;have q3:=q 3;have q4:=q 4;have q5:=q 5;have q6:=q 6;have q7:=q 7;have q8:=q 8;have q9:=q 9;have q10:=q 10;have q11:=q 11;have q12:=q 12
   simp only [List.getElem?_toArray,List.getElem?_cons_zero,List.getElem?_cons_succ] at q0 q1 q2 q3 q4 q5 q6 q7 q8 q9 q10 q11 q12
   clear hW hoth hbel q r0 r1 r2 r3 r4 r5 r6 r7 r8 r9 r10 r11 r12 f0 f1 f2 f3 f4 f5 f6 f7 f8 f9 f10 f11 f12 x0' x1' x2' x3' x4' x5' x6' x7' x8' x9' x10' x11' x12'
   refine Q7 (v:=.tuple #[.agg #[.string ⟨x.name.toArray⟩,.slice cp9 x.columns.length cc9,.slice kp9 x.key.length kc9,.slice rp9 x.refs.length rc9,.int .i64 k9,.string s19,.int .i64 n9,.string s29,.slice p19 n19 c19,.slice p29 n29 c29,.slice p39 n39 c39,.int .i64 a9,.int .i64 z9],.bool true]) (by simp [results,results76,go_sem,q0,q1,q2,q3,q4,q5,q6,q7,q8,q9,q10,q11,q12]) rfl ⟨[.string ⟨x.name.toArray⟩,.slice cp9 x.columns.length cc9,.slice kp9 x.key.length kc9,.slice rp9 x.refs.length rc9,.int .i64 k9,.string s19,.int .i64 n9,.string s29,.slice p19 n19 c19,.slice p29 n29 c29,.slice p39 n39 c39,.int .i64 a9,.int .i64 z9],by rw [HR2.out];rfl,?_,HBel.out⟩
   rw [HR2.out]
   exact Qt.frame HVX.out (fun b hb hlt=>(HOth.out b hb.2).trans (HBr5.out.block b hlt))
  have hq:(x.name==x0)=false:=by rw [← Bool.not_eq_true,beq_iff_eq];exact he
  have HE:=Qq he
  clear he
  go_wp2_with (go_at_call 77;refine HNm.out.mono ?_;rintro e w5 ⟨rfl,hw⟩;have HW5:=Qq ((Qn wr _).thn hw);clear hw)
  go_roundw
  case measure=>simp [intOf];omega
  case rel=>
   refine ⟨k+1,by omega,by go_num,(show Aside _ from fun j y hj hy=>?_),?_⟩
   ·by_cases e:j=k
    ·subst e
     have:=HX.out
     rw [this] at hy
     cases hy
     simpa using HE.out
    exact HA.out j y (by omega) hy
   exact (HBr.out.thn HW5.out)
 have hkm:k=m:=by omega
 subst hkm
 have hr1:r=none:=by
  rw [← HR.out]
  unfold Z5
  rw [List.find?_eq_none]
  intro y hy
  obtain ⟨j,hj⟩:=List.getElem?_of_mem hy
  have:=HA.out j y (by have:=(Qj hj).1;have:=HN.out;omega) hj
  simpa using this
 have HR2:=Qq hr1
 have fz:=fun j=>frozen_of_row _ _ j _ _ hres
 have rr:=fun j=>Qk _ _ j _ _ _ hres
 have f0:=fz 0;have f1:=fz 1;have f2:=fz 2;have f3:=fz 3;have f4:=fz 4;have f5:=fz 5;have f6:=fz 6;have f7:=fz 7;have f8:=fz 8;have f9:=fz 9;have f10:=fz 10;have f11:=fz 11;have f12:=fz 12
 have r0:=rr 0;have r1:=rr 1;have r2:=rr 2;have r3:=rr 3;have r4:=rr 4;have r5:=rr 5;have r6:=rr 6;have r7:=rr 7;have r8:=rr 8;have r9:=rr 9;have r10:=rr 10;have r11:=rr 11;have r12:=rr 12
 simp only [List.getElem?_toArray,List.getElem?_cons_zero,List.getElem?_cons_succ] at r0 r1 r2 r3 r4 r5 r6 r7 r8 r9 r10 r11 r12
 have HRes:=Qq hres
 clear fz rr hres hr1 f0 f1 f2 f3 f4 f5 f6 f7 f8 f9 f10 f11 f12 r0 r1 r2 r3 r4 r5 r6 r7 r8 r9 r10 r11 r12
 go_upto_region 8 with fail
 generalize hW5:wr.alloc (.cells zT 37)=w5
 have hb5:=eqB hW5 (Qn _ _)
 have hX5:=eqH (b:=wr.heap.size) hW5 (Qw _ _)
 have hR5:=(hb5.block w.heap.size hlt0).trans HRes.out
 have x0':=Qk _ _ 0 _ _ _ hX5;have x1':=Qk _ _ 1 _ _ _ hX5;have x2':=Qk _ _ 2 _ _ _ hX5;have x3':=Qk _ _ 3 _ _ _ hX5;have x4':=Qk _ _ 4 _ _ _ hX5;have x5':=Qk _ _ 5 _ _ _ hX5;have x6':=Qk _ _ 6 _ _ _ hX5;have x7':=Qk _ _ 7 _ _ _ hX5;have x8':=Qk _ _ 8 _ _ _ hX5;have x9':=Qk _ _ 9 _ _ _ hX5;have x10':=Qk _ _ 10 _ _ _ hX5;have x11':=Qk _ _ 11 _ _ _ hX5;have x12':=Qk _ _ 12 _ _ _ hX5
 have fz:=fun j=>frozen_of_row _ _ j _ _ hR5
 have rr:=fun j=>Qk _ _ j _ _ _ hR5
 have f0:=fz 0;have f1:=fz 1;have f2:=fz 2;have f3:=fz 3;have f4:=fz 4;have f5:=fz 5;have f6:=fz 6;have f7:=fz 7;have f8:=fz 8;have f9:=fz 9;have f10:=fz 10;have f11:=fz 11;have f12:=fz 12
 have r0:=rr 0;have r1:=rr 1;have r2:=rr 2;have r3:=rr 3;have r4:=rr 4;have r5:=rr 5;have r6:=rr 6;have r7:=rr 7;have r8:=rr 8;have r9:=rr 9;have r10:=rr 10;have r11:=rr 11;have r12:=rr 12
 simp only [List.getElem?_toArray,List.getElem?_cons_zero,List.getElem?_cons_succ] at x0' x1' x2' x3' x4' x5' x6' x7' x8' x9' x10' x11' x12' r0 r1 r2 r3 r4 r5 r6 r7 r8 r9 r10 r11 r12
 have HB5:=Qq (HB.out.thn hb5);have HR5:=Qq hR5
 clear fz rr hX5 hR5 hb5 hW5
 go_wp2_with fail
 obtain ⟨W,hW⟩:=eX (Xa w5 w.heap.size (.string ⟨#[]⟩) (.slice none 0 0) (.slice none 0 0) (.slice none 0 0) (.int .i64 0) (.string ⟨#[]⟩) (.int .i64 0) (.string ⟨#[]⟩) (.slice none 0 0) (.slice none 0 0) (.slice none 0 0) (.int .i64 0) (.int .i64 0))
 have q:∀ j,W.cell? ⟨w.heap.size,j,none⟩=zT[j]?:=fun j=>by rw [← hW];exact Vw HR5.out j
 have hbel:Below w.heap.size w W:=by rw [← hW];exact Yd HB5.out (Q9 _)
 show bodyPost _ _ _ _ _ (Xa w5 w.heap.size (.string ⟨#[]⟩) (.slice none 0 0) (.slice none 0 0) (.slice none 0 0) (.int .i64 0) (.string ⟨#[]⟩) (.int .i64 0) (.string ⟨#[]⟩) (.slice none 0 0) (.slice none 0 0) (.slice none 0 0) (.int .i64 0) (.int .i64 0))
 rw [hW]
 have HBel:=Qq hbel
 have q0:=q 0;have q1:=q 1;have q2:=q 2;have q3:=q 3;have q4:=q 4;have q5:=q 5;have q6:=q 6;have q7:=q 7;have q8:=q 8;have q9:=q 9;have q10:=q 10;have q11:=q 11;have q12:=q 12
 simp only [List.getElem?_toArray,List.getElem?_cons_zero,List.getElem?_cons_succ] at q0 q1 q2 q3 q4 q5 q6 q7 q8 q9 q10 q11 q12
 clear hW hbel q r0 r1 r2 r3 r4 r5 r6 r7 r8 r9 r10 r11 r12 f0 f1 f2 f3 f4 f5 f6 f7 f8 f9 f10 f11 f12 x0' x1' x2' x3' x4' x5' x6' x7' x8' x9' x10' x11' x12'
 refine Q7 (v:=.tuple #[.agg zT,.bool false]) (by simp [results,results76,go_sem,q0,q1,q2,q3,q4,q5,q6,q7,q8,q9,q10,q11,q12]) rfl ⟨[.string ⟨#[]⟩,.slice none 0 0,.slice none 0 0,.slice none 0 0,.int .i64 0,.string ⟨#[]⟩,.int .i64 0,.string ⟨#[]⟩,.slice none 0 0,.slice none 0 0,.slice none 0 0,.int .i64 0,.int .i64 0],by rw [HR2.out];rfl,?_,HBel.out⟩
 rw [HR2.out]
 exact K8 _ _
end Go.Proofs.YtppbaladeefnkaaGreatDoor
