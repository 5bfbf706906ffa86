import Derived.Test.YtppbaladeefnkaaGreatDoorV12
import Derived.Test.YtppbaladeefnkaaGreatDoorV09
set_option maxRecDepth 100000
set_option maxHeartbeats 400000000
namespace Go.Proofs.YtppbaladeefnkaaGreatDoor
open Go.RowKit Go.Shelf Go.Lib Tryz
def atP {T:Type} (p:T→Bool) (xs:List T):Option T:=match xs.findIdx? p with
 | none=>none
 | some i=>xs[i]?
theorem Vq {T:Type} (p:T→Bool) (xs:List T):(Y9 p xs=-1∧atP p xs=none)∨∃ (i:Nat) (x:T),Y9 p xs=i∧xs[i]?=some x∧atP p xs=some x:=by
 unfold Y9 atP
 cases h:xs.findIdx? p with
 | none=>exact .inl ⟨rfl,rfl⟩
 | some i=>
  obtain ⟨hi,_,_⟩:=List.findIdx?_eq_some_iff_getElem.1 h
  exact .inr ⟨i,xs[i],rfl,Qx hi,Qx hi⟩
def U2 (s:Sc) (l:List Rel) (tn:Bs) (key:List Val):Option Val:=match Z5 s.tables tn,atP (fun r=>decide (r.table=tn)) l with
 | some t,some r=>if key.length=0 then none else atP (lkP t.key key) r.rows
 | _,_=>none
def LookIs (w:World) (o:Option Val) (e:Ending) (w':World):Prop:=
 ∃ cs',e=.returned (.tuple #[.agg cs'.toArray,.bool o.isSome])∧Qh (fun _=>True) w' cs' (o.getD Val.zero)∧Below w.heap.size w w'
theorem J5 (w:World) (A B C:Obj):(((w.alloc A).alloc B).alloc C).heap[w.heap.size+1]?=some B:=
 ((Qn ((w.alloc A).alloc B) C).block (w.heap.size+1) (by simp)).trans (Q6 w A B)
def LookIsS (S:Nat→Prop) (w:World) (o:Option Val) (e:Ending) (w':World):Prop:=
 ∃ cs',e=.returned (.tuple #[.agg cs'.toArray,.bool o.isSome])∧Qh S w' cs' (o.getD Val.zero)∧Below w.heap.size w w'
theorem Me (S0 S1 S2:Nat→Prop) (s:Sc) (cs:List Value) (lv:Value) (l:List Rel) (tn:Bs) (kv:Value) (key:List Val) (w:World) (hs:Yn S0 w cs s) (hl0:Sl Z0 S1 w lv l) (hkv0:Sl Ql S2 w kv key) (hkl:∀ t ∈ s.tables,t.key.length≤1000):
  Calls prog 15 #[.agg cs.toArray,lv,sv tn,kv] w (LookIsS S1 w (U2 s l tn key)):=by
 have hl:=hl0.up
 have hkv:Sl Ql (fun b=>b<w.heap.size) w kv key:=hkv0.mono (fun b hb _=>hb)
 have HT:=Qq (fun W (hb:Below w.heap.size w W)=>S8 S0 s cs tn W (hs.below hb))
 have HX:=Qq (fun W (hb:Below w.heap.size w W)=>Xg _ lv l tn W (hl.below hb))
 obtain ⟨uv,tv,rfl,hu,ht⟩:=hs
 obtain ⟨up,uc,rfl,_⟩:=hu.len
 obtain ⟨tp,tc,rfl,_⟩:=ht.len
 obtain ⟨lp,lc,rfl,hll⟩:=hl.len
 obtain ⟨kp,kc,rfl,hkl2⟩:=hkv.len
 have HL:=Qq hl;have HKV:=Qq hkv
 have hkT:((Z5 s.tables tn).getD Tbl.zero).key.length≤1000:=by
  cases h:Z5 s.tables tn with
  | none=>simp [Tbl.zero]
  | some t=>exact hkl t (List.mem_of_find?_eq_some h)
 have hlk:U2 s l tn key=(match Z5 s.tables tn,atP (fun r=>decide (r.table=tn)) l with
  | some t,some r=>if key.length=0 then none else atP (lkP t.key key) r.rows
  | _,_=>none):=rfl
 obtain ⟨o,ho⟩:=eX (U2 s l tn key)
 rw [ho] at hlk ⊢
 have HLK:=Qq hlk;have HKT:=Qq hkT
 clear hlk hkT ho hl hl0 hkv hkv0 hu ht hkl
 unfold sv at HT HX ⊢
 go_enter func15,ntmps15
 go_wp2_with fail
 refine (HT.out _ (Xr _ _ _ _)).mono ?_
 rintro e w1 ⟨ct,rfl,hT,hb1⟩
 obtain ⟨T,hTe⟩:=eX ((Z5 s.tables tn).getD Tbl.zero)
 rw [hTe] at hT HKT
 obtain ⟨cp9,cc9,kp9,kc9,rp9,rc9,k9,s19,n9,s29,p19,n19,c19,p29,n29,c29,p39,n39,c39,a9,z9,hcs,_⟩:=Zk hT
 simp only [tcs] at hcs
 subst hcs
 have HTE:=Qq hTe;have HTR:=Qq hT;have HB1:=Qq ((Xr _ _ _ _).thn hb1)
 have hK1:=(hb1.block (w.heap.size+1) (by simp)).trans (J5 w _ _ _)
 have hR1:=(hb1.block (w.heap.size+1+1) (by simp)).trans (Zw w _ _ _)
 have HK1:=Qq hK1;have HR1:=Qq hR1
 clear hTe hT hb1 hK1 hR1
 obtain ⟨ok,hok⟩:=eX ((Z5 s.tables tn).isSome)
 rw [hok]
 have HOK:=Qq hok
 clear hok
 go_upto_region 2 with fail
 generalize hW5:w1.alloc _=w5
 have hb5:=eqB hW5 (Qn _ _)
 have hX5:=eqH (b:=w1.heap.size) hW5 (Qw _ _)
 obtain ⟨X,hX⟩:=eX (w1.heap.size)
 have hK5:=kB hb5 HK1.out
 have hR5:=kB hb5 HR1.out
 have hT5:=Qt.frame HTR.out (.of_below hb5)
 have hbw5:=HB1.out.thn hb5
 have hs1:=HB1.out.size
 rw [hX] at hX5 hs1 ⊢
 have HX5:=Qq hX5;have HK5:=Qq hK5;have HR5:=Qq hR5;have HT5:=Qq hT5;have HB5:=Qq hbw5
 clear hb5 hX5 hW5 hX hK5 hR5 hT5 hbw5 HK1 HR1 HTR HB1 HT
 go_wp2_with fail
 refine (HX.out _ HB5.out).mono ?_
 rintro e w3 ⟨rfl,hb3⟩
 have hX3:=kB hb3 HX5.out
 have hK3:=kB hb3 HK5.out
 have hR3:=kB hb3 HR5.out
 have hT3:=Qt.frame HT5.out (.of_below hb3)
 have hbw3:=HB5.out.thn hb3
 have k0:=Qk _ _ 0 _ _ _ hK3
 obtain ⟨r0,r1,r2,r3,r4⟩:=frz5 hR3
 have y0:=Qk _ _ 0 _ _ _ hR3;have y1:=Qk _ _ 1 _ _ _ hR3;have y2:=Qk _ _ 2 _ _ _ hR3;have y3:=Qk _ _ 3 _ _ _ hR3;have y4:=Qk _ _ 4 _ _ _ hR3
 simp only [List.getElem?_toArray,List.getElem?_cons_zero,List.getElem?_cons_succ] at k0 y0 y1 y2 y3 y4
 have HX3:=Qq hX3;have HK3:=Qq hK3;have HR3:=Qq hR3;have HT3:=Qq hT3;have HB3:=Qq hbw3
 clear hb3 hX3 hK3 hR3 hT3 hbw3 HX5 HK5 HR5 HT5 HB5 HX
 rcases Vq (fun r:Rel=>decide (r.table=tn)) l with ⟨hi,ha⟩ | ⟨i,rl,hi,hrl,ha⟩
 ·-- no such relation
  have hO:o=none:=by rw [HLK.out,ha];cases Z5 s.tables tn <;> rfl
  have HO:=Qq hO
  rw [hi]
  clear hO hi ha
  cases ok
  ·go_wp2_with fail
   show bodyPost _ _ _ _ _ (Zz w3 (w.heap.size+1+1) (.int .i64 0) (.int .i64 0) (.string ⟨#[]⟩) (.slice none 0 0) (.slice none 0 0))
   refine Q7 (v:=.tuple #[.agg zV,.bool false]) (by simp [results,results15,go_sem,Qm HR3.out]) rfl ?_
   rw [HO.out]
   exact ⟨_,rfl,Zo _ _,Qo HB3.out (by omega)⟩
  go_wp2_with fail
  show bodyPost _ _ _ _ _ (Zz w3 (w.heap.size+1+1) (.int .i64 0) (.int .i64 0) (.string ⟨#[]⟩) (.slice none 0 0) (.slice none 0 0))
  refine Q7 (v:=.tuple #[.agg zV,.bool false]) (by simp [results,results15,go_sem,Qm HR3.out]) rfl ?_
  rw [HO.out]
  exact ⟨_,rfl,Zo _ _,Qo HB3.out (by omega)⟩
 obtain ⟨lb,loff,lcs,hle,hlb,_,_,⟨rv,hlcs,_,hrv⟩,hlc⟩:=HL.out.elem hrl
 subst hlcs
 have hil:i<l.length:=(Qj hrl).1
 have d1:=hlc 1 rv rfl
 subst hle
 rw [hi]
 have hi1:(0:Int)≤(i:Int):=by omega
 have hi2:(i:Int)<(l.length:Int):=by omega
 have hi3:decide ((i:Int)<0)=false:=by simp
 obtain ⟨rp,rc,rfl,hrl2⟩:=hrv.len
 have HLO:=Qq HLK.out
 rw [ha] at HLO
 clear HLK hi ha hrl hlc
 cases ok with
 | false=>
  have hO:o=none:=by
   have h:=HLO.out
   have h2:=HOK.out
   cases hn:Z5 s.tables tn with
   | none=>rw [hn] at h;exact h
   | some t=>rw [hn] at h2;cases h2
  have HO:=Qq hO
  clear hO d1
  go_wp2_with fail
  show bodyPost _ _ _ _ _ (Zz w3 (w.heap.size+1+1) (.int .i64 0) (.int .i64 0) (.string ⟨#[]⟩) (.slice none 0 0) (.slice none 0 0))
  refine Q7 (v:=.tuple #[.agg zV,.bool false]) (by simp [results,results15,go_sem,Qm HR3.out]) rfl ?_
  rw [HO.out]
  exact ⟨_,rfl,Zo _ _,Qo HB3.out (by omega)⟩
 | true=>
  have hO:o=if key.length=0 then none else atP (lkP T.key key) rl.rows:=by
   have h:=HLO.out
   have h2:=HOK.out
   have h3:=HTE.out
   cases hn:Z5 s.tables tn with
   | none=>rw [hn] at h2;cases h2
   | some t=>rw [hn] at h h3;rw [show T=t from h3.symm];exact h
  clear HLO HOK HTE
  by_cases hk0:key.length=0
  ·rw [if_pos hk0] at hO
   have HO:=Qq hO
   clear hO d1
   rw [hk0] at k0
   go_wp2_with fail
   show bodyPost _ _ _ _ _ (Zz w3 (w.heap.size+1+1) (.int .i64 0) (.int .i64 0) (.string ⟨#[]⟩) (.slice none 0 0) (.slice none 0 0))
   refine Q7 (v:=.tuple #[.agg zV,.bool false]) (by simp [results,results15,go_sem,Qm HR3.out]) rfl ?_
   rw [HO.out]
   exact ⟨_,rfl,Zo _ _,Qo HB3.out (by omega)⟩
  rw [if_neg hk0] at hO
  have hk2:((key.length:Int)==0)=false:=by simpa using hk0
  have hk3:decide ((key.length:Int)=0)=false:=by simpa using hk0
  have HO9:=Qq hO
  have HRV:=Qq (hrv.mono (S':=fun _=>True) (fun _ _ _=>trivial))
  have HRV0:=Qq hrv
  have e1:=(HB3.out.cell (p:=⟨lb,loff+i*Z0.k+1,none⟩) hlb).trans d1
  rw [show Z0.k=2 from rfl] at e1
  have HI:=Qq (Fz Tryz.ixVal Ql isAgg44 sizeOf44 43 #[.pointer (some ⟨X,0,none⟩),.pointer (some ⟨w.heap.size+1,0,none⟩)] (enters_of func43 (by kernel_rfl) rfl) (fun _=>True) (.slice rp rl.rows.length rc) rl.rows w3 _ (HRV.out.below HB3.out)
   (R5 X (w.heap.size+1) (fun _=>True) T _ (.slice kp key.length kc) key rl.rows w3 (fun j u h=>by rw [Qk _ _ j _ _ _ HX3.out];simpa using h) (Qf HX3.out) HT3.out HKT.out k0 ((HKV.out.below HB3.out).mono (fun _ _ _=>trivial))))
  clear hO hrv d1
  go_wp2_with fail
  refine HI.out.mono ?_
  rintro e w6 ⟨rfl,hb6⟩
  have hR6:=kB hb6 HR3.out
  have hbw6:=HB3.out.thn hb6
  clear r0 r1 r2 r3 r4 y0 y1 y2 y3 y4
  obtain ⟨r0,r1,r2,r3,r4⟩:=frz5 hR6
  obtain ⟨y0,y1,y2,y3,y4⟩:=row5 hR6
  have e2:=(hb6.cell (p:=⟨lb,loff+i*2+1,none⟩) (Qv _ _ e1)).trans e1
  have HR6:=Qq hR6;have HB6:=Qq hbw6
  clear hR6 hbw6 hb6 e1 HI
  rcases Vq (lkP T.key key) rl.rows with ⟨hj,ha2⟩ | ⟨j,u,hj,hu,ha2⟩
  ·rw [ha2] at HO9
   rw [hj]
   have HO:=HO9
   clear hj ha2
   go_wp2_with fail
   show bodyPost _ _ _ _ _ (Zz w6 (w.heap.size+1+1) (.int .i64 0) (.int .i64 0) (.string ⟨#[]⟩) (.slice none 0 0) (.slice none 0 0))
   refine Q7 (v:=.tuple #[.agg zV,.bool false]) (by simp [results,results15,go_sem,Qm HR6.out]) rfl ?_
   rw [HO.out]
   exact ⟨_,rfl,Zo _ _,Qo HB6.out (by omega)⟩
  rw [ha2] at HO9
  obtain ⟨xb,xoff,p3,k3,p4,k4,hrp,hxb,hvu,g0,g1,g2,g3,g4⟩:=HRV0.out.val hu
  subst hrp
  have hjl:j<rl.rows.length:=(Qj hu).1
  have hj1:(0:Int)≤(j:Int):=by omega
  have hj2:(j:Int)<(rl.rows.length:Int):=by omega
  have hj3:decide ((j:Int)<0)=false:=by simp
  rw [hj]
  have t0:=(HB6.out.cell (p:=⟨xb,xoff+j*5,none⟩) hxb).trans g0;have t1:=(HB6.out.cell (p:=⟨xb,xoff+j*5+1,none⟩) hxb).trans g1;have t2:=(HB6.out.cell (p:=⟨xb,xoff+j*5+2,none⟩) hxb).trans g2;have t3:=(HB6.out.cell (p:=⟨xb,xoff+j*5+3,none⟩) hxb).trans g3;have t4:=(HB6.out.cell (p:=⟨xb,xoff+j*5+4,none⟩) hxb).trans g4
  have HVU:=Qq hvu
  clear g0 g1 g2 g3 g4 hvu hj ha2 hu
  go_wp2_with fail
  show bodyPost _ _ _ _ _ (Zz w6 (w.heap.size+1+1) (.int .i64 u.kind) (.int .i64 u.n) (.string ⟨u.s.toArray⟩) (.slice p3 u.names.length k3) (.slice p4 u.kids.length k4))
  refine Q7 (v:=.tuple #[.agg #[.int .i64 u.kind,.int .i64 u.n,.string ⟨u.s.toArray⟩,.slice p3 u.names.length k3,.slice p4 u.kids.length k4],.bool true]) (by simp [results,results15,go_sem,Qm HR6.out]) rfl ?_
  rw [HO9.out]
  refine ⟨_,rfl,?_,Qo HB6.out (by omega)⟩
  exact Qh.move HVU.out (fun b hb _=>(Qu (by have:=hb.2;omega)).trans (HB6.out.block b hb.2)) (fun _ _ h=>h.1)
theorem Ns (S0 S1 S2:Nat→Prop) (s:Sc) (cs:List Value) (lv:Value) (l:List Rel) (tn:Bs) (kv:Value) (key:List Val) (w:World) (hs:Yn S0 w cs s) (hl0:Sl Z0 S1 w lv l) (hkv0:Sl Ql S2 w kv key) (hkl:∀ t ∈ s.tables,t.key.length≤1000):
  Calls prog 15 #[.agg cs.toArray,lv,sv tn,kv] w (LookIs w (U2 s l tn key)):=
 (Me S0 S1 S2 s cs lv l tn kv key w hs hl0 hkv0 hkl).mono fun _ _ ⟨cs',h1,h2,h3⟩=>⟨cs',h1,h2.move (.refl _ _) (fun _ _ _=>trivial),h3⟩
def Gi (s:Sc) (l:List Rel) (r:Rf) (v:Val):Bool:=match Y1 v r.column with
 | some u=>(U2 s l r.table [u]).isSome
 | none=>false
theorem Tv {S:Nat→Prop} {w w6:World} {cs:List Value} {u:Val} {b:Nat} {E:TypeId} (hv:Qh S w cs u) (hb:Below w.heap.size w w6) (hc:w6.heap[b]?=some (.cells cs.toArray E (0,0))):Sl Ql (fun _=>True) w6 (.slice (some ⟨b,0,none⟩) 1 1) [u]:=
 Sl.of_css (css:=[cs]) (by simp) (Cs.one (Qh.move hv (.of_below hb) (fun _ _ _=>trivial))) trivial (Qf hc) (fun j x hx=>by
  rw [Nat.zero_add,Qk _ _ _ _ _ _ hc]
  simpa using hx)
theorem Tx (A B C:Nat) (S S1 S2:Nat→Prop) (s:Sc) (uv tv lv:Value) (l:List Rel) (r:Rf) (rows:List Val) (w:World) (hA0:w.cell? ⟨A,0,none⟩=some (sv r.column)) (hA1:w.cell? ⟨A,1,none⟩=some (sv r.table))
  (hB0:w.cell? ⟨B,0,none⟩=some uv) (hB1:w.cell? ⟨B,1,none⟩=some tv) (hC:w.cell? ⟨C,0,none⟩=some lv) (hs:Yn S1 w [uv,tv] s) (hl:Sl Z0 S2 w lv l) (hkl:∀ t ∈ s.tables,t.key.length≤1000):
  Xp prog 126 #[.pointer (some ⟨A,0,none⟩),.pointer (some ⟨B,0,none⟩),.pointer (some ⟨C,0,none⟩)] Ql S rows (Gi s l r) w:=by
 intro W v cs hb _ hr
 have hs':=hs
 obtain ⟨uv',tv',huv,hu,ht⟩:=hs'
 cases huv
 obtain ⟨up,uc,rfl,_⟩:=hu.len
 obtain ⟨tp,tc,rfl,_⟩:=ht.len
 obtain ⟨lp,lc,rfl,hll⟩:=hl.len
 have a0:=(hb.cell (p:=⟨A,0,none⟩) (Qv w _ hA0)).trans hA0
 have a1:=(hb.cell (p:=⟨A,1,none⟩) (Qv w _ hA1)).trans hA1
 have b0:=(hb.cell (p:=⟨B,0,none⟩) (Qv w _ hB0)).trans hB0
 have b1:=(hb.cell (p:=⟨B,1,none⟩) (Qv w _ hB1)).trans hB1
 have c0:=(hb.cell (p:=⟨C,0,none⟩) (Qv w _ hC)).trans hC
 have hAl:A<W.heap.size:=Qv _ _ a0
 have hBl:B<W.heap.size:=Qv _ _ b0
 have hCl:C<W.heap.size:=Qv _ _ c0
 have hs2:=hs.below hb
 have hl2:=hl.below hb
 have HG:=Qq (fun W' (h':Below W.heap.size W W')=>Oh S v cs r.column W' (Qh.move (show Qh S W cs v from hr) (.of_below h') (fun _ _ h=>h)))
 have HLk:=Qq (fun W' (h':Below W.heap.size W W') (kv:Value) (u:Val) (hk:Sl Ql (fun _=>True) W' kv [u])=>Ns S1 S2 (fun _=>True) s _ _ l r.table kv [u] W' (hs2.below h') (hl2.below h') hk hkl)
 obtain ⟨p3,k3,p4,k4,hcs,_⟩:=Qh.cells (show Qh S W cs v from hr)
 simp only [vcs] at hcs
 subst hcs
 obtain ⟨res,hres⟩:=eX (Gi s l r v)
 rw [hres]
 have hR:res=(match Y1 v r.column with | some u=>(U2 s l r.table [u]).isSome | none=>false):=hres.symm
 show Calls prog 126 #[.agg #[.int .i64 v.kind,.int .i64 v.n,.string ⟨v.s.toArray⟩,.slice p3 v.names.length k3,.slice p4 v.kids.length k4],.pointer (some ⟨A,0,none⟩),.pointer (some ⟨B,0,none⟩),.pointer (some ⟨C,0,none⟩)] W (fun e w'=>e=.returned (.bool res)∧Below W.heap.size W w')
 clear hres hs hl hs2 hl2 hb hr hA0 hA1 hB0 hB1 hC hu ht hkl
 unfold sv at *
 cases hg:Y1 v r.column with
 | none=>
  rw [hg] at HG hR
  have HR:=Qq (show res=false from hR)
  clear hR hg
  go_enter func126,ntmps126
  go_wp2_with fail
  refine (HG.out _ (Qn _ _)).mono ?_
  rintro e w1 ⟨cs',rfl,hv1,hb1⟩
  have HB1:=Qq ((Qn W _).thn hb1)
  obtain ⟨q3,l3,q4,l4,hcs,_⟩:=Qh.cells hv1
  simp only [vcs,Option.getD_none] at hcs
  subst hcs
  clear hv1 hb1
  go_wp2_with fail
  go_ret
  rw [HR.out]
  exact ⟨rfl,HB1.out.alloc (by have:=HB1.out.size;omega) _⟩
 | some u=>
  rw [hg] at HG hR
  have HR:=Qq (show res=(U2 s l r.table [u]).isSome from hR)
  clear hR hg
  go_enter func126,ntmps126
  go_wp2_with fail
  refine (HG.out _ (Qn _ _)).mono ?_
  rintro e w1 ⟨cs',rfl,hv1,hb1⟩
  have hb1':=(Qn W _).thn hb1
  obtain ⟨q3,l3,q4,l4,hcs,_⟩:=Qh.cells hv1
  simp only [vcs,Option.getD_some] at hcs
  subst hcs
  have a1':=(hb1'.cell (p:=⟨A,1,none⟩) (Qv _ _ a1)).trans a1
  have b0':=(hb1'.cell (p:=⟨B,0,none⟩) (Qv _ _ b0)).trans b0
  have b1':=(hb1'.cell (p:=⟨B,1,none⟩) (Qv _ _ b1)).trans b1
  have c0':=(hb1'.cell (p:=⟨C,0,none⟩) (Qv _ _ c0)).trans c0
  have HV1:=Qq hv1;have HB1:=Qq hb1'
  have hAl1:A<w1.heap.size:=Qv _ _ a1'
  have hBl1:B<w1.heap.size:=Qv _ _ b0'
  have hCl1:C<w1.heap.size:=Qv _ _ c0'
  clear a0 a1 b0 b1 c0 hb1 hb1' hv1 hAl hBl hCl
  go_wp2_with fail
  refine (HLk.out _ (HB1.out.thn (Zv _ _ _)) _ u (Tv HV1.out (Zv _ _ _) (Q6 _ _ _))).mono ?_
  rintro e w4 ⟨cs',rfl,hv4,hb4⟩
  obtain ⟨q3,l3,q4,l4,hcs,_⟩:=Qh.cells hv4
  simp only [vcs] at hcs
  subst hcs
  have HB4:=Qq (HB1.out.thn ((Zv w1 _ _).thn hb4))
  clear hv4 hb4
  go_wp2_with fail
  go_ret
  rw [HR.out]
  exact ⟨rfl,HB4.out⟩
end Go.Proofs.YtppbaladeefnkaaGreatDoor
