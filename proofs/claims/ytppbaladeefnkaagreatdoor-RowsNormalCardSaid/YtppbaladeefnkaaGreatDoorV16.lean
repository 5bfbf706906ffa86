import Derived.Test.YtppbaladeefnkaaGreatDoorV15
import Derived.Test.YtppbaladeefnkaaGreatDoorV14
set_option maxRecDepth 100000
set_option maxHeartbeats 400000000
namespace Go.Proofs.YtppbaladeefnkaaGreatDoor
open Go.RowKit Go.Shelf Go.Lib Tryz
theorem N3 (B Y:Nat) (S:Nat→Prop) (ps:Option Addr) (ns nc:Nat) (T:Ty) (cty:List Value) (rows:List Val) (p:Val→Bool) (w:World) (hB0:w.cell? ⟨B,0,none⟩=some (.slice ps ns nc)) (hct:∀ j u,cty[j]?=some u→w.cell? ⟨Y,j,none⟩=some u) (hYl:Y<w.heap.size)
  (hty:Y7 S w cty T) (hp:∀ x ∈ rows,Zr x∧Dz x T (p x)) (hK:Xe w):Xp prog 88 #[.pointer (some ⟨B,0,none⟩),.pointer (some ⟨Y,0,none⟩)] Ql S rows p w:=by
 intro W x cs hb hx hr
 have hxt:=hty.move (.of_below hb) (fun _ _ h=>h)
 have HC:=Qq (fun W' (h':Below W.heap.size W W')=>hasGood x T (p x) (hp x hx).1 (hp x hx).2 S S cs cty ps ns nc W' (Qh.move (show Qh S W cs x from hr) (.of_below h') (fun _ _ h=>h)) (hxt.move (.of_below h') (fun _ _ h=>h)) ((hK.below hb).below h'))
 obtain ⟨k,s,n,names,kids⟩:=T
 obtain ⟨y3,m3,y4,m4,rfl,_⟩:=hxt.cells'
 obtain ⟨p3,k3,p4,k4,hcs,_⟩:=Qh.cells (show Qh S W cs x from hr)
 simp only [vcs] at hcs
 subst hcs
 have b0:=(hb.cell (p:=⟨B,0,none⟩) (Qv _ _ hB0)).trans hB0
 have d:=fun j u hj=>(hb.cell (p:=⟨Y,j,none⟩) hYl).trans (hct j u hj)
 have d0:=d 0 _ rfl
 have d1:=d 1 _ rfl
 have d2:=d 2 _ rfl
 have d3:=d 3 _ rfl
 have d4:=d 4 _ rfl
 have hYW:Y<W.heap.size:=Qv W _ d0
 have hBW:B<W.heap.size:=Qv W _ b0
 show Calls prog 88 #[.agg #[.int .i64 x.kind,.int .i64 x.n,.string ⟨x.s.toArray⟩,.slice p3 x.names.length k3,.slice p4 x.kids.length k4],.pointer (some ⟨B,0,none⟩),.pointer (some ⟨Y,0,none⟩)] W (fun e w'=>e=.returned (.bool (p x))∧Below W.heap.size W w')
 generalize p x=b at HC ⊢
 clear d hct hty hb hx hr hxt hp hB0 hK
 go_enter func88,ntmps88
 go_wp2_with (go_at_call 89;refine (HC.out _ (Qn _ _)).mono ?_;rintro e w' ⟨rfl,hw⟩)
 go_ret
 exact ⟨rfl,(Qn _ _).thn hw⟩
theorem con2_any (B:Nat) (S0 S3:Nat→Prop) (ps:Option Addr) (ns nc:Nat) (t:Tbl) (ct:List Value) (rv:Value) (rows:List Val) (p:Val→Bool) (w:World) (hB0:w.cell? ⟨B,0,none⟩=some (.slice ps ns nc)) (ht:Qt.R S0 w ct t) (hr:Sl Ql S3 w rv rows)
  (ho:Srt J8 t.columns) (hl:t.columns.length≤19) (hne:t.columns≠[]) (hp:∀ x ∈ rows,Zr x∧Dz x (Ee t) (p x)) (hK:Xe w):
  Calls prog 85 #[.agg ct.toArray,rv,.pointer (some ⟨B,0,none⟩)] w (Ka S3 w (Xs 9 p rows)):=by
 have HRow:=Qq (fun W (hb:Below w.heap.size w W)=>row_any S0 t ct W (Qt.frame ht (.of_below hb)) ho hl hne)
 have hBl:=Qv _ _ hB0
 have HU:=Qq (fun W Y cty (hb:Below w.heap.size w W) (hct:∀ j u,cty[j]?=some u→W.cell? ⟨Y,j,none⟩=some u) (hY:Y<W.heap.size) (hty:Y7 (fun _=>True) W cty (Ee t))=>Hf 9 88 #[.pointer (some ⟨B,0,none⟩),.pointer (some ⟨Y,0,none⟩)] (enters_of func88 (by kernel_rfl) rfl) (fun b=>S3 b∧b<w.heap.size) rv rows p W ((hr.mono (fun b hb h=>⟨h,hb⟩)).below hb)
  (fun W' x cs h1 h2 h3=>N3 B Y (fun _=>True) ps ns nc (Ee t) cty rows p W ((hb.cell (p:=⟨B,0,none⟩) hBl).trans hB0) hct hY hty hp (hK.below hb) W' x cs h1 h2 (Qh.move h3 (.refl _ _) (fun _ _ _=>trivial))))
 obtain ⟨cp9,cc9,kp9,kc9,rp9,rc9,k9,s19,n9,s29,p19,n19,c19,p29,n29,c29,p39,n39,c39,a9,z9,hcs,_⟩:=Zk ht
 simp only [tcs] at hcs
 subst hcs
 obtain ⟨rp,rc,rfl,_⟩:=hr.len
 obtain ⟨f,hf⟩:=eX (Xs 9 p rows)
 rw [hf] at HU ⊢
 clear ht hr hf hp hK ho hl hne hB0
 go_enter func85,ntmps85
 go_wp2_with fail
 refine (HRow.out _ (Zv _ _ _)).mono ?_
 rintro e w1 ⟨cty,rfl,hty,hb1⟩
 have hty':=hty
 generalize hT:Ee t=T at hty hty' HU
 obtain ⟨tk,ts,tn,tnames,tkids⟩:=T
 obtain ⟨y3,m3,y4,m4,hcy,_⟩:=hty'.cells'
 subst hcy
 have HTy:=Qq hty;have HB1:=Qq ((Zv w _ _).thn hb1)
 have HR1:=Qq ((hb1.block (w.heap.size+1) (by simp)).trans (Q6 w _ _))
 have HZ1:=Qq (show w.heap.size+2≤w1.heap.size by have:=hb1.size;simp at this;omega)
 clear hty hty' hb1 hT
 go_upto_region 2 with fail
 obtain ⟨W2,hW2⟩:=eX (w1.alloc (.cells #[.int .i64 tk,.string ⟨ts.toArray⟩,.int .i64 tn,.slice y3 tnames.length m3,.slice y4 tkids.length m4] 70))
 rw [hW2]
 have hb2:=eqB hW2 (Qn _ _)
 have hy2:=eqH (b:=w1.heap.size) hW2 (Qw _ _)
 have HB2:=Qq (HB1.out.thn hb2)
 have HR2:=Qq ((hb2.block (w.heap.size+1) (by have:=HZ1.out;omega)).trans HR1.out)
 have HU2:=Qq (HU.out W2 w1.heap.size [.int .i64 tk,.string ⟨ts.toArray⟩,.int .i64 tn,.slice y3 tnames.length m3,.slice y4 tkids.length m4] HB2.out (fun j u hj=>by rw [Qk _ _ j _ _ _ hy2];simpa using hj) (Qf hy2) (HTy.out.move (.of_below hb2) (fun _ _ _=>trivial)))
 clear hW2 hb2 hy2 HU
 go_wp2_with fail
 refine HU2.out.mono ?_
 rintro e w5 ⟨cs',rfl,hf5,hb5⟩
 obtain ⟨p3,k3,p4,k4,q3,l3,q4,l4,hcs,hfl,hfr,hfo⟩:=U5 hf5
 simp only [fcs] at hcs
 subst hcs
 have HR5:=Qq ((hb5.block (w.heap.size+1) (Qf HR2.out)).trans HR2.out)
 have HB5:=Qq (HB2.out.thn hb5)
 have HFR:=Qq hfr;have HFO:=Qq hfo;have HFL:=Qq hfl
 have fz:=fun j=>frozen_of_row _ _ j _ _ HR5.out
 have rr:=fun j=>Qk _ _ j _ _ _ HR5.out
 have f0:=fz 0;have f1:=fz 1;have f2:=fz 2;have f3:=fz 3;have f4:=fz 4;have f5:=fz 5;have f6:=fz 6;have f7:=fz 7;have f8:=fz 8;have f9:=fz 9;have f10:=fz 10;have f11:=fz 11
 have r0:=rr 0;have r1:=rr 1;have r2:=rr 2;have r3:=rr 3;have r4:=rr 4;have r5:=rr 5;have r6:=rr 6;have r7:=rr 7;have r8:=rr 8;have r9:=rr 9;have r10:=rr 10;have r11:=rr 11
 simp only [List.getElem?_toArray,List.getElem?_cons_zero,List.getElem?_cons_succ] at r0 r1 r2 r3 r4 r5 r6 r7 r8 r9 r10 r11
 clear fz rr hf5 hb5 hfr hfo hfl
 go_wp2_with fail
 obtain ⟨W,hW⟩:=eX (Zh w5 (w.heap.size+1) (.int .i64 f.code) (.string ⟨f.table.toArray⟩) (.int .i64 f.row.kind) (.int .i64 f.row.n) (.string ⟨f.row.s.toArray⟩) (.slice p3 f.row.names.length k3) (.slice p4 f.row.kids.length k4) (.int .i64 f.other.kind) (.int .i64 f.other.n) (.string ⟨f.other.s.toArray⟩) (.slice q3 f.other.names.length l3) (.slice q4 f.other.kids.length l4))
 have q:∀ j,W.cell? ⟨w.heap.size+1,j,none⟩=#[.int .i64 f.code,.string ⟨f.table.toArray⟩,.int .i64 f.row.kind,.int .i64 f.row.n,.string ⟨f.row.s.toArray⟩,.slice p3 f.row.names.length k3,.slice p4 f.row.kids.length k4,.int .i64 f.other.kind,.int .i64 f.other.n,.string ⟨f.other.s.toArray⟩,.slice q3 f.other.names.length l3,.slice q4 f.other.kids.length l4][j]?:=fun j=>by rw [← hW];exact Zb HR5.out j
 have hoth:∀ b,b≠w.heap.size+1→W.heap[b]?=w5.heap[b]?:=fun b hb=>by rw [← hW];exact Yz hb
 have hbel:Below w.heap.size w W:=by rw [← hW];exact Z3 HB5.out (by omega)
 show bodyPost _ _ _ _ _ (Zh w5 (w.heap.size+1) (.int .i64 f.code) (.string ⟨f.table.toArray⟩) (.int .i64 f.row.kind) (.int .i64 f.row.n) (.string ⟨f.row.s.toArray⟩) (.slice p3 f.row.names.length k3) (.slice p4 f.row.kids.length k4) (.int .i64 f.other.kind) (.int .i64 f.other.n) (.string ⟨f.other.s.toArray⟩) (.slice q3 f.other.names.length l3) (.slice q4 f.other.kids.length l4))
 rw [hW]
 have HBel:=Qq hbel;have HOth:=Qq hoth
 have q0:=q 0;have q1:=q 1;have q2:=q 2;have q3':=q 3;have q4':=q 4;have q5:=q 5;have q6:=q 6;have q7:=q 7;have q8:=q 8;have q9:=q 9;have q10:=q 10;have q11:=q 11
 simp only [List.getElem?_toArray,List.getElem?_cons_zero,List.getElem?_cons_succ] at q0 q1 q2 q3' q4' q5 q6 q7 q8 q9 q10 q11
 clear hW hbel q hoth
 refine Q7 (v:=.agg #[.int .i64 f.code,.string ⟨f.table.toArray⟩,.int .i64 f.row.kind,.int .i64 f.row.n,.string ⟨f.row.s.toArray⟩,.slice p3 f.row.names.length k3,.slice p4 f.row.kids.length k4,.int .i64 f.other.kind,.int .i64 f.other.n,.string ⟨f.other.s.toArray⟩,.slice q3 f.other.names.length l3,.slice q4 f.other.kids.length l4]) (by simp [results,results85,go_sem,q0,q1,q2,q3',q4',q5,q6,q7,q8,q9,q10,q11]) rfl ⟨[.int .i64 f.code,.string ⟨f.table.toArray⟩,.int .i64 f.row.kind,.int .i64 f.row.n,.string ⟨f.row.s.toArray⟩,.slice p3 f.row.names.length k3,.slice p4 f.row.kids.length k4,.int .i64 f.other.kind,.int .i64 f.other.n,.string ⟨f.other.s.toArray⟩,.slice q3 f.other.names.length l3,.slice q4 f.other.kids.length l4],rfl,?_,HBel.out⟩
 exact ⟨_,_,rfl,HFL.out,Qh.move HFR.out (fun b hb _=>HOth.out b (by have:b<w.heap.size:=hb.2;omega)) (fun _ _ h=>h.1),Qh.move HFO.out (fun b hb _=>HOth.out b (by have:b<w.heap.size:=hb.2;omega)) (fun _ _ h=>h.1)⟩
def Jl:List Val→Bool
 | a::b::l=>decide (Z1 a b<0)&&Jl (b::l)
 | _=>true
theorem Gf:∀ (l:List Val),Jl l=true↔∀ (j:Nat) (x y:Val),l[j]?=some x→l[j+1]?=some y→Z1 x y<0
 | []=>by simp [Jl]
 | [a]=>by simp [Jl]
 | a::b::l=>by
  rw [Jl,Bool.and_eq_true,decide_eq_true_eq,Gf (b::l)]
  constructor
  ·rintro ⟨h1,h2⟩ j x y hx hy
   cases j with
   | zero=>simp at hx hy;subst hx;subst hy;exact h1
   | succ j=>exact h2 j x y (by simpa using hx) (by simpa using hy)
  intro h
  exact ⟨h 0 a b rfl rfl,fun j x y hx hy=>h (j+1) x y (by simpa using hx) (by simpa using hy)⟩
theorem incV_not {l:List Val} {j:Nat} {x y:Val} (hx:l[j]?=some x) (hy:l[j+1]?=some y) (h:¬ Z1 x y<0):Jl l=false:=by
 rw [← Bool.not_eq_true,Gf]
 exact fun g=>h (g j x y hx hy)
theorem R6 (S0 S1:Nat→Prop) (t:Tbl) (ct:List Value) (r:Rel) (cr:List Value) (w:World) (ht:Qt.R S0 w ct t) (hr:Z0.R S1 w cr r):
  Calls prog 119 #[.agg ct.toArray,.agg cr.toArray] w fun e w'=>e=.returned (.bool (Jl r.rows&&decide (t.name=r.table)))∧Below w.heap.size w w':=by
 obtain ⟨cp9,cc9,kp9,kc9,rp9,rc9,k9,s19,n9,s29,p19,n19,c19,p29,n29,c29,p39,n39,c39,a9,z9,hcs,_⟩:=Zk ht
 simp only [tcs] at hcs
 subst hcs
 obtain ⟨rv,rfl,_,hrv0⟩:=hr
 have hrv:Sl Ql (fun b=>b<w.heap.size) w rv r.rows:=hrv0.mono (fun b hb _=>hb)
 obtain ⟨rp,rc,rfl,hl⟩:=hrv.len
 have hC:∀ (W:World) (x y:Val) (cx cy:List Value),Below w.heap.size w W→Qh (fun b=>b<w.heap.size) W cx x→Qh (fun b=>b<w.heap.size) W cy y→∀ n os,Calls prog 57 #[.agg cx.toArray,.agg cy.toArray] (Sort.grow (W.drewN n) os) fun e w'=>e=.returned (.int .i64 (Z1 x y))∧∃ q os',w'=Sort.grow ((Sort.grow (W.drewN n) os).drewN q) os':=
  fun W x y cx cy _ hx hy n os=>Dw _ x y cx cy _ (hx.move (.of_below (Z7 W n os).bl) (fun _ _ h=>h)) (hy.move (.of_below (Z7 W n os).bl) (fun _ _ h=>h))
 have HC:=Qq hC;have HV:=Qq hrv
 clear ht hrv0 hC hrv
 obtain ⟨n,hn⟩:=eX (r.rows.length)
 rw [hn] at HV hl ⊢
 have HN:=Qq hn
 clear hn
 obtain ⟨tb,htb⟩:=eX (decide (t.name=r.table))
 rw [htb]
 have htb':(t.name==r.table)=tb:=by rw [← htb];by_cases h:t.name=r.table <;> simp [h]
 have HTB:=Qq htb'
 clear htb htb'
 obtain ⟨res,hres⟩:=eX (Jl r.rows)
 rw [hres]
 have HR:=Qq hres
 clear hres
 unfold sv
 have mixed:(prog).follows .mixedOrders=true:=by kernel_rfl
 go_enter func119,ntmps119
 go_wp2_with fail
 generalize hW1:(w.alloc _).alloc _=W1
 have hb1:=eqB hW1 (Zv _ _ _)
 have hT1:=eqH (b:=w.heap.size) hW1 (Q5 _ _ _)
 have hX1:=eqH (b:=w.heap.size+1) hW1 (Q6 _ _ _)
 have HB1:=Qq hb1;have HT1:=Qq hT1;have HX1:=Qq hX1
 clear hW1 hb1 hT1 hX1
 go_loopw [5,9] (fun _ i wr=>∃ k:Nat,k≤n∧i=.int .i64 k∧Gr W1 wr∧Aside (∀ (j:Nat) (x y:Val),j+1<k→r.rows[j]?=some x→r.rows[j+1]?=some y→Z1 x y<0)) (fun _ i _=>n - (intOf i).toNat)
 case atStart=>exact ⟨0,Q8 _,rfl,Gr.refl _,fun j x y hj=>absurd hj (Nat.not_lt_zero _)⟩
 obtain ⟨k,hkn,rfl,hG,hI⟩:=hrel
 have hsz:=Qf HX1.out
 have hXr:=kE hG.bl hsz HX1.out
 have hXb:=Qf hXr
 have hTr:=kB hG.bl HT1.out
 have x0:=rA0 hXr;have x1:=rA1 hXr;have t0:=rA0 hTr
 have HG:=Qq hG;have HI:=Qq hI.out
 have HBw:=Qq (HB1.out.trans (hG.bl.mono HB1.out.size))
 clear hG hI hXr hTr
 by_cases hlt:k<n
 ·have hi1:(0:Int)≤(k:Int):=by omega
  have hi2:(k:Int)<(n:Int):=by omega
  by_cases hk0:k=0
  ·have hd:decide ((k:Int) > 0)=false:=by simp;omega
   have hd1:decide ((0:Int)<(k:Int))=false:=by simp;omega
   have hd2:decide (0<k)=false:=by simp;omega
   have HK0:=Qq hk0
   clear hk0
   go_wp2_with fail
   go_quiet (fail)
   go_wp2_with fail
   go_roundw
   case measure=>simp [intOf];omega
   case rel=>exact ⟨k+1,by omega,by go_num,HG.out.thn ⟨_,#[],by rw [Sort.grow_empty]⟩,(show Aside _ from fun j x y hj=>absurd hj (by have:=HK0.out;omega))⟩
  obtain ⟨j,rfl⟩:∃ j,k=j+1:=⟨k - 1,by omega⟩
  clear hk0
  obtain ⟨x,hx⟩:∃ x,r.rows[j]?=some x:=⟨_,Qx (by rw [HN.out];omega)⟩
  obtain ⟨y,hy⟩:∃ y,r.rows[j+1]?=some y:=⟨_,Qx (by rw [HN.out];omega)⟩
  obtain ⟨xb,xoff,p3,k3,p4,k4,rfl,hxb,hvx,d0,d1,d2,d3,d4⟩:=(HV.out.below HBw.out).val hx
  obtain ⟨yb,yoff,q3,l3,q4,l4,he,hyb,hvy,e0,e1,e2,e3,e4⟩:=(HV.out.below HBw.out).val hy
  obtain ⟨rfl,rfl,-⟩:xb=yb∧xoff=yoff∧True:=by simpa using he
  have hcg:=HC.out wr x y _ _ HBw.out hvx hvy
  have D0:=Qs hxb d0;have D1:=Qs hxb d1;have D2:=Qs hxb d2;have D3:=Qs hxb d3;have D4:=Qs hxb d4
  have E0:=Qs hxb e0;have E1:=Qs hxb e1;have E2:=Qs hxb e2;have E3:=Qs hxb e3;have E4:=Qs hxb e4
  have X1:=Qs hXb x1
  have hj1:IntKind.i64.wrap (j:Int)=(j:Int):=by rw [IntKind.wrap_i64];omega
  have hj2:(j:Int)<(n:Int):=by omega
  have hj3:(0:Int)<(j:Int)+1:=by omega
  have hj4:(0:Int)≤(j:Int)+1:=by omega
  have hj5:(j:Int)+1<(n:Int):=by omega
  have hj6:(0:Int)≤(j:Int):=by omega
  have hj7:((j:Int)+1).toNat=j+1:=by omega
  have HX:=Qq hx;have HY:=Qq hy
  unfold vcs at hcg
  generalize hcc:Z1 x y=c at hcg
  have HCC:=Qq hcc
  clear hx hy he hvx hvy hyb d0 d1 d2 d3 d4 e0 e1 e2 e3 e4 hcc hi1 hi2
  by_cases hneg:c<0
  ·have hq:decide (0≤c)=false:=by simpa using hneg
   go_wp2_with fail
   go_quiet_grown (first | (go_at_call 57;refine Calls.grown_of (hcg _ _)))
   go_wp2_with fail
   go_roundw
   case measure=>simp [intOf];omega
   case rel=>
    refine ⟨j+1+1,by omega,by go_num,HG.out.thn (Z7 _ _ _),(show Aside _ from fun i u v hi hu hv=>?_)⟩
    by_cases e:i=j
    ·subst e
     have h1:=HX.out;have h2:=HY.out
     rw [hu] at h1;rw [hv] at h2
     cases h1;cases h2
     rw [HCC.out];exact hneg
    exact HI.out i u v (by omega) hu hv
  have hq:decide (0≤c)=true:=by simp;omega
  have hres:res=false:=by rw [← HR.out];exact incV_not HX.out HY.out (by rw [HCC.out];exact hneg)
  subst hres
  go_wp2_with fail
  go_quiet_grown (first | (go_at_call 57;refine Calls.grown_of (hcg _ _)))
  go_wp2_with fail
  go_ret
  exact ⟨by simp,HBw.out.thn (Z7 _ _ _).bl⟩
 have hkn':k=n:=by omega
 subst hkn'
 have hres:res=true:=by
  rw [← HR.out,Gf]
  exact fun j x y hx hy=>HI.out j x y (by have:=(Qj hy).1;have:=HN.out;omega) hx hy
 subst hres
 go_wp2_with fail
 go_ret
 refine ⟨?_,HBw.out⟩
 rw [Bool.true_and,← HTB.out]
 rfl
def Bz (s:Sc) (l:List Rel):Bool:=eqL (fun (t:Tbl) (r:Rel)=>Jl r.rows&&decide (t.name=r.table)) s.tables l
theorem No (S0 S1:Nat→Prop) (s:Sc) (cs:List Value) (lv:Value) (l:List Rel) (w:World) (hs:Yn S0 w cs s) (hl:Sl Z0 S1 w lv l):
  Calls prog 83 #[.agg cs.toArray,lv] w fun e w'=>e=.returned (.bool (Bz s l))∧Below w.heap.size w w':=by
 obtain ⟨uv,tv,rfl,hu,ht⟩:=hs
 have HE:=Qq (fun W (hb:Below w.heap.size w W)=>Rp 119 #[] (enters_of func119 (by kernel_rfl) rfl) (fun _=>True) tv lv s.tables l W ((ht.mono (fun _ _ _=>trivial)).below hb) ((hl.mono (fun _ _ _=>trivial)).below hb) (fun t r=>Jl r.rows&&decide (t.name=r.table))
  (fun W' x y cx cy _ _ _ hx hy=>R6 _ _ x cx y cy W' hx hy))
 obtain ⟨up,uc,rfl,_⟩:=hu.len
 obtain ⟨tp,tc,rfl,_⟩:=ht.len
 obtain ⟨lp,lc,rfl,_⟩:=hl.len
 unfold Bz
 generalize eqL _ s.tables l=r at HE ⊢
 clear hu ht hl
 go_enter func83,ntmps83
 go_wp2_with (go_at_call 118;refine (HE.out _ (Qn _ _)).mono ?_;rintro e w' ⟨rfl,hw⟩)
 go_ret
 exact ⟨rfl,(Qn _ _).thn hw⟩
section
variable {P:Program} {T:Type}
theorem O3 {r:Rd T} (t ty E:TypeId) (i:TypeInfo) (ht:P.underlying t=some (.slice E)) (hi:P.info? E=some i) (S:Nat→Prop) (B:Nat) (w:World) (v:Value) (xs:List T) (css:List (List Value)) (hO:Own r E S B w v xs css) (c:Nat):
  (Builtin.append_ #[t,t] ty #[v,.slice none 0 c]).run P w=.ok v w:=by
 rcases hO.row.2 with ⟨rfl,_⟩ | ⟨g,cap,cur,rfl,_,_,hnc,_⟩
 ·simp [Builtin.append_,run_underlying ht,sizeOf,typeInfo,hi,Builtin.lenOf,Builtin.firstCells]
 simp [Builtin.append_,run_underlying ht,sizeOf,typeInfo,hi,Builtin.lenOf,Builtin.firstCells,hnc,storeCells]
theorem run_cat {r:Rd T} (hk:0<r.k) (t ty E:TypeId) (i:TypeInfo) (z:Value) (bytes:Nat) (ht:P.underlying t=some (.slice E)) (hi:P.info? E=some i) (hz:i.zero=some z) (hsize:i.size=r.k) (hby:i.bytes=bytes) (hzs:z.cells.size=r.k) (hb1:bytes≤1000)
  (S:Nat→Prop) (B:Nat) (w:World) (v:Value) (xs:List T) (css:List (List Value)) (ys:List T) (q:Option Addr) (m c:Nat) (hO:Own r E S B w v xs css) (hY:Sl r (But S v) w (.slice q m c) ys)
  (h1:∀ S w cs x,r.R S w cs x→∀ u ∈ cs,u.oneCell'=true) (hl:xs.length+ys.length≤1000000) (hB:B≤w.heap.size):
  ∃ p cap css' w1,(Builtin.append_ #[t,t] ty #[v,.slice q m c]).run P w=.ok (.slice p (xs.length+ys.length) cap) w1∧Own r E S B w1 (.slice p (xs.length+ys.length) cap) (xs++ys) css'∧w.grownBy w1 v.ownBlock∧((Value.slice p (xs.length+ys.length) cap).ownBlock=v.ownBlock∨(Value.slice p (xs.length+ys.length) cap).ownBlock=some w.heap.size):=by
 obtain ⟨q',c',dss,hv,hD,hc⟩:=hY.css hk
 simp only [Value.slice.injEq] at hv
 obtain ⟨rfl,rfl,rfl⟩:=hv
 have main:∀ ad:Addr,q=some ad→(∀ j u,dss.flatten[j]?=some u→w.cell? (ad.add j)=some u)→∃ p cap css' w1,(Builtin.append_ #[t,t] ty #[v,.slice q ys.length c]).run P w=.ok (.slice p (xs.length+ys.length) cap) w1∧Own r E S B w1 (.slice p (xs.length+ys.length) cap) (xs++ys) css'∧w.grownBy w1 v.ownBlock∧((Value.slice p (xs.length+ys.length) cap).ownBlock=v.ownBlock∨(Value.slice p (xs.length+ys.length) cap).ownBlock=some w.heap.size):=by
  rintro ad rfl hcell
  obtain ⟨v1,w1,hrun,hown,hgrow,_,hat⟩:=run_append_own_at (P:=P) w B t ty E i z r.k bytes ht hi hz hsize hby hzs hk v xs.length css.flatten hO.row ad ys.length c dss.flatten hD.flat hcell (fun u hu=>by
   obtain ⟨cc,hcm,huc⟩:=List.mem_flatten.1 hu
   obtain ⟨i',hi'⟩:=List.getElem?_of_mem hcm
   have hil:=(Qj hi').1
   exact h1 _ w cc _ (hD.R i' cc _ hi' (Qx (by rw [← hD.len];exact hil))) u huc) (by unfold maxLen;omega) (by
   have:=Nat.mul_le_mul (show xs.length+ys.length≤1000000 by omega) hb1
   omega) hB
  have hO2:=hO.append hD (v':=v1) (w2:=w1) hown hgrow hat
  obtain ⟨p,cap,rfl⟩:=hO2.form
  rw [List.length_append] at hO2 hrun hat
  exact ⟨p,cap,_,w1,hrun,hO2,hgrow,hat⟩
 by_cases hne:ys=[]
 ·subst hne
  have hd0:dss=[]:=List.eq_nil_of_length_eq_zero hD.len
  subst hd0
  rcases q with _ | ad
  ·obtain ⟨p,cap,rfl⟩:=hO.form
   exact ⟨p,cap,css,w,O3 t ty E i ht hi S B w _ xs css hO c,by simpa using hO,World.grownBy.refl w _,.inl rfl⟩
  exact main ad rfl (fun j u hu=>by simp at hu)
 obtain ⟨b,off,rfl,_,_,hcell⟩:=hc hne
 exact main _ rfl (fun j u hu=>by
  rw [show (⟨b,off,none⟩:Addr).add j=⟨b,off+j,none⟩ by unfold Addr.add;split <;> simp_all]
  exact hcell j u hu)
theorem step_cat {r:Rd T} (hk:0<r.k) {ops:Array Oper} {o:Oper} {a:Act} {K:Act→World→Prop} {Q:Exit→Act→World→Prop} {X:Prop} (hgd:o.guard=none) (s x:Operand) (t:TypeId)
  (ho:o.op=.call { callee:=.builtin .append,args:=#[s,x],argTypes:=#[t,t] }) (E:TypeId) (i:TypeInfo) (z:Value) (bytes:Nat) (ht:P.underlying t=some (.slice E)) (hi:P.info? E=some i) (hz:i.zero=some z)
  (hsize:i.size=r.k) (hby:i.bytes=bytes) (hzs:z.cells.size=r.k) (hb1:bytes≤1000) (S:Nat→Prop) (B:Nat) (w:World) (v:Value) (xs:List T) (css:List (List Value)) (ys:List T) (q:Option Addr) (m c:Nat) (hs:a.eval s=v)
  (hO:Own r E S B w v xs css) (hx:a.eval x=.slice q m c) (hY:Sl r (But S v) w (.slice q m c) ys) (h1:∀ S w cs x,r.R S w cs x→∀ u ∈ cs,u.oneCell'=true) (hl:xs.length+ys.length≤1000000) (hB:B≤w.heap.size)
  (h:∀ p cap css' w1,Own r E S B w1 (.slice p (xs.length+ys.length) cap) (xs++ys) css'→w.grownBy w1 v.ownBlock→((Value.slice p (xs.length+ys.length) cap).ownBlock=v.ownBlock∨(Value.slice p (xs.length+ys.length) cap).ownBlock=some w.heap.size)→K (a.put o.dst (.slice p (xs.length+ys.length) cap)) w1):
  if Region.wanted o (yielded ops a.tmps)=true then Oper.wp P o a w K Q else X:=by
 have hw:Region.wanted o (yielded ops a.tmps)=true:=by simp [Region.wanted,hgd]
 rw [if_pos hw]
 obtain ⟨p,cap,css',w1,hrun,h2,h3,h4⟩:=run_cat (P:=P) hk t o.type E i z bytes ht hi hz hsize hby hzs hb1 S B w v xs css ys q m c hO hY h1 hl hB
 unfold Oper.wp execOp
 simp only [ho,resolve,invoke,builtin,Sem.run_bind,Sem.run_pure,Result.andThen_ok,List.map_toArray,List.map_cons,List.map_nil,hs,hx,hrun]
 exact h p cap css' w1 h2 h3 h4
end
theorem Xo.at {B:Nat} {w:World} {g n cap:Nat} {l:List Rel} {rvs:List Value} (h:Xo B w (.slice (some ⟨g,0,none⟩) n cap) l rvs) {i:Nat} {r:Rel} {rv:Value} (hi:l[i]?=some r) (hrv:rvs[i]?=some rv):
  ∃ cur,w.heap[g]?=some (.cells cur 57 (0,0))∧cur[i*2]?=some (sv r.table)∧cur[i*2+1]?=some rv:=by
 rcases h.row.2 with ⟨e,_⟩ | ⟨g',cap',cur,e,hB,hh,_,_,_,ht⟩
 ·cases e
 simp only [Value.slice.injEq,Option.some.injEq,Addr.mk.injEq] at e
 obtain ⟨⟨rfl,_⟩,_,rfl⟩:=e
 have hc:=Jw hi hrv
 have h0:=Yg (k:=2) Uc hc (j:=0) (u:=sv r.table) rfl
 have h1:=Yg (k:=2) Uc hc (j:=1) (u:=rv) rfl
 have hget:∀ (j:Nat) (u:Value),(Zc l rvs).flatten[j]?=some u→cur[j]?=some u:=by
  intro j u hu
  rw [← ht,List.getElem?_take] at hu
  split at hu
  ·simpa using hu
  cases hu
 exact ⟨cur,hh,hget _ _ h0,hget _ _ h1⟩
theorem Xo.put' {B:Nat} {w w1:World} {g n cap:Nat} {l:List Rel} {rvs:List Value} {i:Nat} {r:Rel} {rv rv':Value} {zs:List Val} (hn:l.length=n) (h:Xo B w (.slice (some ⟨g,0,none⟩) n cap) l rvs) (hi:l[i]?=some r) (hrv:rvs[i]?=some rv)
  (ho:∃ css,Own Ql 44 (Bb (.slice (some ⟨g,0,none⟩) n cap) rvs) B w1 rv' zs css) (hg:w.grownBy w1 rv.ownBlock) (hat:rv'.ownBlock=rv.ownBlock∨∀ g',rv'.ownBlock=some g'→w.heap.size≤g'):
  Xo B (w1.setCell ⟨g,i*2+1,none⟩ rv') (.slice (some ⟨g,0,none⟩) n cap) (l.set i ⟨r.table,zs⟩) (rvs.set i rv'):=by
 subst hn
 exact h.put hi hrv ho hg hat
theorem Own.sl' {T:Type} {r:Rd T} {E:TypeId} {S S':Nat→Prop} {B:Nat} {w:World} {v:Value} {xs:List T} {css:List (List Value)} (h:Own r E S B w v xs css) (hl:xs.length≤1000000)
  (h1:∀ b,v.ownBlock=some b→S' b) (h2:∀ b,b<w.heap.size→S b→S' b):Sl r S' w v xs:=by
 rcases h.row.2 with ⟨rfl,h0⟩ | ⟨g,cap,cur,rfl,hB,hg,_,_,_,ht⟩
 ·rw [List.eq_nil_of_length_eq_zero h0];exact Sl.nil _ _ _
 refine Sl.of_css (css:=css) hl (h.cs.move (.refl _ _) (fun b hb h=>h2 b hb h.1)) (h1 g rfl) (Array.getElem?_eq_some_iff.1 hg).1 (fun j u hu=>?_)
 rw [Nat.zero_add];exact Fg hg ht hu
theorem Xo.own {B:Nat} {w:World} {v:Value} {l:List Rel} {rvs:List Value} (h:Xo B w v l rvs) (hr:∀ r ∈ l,r.rows.length≤1000000):Own Z0 57 (fun _=>True) B w v l (Zc l rvs):=by
 refine ⟨h.row,⟨Va h.len,fun i c x hc hx=>?_⟩⟩
 have hi:=(Qj hx).1
 obtain ⟨rv,hrv⟩:∃ rv,rvs[i]?=some rv:=⟨_,Qx (by rw [h.len];exact hi)⟩
 rw [Jw hx hrv] at hc
 cases hc
 obtain ⟨css,ho⟩:=h.rows i x rv hx hrv
 refine ⟨rv,rfl,h.tl x (Qy hx),ho.sl' (hr x (Qy hx)) (fun b hb=>⟨trivial,fun e=>?_⟩) (fun b _ hb=>⟨trivial,fun e=>hb.1 e.symm⟩)⟩
 exact Zs h.row ho.row (by decide) e.symm hb
theorem Em:∀ (css:List (List Value)) (i:Nat) (a b b':Value),(∀ c ∈ css,c.length=2)→css[i]?=some [a,b]→css.flatten.set (i*2+1) b'=(css.set i [a,b']).flatten:=by
 intro css
 induction css with
 | nil=>intro i a b b' _ h;simp at h
 | cons c css ih=>
  intro i a b b' hc h
  cases i with
  | zero=>simp at h;subst h;simp
  | succ i=>
   have h2:=hc c (by simp)
   have:=ih i a b b' (fun d hd=>hc d (by simp [hd])) (by simpa using h)
   simp only [List.flatten_cons,List.set_cons_succ]
   rw [← this,show (i+1)*2+1=c.length+(i*2+1) by rw [h2];omega,List.set_append_right _ _ (Nat.le_add_right _ _),Nat.add_sub_cancel_left]
theorem B7 {B:Nat} {w w1:World} {v v1:Value} (hg:w.grownBy w1 v.ownBlock) (hv:∀ g,v.ownBlock=some g→B≤g) (hB:B≤w.heap.size) (hat:v1.ownBlock=v.ownBlock∨v1.ownBlock=some w.heap.size):Bo B w w1 v v1:=by
 have hb:Below B w w1:=(Qz B w).grown hg hB hv
 refine ⟨hb,hb.size,fun b hlt hne=>hg.block b hlt (fun e=>hne e),?_⟩
 rcases hat with h | h
 ·exact .inl h
 exact .inr ⟨_,h,Q9 _⟩
section
variable {P:Program} {T:Type}
theorem Js (w:World) (base:Nat) (t ty e:TypeId) (i:TypeInfo) (size:Nat) (ht:P.underlying t=some (.slice e)) (hi:P.info? e=some i)
  (v:Value) (n:Nat) (xs:List Value) (hown:w.ownsRow base e size v n xs) (c:Nat):
  (Builtin.append_ #[t,t] ty #[v,.slice none 0 c]).run P w=.ok v w:=by
 rcases hown.2 with ⟨rfl,rfl⟩ | ⟨g,cap,cur,rfl,_,_,hnc,_⟩
 ·simp [Builtin.append_,run_underlying ht,sizeOf,typeInfo,hi,Builtin.lenOf,Builtin.firstCells]
 simp [Builtin.append_,run_underlying ht,sizeOf,typeInfo,hi,Builtin.lenOf,Builtin.firstCells,hnc,storeCells]
theorem Jq {w:World} {ops:Array Oper} {rest:List Oper} {o:Oper} {a:Act} {Q:Exit→Act→World→Prop} (hgd:o.guard=none) (s x:Operand) (t:TypeId)
  (ho:o.op=.call { callee:=.builtin .append,args:=#[s,x],argTypes:=#[t,t] })
  (base:Nat) (e:TypeId) (i:TypeInfo) (size:Nat) (ht:P.underlying t=some (.slice e)) (hi:P.info? e=some i)
  (v:Value) (n:Nat) (xs:List Value) (hs:a.eval s=v) (hown:w.ownsRow base e size v n xs) (c:Nat) (hx:a.eval x=.slice none 0 c)
  (h:wpList P ops Q rest (a.put o.dst v) w):wpList P ops Q (o::rest) a w:=by
 refine wpList_plain hgd fun K hK=>?_
 have hrun:=Js (P:=P) w base t o.type e i size ht hi v n xs hown c
 unfold Oper.wp
 simp [execOp,ho,resolve,invoke,builtin,hs,hx,hrun,Result.andThen]
 exact hK _ _ h
theorem Yq {r:Rd T} (hk:0<r.k) (h1:∀ S w cs x,r.R S w cs x→∀ u ∈ cs,u.oneCell'=true) {ops:Array Oper} {rest:List Oper} {o:Oper} {a:Act} {Q:Exit→Act→World→Prop} (hgd:o.guard=none) (s x:Operand) (t:TypeId)
  (ho:o.op=.call { callee:=.builtin .append,args:=#[s,x],argTypes:=#[t,t] }) (E:TypeId) (i:TypeInfo) (z:Value) (bytes:Nat) (ht:P.underlying t=some (.slice E)) (hi:P.info? E=some i) (hz:i.zero=some z)
  (hsize:i.size=r.k) (hby:i.bytes=bytes) (hzs:z.cells.size=r.k) (hb1:bytes≤1000) (S:Nat→Prop) (B:Nat) (w:World) (v:Value) (xs:List T) (css:List (List Value)) (hs:a.eval s=v)
  (hO:Own r E S B w v xs css) (v2:Value) (ys:List T) (hx:a.eval x=v2) (hys:Sl r (But S v) w v2 ys) (n:Nat) (hn:xs.length+ys.length=n) (hl:n≤1000000) (hB:B≤w.heap.size)
  (h:∀ p cap css' w1,Own r E S B w1 (.slice p n cap) (xs++ys) css'→Bo B w w1 v (.slice p n cap)→wpList P ops Q rest (a.put o.dst (.slice p n cap)) w1):
  wpList P ops Q (o::rest) a w:=by
 subst hn
 have hv:∀ g,v.ownBlock=some g→B≤g:=fun g hg=>(hO.row.lt g hg).1
 have fin:∀ v1 w1 dss,Cs r (But S v) w dss ys→w1.ownsRow B E r.k v1 (xs.length+ys.length) (css.flatten++dss.flatten)→w.grownBy w1 v.ownBlock→(v1.ownBlock=v.ownBlock∨v1.ownBlock=some w.heap.size)→wpList P ops Q rest (a.put o.dst v1) w1:=by
  intro v1 w1 dss hd hown hgrow hat
  have hO2:=hO.append hd (v':=v1) (w2:=w1) hown hgrow hat
  obtain ⟨p,cap,hf⟩:=hO2.form
  rw [List.length_append] at hf
  subst hf
  exact h p cap _ w1 hO2 (B7 hgrow hv hB hat)
 by_cases hne:ys=[]
 ·subst hne
  obtain ⟨p,cap,rfl,_⟩:=hys.len
  rcases p with _ | ad
  ·refine Jq hgd s x t ho B E i r.k ht hi v xs.length css.flatten hs hO.row cap hx ?_
   refine fin v w [] (Cs.nil _ _ _) (by simpa using hO.row) ⟨rfl,rfl,rfl,Q9 _,fun _ _ _=>rfl⟩ (.inl rfl)
  refine wpList_append_own_at (P:=P) (w:=w) hgd s x t ho B E i z r.k bytes ht hi hz hsize hby hzs hk v xs.length css.flatten hs hO.row ad 0 cap [] hx (by simp) (fun j u hu=>by simp at hu) (fun u hu=>by simp at hu) (by unfold maxLen;simp at hl;omega) (by
    have:=Nat.mul_le_mul (show xs.length+0≤1000000 by simpa using hl) hb1
    omega) hB (fun v1 w1 hown hgrow _ hat=>?_)
  exact fin v1 w1 [] (Cs.nil _ _ _) (by simpa using hown) hgrow hat
 obtain ⟨p,cap,dss,rfl,hd,hb⟩:=hys.css hk
 obtain ⟨b,off,rfl,hS,hbl,hc⟩:=hb hne
 refine wpList_append_own_at (P:=P) (w:=w) hgd s x t ho B E i z r.k bytes ht hi hz hsize hby hzs hk v xs.length css.flatten hs hO.row ⟨b,off,none⟩ ys.length cap dss.flatten hx hd.flat (fun j u hu=>?_) (fun u hu=>?_) (by unfold maxLen;omega) (by
   have:=Nat.mul_le_mul hl hb1
   omega) hB (fun v1 w1 hown hgrow _ hat=>?_)
 ·rw [show (⟨b,off,none⟩:Addr).add j=⟨b,off+j,none⟩ by unfold Addr.add;split <;> simp_all]
  exact hc j u hu
 ·obtain ⟨c,hcm,huc⟩:=List.mem_flatten.1 hu
  obtain ⟨i,hi⟩:=List.getElem?_of_mem hcm
  have hil:=(Qj hi).1
  exact h1 _ w c _ (hd.R i c _ hi (Qx (by rw [← hd.len];exact hil))) u huc
 exact fin v1 w1 dss hd hown hgrow hat
end
theorem Uh (S:Nat→Prop) (v:Value) (l:List Rel) (x:Bs) (w:World) (hs:Sl Z0 S w v l):
  Calls prog 37 #[v,sv x] w fun e w'=>e=.returned (.int .i64 (Y9 (fun r=>decide (r.table=x)) l))∧w=w':=by
 obtain ⟨p,cap,rfl,hl⟩:=hs.len
 have HS:=Qq hs
 clear hs
 obtain ⟨n,hn⟩:=eX (l.length)
 rw [hn] at HS hl;rw [hn]
 have HN:=Qq hn
 clear hn
 obtain ⟨r,hr⟩:∃ r,Y9 (fun r=>decide (r.table=x)) l=r:=⟨_,rfl⟩
 rw [hr]
 have HR:=Qq hr
 clear hr
 unfold sv
 go_enter func37,ntmps37
 go_wp2_with fail
 go_loop [5] (fun i=>∃ k:Nat,k≤n∧i=.int .i64 k∧Aside (∀ (j:Nat) (y:Rel),j<k→l[j]?=some y→decide (y.table=x)=false)) (fun i=>n - (intOf i).toNat)
 case atStart=>exact ⟨0,Q8 _,rfl,fun j _ hj=>absurd hj (Nat.not_lt_zero _)⟩
 obtain ⟨k,hk,rfl,A⟩:=hrel
 by_cases hlt:k<n
 ·have hi1:(0:Int)≤(k:Int):=by omega
  have hi2:(k:Int)<(n:Int):=by omega
  obtain ⟨y,hy⟩:∃ y,l[k]?=some y:=⟨_,Qx (by rw [HN.out];exact hlt)⟩
  obtain ⟨b,off,cs,rfl,_,_,_,⟨rv,rfl,_,_⟩,hc⟩:=HS.out.elem hy
  have c0:=hc 0 _ rfl
  rw [show Z0.k=2 from rfl,Nat.add_zero] at c0
  unfold sv at c0
  have HY:=Qq hy
  clear hy hc
  by_cases he:y.table=x
  ·have hq:(y.table==x)=true:=by rw [he];simp
   have hr0:r=k:=by rw [← HR.out];exact Vb HY.out (by simp [he]) A.out
   subst hr0
   have HE:=Qq he
   clear he
   go_wp2_with fail
   go_ret
   exact ⟨rfl,rfl⟩
  have hq:(y.table==x)=false:=by rw [← Bool.not_eq_true,beq_iff_eq];exact he
  have HE:=Qq he
  clear he
  go_wp2_with fail
  go_round
  case measure=>simp [intOf];omega
  case rel=>
   refine ⟨k+1,by omega,by go_num,(show Aside _ from fun j z hj hz=>?_)⟩
   by_cases e:j=k
   ·subst e
    have:=HY.out
    rw [this] at hz
    cases hz
    simpa using HE.out
   exact A.out j z (by omega) hz
 have hltz:¬ (k:Int)<(n:Int):=by omega
 have:k=n:=by omega
 subst this
 have hr0:r=-1:=by rw [← HR.out];exact Xf (fun j y hy=>A.out j y (by have:=(Qj hy).1;have:=HN.out;omega) hy)
 subst hr0
 go_wp2_with fail
 go_ret
 exact ⟨rfl,rfl⟩
def Nd (S:Nat→Prop) (w:World) (rows:List Val) (e:Ending) (w':World):Prop:=∃ p cap,e=.returned (.slice p rows.length cap)∧Sl Ql S w (.slice p rows.length cap) rows∧w=w'
theorem Vk (l:List Rel) (x:Bs):(Ym l x=none∧Y9 (fun r=>decide (r.table=x)) l=-1)∨∃ (i:Nat) (r:Rel),Ym l x=some i∧Y9 (fun r=>decide (r.table=x)) l=i∧l[i]?=some r:=by
 unfold Ym Y9
 cases h:l.findIdx? (fun r=>decide (r.table=x)) with
 | none=>exact .inl ⟨rfl,rfl⟩
 | some i=>
  rw [List.findIdx?_eq_some_iff_getElem] at h
  exact .inr ⟨i,_,rfl,rfl,Qx h.1⟩
theorem Uo (S:Nat→Prop) (v:Value) (l:List Rel) (x:Bs) (w:World) (hs:Sl Z0 S w v l):
  Calls prog 10 #[v,sv x] w (Nd S w (Yv l x)):=by
 have HF:=Qq (fun W (h:w=W)=>Uh S v l x W (h ▸ hs))
 rcases Vk l x with ⟨hr,hi⟩ | ⟨i,r,hr,hi,hx⟩
 ·have hR:Yv l x=[]:=by unfold Yv;rw [hr]
  rw [hR]
  rw [hi] at HF
  clear hr hi hR
  obtain ⟨p,cap,rfl,hl⟩:=hs.len
  clear hs
  unfold sv at HF ⊢
  go_enter func10,ntmps10
  go_wp2_with (go_at_call 37;refine (HF.out _ rfl).mono ?_;rintro e w' ⟨rfl,rfl⟩)
  go_ret
  exact ⟨none,0,rfl,Sl.nil _ _ _,rfl⟩
 have hR:Yv l x=r.rows:=by unfold Yv;rw [hr];simp [List.getD_eq_getElem?_getD,hx]
 rw [hR]
 rw [hi] at HF
 clear hr hi hR
 obtain ⟨p,cap,rfl,hl⟩:=hs.len
 have hil:=(Qj hx).1
 obtain ⟨b,off,cs,rfl,hbl,_,_,⟨rv,rfl,_,hrv⟩,hc⟩:=hs.elem hx
 have c1:=hc 1 _ rfl
 rw [show Z0.k=2 from rfl] at c1
 obtain ⟨q,qc,rfl,_⟩:=hrv.len
 have HRV:=Qq hrv
 have hi1:(0:Int)≤(i:Int):=by omega
 have hi2:(i:Int)<(l.length:Int):=by omega
 have hi3:decide ((i:Int)<0)=false:=by simp
 clear hs hx hc hrv
 unfold sv at HF ⊢
 go_enter func10,ntmps10
 go_wp2_with (go_at_call 37;refine (HF.out _ rfl).mono ?_;rintro e w' ⟨rfl,rfl⟩)
 go_ret
 exact ⟨q,qc,rfl,HRV.out,rfl⟩
end Go.Proofs.YtppbaladeefnkaaGreatDoor
