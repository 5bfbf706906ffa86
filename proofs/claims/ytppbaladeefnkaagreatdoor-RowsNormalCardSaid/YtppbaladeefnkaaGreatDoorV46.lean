import Derived.Test.YtppbaladeefnkaaGreatDoorV45
import Derived.Test.YtppbaladeefnkaaGreatDoorV35
import Derived.Test.YtppbaladeefnkaaGreatDoorV33
set_option maxRecDepth 100000
set_option maxHeartbeats 400000000
namespace Go.Proofs.YtppbaladeefnkaaGreatDoor
open Go.RowKit Go.Shelf Go.Lib Tryz
structure Jm (t:Tbl):Prop where
 few:t.columns.length≤900
 refs:t.refs.length≤1000
 words:∀ c ∈ t.columns,Xy c.name
 once:(t.columns.map Col.name).Nodup
 types:∀ c ∈ t.columns,Ji c.type∨c.type.kind=3
theorem Jx (l:List Int) (i:Nat) (m:Int) (hm:1≤m):0≤Zp l i m∧Zp l i m<m:=by
 unfold Zp
 split
 ·exact Mi _ m (by omega)
 omega
theorem O5 (s:Sc) (hsg:Vr s.sums) (t:Ty) (hl:Ji t∨t.kind=3) (n:Int) (hn0:0≤n) (hn1:n≤1000000) (S0 S1:Nat→Prop) (cs ct:List Value) (w:World) (hs:Yn S0 w cs s) (ht:Y7 S1 w ct t):
  Calls prog 71 #[.agg cs.toArray,.agg ct.toArray,.int .i64 n] w (Jf w):=by
 rcases hl with h | h
 ·exact Dt s t h n hn0 S0 S1 cs ct w hs ht
 obtain ⟨k,nm,tn,names,kids⟩:=t
 cases (show k=3 from h)
 exact Ni s hsg nm tn names kids n hn0 hn1 S0 S1 cs ct w hs ht
theorem Ek:∀ {ks:List Bs} {row:Val} {l:List Val},keyOf ks row=some l→∀ v ∈ l,v ∈ row.kids
 | [],row,l,h,v,hv=>by
  simp only [keyOf,Option.some.injEq] at h
  subst h;simp at hv
 | k::ks,row,l,h,v,hv=>by
  unfold keyOf at h
  split at h
  ·rename_i u l' h1 h2
   obtain rfl:=Qb h
   rcases List.mem_cons.1 hv with rfl | hv
   ·unfold Y1 at h1
    split at h1
    ·split at h1
     ·exact Qy h1
     cases h1
    cases h1
   exact Ek h2 v hv
  cases h
theorem Zr.kid {v:Val} (h:Zr v):∀ x ∈ v.kids,Zr x:=by
 cases h with
 | int n=>intro x hx;simp [Val.kids] at hx
 | text s=>intro x hx;simp [Val.kids] at hx
 | bool n _=>intro x hx;simp [Val.kids] at hx
 | make s kids _ _ hk=>exact hk
 | record names kids _ _ _ hk=>exact hk
 | list kids hk=>exact hk
def Nx (S:Nat→Prop) (w:World) (m:Nat) (e:Ending) (w':World):Prop:=∃ v p3 k3 p4 k4,e=.returned (.agg (vcs v p3 k3 p4 k4).toArray)∧Zr v∧(v.kids.length≤m∧v.kids.length≤k4)∧Qh (fun b=>S b∨w.heap.size≤b) w' (vcs v p3 k3 p4 k4) v∧Below w.heap.size w w'
theorem Nl {l:List Rel} {x:Bs} {v:Val} (h:v ∈ Yv l x):∃ r ∈ l,v ∈ r.rows:=by
 unfold Yv at h
 split at h
 ·rename_i i hi
  unfold Ym at hi
  have hl:=(List.findIdx?_eq_some_iff_getElem.1 hi).1
  rw [List.getD_eq_getElem?_getD,Qx hl,Option.getD_some] at h
  exact ⟨_,Qd hl,h⟩
 simp at h
structure Xm (S:Nat→Prop) (W1 wr:World) (nv vv:Value) (xs:List Bs) (vals:List Val):Prop where
 old:∀ b,S b→b<W1.heap.size
 below:Below W1.heap.size W1 wr
 names:∃ css,Own Qp 9 (fun _=>True) W1.heap.size wr nv xs css
 vals:∃ css,Own Ql 44 (fun b=>(S b∨W1.heap.size≤b)∧some b≠nv.ownBlock) W1.heap.size wr vv vals css
theorem Xm.grow {S:Nat→Prop} {W1 wr wr':World} {nv vv:Value} {xs:List Bs} {vals:List Val} (h:Xm S W1 wr nv vv xs vals) (hb:Below wr.heap.size wr wr'):Xm S W1 wr' nv vv xs vals:=by
 obtain ⟨h0,h1,⟨c1,h2⟩,⟨c2,h3⟩⟩:=h
 exact ⟨h0,h1.thn hb,⟨c1,h2.below hb⟩,⟨c2,h3.below hb⟩⟩
theorem Xm.addName {S:Nat→Prop} {W1 w w1:World} {nv vv nv':Value} {xs xs':List Bs} {vals:List Val} {css:List (List Value)} (h:Xm S W1 w nv vv xs vals) (hO:Own Qp 9 (fun _=>True) W1.heap.size w1 nv' xs' css) (hL:Bo W1.heap.size w w1 nv nv'):Xm S W1 w1 nv' vv xs' vals:=by
 obtain ⟨h0,h1,⟨c1,h2⟩,⟨c2,h3⟩⟩:=h
 refine ⟨h0,h1.trans hL.below,⟨_,hO⟩,⟨c2,V0 h3.row (fun b hb hv=>hL.other b hb (fun e=>Zs h3.row h2.row (by decide) hv e.symm)),?_⟩⟩
 refine h3.cs.move (fun b hb hlt=>hL.other b hlt hb.1.2) (fun b hb h=>⟨⟨h.1.1,fun e=>?_⟩,h.2⟩)
 rcases hL.at' with e' | ⟨g,e',hg⟩
 ·exact h.1.2 (by rw [e,e'])
 rw [e'] at e
 have:=Qb e
 omega
theorem Xm.addVal {S:Nat→Prop} {W1 w w1:World} {nv vv vv':Value} {xs:List Bs} {vals vals':List Val} {css:List (List Value)} (h:Xm S W1 w nv vv xs vals) (hO:Own Ql 44 (fun b=>(S b∨W1.heap.size≤b)∧some b≠nv.ownBlock) W1.heap.size w1 vv' vals' css) (hL:Bo W1.heap.size w w1 vv vv'):Xm S W1 w1 nv vv' xs vals':=by
 obtain ⟨h0,h1,⟨c1,h2⟩,⟨c2,h3⟩⟩:=h
 exact ⟨h0,h1.trans hL.below,⟨c1,Ki h2 (fun b hb hv=>hL.other b hb (fun e=>Zs h2.row h3.row (by decide) hv e.symm))⟩,⟨_,hO⟩⟩
def ValMid (wr:World) (t15:Value) (wx:World):Prop:=∃ G v q3 m3 q4 m4,t15=.pointer (some ⟨G,0,none⟩)∧wx.heap[G]?=some (.cells #[.int .i64 v.kind,.int .i64 v.n,.string ⟨v.s.toArray⟩,.slice q3 v.names.length m3,.slice q4 v.kids.length m4] 44 (0,0))∧Zr v∧Qh (fun b=>wr.heap.size≤b∧b≠G) wx (vcs v q3 m3 q4 m4) v∧Below wr.heap.size wr wx∧wr.heap.size≤G
def Br (S5:Nat→Prop) (wo:World) (G:Nat) (wr:World):Prop:=Below wo.heap.size wo wr∧∃ v q3 m3 q4 m4,wr.heap[G]?=some (.cells #[.int .i64 v.kind,.int .i64 v.n,.string ⟨v.s.toArray⟩,.slice q3 v.names.length m3,.slice q4 v.kids.length m4] 44 (0,0))∧Zr v∧Qh S5 wr (vcs v q3 m3 q4 m4) v
theorem Br.grow {S5:Nat→Prop} {wo:World} {G:Nat} {wr wr':World} (h:Br S5 wo G wr) (hb:Below wr.heap.size wr wr'):Br S5 wo G wr':=by
 obtain ⟨h1,v,q3,m3,q4,m4,h2,h3,h4⟩:=h
 exact ⟨h1.thn hb,v,q3,m3,q4,m4,kB hb h2,h3,h4.move (.of_below hb) (fun _ _ h=>h)⟩
def TabMid (S:Nat→Prop) (wr:World) (T:Tbl) (b:Bool) (t18 t19:Value) (wx:World):Prop:=∃ G cp9 cc9 kp9 kc9 rp9 rc9 k9 s19 n9 s29 p19 n19 c19 p29 n29 c29 p39 n39 c39 a9 z9,t18=.pointer (some ⟨G,0,none⟩)∧t19=.bool b∧wx.heap[G]?=some (.cells #[.string ⟨T.name.toArray⟩,.slice cp9 T.columns.length cc9,.slice kp9 T.key.length kc9,.slice rp9 T.refs.length rc9,.int .i64 k9,.string s19,.int .i64 n9,.string s29,.slice p19 n19 c19,.slice p29 n29 c29,.slice p39 n39 c39,.int .i64 a9,.int .i64 z9] 37 (0,0))∧Qt.R S wx [.string ⟨T.name.toArray⟩,.slice cp9 T.columns.length cc9,.slice kp9 T.key.length kc9,.slice rp9 T.refs.length rc9,.int .i64 k9,.string s19,.int .i64 n9,.string s29,.slice p19 n19 c19,.slice p29 n29 c29,.slice p39 n39 c39,.int .i64 a9,.int .i64 z9] T∧Below wr.heap.size wr wx∧wr.heap.size≤G
def KeyMid (S:Nat→Prop) (wr:World) (l:List Val) (t20:Value) (wx:World):Prop:=∃ p c,t20=.slice p l.length c∧Sl Ql (fun b=>S b∨wr.heap.size≤b) wx (.slice p l.length c) l∧Below wr.heap.size wr wx
theorem Bt (S0 S1 S2 S3:Nat→Prop) (s:Sc) (cs:List Value) (lv:Value) (l:List Rel) (t:Tbl) (ct:List Value) (nv:Value) (ns:List Int) (at':Nat) (w:World) (hs0:Yn S0 w cs s) (hl0:∃ p c,lv=.slice p l.length c) (HRo:Hid (∀ tn W,Below w.heap.size w W→Calls prog 10 #[lv,sv tn] W (Nd (fun b=>S1 b∧b<w.heap.size) W (Yv l tn)))) (ht:Qt.R S2 w ct t) (hn0:Y6 S3 w nv ns) (hi:V9 ns) (hat:at'≤1000) (hT:Jm t) (hsg:Vr s.sums) (hk:∀ t ∈ s.tables,t.key.length≤1000) (hR:∀ r ∈ l,∀ v ∈ r.rows,Zr v):
  Calls prog 36 #[.agg cs.toArray,lv,.agg ct.toArray,nv,.int .i64 at'] w (Nx S1 w t.columns.length):=by
 have hs:Yn (fun b=>S0 b∧b<w.heap.size) w cs s:=by
  obtain ⟨uv,tv,h1,h2,h3⟩:=hs0
  exact ⟨uv,tv,h1,h2.mono (fun b hb h=>⟨h,hb⟩),h3.mono (fun b hb h=>⟨h,hb⟩)⟩
 clear hs0
 have HSc:=Qq hs
 have HVal:=Qq (fun (ty:Ty) (hty:Ji ty∨ty.kind=3) (q:Int) (hq0:0≤q) (hq1:q≤1000000) (S':Nat→Prop) (cty:List Value) W (hW:Below w.heap.size w W) (hc:Y7 S' W cty ty)=>O5 s hsg ty hty q hq0 hq1 (fun b=>S0 b∧b<w.heap.size) S' cs cty W (hs.below hW) hc)
 have HTab:=Qq (fun tn W (hW:Below w.heap.size w W)=>Bx (fun b=>S0 b∧b<w.heap.size) s cs tn W (hs.below hW))
 have HPk:=Qq (fun (k:Nat) W (hW:Below w.heap.size w W)=>Zt S3 nv ns (at'+k) 100000 W (hn0.below hW) hi (by omega) (by omega))
 have HK:=Qq hk;have HR:=Qq hR;have HTG:=Qq hT
 obtain ⟨uv,tv,rfl,hu,ht0⟩:=hs
 obtain ⟨up,uc,rfl,_⟩:=hu.len
 obtain ⟨tp,tc,rfl,_⟩:=ht0.len
 obtain ⟨lp,lc,rfl⟩:=hl0
 obtain ⟨np,nc,rfl,_⟩:=hn0.len
 obtain ⟨cp0,cc0,kp0,kc0,rp0,rc0,k0,s10,n0,s20,p10,n10,c10,p20,n20,c20,p30,n30,c30,a0,z0,rfl,_,hcol,_,href,_⟩:=Zk ht
 unfold tcs
 obtain ⟨n,hn⟩:=eX (t.columns.length)
 obtain ⟨m,hm⟩:=eX (t.refs.length)
 have hn9:n≤900:=by have:=hT.few;omega
 have hm9:m≤1000:=by have:=hT.refs;omega
 rw [hn] at hcol ⊢
 rw [hm] at href ⊢
 have HC:=Qq hcol;have HRf:=Qq href;have HN:=Qq hn;have HM:=Qq hm
 clear ht hn0 hu ht0 hcol href hn hm hT hsg hk hR
 simp only [Int.natCast_add] at HPk
 obtain ⟨i0,j1,j2,j3,j4⟩:=Za (P:=prog) (t:=44) (z:=.agg zV) (n:=5) (b:=80) (by kernel_rfl)
 have HJ:=Qq j1;have HJ2:=Qq j2;have HJ3:=Qq j3;have HJ4:=Qq j4
 clear j1 j2 j3 j4
 obtain ⟨i9,j1,j2,j3,j4⟩:=Za (P:=prog) (t:=9) (z:=.string ⟨#[]⟩) (n:=1) (b:=16) (by kernel_rfl)
 have HI:=Qq j1;have HI2:=Qq j2;have HI3:=Qq j3;have HI4:=Qq j4
 clear j1 j2 j3 j4
 unfold sv at HRo HTab
 go_enter func36,ntmps36
 go_wp2_with fail
 generalize hW1:((w.alloc _).alloc _).alloc _=W1
 have hb1:=eqB hW1 (Xr _ _ _ _)
 have hS1:=eqH (b:=w.heap.size) hW1 (Zd _ _ _ _)
 have hT1:=eqH (b:=w.heap.size+1) hW1 (Z9 _ _ _ _)
 have hZ1:=eqH (b:=w.heap.size+1+1) hW1 (Zw _ _ _ _)
 have hz1:W1.heap.size=w.heap.size+3:=by rw [← hW1];simp
 have HB1:=Qq hb1;have HS1:=Qq hS1;have HT1:=Qq hT1;have HZ1:=Qq hZ1;have HZs:=Qq hz1
 have hst:Xm (fun b=>S1 b∧b<w.heap.size) W1 W1 (.slice none 0 0) (.slice none 0 0) [] []:=⟨fun b hb=>by have:=hb.2;omega,Qz _ _,⟨[],Own.nil _ _ _ _ _⟩,⟨[],Own.nil _ _ _ _ _⟩⟩
 clear hW1 hb1 hS1 hT1 hZ1 hz1
 go_loopw [11,12,13,14,15,16,17,18,19,20] (fun t11 t12 t13 _ _ _ _ _ _ _ wr=>∃ (k:Nat) (p3:Option Addr) (cx3:Nat) (p4:Option Addr) (cx4:Nat) (vals:List Val),k≤n∧t11=.slice p3 k cx3∧t12=.slice p4 k cx4∧t13=.int .i64 k∧Aside (vals.length=k∧(∀ v ∈ vals,Zr v)∧Xm (fun b=>S1 b∧b<w.heap.size) W1 wr (.slice p3 k cx3) (.slice p4 k cx4) ((t.columns.take k).map Col.name) vals)) (fun _ _ t13 _ _ _ _ _ _ _ _=>n - (intOf t13).toNat)
 case atStart=>exact ⟨0,none,0,none,0,[],Q8 _,rfl,rfl,rfl,rfl,(fun v h=>by simp at h),hst⟩
 clear hst
 obtain ⟨k,p3,cx3,p4,cx4,vals,hkn,rfl,rfl,rfl,hA⟩:=hrel
 obtain ⟨hvl,hvg,h2⟩:=hA.out
 have HVl:=Qq hvl;have HVg:=Qq hvg;have H2:=Qq h2
 have HBr:=Qq h2.below;have HWr:=Qq (HB1.out.thn h2.below)
 have hzs:=HZs.out
 have hsr:=h2.below.size
 clear hA hvl hvg h2
 have hSr:=kB HBr.out HS1.out
 have hTr:=kB HBr.out HT1.out
 have hZr:=kB HBr.out HZ1.out
 have HSr':=Qq hSr;have HTr:=Qq hTr;have HZr:=Qq hZr
 obtain ⟨s0,s1⟩:=row2 hSr
 have c1:=rA1 hTr
 clear hSr hTr hZr
 by_cases hlt:k<n
 ·have hi1:(0:Int)≤(k:Int):=by omega
  have hi2:(k:Int)<(n:Int):=by omega
  obtain ⟨c,hc⟩:∃ c,t.columns[k]?=some c:=⟨_,Qx (by rw [HN.out];exact hlt)⟩
  have hsn:=Bq hc
  obtain ⟨cb,coff,tk,ts,tn,t3,n3,l3,t4,n4,l4,hcp,hcS,hcb,hcn,hcty,d0,d1,d2,d3,d4,d5⟩:=(HC.out.below HWr.out).col hc
  subst hcp
  have hpk:=Jx ns (at'+k) 100000 (by omega)
  obtain ⟨q,hq⟩:=eX (Zp ns (at'+k) 100000)
  have HPq:=Qq (HPk.out k)
  rw [hq] at HPq hpk
  obtain ⟨hq0,hq1⟩:=hpk
  have HTy:=Qq hcty;have HSn:=Qq hsn;have HCn:=Qq hcn;have HCm:=Qq (Qy hc)
  have HD:=Qq d0
  clear hq hc hsn hcty hcn
  have hk9:k<900:=by omega
  go_upto_region 7 with (go_at_call 26;refine (HPq.out _ HWr.out).mono ?_;rintro e w' ⟨rfl,rfl⟩)
  refine let_mvar% ?Lq1:=fun w':World=>w'.cell? ⟨w.heap.size,0,none⟩=some (.slice up s.sums.length uc)∧w'.cell? ⟨w.heap.size,1,none⟩=some (.slice tp s.tables.length tc)∧w'.cell? ⟨w.heap.size+1,1,none⟩=some (.slice (some ⟨cb,coff,none⟩) n cc0)∧w'.cell? ⟨cb,coff+k*6+1,none⟩=some (.int .i64 tk)∧w'.cell? ⟨cb,coff+k*6+2,none⟩=some (.string ts)∧w'.cell? ⟨cb,coff+k*6+3,none⟩=some (.int .i64 tn)∧w'.cell? ⟨cb,coff+k*6+4,none⟩=some (.slice t3 n3 l3)∧w'.cell? ⟨cb,coff+k*6+5,none⟩=some (.slice t4 n4 l4)∧Below wr.heap.size wr w';?_
  have HS:∀ w',Below wr.heap.size wr w'→?Lq1 w':=by
   intro w' h
   have hh:∀ {b j:Nat} {u:Value},wr.cell? ⟨b,j,none⟩=some u→w'.cell? ⟨b,j,none⟩=some u:=fun hc=>kC h hc
   exact ⟨hh s0,hh s1,hh c1,hh d1,hh d2,hh d3,hh d4,hh d5,h⟩
  obtain ⟨HS0,HSr,HD',HSB',HA',HSq⟩:=X5 HS (fun w' h=>h.2.2.2.2.2.2.2.2)
  have HP:=fun w' x0 x1 x2 x3 x4 h=>HSq.out (Zz w' wr.heap.size x0 x1 x2 x3 x4) (Qo (HSB'.out w' h) (Q9 _))
  unfold Zz at HP
  have HP':=Qq HP
  clear HS HP s0 s1 c1 d1 d2 d3 d4 d5
  have HVc:=Qq (fun W' (h':Below wr.heap.size wr W')=>(HVal.out c.type (HTG.out.types c HCm.out) q hq0 (by omega) _ [.int .i64 tk,.string ts,.int .i64 tn,.slice t3 n3 l3,.slice t4 n4 l4] W' (HWr.out.thn h') (HTy.out.move (.of_below h') (fun _ _ h=>h))).mono (R':=fun e w2=>∃ v q3 m3 q4 m4,e=.returned (.agg #[.int .i64 v.kind,.int .i64 v.n,.string ⟨v.s.toArray⟩,.slice q3 v.names.length m3,.slice q4 v.kids.length m4])∧Zr v∧Qh (fun b=>W'.heap.size≤b) w2 (vcs v q3 m3 q4 m4) v∧Below W'.heap.size W' w2∧Below wr.heap.size wr w2) (by
   rintro e w2 ⟨v,q3,m3,q4,m4,rfl,g1,_,g2,g3⟩
   exact ⟨v,q3,m3,q4,m4,rfl,g1,g2,g3,h'.thn g3⟩))
  go_cut [15] from 23 to 118 (fun t15 wx=>ValMid wr t15 wx)
  case first=>
   go_region_held3 ?Lq1 (first | with_reducible exact HS0.out | with_reducible exact hS2 | with_reducible exact HD'.out _ (HA'.out _ _ HSr.out) | with_reducible exact HA'.out _ _ hS2 | with_reducible exact HP'.out _ _ _ _ _ _ hS2)
    (first
     | (go_at_call 71;refine (HVc.out _ (HSB'.out _ (by assumption))).mono ?_;rintro e w2 ⟨v,q3,m3,q4,m4,rfl,hg2,hv2,hb2,hq2⟩;have hS2:=HSq.out _ hq2;(try (have r2:w2.heap[wr.heap.size]?=some (.cells zV 44 (0,0)):=(hb2.block wr.heap.size (by simp)).trans (Qw wr _);have g0:=fA 0 r2;have y0:=Qk _ _ 0 _ _ _ r2;have g1:=fA 1 r2;have y1:=Qk _ _ 1 _ _ _ r2;have g2:=fA 2 r2;have y2:=Qk _ _ 2 _ _ _ r2;have g3:=fA 3 r2;have y3:=Qk _ _ 3 _ _ _ r2;have g4:=fA 4 r2;have y4:=Qk _ _ 4 _ _ _ r2;simp only [List.getElem?_toArray,List.getElem?_cons_zero,List.getElem?_cons_succ] at y0 y1 y2 y3 y4;have HR2:=Qq r2;clear r2));have HG2:=Qq hg2;have HV2:=Qq hv2;have HB2:=Qq hb2;clear hg2 hv2 hb2))
   all_goals
    go_wp2_with fail
    go_meet
    first
     | (have h9:=HR2.out;clear h9;exact ⟨wr.heap.size,v,q3,m3,q4,m4,rfl,Yr HR2.out,HG2.out,Qh.move HV2.out (fun b hb _=>Qu (by have h:(wr.alloc _).drew.heap.size≤b:=hb;simp at h;omega)) (fun b _ hb=>by have h:(wr.alloc _).drew.heap.size≤b:=hb;simp at h;exact ⟨by omega,by omega⟩),Qo (HSB'.out _ hS2) (Q9 _),Q9 _⟩)
     | exact ⟨w2.heap.size,v,q3,m3,q4,m4,rfl,Qw _ _,HG2.out,Qh.move HV2.out (.of_below (Qn _ _)) (fun b hb h=>⟨by have h:wr.drew.heap.size≤b:=h;simpa using h,by omega⟩),(HSB'.out _ hS2).thn (Qn _ _),(HSB'.out _ hS2).size⟩
  obtain ⟨G,v0,z3,y3,z4,y4,rfl,hG,hg0,hv0,hbc,hGl⟩:=hcut
  have HG:=Qq hG;have HG0:=Qq hg0;have HV0:=Qq hv0;have HBc:=Qq hbc
  clear hG hg0 hv0 hbc HVc
  clear HS0 HSr HD' HSB' HA' HP' HSq
  obtain ⟨wo,rfl⟩:∃ wo,wo=wr:=⟨_,rfl⟩
  have HBo':=Qq HBr.out
  have hst2:Br (fun b=>(S1 b∧b<w.heap.size)∨(wo.heap.size≤b∧b≠G)) wo G wc:=⟨HBc.out,v0,z3,y3,z4,y4,HG.out,HG0.out,HV0.out.move (.refl _ _) (fun b _ h=>.inr h)⟩
  have hGw:w.heap.size+3≤G:=by omega
  clear HV0 HG HG0 HTy HSr' HTr HZr hsr
  go_wp2_with fail
  go_loopw [16,17,18,19,20] (fun t16 _ _ _ _ wr=>∃ r:Nat,r≤m∧t16=.int .i64 r∧Aside (Br (fun b=>(S1 b∧b<w.heap.size)∨(wo.heap.size≤b∧b≠G)) wo G wr)) (fun t16 _ _ _ _ _=>m - (intOf t16).toNat)
  case atStart=>exact ⟨0,Q8 _,rfl,hst2⟩
  clear hst2
  obtain ⟨r,hrm,rfl,hA⟩:=hrel
  have HIn:=Qq hA.out
  have HBi:=Qq hA.out.1;have HWi:=Qq (HWr.out.thn hA.out.1)
  have hBW:Below W1.heap.size W1 wr:=HBr.out.thn hA.out.1
  clear hA
  have hSr:=kB hBW HS1.out
  have hTr:=kB hBW HT1.out
  have HBW:=Qq hBW
  clear hBW
  obtain ⟨s0,s1⟩:=row2 hSr
  have c1:=rA1 hTr;have c3:=rA3 hTr
  clear hSr hTr
  by_cases hlr:r<m
  ·have hr1:(0:Int)≤(r:Int):=by omega
   have hr2:(r:Int)<(m:Int):=by omega
   obtain ⟨f,hf⟩:∃ f,t.refs[r]?=some f:=⟨_,Qx (by rw [HM.out];exact hlr)⟩
   obtain ⟨fb,foff,fcs,hfp,hfb,_,_,⟨hfcs,hfl1,hfl2⟩,hfd⟩:=(HRf.out.below HWi.out).elem hf
   subst hfp;subst hfcs
   have e0:=hfd 0 _ rfl;have e1:=hfd 1 _ rfl
   rw [show Jb.k=2 from rfl] at e0 e1
   rw [Nat.add_zero] at e0
   unfold sv at e0 e1
   obtain ⟨rows,hrows⟩:=eX (Yv l f.table)
   have HRo':=Qq (HRo.out f.table wr HWi.out)
   rw [hrows] at HRo'
   have HRows:=Qq hrows
   obtain ⟨T,hT⟩:=eX ((Z5 s.tables f.table).getD Tbl.zero)
   obtain ⟨b,hb⟩:=eX ((Z5 s.tables f.table).isSome)
   have HTa:=Qq (HTab.out f.table)
   unfold TabIs at HTa
   rw [hT,hb] at HTa
   have hTk:T.key.length≤1000:=by
    rw [← hT]
    cases h:Z5 s.tables f.table with
    | none=>exact Q8 _
    | some t=>exact HK.out t (List.mem_of_find?_eq_some h)
   have HTk:=Qq hTk
   clear hf hfd hfb hrows hT hb hTk
   go_upto_region 12 with (go_at_call 10;refine HRo'.out.mono ?_;rintro e w' ⟨rp,rc,rfl,hrs,rfl⟩;have HRs:=Qq hrs;clear hrs)
   obtain ⟨n2,hn2⟩:=eX (rows.length)
   rw [hn2] at HRs ⊢
   have HN2:=Qq hn2
   clear hn2 HRo'
   have HE0:=Qq e0;have HC1:=Qq c1;have HC3:=Qq c3
   clear e0 c1
   refine let_mvar% ?Lq2:=fun w':World=>w'.cell? ⟨w.heap.size,0,none⟩=some (.slice up s.sums.length uc)∧w'.cell? ⟨w.heap.size,1,none⟩=some (.slice tp s.tables.length tc)∧w'.cell? ⟨w.heap.size+1,3,none⟩=some (.slice (some ⟨fb,foff,none⟩) m rc0)∧w'.cell? ⟨fb,foff+r*2+1,none⟩=some (.string ⟨f.table.toArray⟩)∧Below wr.heap.size wr w';?_
   have HS:∀ w',Below wr.heap.size wr w'→?Lq2 w':=by
    intro w' h
    have hh:∀ {b j:Nat} {u:Value},wr.cell? ⟨b,j,none⟩=some u→w'.cell? ⟨b,j,none⟩=some u:=fun hc=>kC h hc
    exact ⟨hh s0,hh s1,hh c3,hh e1,h⟩
   obtain ⟨HS0,HSr,HD',HSB',HA',HSq⟩:=X5 HS (fun w' h=>h.2.2.2.2)
   have HP:=fun w' x0 x1 x2 x3 x4 x5 x6 x7 x8 x9 x10 x11 x12 h=>HSq.out (Xa w' wr.heap.size x0 x1 x2 x3 x4 x5 x6 x7 x8 x9 x10 x11 x12) (Yd (HSB'.out w' h) (Q9 _))
   unfold Xa at HP
   have HP':=Qq HP
   clear HS HP s0 s1 c3 e1
   have HTc:=Qq (fun W' (h':Below wr.heap.size wr W')=>(HTa.out W' (HWi.out.thn h')).mono (R':=fun e w2=>∃ cp9 cc9 kp9 kc9 rp9 rc9 k9 s19 n9 s29 p19 n19 c19 p29 n29 c29 p39 n39 c39 a9 z9,e=.returned (.tuple #[.agg #[.string ⟨T.name.toArray⟩,.slice cp9 T.columns.length cc9,.slice kp9 T.key.length kc9,.slice rp9 T.refs.length rc9,.int .i64 k9,.string s19,.int .i64 n9,.string s29,.slice p19 n19 c19,.slice p29 n29 c29,.slice p39 n39 c39,.int .i64 a9,.int .i64 z9],.bool b])∧Qt.R (fun b=>S0 b∧b<w.heap.size) w2 [.string ⟨T.name.toArray⟩,.slice cp9 T.columns.length cc9,.slice kp9 T.key.length kc9,.slice rp9 T.refs.length rc9,.int .i64 k9,.string s19,.int .i64 n9,.string s29,.slice p19 n19 c19,.slice p29 n29 c29,.slice p39 n39 c39,.int .i64 a9,.int .i64 z9] T∧Below W'.heap.size W' w2∧Below wr.heap.size wr w2) (by
    rintro e w2 ⟨cs',rfl,g1,g2⟩
    obtain ⟨cp9,cc9,kp9,kc9,rp9,rc9,k9,s19,n9,s29,p19,n19,c19,p29,n29,c29,p39,n39,c39,a9,z9,hcs,_⟩:=Zk g1
    simp only [tcs] at hcs
    subst hcs
    exact ⟨cp9,cc9,kp9,kc9,rp9,rc9,k9,s19,n9,s29,p19,n19,c19,p29,n29,c29,p39,n39,c39,a9,z9,rfl,g1,g2,h'.thn g2⟩))
   clear HTa
   go_cut [18,19] from 44 to 105 (fun t18 t19 wx=>TabMid (fun b=>S0 b∧b<w.heap.size) wr T b t18 t19 wx)
   case first=>
    go_region_held3 ?Lq2 (first | with_reducible exact HS0.out | with_reducible exact hS2 | with_reducible exact HD'.out _ (HA'.out _ _ HSr.out) | with_reducible exact HA'.out _ _ hS2 | with_reducible exact HP'.out _ _ _ _ _ _ _ _ _ _ _ _ _ _ hS2)
     (first
      | (go_at_call 9;refine (HTc.out _ (HSB'.out _ (by assumption))).mono ?_;rintro e w2 ⟨cp9,cc9,kp9,kc9,rp9,rc9,k9,s19,n9,s29,p19,n19,c19,p29,n29,c29,p39,n39,c39,a9,z9,rfl,ht2,hb2,hq2⟩;have hS2:=HSq.out _ hq2;(try (have r2:w2.heap[wr.heap.size]?=some (.cells zT 37 (0,0)):=(hb2.block wr.heap.size (by simp)).trans (Qw wr _);have g0:=fA 0 r2;have y0:=Qk _ _ 0 _ _ _ r2;have g1:=fA 1 r2;have y1:=Qk _ _ 1 _ _ _ r2;have g2:=fA 2 r2;have y2:=Qk _ _ 2 _ _ _ r2;have g3:=fA 3 r2;have y3:=Qk _ _ 3 _ _ _ r2;have g4:=fA 4 r2;have y4:=Qk _ _ 4 _ _ _ r2;have g5:=fA 5 r2;have y5:=Qk _ _ 5 _ _ _ r2;have g6:=fA 6 r2;have y6:=Qk _ _ 6 _ _ _ r2;have g7:=fA 7 r2;have y7:=Qk _ _ 7 _ _ _ r2;have g8:=fA 8 r2;have y8:=Qk _ _ 8 _ _ _ r2;have g9:=fA 9 r2;have y9:=Qk _ _ 9 _ _ _ r2;have g10:=fA 10 r2;have y10:=Qk _ _ 10 _ _ _ r2;have g11:=fA 11 r2;have y11:=Qk _ _ 11 _ _ _ r2;have g12:=fA 12 r2;have y12:=Qk _ _ 12 _ _ _ r2;simp only [List.getElem?_toArray,List.getElem?_cons_zero,List.getElem?_cons_succ] at y0 y1 y2 y3 y4 y5 y6 y7 y8 y9 y10 y11 y12;have HR2:=Qq r2;clear r2));have HT2:=Qq ht2;have HB2:=Qq hb2;clear ht2 hb2))
    all_goals
     go_wp2_with fail
     go_meet
     first
      | (have h9:=HR2.out;clear h9;exact ⟨wr.heap.size,cp9,cc9,kp9,kc9,rp9,rc9,k9,s19,n9,s29,p19,n19,c19,p29,n29,c29,p39,n39,c39,a9,z9,rfl,rfl,G7 HR2.out,Qt.frame HT2.out (fun b hb _=>Vf (by have:=hb.2;have:=HWi.out.size;omega)),Yd (HSB'.out _ hS2) (Q9 _),Q9 _⟩)
      | exact ⟨w2.heap.size,cp9,cc9,kp9,kc9,rp9,rc9,k9,s19,n9,s29,p19,n19,c19,p29,n29,c29,p39,n39,c39,a9,z9,rfl,rfl,Qw _ _,Qt.frame HT2.out (.of_below (Qn _ _)),(HSB'.out _ hS2).thn (Qn _ _),(HSB'.out _ hS2).size⟩
   obtain ⟨G2,cp9,cc9,kp9,kc9,rp9,rc9,k9,s19,n9,s29,p19,n19,c19,p29,n29,c29,p39,n39,c39,a9,z9,rfl,rfl,hG2,hT2,hbc,hGl2⟩:=hcut
   have HG2:=Qq hG2;have HT2:=Qq hT2;have HBc2:=Qq hbc
   clear hG2 hT2 hbc HTc
   clear HS0 HSr HD' HSB' HA' HP' HSq
   have HIn2:=Qq (HIn.out.grow HBc2.out);have HW2:=Qq (HWi.out.thn HBc2.out)
   have hcc:∀ {b j:Nat} {x:Value},wr.cell? ⟨b,j,none⟩=some x→wc.cell? ⟨b,j,none⟩=some x:=fun hx=>kC HBc2.out hx
   have e0:=hcc HE0.out;have c1:=hcc HC1.out;have c3:=hcc HC3.out
   have d0:=kC (HBi.out.thn HBc2.out) HD.out
   clear hcc HIn
   have hsp:(f.column==c.name)=false∨((f.column==c.name)=true∧b=false)∨((f.column==c.name)=true∧b=true∧n2=0)∨((f.column==c.name)=true∧b=true∧0<n2):=by
    cases (f.column==c.name) <;> cases b <;> simp <;> omega
   rcases hsp with hq | ⟨hq,rfl⟩ | ⟨hq,rfl,hz⟩ | ⟨hq,rfl,hz⟩
   focus
    go_upto_region 13 with fail
    go_quiet (fail)
    have HInr:=Qq (HIn2.out.grow (Zy wc nq))
    have hr9:r+1≤m:=hlr
    clear HIn2
    go_wp2_with fail
    go_roundw
    case measure=>simp [intOf];omega
    case rel=>
     refine ⟨r+1,hr9,?_,?_⟩
     ·go_num
     exact HInr.out
   focus
    go_upto_region 13 with fail
    go_quiet (fail)
    have HInr:=Qq (HIn2.out.grow (Zy wc nq))
    have hr9:r+1≤m:=hlr
    clear HIn2
    go_wp2_with fail
    go_roundw
    case measure=>simp [intOf];omega
    case rel=>
     refine ⟨r+1,hr9,?_,?_⟩
     ·go_num
     exact HInr.out
   focus
    have hg:¬ (0:Int)<(n2:Int):=by omega
    go_upto_region 13 with fail
    go_quiet (fail)
    have HInr:=Qq (HIn2.out.grow (Zy wc nq))
    have hr9:r+1≤m:=hlr
    clear HIn2
    go_wp2_with fail
    go_roundw
    case measure=>simp [intOf];omega
    case rel=>
     refine ⟨r+1,hr9,?_,?_⟩
     ·go_num
     exact HInr.out
   focus
    have hg:(0:Int)<(n2:Int):=by omega
    obtain ⟨m8,hm8⟩:=eX (q.tmod (n2:Int))
    have hbd:=Kh q n2 hq0 hg
    rw [hm8] at hbd
    obtain ⟨hbd1,hbd2⟩:=hbd
    obtain ⟨j,rfl⟩:∃ j:Nat,m8=(j:Int):=⟨m8.toNat,by omega⟩
    have hjp:j<n2:=by omega
    obtain ⟨y,hy⟩:∃ y,rows[j]?=some y:=⟨_,Qx (by rw [HN2.out];exact hjp)⟩
    obtain ⟨rb,roff,xp3,xk3,xp4,xk4,hrp,hrb,hvy,a0,a1,a2,a3,a4⟩:=(HRs.out.below HBc2.out).val hy
    subst hrp
    have hgy:∀ u ∈ y.kids,Zr u:=by
     obtain ⟨ro,h1,h2⟩:=Nl (l:=l) (x:=f.table) (v:=y) (by rw [HRows.out];exact Qy hy)
     exact (HR.out ro h1 y h2).kid
    have HVy:=Qq hvy;have HGy:=Qq hgy
    clear hy hvy hgy
    obtain ⟨g0,g1,g2,g3,g4,g5,g6,g7,g8,g9,g10,g11,g12⟩:=row13 HG2.out
    go_upto_region 13 with fail
    go_quiet (fail)
    obtain ⟨wq,hwq⟩:=eX (wc.drewN nq)
    have hbq:Below wc.heap.size wc wq:=by rw [← hwq];exact Zy _ _
    rw [hwq]
    have HBq:=Qq hbq;have HInq:=Qq (HIn2.out.grow hbq);have HWq:=Qq (HW2.out.thn hbq)
    have hh:∀ {b j:Nat} {x:Value},wc.cell? ⟨b,j,none⟩=some x→wq.cell? ⟨b,j,none⟩=some x:=fun hx=>kC hbq hx
    have g0:=hh g0;have g1:=hh g1;have g2:=hh g2;have g3:=hh g3;have g4:=hh g4;have g5:=hh g5;have g6:=hh g6;have g7:=hh g7;have g8:=hh g8;have g9:=hh g9;have g10:=hh g10;have g11:=hh g11;have g12:=hh g12;have a0:=hh a0;have a1:=hh a1;have a2:=hh a2;have a3:=hh a3;have a4:=hh a4
    clear hh hwq hbq e0 c1 c3 d0
    go_upto_region 14 with fail
    obtain ⟨kl,hkl⟩:=eX ((keyOf T.key y).getD [])
    have hkg:∀ u ∈ kl,Zr u:=fun u hu=>by
     cases hk:keyOf T.key y with
     | none=>rw [← hkl,hk] at hu;simp at hu
     | some l'=>rw [← hkl,hk] at hu;exact HGy.out u (Ek hk u hu)
    have HKg:=Qq hkg;have HKl:=Qq hkl
    clear hkl hkg
    have HKc:=Qq (fun W' (hW:Below wq.heap.size wq W')=>(Kg (fun b=>S0 b∧b<w.heap.size) (fun b=>S1 b∧b<w.heap.size) T y [.string ⟨T.name.toArray⟩,.slice cp9 T.columns.length cc9,.slice kp9 T.key.length kc9,.slice rp9 T.refs.length rc9,.int .i64 k9,.string s19,.int .i64 n9,.string s29,.slice p19 n19 c19,.slice p29 n29 c29,.slice p39 n39 c39,.int .i64 a9,.int .i64 z9] [.int .i64 y.kind,.int .i64 y.n,.string ⟨y.s.toArray⟩,.slice xp3 y.names.length xk3,.slice xp4 y.kids.length xk4] W' (Qt.frame HT2.out (.of_below (HBq.out.thn hW))) (HVy.out.move (.of_below (HBq.out.thn hW)) (fun _ _ h=>h)) HTk.out).mono (R':=fun e w2=>∃ p c,e=.returned (.slice p kl.length c)∧Sl Ql (fun b=>(fun b=>S1 b∧b<w.heap.size) b∨wq.heap.size≤b) w2 (.slice p kl.length c) kl∧Below wq.heap.size wq w2) (by
     rintro e w2 ⟨p,c,rfl,h3,h4⟩
     rw [HKl.out] at h3 ⊢
     have hsz:=hW.size
     exact ⟨p,c,rfl,h3.mono (fun b _ h=>h.imp id (fun h=>by omega)),hW.thn h4⟩))
    go_cut [20] from 44 to 105 (fun t20 wx=>KeyMid (fun b=>S1 b∧b<w.heap.size) wq kl t20 wx)
    case first=>
     go_region_with (go_at_call 12;refine (HKc.out _ (Qz _ _).drew).mono ?_;rintro e w2 ⟨p,kc,rfl,hk2,hb2⟩;have HK2:=Qq hk2;have HB2:=Qq hb2;clear hk2 hb2)
     all_goals
      go_wp2_with fail
      go_meet
      exact ⟨p,kc,rfl,HK2.out,HB2.out⟩
    obtain ⟨kp,kc,rfl,hks,hbc3⟩:=hcut
    have HIn3:=Qq (HInq.out.grow hbc3)
    have HKs:=Qq hks
    obtain ⟨kn,hkn⟩:=eX (kl.length)
    rw [hkn] at HKs ⊢
    have hGq:G<wq.heap.size:=by obtain ⟨_,_,_,_,_,_,h,_⟩:=HInq.out;exact Qf h
    obtain ⟨hBo,v1,b3,o3,b4,o4,hG3,_,_⟩:=HIn3.out
    have HG3:=Qq hG3;have HBo:=Qq hBo
    clear hks hbc3 HKc hBo
    by_cases hk1:kn=1
    ·subst hk1
     obtain ⟨u,rfl⟩:=List.length_eq_one_iff.1 hkn
     obtain ⟨ub,uoff,u3,l3',u4,l4',hup,hub,hvu,u0,u1,u2',u3',u4'⟩:=Sl.val HKs.out (i:=0) rfl
     subst hup
     simp only [Nat.zero_mul,Nat.add_zero] at u0 u1 u2' u3' u4'
     have hq1:((1:Int)==1)=true:=rfl
     obtain ⟨y0,y1,y2,y3,y4⟩:=row5 hG3
     obtain ⟨f0,f1,f2,f3,f4⟩:=frz5 hG3
     have HVu:=Qq hvu;have HGu:=Qq (HKg.out u (by simp))
     clear hG3 hvu hub
     go_wp2_with fail
     go_roundw
     case measure=>simp [intOf];omega
     case rel=>
      refine ⟨r+1,by omega,by go_num,(show Aside _ from ?_)⟩
      show Br (fun b=>(S1 b∧b<w.heap.size)∨(wo.heap.size≤b∧b≠G)) wo G (Zz wc G (.int .i64 u.kind) (.int .i64 u.n) (.string ⟨u.s.toArray⟩) (.slice u3 u.names.length l3') (.slice u4 u.kids.length l4'))
      refine ⟨Qo HBo.out hGl,u,u3,l3',u4,l4',Yr HG3.out,HGu.out,HVu.out.move (fun b hb _=>Qu (by rcases hb with h | h;exact (by have:=h.2;omega);exact (by have h':wq.heap.size≤b:=h;omega))) (fun b _ hb=>by
       rcases hb with h | h
       ·exact .inl h
       have h':wq.heap.size≤b:=h
       have:=HInq.out.1.size
       exact .inr ⟨by omega,by omega⟩)⟩
    have hq1:((kn:Int)==1)=false:=by rw [← Bool.not_eq_true,beq_iff_eq];omega
    clear hG3
    go_wp2_with fail
    go_roundw
    case measure=>simp [intOf];omega
    case rel=>exact ⟨r+1,by omega,by go_num,HIn3.out⟩
  have hrm':r=m:=by omega
  have hq:¬ (r:Int)<(m:Int):=by omega
  obtain ⟨hBi,v,q3,m3,q4,m4,hG,hgv,hvv⟩:=HIn.out
  have hGlt:=Qf hG
  have d0:=kC hBi HD.out
  have H2w:=Qq (H2.out.grow hBi)
  have hne:∀ b,wo.heap.size≤b→some b≠(Value.slice p3 k cx3).ownBlock∧some b≠(Value.slice p4 k cx4).ownBlock:=fun b hb=>by
   obtain ⟨x1,hx1⟩:=H2.out.names
   obtain ⟨x2,hx2⟩:=H2.out.vals
   exact ⟨fun e=>by have:=(hx1.row.lt b e.symm).2;omega,fun e=>by have:=(hx2.row.lt b e.symm).2;omega⟩
  have hne1:∀ b,b<w.heap.size→some b≠(Value.slice p3 k cx3).ownBlock∧some b≠(Value.slice p4 k cx4).ownBlock:=fun b hb=>by
   obtain ⟨x1,hx1⟩:=H2.out.names
   obtain ⟨x2,hx2⟩:=H2.out.vals
   exact ⟨fun e=>by have:=(hx1.row.lt b e.symm).1;omega,fun e=>by have:=(hx2.row.lt b e.symm).1;omega⟩
  have hnS:∀ b,(fun b=>(S1 b∧b<w.heap.size)∨(wo.heap.size≤b∧b≠G)) b→some b≠(Value.slice p3 k cx3).ownBlock∧some b≠(Value.slice p4 k cx4).ownBlock:=fun b hb=>by
   rcases hb with h | h
   ·exact hne1 b h.2
   exact hne b h.1
  obtain ⟨css1,hOn⟩:=H2w.out.names
  have HOn:=Qq hOn;have HG:=Qq hG;have HGv:=Qq hgv;have HVv:=Qq hvv;have HNE:=Qq hne;have HNS:=Qq hnS
  have hW1r:=HBW.out.size
  have hnl:((t.columns.take k).map Col.name).length=k:=by rw [List.length_map,List.length_take,HN.out];omega
  have HNl:=Qq hnl
  clear hG hgv hvv hBi hOn hne hne1 hnS hnl HIn s0 s1
  go_upto_region 18 with (at_builtin;refine Zm (r:=Qp) (by decide) rfl (.tmp 106) (.tmp 113) _ rfl 9 i9 (.string ⟨#[]⟩) 16 underlying30 HI.out HI2.out HI3.out HI4.out rfl (by omega) (fun _=>True) W1.heap.size wr (.slice p3 k cx3) ((t.columns.take k).map Col.name) css1 [.string ⟨c.name.toArray⟩] c.name rfl HOn.out rfl ⟨rfl,HCn.out⟩ (by simp [Value.oneCell']) k HNl.out (by omega) hW1r ?_;intro p7 cap7 css7 w7 hO7 hL7;have hG7:=(hL7.other G hGlt (HNE.out G hGl).1).trans HG.out;obtain ⟨b0,b1,b2,b3,b4⟩:=row5 hG7;have hv7:=HVv.out.move (fun b hb hlt=>hL7.other b hlt (HNS.out b hb).1) (fun _ _ h=>h);have HV7:=Qq hv7;have H27:=Qq (H2w.out.addName hO7 hL7);have HL7:=Qq hL7;have hs7:=hL7.size;clear hG7 hv7 hO7 hL7)
  obtain ⟨css2,hOv⟩:=H27.out.vals
  have hR7:Ql.R (But (fun b=>((fun b=>S1 b∧b<w.heap.size) b∨W1.heap.size≤b)∧some b≠(Value.slice p7 (k+1) cap7).ownBlock) (.slice p4 k cx4)) w7 [.int .i64 v.kind,.int .i64 v.n,.string ⟨v.s.toArray⟩,.slice q3 v.names.length m3,.slice q4 v.kids.length m4] v:=Qh.move (S:=fun b=>(fun b=>(S1 b∧b<w.heap.size)∨(wo.heap.size≤b∧b≠G)) b∧b<wr.heap.size) ((HVv.out.move (S':=fun b=>(fun b=>(S1 b∧b<w.heap.size)∨(wo.heap.size≤b∧b≠G)) b∧b<wr.heap.size) (.refl _ _) (fun b hb h=>⟨h,hb⟩)).move (fun b hb hlt=>HL7.out.other b hlt (HNS.out b hb.1).1) (fun _ _ h=>h)) (.refl _ _) (fun b _ hb=>by
   refine ⟨⟨?_,fun e=>?_⟩,(HNS.out b hb.1).2⟩
   ·rcases hb.1 with h | h
    ·exact .inl h
    exact .inr (by have:=HBo'.out.size;have h1:=h.1;omega)
   rcases HL7.out.at' with e' | ⟨g,e',hg⟩
   ·exact (HNS.out b hb.1).1 (by rw [e,e'])
   rw [e'] at e
   have h1:=Qb e
   have h2:=hb.2
   omega)
  have HOv:=Qq hOv;have HR7:=Qq hR7
  clear hOv hR7 d0
  go_wp2_with (at_builtin;refine Zm (r:=Ql) (by decide) rfl (.tmp 115) (.tmp 117) _ rfl 44 i0 (.agg zV) 80 underlying40 HJ.out HJ2.out HJ3.out HJ4.out rfl (by omega) (fun b=>((fun b=>S1 b∧b<w.heap.size) b∨W1.heap.size≤b)∧some b≠(Value.slice p7 (k+1) cap7).ownBlock) W1.heap.size w7 (.slice p4 k cx4) vals css2 [.int .i64 v.kind,.int .i64 v.n,.string ⟨v.s.toArray⟩,.slice q3 v.names.length m3,.slice q4 v.kids.length m4] v rfl HOv.out rfl HR7.out (by simp [Value.oneCell']) k HVl.out (by omega) (by omega) ?_;intro p8 cap8 css8 w8 hO8 hL8;have H28:=Qq (H27.out.addVal hO8 hL8);clear hO8 hL8)
  go_roundw
  case measure=>simp [intOf];omega
  case rel=>
   refine ⟨k+1,p7,cap7,p8,cap8,vals++[v],hlt,rfl,rfl,by go_num,(show Aside _ from ⟨by rw [List.length_append,HVl.out];rfl,fun u hu=>?_,?_⟩)⟩
   ·rcases List.mem_append.1 hu with h | h
    ·exact HVg.out u h
    simp only [List.mem_cons,List.not_mem_nil,or_false] at h
    subst h;exact HGv.out
   rw [HSn.out,List.map_append]
   exact H28.out
 have hkn':k=n:=by omega
 subst hkn'
 have hfull:t.columns.take k=t.columns:=List.take_of_length_le (by rw [HN.out];exact Q9 _)
 obtain ⟨css1,hOn⟩:=H2.out.names
 obtain ⟨css2,hOv⟩:=H2.out.vals
 rw [hfull] at hOn
 have hnl:(t.columns.map Col.name).length=vals.length:=by rw [List.length_map,HN.out,HVl.out]
 have hSn:Sl Qp (fun b=>(fun b=>S1 b∧b<w.heap.size) b∨W1.heap.size≤b) wr (.slice p3 k cx3) (t.columns.map Col.name):=(Ki (S':=fun b=>W1.heap.size≤b) hOn (fun _ _ _=>rfl)).sl (by rw [List.length_map,HN.out];omega) (fun b hb=>.inr hb) (fun b _ hb=>.inr hb)
 have hSv:Sl Ql (fun b=>(fun b=>S1 b∧b<w.heap.size) b∨W1.heap.size≤b) wr (.slice p4 k cx4) vals:=hOv.sl (by rw [HVl.out];omega) (fun b hb=>.inr hb) (fun b _ hb=>hb.1)
 have hwd:∀ x ∈ t.columns.map Col.name,Xy x:=fun x hx=>by
  obtain ⟨c,hc,rfl⟩:=List.mem_map.1 hx
  exact HTG.out.words c hc
 have HRec:=Qq ((F5 _ _ _ _ vals wr hSn hSv hwd (by rw [List.length_map,HN.out];omega)).mono (R':=fun e w2=>∃ v q3 m3 q4 m4,e=.returned (.tuple #[.agg #[.int .i64 v.kind,.int .i64 v.n,.string ⟨v.s.toArray⟩,.slice q3 v.names.length m3,.slice q4 v.kids.length m4],.int .i64 0])∧Zr v∧(v.kids.length≤k∧v.kids.length≤m4)∧Qh (fun b=>(fun b=>S1 b∧b<w.heap.size) b∨W1.heap.size≤b) w2 (vcs v q3 m3 q4 m4) v∧Below wr.heap.size wr w2) (by
  rintro e w2 ⟨hb,h⟩
  rcases h with ⟨err,_,_,hno⟩ | ⟨a3,l3,a4,l4,_,rfl,_,hk4,hv⟩
  ·exact absurd ⟨hnl,fun i j x hij hi hj=>by
    have hjl:=(Qj hj).1
    exact (List.pairwise_iff_getElem.1 HTG.out.once) i j (Qj hi).1 hjl hij (by rw [(Qj hi).2,(Qj hj).2])⟩ hno
  obtain ⟨g1,g2⟩:=Rx hnl hwd HTG.out.once HVg.out
  exact ⟨_,a3,l3,a4,l4,rfl,g1,⟨by show (Yx _).2.length≤k;rw [g2,List.length_map,HN.out];exact Q9 _,by show (Yx _).2.length≤l4;rw [g2];exact hk4⟩,hv.move (.refl _ _) (fun b _ h=>h.elim id (fun h=>.inr (by omega))),hb⟩))
 have hlz:w.heap.size+1+1<wr.heap.size:=by omega
 clear hOn hOv hSn hSv hwd hnl hfull s0 s1
 go_upto_region 20 with (go_at_call 72;refine HRec.out.mono ?_;rintro e w7 ⟨v,q3,m3,q4,m4,rfl,hg7,hk7,hv7,hb7⟩;have HG7:=Qq hg7;have HK7:=Qq hk7;have HV7:=Qq hv7;have HB7:=Qq hb7;clear hg7 hk7 hv7 hb7)
 generalize hW8:w7.alloc _=W8
 have hb8:=eqB hW8 (Qn _ _)
 have hx8:=eqH (b:=w7.heap.size) hW8 (Qw _ _)
 have hz8:=kE (HB7.out.thn hb8) hlz HZr.out
 obtain ⟨v0,v1,v2,v3,v4⟩:=row5 hx8
 obtain ⟨y0,y1,y2,y3,y4⟩:=row5 hz8
 obtain ⟨f0,f1,f2,f3,f4⟩:=frz5 hz8
 have HZ8:=Qq hz8;have HB8:=Qq hb8
 clear hW8 hx8 hz8 hb8
 go_wp2_with fail
 show bodyPost _ _ _ _ _ (Zz W8 (w.heap.size+1+1) (.int .i64 v.kind) (.int .i64 v.n) (.string ⟨v.s.toArray⟩) (.slice q3 v.names.length m3) (.slice q4 v.kids.length m4))
 refine Q7 (v:=.agg #[.int .i64 v.kind,.int .i64 v.n,.string ⟨v.s.toArray⟩,.slice q3 v.names.length m3,.slice q4 v.kids.length m4]) (by simp [results,results36,go_sem,Qm HZ8.out]) rfl ⟨v,q3,m3,q4,m4,rfl,HG7.out,HK7.out,?_,Qo (HWr.out.thn (HB7.out.thn HB8.out)) (by omega)⟩
 exact ((HV7.out.move (.of_below HB8.out) (fun _ _ h=>h)).move (fun b hb _=>Qu (by
  rcases hb with h | h
  ·have:=h.2;omega
  omega)) (fun b _ h=>h.elim (fun h=>.inl h.1) (fun h=>.inr (by omega))))
theorem rrow_any (S0 S1 S2 S3:Nat→Prop) (s:Sc) (cs:List Value) (lv:Value) (l:List Rel) (t:Tbl) (ct:List Value) (nv:Value) (ns:List Int) (at':Nat) (w:World) (hs0:Yn S0 w cs s) (hl0:Sl Z0 S1 w lv l) (ht:Qt.R S2 w ct t) (hn0:Y6 S3 w nv ns) (hi:V9 ns) (hat:at'≤1000) (hT:Jm t) (hsg:Vr s.sums) (hk:∀ t ∈ s.tables,t.key.length≤1000) (hR:∀ r ∈ l,∀ v ∈ r.rows,Zr v):
  Calls prog 36 #[.agg cs.toArray,lv,.agg ct.toArray,nv,.int .i64 at'] w (Nx S1 w t.columns.length):=
 Bt S0 S1 S2 S3 s cs lv l t ct nv ns at' w hs0 (by obtain ⟨p,c,h,_⟩:=hl0.len;exact ⟨p,c,h⟩) (Qq (fun tn W hW=>Uo (fun b=>S1 b∧b<w.heap.size) lv l tn W ((hl0.mono (fun b hb h=>⟨h,hb⟩)).below hW))) ht hn0 hi hat hT hsg hk hR
def R8 (P:Nat→Prop):Rd Rel where
 k:=2
 R S w cs x:=∃ v,cs=[sv x.table,v]∧x.table.length≤1000000∧Sl Ql (fun b=>S b∧P b) w v x.rows
 len h:=by obtain ⟨v,rfl,_⟩:=h;rfl
 frame h hA:=by obtain ⟨v,rfl,h1,h2⟩:=h;exact ⟨v,rfl,h1,h2.frame (fun b hb=>hA b hb.1)⟩
 mono h hS:=by obtain ⟨v,rfl,h1,h2⟩:=h;exact ⟨v,rfl,h1,h2.mono (fun b hb h=>⟨hS b hb h.1,h.2⟩)⟩
theorem Sl.relOf {P:Nat→Prop} {S:Nat→Prop} {w:World} {v:Value} {l:List Rel} (h:Sl (R8 P) S w v l):Sl Z0 S w v l:=by
 obtain ⟨p,cap,h1,h2,h3⟩:=h
 refine ⟨p,cap,h1,h2,fun hne=>?_⟩
 obtain ⟨b,off,e,hS,hb,hc⟩:=h3 hne
 refine ⟨b,off,e,hS,hb,fun i x hx=>?_⟩
 obtain ⟨cs,hcs,v,hv,h4,h5⟩:=hc i x hx
 exact ⟨cs,hcs,v,hv,h4,h5.mono (fun b _ h=>h.1)⟩
theorem rrows_P (P:Nat→Prop) (S:Nat→Prop) (v:Value) (l:List Rel) (x:Bs) (w:World) (hs:Sl (R8 P) S w v l):
  Calls prog 10 #[v,sv x] w (Nd (fun b=>S b∧P b) w (Yv l x)):=by
 have HF:=Qq (fun W (h:w=W)=>Uh S v l x W (h ▸ hs.relOf))
 rcases Vk l x with ⟨hr,hi⟩ | ⟨i,r,hr,hi,hx⟩
 ·have hR:Yv l x=[]:=by unfold Yv;rw [hr]
  rw [hR]
  rw [hi] at HF
  clear hr hi hR
  obtain ⟨p,cap,rfl,hl⟩:=hs.len
  clear hs
  unfold sv at HF ⊢
  go_enter func10,ntmps10
  go_wp2_with (go_at_call 37;refine (HF.out _ rfl).mono ?_;rintro e w' ⟨rfl,rfl⟩)
  go_ret
  exact ⟨none,0,rfl,Sl.nil _ _ _,rfl⟩
 have hR:Yv l x=r.rows:=by unfold Yv;rw [hr];simp [List.getD_eq_getElem?_getD,hx]
 rw [hR]
 rw [hi] at HF
 clear hr hi hR
 obtain ⟨p,cap,rfl,hl⟩:=hs.len
 have hil:=(Qj hx).1
 obtain ⟨b,off,cs,rfl,hbl,_,_,⟨rv,rfl,_,hrv⟩,hc⟩:=hs.elem hx
 have c1:=hc 1 _ rfl
 rw [show (R8 P).k=2 from rfl] at c1
 obtain ⟨q,qc,rfl,_⟩:=hrv.len
 have HRV:=Qq hrv
 have hi1:(0:Int)≤(i:Int):=by omega
 have hi2:(i:Int)<(l.length:Int):=by omega
 have hi3:decide ((i:Int)<0)=false:=by simp
 clear hs hx hc hrv
 unfold sv at HF ⊢
 go_enter func10,ntmps10
 go_wp2_with (go_at_call 37;refine (HF.out _ rfl).mono ?_;rintro e w' ⟨rfl,rfl⟩)
 go_ret
 exact ⟨q,qc,rfl,HRV.out,rfl⟩
theorem rrow_P (P:Nat→Prop) (S0 S1 S2 S3:Nat→Prop) (s:Sc) (cs:List Value) (lv:Value) (l:List Rel) (t:Tbl) (ct:List Value) (nv:Value) (ns:List Int) (at':Nat) (w:World) (hs0:Yn S0 w cs s) (hl0:Sl (R8 P) S1 w lv l) (ht:Qt.R S2 w ct t) (hn0:Y6 S3 w nv ns) (hi:V9 ns) (hat:at'≤1000) (hT:Jm t) (hsg:Vr s.sums) (hk:∀ t ∈ s.tables,t.key.length≤1000) (hR:∀ r ∈ l,∀ v ∈ r.rows,Zr v):
  Calls prog 36 #[.agg cs.toArray,lv,.agg ct.toArray,nv,.int .i64 at'] w (Nx (fun b=>S1 b∧P b) w t.columns.length):=
 Bt S0 (fun b=>S1 b∧P b) S2 S3 s cs lv l t ct nv ns at' w hs0 (by obtain ⟨p,c,h,_⟩:=hl0.len;exact ⟨p,c,h⟩) (Qq (fun tn W hW=>by
  refine (rrows_P P (fun b=>S1 b∧b<w.heap.size) lv l tn W ((hl0.mono (fun b hb h=>⟨h,hb⟩)).below hW)).mono ?_
  rintro e w2 ⟨p,c,h1,h2,h3⟩
  exact ⟨p,c,h1,h2.mono (fun b _ h=>⟨⟨h.1.1,h.2⟩,h.1.2⟩),h3⟩)) ht hn0 hi hat hT hsg hk hR
end Go.Proofs.YtppbaladeefnkaaGreatDoor
