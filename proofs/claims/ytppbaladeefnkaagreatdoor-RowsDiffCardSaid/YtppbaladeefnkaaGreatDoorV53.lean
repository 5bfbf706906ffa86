import Derived.Test.YtppbaladeefnkaaGreatDoorV35
import Derived.Test.YtppbaladeefnkaaGreatDoorV28
set_option maxRecDepth 100000
set_option maxHeartbeats 400000000
namespace Go.Proofs.YtppbaladeefnkaaGreatDoor
open Go.RowKit Go.Shelf Go.Lib Tryz
def sameVs (a b:List Val):Bool:=decide (a.map key=b.map key)
theorem sameVs_cons (a b:Val) (s t:List Val):sameVs (a::s) (b::t)=(eqv a b&&sameVs s t):=by
 unfold sameVs eqv
 rw [← Bool.decide_and,decide_eq_decide]
 simp
namespace Inc
def Up (l:List (List Int)):Prop:=l.Pairwise (fun a b=>lex a b<0)
end Inc
namespace Inc
theorem irr (a:List Int):¬ lex a a<0:=by rw [lex_self];omega
end Inc
namespace Inc
theorem asymm {a b:List Int} (h:lex a b<0):¬ lex b a<0:=by rw [Jd];omega
end Inc
namespace Inc
theorem uniq:∀ (a b:List (List Int)),Up a→Up b→(∀ x,x ∈ a↔x ∈ b)→a=b
 | [],b,_,_,h=>by
  cases b with
  | nil=>rfl
  | cons y b=>exact absurd ((h y).2 List.mem_cons_self) List.not_mem_nil
 | x::a,[],_,_,h=>absurd ((h x).1 List.mem_cons_self) List.not_mem_nil
 | x::a,y::b,ha,hb,h=>by
  have hx:=List.pairwise_cons.1 ha
  have hy:=List.pairwise_cons.1 hb
  have hxy:x=y:=by
   rcases List.mem_cons.1 ((h x).1 List.mem_cons_self) with h1 | h1
   ·exact h1
   rcases List.mem_cons.1 ((h y).2 List.mem_cons_self) with h2 | h2
   ·exact h2.symm
   exact absurd (hx.1 y h2) (asymm (hy.1 x h1))
  subst hxy
  rw [uniq a b hx.2 hy.2 (fun z=>?_)]
  constructor
  ·intro hz
   rcases List.mem_cons.1 ((h z).1 (List.mem_cons_of_mem _ hz)) with h1 | h1
   ·subst h1;exact absurd (hx.1 z hz) (irr z)
   exact h1
  intro hz
  rcases List.mem_cons.1 ((h z).2 (List.mem_cons_of_mem _ hz)) with h1 | h1
  ·subst h1;exact absurd (hy.1 z hz) (irr z)
  exact h1
end Inc
theorem upV_keys {l:List Val}:UpV l↔Inc.Up (l.map key):=by
 unfold UpV Inc.Up
 rw [List.pairwise_map]
 simp only [Kp]
theorem upV_same {a b:List Val} (ha:UpV a) (hb:UpV b) (h:∀ k,k ∈ a.map key↔k ∈ b.map key):sameVs a b=true:=by
 unfold sameVs
 exact decide_eq_true (Inc.uniq _ _ (upV_keys.1 ha) (upV_keys.1 hb) h)
theorem putV_mem (l:List Val) (x:Val) (k:List Int):k ∈ (Vc l x).map key↔k=key x∨k ∈ l.map key:=by
 unfold Vc
 split
 ·rename_i h
  have:=hasV_iff.1 h
  constructor
  ·exact .inr
  rintro (rfl | h)
  ·exact this
  exact h
 have:l.map key=(l.take (Yy l x)).map key++(l.drop (Yy l x)).map key:=by rw [← List.map_append,List.take_append_drop]
 rw [this]
 simp only [List.map_append,List.map_cons,List.mem_append,List.mem_cons]
 constructor
 ·rintro (h | h | h)
  ·exact .inr (.inl h)
  ·exact .inl h
  exact .inr (.inr h)
 rintro (h | h | h)
 ·exact .inr (.inl h)
 ·exact .inl h
 exact .inr (.inr h)
theorem Wf (R:Nat) (S:Nat→Prop) (x:Val) (cx:List Value) (rows:List Val) (w:World) (hcx:∀ j u,cx[j]?=some u→w.cell? ⟨R,j,none⟩=some u) (hRl:R<w.heap.size) (hx:Qh S w cx x):
  Xp prog 114 #[.pointer (some ⟨R,0,none⟩)] Ql S rows (fun v=>eqv v x) w:=by
 intro W v cs hb hv hr
 have hxW:=hx.move (.of_below hb) (fun _ _ h=>h)
 have HC:=Qq (fun W' (h':Below W.heap.size W W')=>Gz S v x cs cx W' (Qh.move (show Qh S W cs v from hr) (.of_below h') (fun _ _ h=>h)) (hxW.move (.of_below h') (fun _ _ h=>h)))
 obtain ⟨p3,k3,p4,k4,hcs,_⟩:=Qh.cells (show Qh S W cs v from hr)
 obtain ⟨q3,l3,q4,l4,hcx',_⟩:=Qh.cells hxW
 simp only [vcs] at hcs hcx'
 subst hcs;subst hcx'
 have d:=fun j u hj=>(hb.cell (p:=⟨R,j,none⟩) hRl).trans (hcx j u hj)
 have d0:=d 0 _ rfl
 have d1:=d 1 _ rfl
 have d2:=d 2 _ rfl
 have d3:=d 3 _ rfl
 have d4:=d 4 _ rfl
 have hRW:R<W.heap.size:=Qv W _ d0
 show Calls prog 114 #[.agg #[.int .i64 v.kind,.int .i64 v.n,.string ⟨v.s.toArray⟩,.slice p3 v.names.length k3,.slice p4 v.kids.length k4],.pointer (some ⟨R,0,none⟩)] W (fun e w'=>e=.returned (.bool (eqv v x))∧Below W.heap.size W w')
 generalize eqv v x=b at HC ⊢
 clear d hcx hb hv hr hx hxW
 go_enter func114,ntmps114
 go_wp2_with (go_at_call 45;refine (HC.out _ (Qn _ _)).mono ?_;rintro e w' ⟨rfl,hw⟩)
 go_ret
 exact ⟨rfl,(Qn _ _).thn hw⟩
theorem Wu (R:Nat) (S S':Nat→Prop) (q:Option Addr) (m c:Nat) (other:List Val) (W:World) (y:Val) (cs:List Value) (hR:W.cell? ⟨R,0,none⟩=some (.slice q m c)) (hO:Sl Ql S W (.slice q m c) other) (hy:Qh S' W cs y):
  Calls prog 113 (#[.agg cs.toArray]++#[.pointer (some ⟨R,0,none⟩)]) W fun e w'=>e=.returned (.bool (Kx other y))∧Below W.heap.size W w':=by
 obtain ⟨p3,k3,p4,k4,hcs,_⟩:=Qh.cells hy
 simp only [vcs] at hcs
 subst hcs
 have HC:=Qq (fun W1 (hb:Below W.heap.size W W1) (hc:∀ (j:Nat) (u:Value),([.int .i64 y.kind,.int .i64 y.n,.string ⟨y.s.toArray⟩,.slice p3 y.names.length k3,.slice p4 y.kids.length k4]:List Value)[j]?=some u→W1.cell? ⟨W.heap.size,j,none⟩=some u) (hl:W.heap.size<W1.heap.size)=>L2 Tryz.cfVal Ql isAgg44 sizeOf44 114 #[.pointer (some ⟨W.heap.size,0,none⟩)] (enters_of func114 (by kernel_rfl) rfl) (fun _=>True) (.slice q m c) other W1 _ ((hO.mono (fun _ _ _=>trivial)).below hb)
  (Wf W.heap.size (fun _=>True) y _ other W1 hc hl (hy.move (.of_below hb) (fun _ _ _=>trivial))))
 have hRW:R<W.heap.size:=Qv W _ hR
 show Calls prog 113 #[.agg #[.int .i64 y.kind,.int .i64 y.n,.string ⟨y.s.toArray⟩,.slice p3 y.names.length k3,.slice p4 y.kids.length k4],.pointer (some ⟨R,0,none⟩)] W (fun e w'=>e=.returned (.bool (Kx other y))∧Below W.heap.size W w')
 clear hO hy
 go_enter func113,ntmps113
 go_wp2_with fail
 generalize hW1:W.alloc _=W1
 have hb1:=eqB hW1 (Qn _ _)
 have hX1:=eqH (b:=W.heap.size) hW1 (Qw _ _)
 clear hW1
 have HF:=Qq (HC.out W1 hb1 (fun j u hu=>by rw [Qk _ _ j _ _ _ hX1];simpa using hu) (Qf hX1))
 have HB:=Qq hb1
 clear hb1 hX1
 go_wp2_with fail
 refine HF.out.mono ?_
 rintro e w' ⟨rfl,hw⟩
 go_wp2_with fail
 go_ret
 exact ⟨rfl,HB.out.thn hw⟩
theorem Wp (g0:Nat) (lb:Array Value) (eg:∀ args w,(callFunc g0 args).run prog w=.ok (.enter g0 args) w) (p:Val→Bool) (S:Nat→Prop) (B:Nat) (w:World) (v:Value) (xs:List Val) (css:List (List Value)) (hO:Own Ql 44 S B w v xs css)
  (hp:∀ (S':Nat→Prop) W y cs,w.grownBy W v.ownBlock→Qh S' W cs y→Calls prog g0 (#[.agg cs.toArray]++lb) W fun e w'=>e=.returned (.bool (p y))∧Below W.heap.size W w') (hl:xs.length≤100000):
  Calls prog 61 #[v,.func (.func g0) #[] lb] w fun e w'=>
   ∃ q cap css',e=.returned (.slice q (xs.filter (fun y=>!p y)).length cap)∧Own Ql 44 S B w' (.slice q (xs.filter (fun y=>!p y)).length cap) (xs.filter (fun y=>!p y)) css'∧w.grownBy w' v.ownBlock∧(Value.slice q (xs.filter (fun y=>!p y)).length cap).ownBlock=v.ownBlock:=by
 rcases hO.row.2 with ⟨rfl,h0⟩ | ⟨g,cap,cur,rfl,_,_⟩
 ·have h0':xs=[]:=List.eq_nil_of_length_eq_zero h0
  subst h0'
  have HIf:=Qq (Fz Tryz.ixVal Ql isAgg44 sizeOf44 g0 lb eg (fun _=>True) (.slice none 0 0) [] w p (Sl.empty _ _ _ _ _) (fun W y cs hb hy _=>by cases hy))
  rw [show Y9 p ([]:List Val)=-1 from rfl] at HIf
  have HO:=Qq hO
  clear hO hp
  show Calls _ _ _ _ _
  go_enter func61,ntmps61
  go_wp2_with fail
  refine HIf.out.mono ?_
  rintro e w1 ⟨rfl,hb1⟩
  go_wp2_with fail
  go_ret
  exact ⟨none,0,css,rfl,HO.out.below hb1,Di hb1,rfl⟩
 refine (delGen g0 lb eg p S B w g xs.length cap xs css hO rfl hp hl).mono ?_
 rintro e w' ⟨css',rfl,h1,h2⟩
 exact ⟨_,cap,css',rfl,h1,h2,rfl⟩
def Tf (b:List Rel) (r:Rel):Option Rel:=if (Xv r.rows (Yv b r.table)).length=0 then none else some ⟨r.table,Xv r.rows (Yv b r.table)⟩
def T9 (a b:List Rel):List Rel:=a.filterMap (Tf b)
theorem Wz {a b:List Rel} {k:Nat} {r:Rel} (h:a[k]?=some r):T9 (a.take (k+1)) b=T9 (a.take k) b++(Tf b r).toList:=by
 unfold T9
 rw [List.take_add_one,h,List.filterMap_append]
 cases h':Tf b r <;> simp [h']
def Wb (w:World) (l:List Rel) (e:Ending) (w':World):Prop:=∃ p cap,e=.returned (.slice p l.length cap)∧Sl Z0 (fun _=>True) w' (.slice p l.length cap) l∧Below w.heap.size w w'
theorem Wv (S S':Nat→Prop) (av bv:Value) (a b:List Rel) (w:World) (ha0:Sl Z0 S w av a) (hb0:Sl Z0 S' w bv b) (hfew:∀ r ∈ a,r.rows.length≤10000) (hal:a.length≤1000):
  Calls prog 67 #[av,bv] w (Wb w (T9 a b)):=by
 obtain ⟨i9,j1,j2,j3,j4⟩:=Za (P:=prog) (t:=57) (z:=.agg #[.string ⟨#[]⟩,.slice none 0 0]) (n:=2) (b:=40) (by kernel_rfl)
 have HJ:=Qq j1;have HJ2:=Qq j2;have HJ3:=Qq j3;have HJ4:=Qq j4
 clear j1 j2 j3 j4
 obtain ⟨pa,ca,rfl,_⟩:=ha0.len
 obtain ⟨pb,cb,rfl,_⟩:=hb0.len
 have HA:=Qq (ha0.mono (S':=fun b=>b<w.heap.size) (fun b hb _=>hb));have HFw:=Qq hfew
 have HPr:=Qq (fun W (hW:Below w.heap.size w W) (x:Bs)=>Tk S' (.slice pb b.length cb) b x W (hb0.below hW))
 unfold PRowsIs sv at HPr
 obtain ⟨n,hn⟩:=eX (a.length)
 rw [hn] at HA hal ⊢
 have HN:=Qq hn
 obtain ⟨z,hz⟩:=eX (T9 a b)
 rw [hz]
 have HZ:=Qq hz
 clear hz hn ha0 hb0 hfew
 go_enter func67,ntmps67
 go_wp2_with fail
 go_loopw [5,7,8,9,12] (fun o _ _ _ i wr=>∃ (k m:Nat) (q:Option Addr) (c:Nat),k≤n∧i=.int .i64 k∧o=.slice q m c∧Aside (m=(T9 (a.take k) b).length∧m≤k)∧Aside (Below w.heap.size w wr)∧Aside (∃ css,Own Z0 57 (fun _=>True) w.heap.size wr (.slice q m c) (T9 (a.take k) b) css)) (fun _ _ _ _ i _=>n - (intOf i).toNat)
 case atStart=>exact ⟨0,0,none,0,Q8 _,rfl,rfl,⟨rfl,Q9 _⟩,Qz _ _,[],Own.nil _ _ _ _ _⟩
 obtain ⟨k,m,q,c,hk,rfl,rfl,hm,hBr,hO⟩:=hrel
 obtain ⟨css,hO⟩:=hO.out
 have HBr:=Qq hBr.out;have HO:=Qq hO;have HM:=Qq hm.out.1
 have hmk:=hm.out.2
 clear hBr hO hm
 by_cases hlt:k<n
 ·have hi1:(0:Int)≤(k:Int):=by omega
  have hi2:(k:Int)<(n:Int):=by omega
  obtain ⟨r,hr⟩:∃ r,a[k]?=some r:=⟨_,Qx (by rw [HN.out];exact hlt)⟩
  obtain ⟨ga,oa,_,rfl,hga,_,_,⟨va,rfl,htl,hva⟩,hca⟩:=(HA.out.below HBr.out).elem hr
  have d0:=hca 0 _ rfl;have d1:=hca 1 _ rfl
  rw [show Z0.k=2 from rfl] at d0 d1
  rw [Nat.add_zero] at d0
  unfold sv at d0
  obtain ⟨qa,qca,rfl,_⟩:=hva.len
  have HVa:=Qq hva
  have HR:=Qq hr
  have hrl:=HFw.out r (Qy hr)
  clear hr hva hca
  go_upto_region 5 with fail
  clear d0 d1
  generalize hW1:wr.alloc _=W1
  have hb1:=eqB hW1 (Qn _ _)
  have hX1:=eqH (b:=wr.heap.size) hW1 (Qw _ _)
  have HB1:=Qq hb1;have HX1:=Qq hX1
  have x0:=rA0 hX1
  clear hW1 hb1 hX1
  have HPq:=Qq (HPr.out W1 (HBr.out.thn HB1.out) r.table)
  obtain ⟨O,hOo⟩:=eX (Yv b r.table)
  rw [hOo] at HPq
  have HOo:=Qq hOo
  clear hOo
  go_wp2_with fail
  refine HPq.out.mono ?_
  rintro e w2 ⟨p2,c2,rfl,ho2,hb2⟩
  have HO2:=Qq ho2;have HB2:=Qq hb2
  clear ho2 hb2 x0
  go_upto_region 6 with fail
  generalize hW3:w2.alloc _=W3
  have hb3:=eqB hW3 (Qn _ _)
  have hX3:=eqH (b:=w2.heap.size) hW3 (Qw _ _)
  have hb13:=HB1.out.thn (HB2.out.thn hb3)
  have hX7:=kB (HB2.out.thn hb3) HX1.out
  have x1:=rA1 hX7
  have HB3:=Qq hb13;have HX3:=Qq hX3;have HX7:=Qq hX7;have HO3:=Qq (HO2.out.below hb3)
  have hs3:w2.heap.size<W3.heap.size:=Qf hX3
  clear hW3 hb3 hX3 hb13 hX7
  have HCl:=Qq (Gb (fun b=>b<w.heap.size) (.slice qa r.rows.length qca) r.rows W3 (HVa.out.below HB3.out))
  go_wp2_with fail
  refine HCl.out.mono ?_
  rintro e w4 ⟨p4,c4,css4,rfl,hO4,hb4⟩
  have HO4:=Qq hO4;have HB4:=Qq hb4
  have hlt4:∀ g,(Value.slice p4 r.rows.length c4).ownBlock=some g→W3.heap.size≤g∧g<w4.heap.size:=fun g e=>hO4.row.lt g e
  have HL4:=Qq hlt4
  have HDl:=Qq (Wp 113 #[.pointer (some ⟨w2.heap.size,0,none⟩)] (enters_of func113 (by kernel_rfl) rfl) (fun y=>Kx O y) (fun b=>b<w.heap.size) W3.heap.size w4 (.slice p4 r.rows.length c4) r.rows css4 hO4 (fun S' W y cs hW hy=>by
   have hne:∀ b,b<W3.heap.size→W.heap[b]?=w4.heap[b]?:=fun b hb=>hW.block b (Qa hb hb4.size) (fun e=>by have:=(hlt4 b e.symm).1;omega)
   refine Wu w2.heap.size (fun b=>b<W3.heap.size) S' p2 O.length c2 O W y cs ?_ (((HO3.out.mono (S':=fun b=>b<W3.heap.size) (fun b hb _=>hb)).below hb4).frame (fun b hb _=>hne b hb)) hy
   have h:=(hne _ hs3).trans (kE hb4 hs3 HX3.out)
   have:=Qk _ _ 0 _ _ _ h
   simpa using this) (by omega))
  clear hO4 hb4 hlt4 x1
  obtain ⟨Z,hZ⟩:=eX (Xv r.rows O)
  rw [show r.rows.filter (fun y=>!Kx O y)=Z from hZ] at HDl
  have HZw:=Qq hZ
  clear hZ
  go_wp2_with fail
  refine HDl.out.mono ?_
  rintro e w5 ⟨p5,c5,css5,rfl,hO5,hg5,ha5⟩
  have hlt5:∀ b,b<W3.heap.size→w5.heap[b]?=w4.heap[b]?:=fun b hb=>hg5.block b (Qa hb HB4.out.size) (fun e=>by have:=(HL4.out b e.symm).1;omega)
  have hlt3:∀ b,b<W3.heap.size→w5.heap[b]?=W3.heap[b]?:=fun b hb=>(hlt5 b hb).trans (HB4.out.block b hb)
  have hrs:wr.heap.size≤W3.heap.size:=HB3.out.size
  have hO5o:Own Z0 57 (fun _=>True) w.heap.size w5 (.slice q m c) (T9 (a.take k) b) css:=((HO.out.weak (S':=fun b=>b<wr.heap.size) (Q9 _) (fun b hb _=>hb)).move (Q9 _) (fun b hb _=>(hlt3 b (by omega)).trans (HB3.out.block b hb))).weak (Q9 _) (fun _ _ _=>trivial)
  have hX5:=(hlt3 _ (Qf HX7.out)).trans HX7.out
  have y0:=rA0 hX5
  have hB5:Below w.heap.size w w5:=by
   have h:=(HBr.out.thn HB3.out).thn HB4.out
   exact h.grown hg5 h.size (fun b hb=>by have:=(HL4.out b hb).1;have:=(HBr.out.thn HB3.out).size;omega)
  obtain ⟨l,hl⟩:=eX (Z.length)
  have hl9:l≤10000:=by rw [← hl,← HZw.out];exact Qc (List.length_filter_le _ _) hrl
  have hEl:Z0.R (But (fun _=>True) (.slice q m c)) w5 [.string ⟨r.table.toArray⟩,.slice p5 l c5] ⟨r.table,Z⟩:=by
   refine ⟨_,rfl,htl,?_⟩
   rw [hl] at hO5 ha5
   exact hO5.sl' (by rw [hl];omega) (fun b hb=>⟨trivial,fun e=>by
    have h1:=(HL4.out b (by rw [← ha5];exact hb)).1
    have h2:=(HO.out.row.lt b e.symm).2
    omega⟩) (fun b _ hb=>⟨trivial,fun e=>by
    have h1:=(HO.out.row.lt b e.symm).1
    have h2:b<w.heap.size:=hb
    omega⟩)
  have hstep:=Wz (b:=b) HR.out
  have hor:Tf b r=if l=0 then none else some ⟨r.table,Z⟩:=by unfold Tf;rw [HOo.out,HZw.out,hl]
  rw [hor] at hstep
  rw [hl]
  have HStep:=Qq hstep;have HO5o:=Qq hO5o;have HEl:=Qq hEl;have HB5:=Qq hB5
  have hsz5:=hB5.size
  clear hlt5 hlt3 hO5o hX5 hB5 hl hEl hstep hor hO5 hg5 ha5
  by_cases hl0:l=0
  ·subst hl0
   go_wp2_with fail
   go_roundw
   case measure=>simp [intOf];omega
   case rel=>
    have hst:=HStep.out
    simp only [if_true,Option.toList_none,List.append_nil] at hst
    refine ⟨k+1,m,q,c,by omega,by go_num,rfl,(show Aside _ from ⟨by rw [hst];exact HM.out,by omega⟩),(show Aside _ from HB5.out),(show Aside _ from ⟨css,by rw [hst];exact HO5o.out⟩)⟩
  have hl1:(0:Int)<(l:Int):=by omega
  go_wp2_with (at_builtin;refine Zm (r:=Z0) (by decide) rfl (.tmp 28) (.tmp 33) _ rfl 57 i9 (.agg #[.string ⟨#[]⟩,.slice none 0 0]) 40 underlying28 HJ.out HJ2.out HJ3.out HJ4.out rfl (by omega) (fun _=>True) w.heap.size w5 (.slice q m c) (T9 (a.take k) b) css [.string ⟨r.table.toArray⟩,.slice p5 l c5] ⟨r.table,Z⟩ rfl HO5o.out rfl HEl.out (by simp [Value.oneCell']) m HM.out.symm (by omega) hsz5 ?_;intro p7 cap7 css7 w7 hO7 hL7;have HO7:=Qq hO7;have HL7:=Qq hL7;clear hO7 hL7)
  go_roundw
  case measure=>simp [intOf];omega
  case rel=>
   have hst:=HStep.out
   rw [if_neg hl0,Option.toList_some] at hst
   refine ⟨k+1,m+1,p7,cap7,by omega,by go_num,rfl,(show Aside _ from ⟨by rw [hst,List.length_append,← HM.out];rfl,by omega⟩),(show Aside _ from HB5.out.trans HL7.out.below),(show Aside _ from ⟨css7,by rw [hst];exact HO7.out⟩)⟩
 have hltz:¬ (k:Int)<(n:Int):=by omega
 have:k=n:=by omega
 subst this
 have hz:T9 (a.take k) b=z:=by rw [List.take_of_length_le (by rw [HN.out];exact Q9 _)];exact HZ.out
 have hm:=HM.out
 rw [hz] at hm
 have hS:Sl Z0 (fun _=>True) wr (.slice q m c) z:=by
  have h:=HO.out.sl (S':=fun _=>True) (by rw [← HM.out];omega) (fun _ _=>trivial) (fun _ _ _=>trivial)
  rwa [hz] at h
 have HSl:=Qq hS;have HMz:=Qq hm
 clear hz hm hS
 go_wp2_with fail
 go_ret
 unfold Wb
 rw [← HMz.out]
 exact ⟨q,c,rfl,HSl.out,HBr.out⟩
theorem Wx (S S':Nat→Prop) (av bv:Value) (a b:List Rel) (w:World) (ha0:Sl Z0 S w av a) (hb0:Sl Z0 S' w bv b) (hfa:∀ r ∈ a,r.rows.length≤10000) (hfb:∀ r ∈ b,r.rows.length≤10000) (hal:a.length≤1000) (hbl:b.length≤1000):
  Calls prog 32 #[av,bv] w fun e w'=>∃ p c q d,e=.returned (.tuple #[.slice p (T9 a b).length c,.slice q (T9 b a).length d])∧Sl Z0 (fun _=>True) w' (.slice p (T9 a b).length c) (T9 a b)∧Sl Z0 (fun _=>True) w' (.slice q (T9 b a).length d) (T9 b a)∧Below w.heap.size w w':=by
 have H1:=Qq (Wv S S' av bv a b w ha0 hb0 hfa hal)
 have H2:=Qq (fun W (hW:Below w.heap.size w W)=>Wv S' S bv av b a W (hb0.below hW) (ha0.below hW) hfb hbl)
 clear ha0 hb0
 go_enter func32,ntmps32
 go_wp2_with fail
 refine H1.out.mono ?_
 rintro e w1 ⟨p,c,rfl,h1,hb1⟩
 have HX:=Qq h1;have HB:=Qq hb1;have H3:=Qq (H2.out w1 hb1)
 clear h1 hb1 H1 H2
 go_wp2_with fail
 refine H3.out.mono ?_
 rintro e w2 ⟨q,d,rfl,h2,hb2⟩
 have HY:=Qq h2;have HC:=Qq hb2
 clear h2 hb2 H3
 go_wp2_with fail
 refine Q7 (v:=.tuple #[.slice p (T9 a b).length c,.slice q (T9 b a).length d]) (by simp [results,results32,go_sem]) rfl ?_
 exact ⟨p,c,q,d,rfl,HX.out.below HC.out,HY.out,HB.out.thn HC.out⟩
theorem Th (S S':Nat→Prop) (av bv:Value) (a b:List Rel) (w:World) (ha0:Sl Z0 S w av a) (hb0:Sl Z0 S' w bv b) (hfew:∀ r ∈ a,r.rows.length≤1000) (hal:a.length≤1000):
  Calls prog 33 #[av,bv] w (Wb w (T9 a b)):=by
 obtain ⟨i9,j1,j2,j3,j4⟩:=Za (P:=prog) (t:=57) (z:=.agg #[.string ⟨#[]⟩,.slice none 0 0]) (n:=2) (b:=40) (by kernel_rfl)
 have HJ:=Qq j1;have HJ2:=Qq j2;have HJ3:=Qq j3;have HJ4:=Qq j4
 clear j1 j2 j3 j4
 obtain ⟨pa,ca,rfl,_⟩:=ha0.len
 obtain ⟨pb,cb,rfl,_⟩:=hb0.len
 have HA:=Qq (ha0.mono (S':=fun b=>b<w.heap.size) (fun b hb _=>hb));have HFw:=Qq hfew
 have HPr:=Qq (fun W (hW:Below w.heap.size w W) (x:Bs)=>Uo S' (.slice pb b.length cb) b x W (hb0.below hW))
 unfold sv at HPr
 obtain ⟨n,hn⟩:=eX (a.length)
 rw [hn] at HA hal ⊢
 have HN:=Qq hn
 obtain ⟨z,hz⟩:=eX (T9 a b)
 rw [hz]
 have HZ:=Qq hz
 clear hz hn ha0 hb0 hfew
 go_enter func33,ntmps33
 go_wp2_with fail
 go_loopw [5,6,7] (fun o i _ wr=>∃ (k m:Nat) (q:Option Addr) (c:Nat),k≤n∧i=.int .i64 k∧o=.slice q m c∧Aside (m=(T9 (a.take k) b).length∧m≤k)∧Aside (Below w.heap.size w wr)∧Aside (∃ css,Own Z0 57 (fun _=>True) w.heap.size wr (.slice q m c) (T9 (a.take k) b) css)) (fun _ i _ _=>n - (intOf i).toNat)
 case atStart=>exact ⟨0,0,none,0,Q8 _,rfl,rfl,⟨rfl,Q9 _⟩,Qz _ _,[],Own.nil _ _ _ _ _⟩
 obtain ⟨k,m,q,c,hk,rfl,rfl,hm,hBr,hO⟩:=hrel
 obtain ⟨css,hO⟩:=hO.out
 have HBr:=Qq hBr.out;have HO:=Qq hO;have HM:=Qq hm.out.1
 have hmk:=hm.out.2
 clear hBr hO hm
 by_cases hlt:k<n
 ·have hi1:(0:Int)≤(k:Int):=by omega
  have hi2:(k:Int)<(n:Int):=by omega
  obtain ⟨r,hr⟩:∃ r,a[k]?=some r:=⟨_,Qx (by rw [HN.out];exact hlt)⟩
  obtain ⟨ga,oa,_,rfl,hga,_,_,⟨va,rfl,htl,hva⟩,hca⟩:=(HA.out.below HBr.out).elem hr
  have d0:=hca 0 _ rfl;have d1:=hca 1 _ rfl
  rw [show Z0.k=2 from rfl] at d0 d1
  rw [Nat.add_zero] at d0
  unfold sv at d0
  obtain ⟨qa,qca,rfl,_⟩:=hva.len
  have HVa:=Qq hva
  have HR:=Qq hr
  have hrl:=HFw.out r (Qy hr)
  obtain ⟨O,hOo⟩:=eX (Yv b r.table)
  obtain ⟨Z,hZ⟩:=eX (Xv r.rows O)
  have HPq:=Qq (fun W (hW:Below wr.heap.size wr W)=>HPr.out W (HBr.out.thn hW) r.table)
  rw [hOo] at HPq
  have HWo:=Qq (fun W (hW:Below wr.heap.size wr W) q2 c2 (h2:Sl Ql S' W (.slice q2 O.length c2) O)=>(Lv (fun b=>b<w.heap.size) S' (.slice qa r.rows.length qca) (.slice q2 O.length c2) r.rows O W (HVa.out.below hW) h2 hrl).mono (R':=fun e w2=>∃ p c,e=.returned (.slice p Z.length c)∧Sl Ql (fun b=>b<w.heap.size∨W.heap.size≤b) w2 (.slice p Z.length c) Z∧Below W.heap.size W w2) (by
   rintro e w2 ⟨p,c,rfl,_,h1,h2⟩
   rw [hZ] at h1 ⊢
   exact ⟨p,c,rfl,h1,h2⟩))
  have HOo:=Qq hOo;have HZw:=Qq hZ
  have hgw:=Qv _ _ d0
  have HD:=Qq (fun W (hW:Below wr.heap.size wr W)=>(show W.cell? ⟨ga,oa+k*2,none⟩=some (.string ⟨r.table.toArray⟩) from kD hW hgw d0))
  clear hr hva hca hOo hZ
  go_upto_region 5 with fail
  go_cut [7] from 8 to 39 (fun t7 wx=>∃ p c,t7=.slice p Z.length c∧Sl Ql (fun b=>b<w.heap.size∨wr.heap.size≤b) wx (.slice p Z.length c) Z∧Below wr.heap.size wr wx)
  case first=>
   go_region_with (first
    | (go_at_call 63;refine (HWo.out _ (Qz _ _).drew _ _ HRs.out).mono ?_;rintro e w2 ⟨p,c',rfl,h1,h2⟩;have HS2:=Qq h1;have HB2:=Qq h2;clear h1 h2)
    | (go_at_call 10;refine (HPq.out _ (Qz _ _).drew).mono ?_;rintro e w' ⟨q2,c2,rfl,hrs,rfl⟩;have HRs:=Qq hrs;clear hrs))
   all_goals
    go_wp2_with fail
    go_meet
    exact ⟨p,c',rfl,HS2.out.mono (fun b _ h=>h),(Qz _ _).drew.thn HB2.out⟩
  obtain ⟨p5,c5,rfl,hs5,hbc⟩:=hcut
  obtain ⟨w5,rfl⟩:∃ w5,w5=wc:=⟨_,rfl⟩
  have y0:=HD.out w5 hbc
  have hO5:=HO.out.below hbc
  obtain ⟨l,hl⟩:=eX (Z.length)
  have hl9:l≤10000:=by rw [← hl,← HZw.out];exact Qc (List.length_filter_le _ _) (by omega)
  have hB5:=HBr.out.thn hbc
  rw [hl] at hs5 ⊢
  have hEl:Z0.R (But (fun _=>True) (.slice q m c)) w5 [.string ⟨r.table.toArray⟩,.slice p5 l c5] ⟨r.table,Z⟩:=by
   refine ⟨_,rfl,htl,hs5.mono (fun b _ hb=>⟨trivial,fun e=>?_⟩)⟩
   have h1:=HO.out.row.lt b e.symm
   rcases hb with h | h <;> omega
  have hstep:=Wz (b:=b) HR.out
  have hor:Tf b r=if l=0 then none else some ⟨r.table,Z⟩:=by unfold Tf;rw [HOo.out,HZw.out,hl]
  rw [hor] at hstep
  have HStep:=Qq hstep;have HO5o:=Qq hO5;have HEl:=Qq hEl;have HB5:=Qq hB5
  have hsz5:=hB5.size
  clear hO5 hbc hB5 hl hEl hstep hor hs5 d0 d1
  by_cases hl0:l=0
  ·subst hl0
   go_wp2_with fail
   go_roundw
   case measure=>simp [intOf];omega
   case rel=>
    have hst:=HStep.out
    simp only [if_true,Option.toList_none,List.append_nil] at hst
    refine ⟨k+1,m,q,c,by omega,by go_num,rfl,(show Aside _ from ⟨by rw [hst];exact HM.out,by omega⟩),(show Aside _ from HB5.out),(show Aside _ from ⟨css,by rw [hst];exact HO5o.out⟩)⟩
  have hl1:(0:Int)<(l:Int):=by omega
  go_wp2_with (at_builtin;refine Zm (r:=Z0) (by decide) rfl (.tmp 30) (.tmp 38) _ rfl 57 i9 (.agg #[.string ⟨#[]⟩,.slice none 0 0]) 40 underlying28 HJ.out HJ2.out HJ3.out HJ4.out rfl (by omega) (fun _=>True) w.heap.size w5 (.slice q m c) (T9 (a.take k) b) css [.string ⟨r.table.toArray⟩,.slice p5 l c5] ⟨r.table,Z⟩ rfl HO5o.out rfl HEl.out (by simp [Value.oneCell']) m HM.out.symm (by omega) hsz5 ?_;intro p7 cap7 css7 w7 hO7 hL7;have HO7:=Qq hO7;have HL7:=Qq hL7;clear hO7 hL7)
  go_roundw
  case measure=>simp [intOf];omega
  case rel=>
   have hst:=HStep.out
   rw [if_neg hl0,Option.toList_some] at hst
   refine ⟨k+1,m+1,p7,cap7,by omega,by go_num,rfl,(show Aside _ from ⟨by rw [hst,List.length_append,← HM.out];rfl,by omega⟩),(show Aside _ from HB5.out.trans HL7.out.below),(show Aside _ from ⟨css7,by rw [hst];exact HO7.out⟩)⟩
 have hltz:¬ (k:Int)<(n:Int):=by omega
 have:k=n:=by omega
 subst this
 have hz:T9 (a.take k) b=z:=by rw [List.take_of_length_le (by rw [HN.out];exact Q9 _)];exact HZ.out
 have hm:=HM.out
 rw [hz] at hm
 have hS:Sl Z0 (fun _=>True) wr (.slice q m c) z:=by
  have h:=HO.out.sl (S':=fun _=>True) (by rw [← HM.out];omega) (fun _ _=>trivial) (fun _ _ _=>trivial)
  rwa [hz] at h
 have HSl:=Qq hS;have HMz:=Qq hm
 clear hz hm hS
 go_wp2_with fail
 go_ret
 unfold Wb
 rw [← HMz.out]
 exact ⟨q,c,rfl,HSl.out,HBr.out⟩
theorem Wt (g:Nat) (lb:Array Value) (eg:∀ args w,(callFunc g args).run prog w=.ok (.enter g args) w) (S:Nat→Prop) (va vb:Value) (a:List Rel) (b:List Rel) (w:World) (ha:Sl Z0 S w va a) (hb:Sl Z0 S w vb b) (p:Rel→Rel→Bool)
  (hp:∀ (W:World) (x:Rel) (y:Rel) (cx cy:List Value),Below w.heap.size w W→x ∈ a→y ∈ b→Z0.R S W cx x→Z0.R S W cy y→Calls prog g (#[.agg cx.toArray,.agg cy.toArray]++lb) W fun e w'=>e=.returned (.bool (p x y))∧Below W.heap.size W w'):
  Calls prog 68 #[va,vb,.func (.func g) #[] lb] w fun e w'=>e=.returned (.bool (eqL p a b))∧Below w.heap.size w w':=by
 obtain ⟨pa,ca,rfl,hla⟩:=ha.len
 obtain ⟨pb,cb,rfl,hlb⟩:=hb.len
 have HA:=Qq ha;have HB:=Qq hb;have HP:=Qq hp
 clear ha hb hp
 by_cases hn:a.length=b.length
 ·obtain ⟨n,hn1⟩:=eX (b.length)
  rw [hn1] at hn hlb HB
  rw [hn] at HA hla
  rw [hn,hn1]
  obtain ⟨r,hr⟩:=eX (eqL p a b)
  rw [hr]
  have HR:=Qq hr;have HNa:=Qq hn;have HNb:=Qq hn1
  clear hr hn hn1
  go_enter func68,ntmps68
  go_wp2_with fail
  go_loopw [17] (fun i wr=>∃ k:Nat,k≤n∧i=.int .i64 k∧Aside (eqL p (a.drop k) (b.drop k)=r)∧Below w.heap.size w wr) (fun i _=>n - (intOf i).toNat)
  case atStart=>exact ⟨0,Q8 _,rfl,HR.out,Qz _ _⟩
  obtain ⟨k,hkn,rfl,hE,hBr⟩:=hrel
  have HBr:=Qq hBr
  clear hBr
  by_cases hlt:k<n
  ·have hi1:(0:Int)≤(k:Int):=by omega
   have hi2:(k:Int)<(n:Int):=by omega
   have hka:k<a.length:=by rw [HNa.out];exact hlt
   have hkb:k<b.length:=by rw [HNb.out];exact hlt
   obtain ⟨x,hx⟩:∃ x,a[k]?=some x:=⟨_,Qx hka⟩
   obtain ⟨y,hy⟩:∃ y,b[k]?=some y:=⟨_,Qx hkb⟩
   have hda:a.drop k=x::a.drop (k+1):=by rw [List.drop_eq_getElem_cons hka];rw [Qx hka] at hx;cases hx;rfl
   have hdb:b.drop k=y::b.drop (k+1):=by rw [List.drop_eq_getElem_cons hkb];rw [Qx hkb] at hy;cases hy;rfl
   obtain ⟨ba,oa,cx,rfl,hba,-,-,hrx,hcx⟩:=(HA.out.below HBr.out).elem hx
   obtain ⟨bb,ob,cy,rfl,hbb,-,-,hry,hcy⟩:=(HB.out.below HBr.out).elem hy
   have HCall:=Qq (fun W (h:Below wr.heap.size wr W)=>HP.out W x y cx cy (HBr.out.thn h) (Qy hx) (Qy hy) (Z0.frame hrx (.of_below h)) (Z0.frame hry (.of_below h)))
   obtain ⟨rpx,rcx,rfl⟩:=So hrx
   obtain ⟨rpy,rcy,rfl⟩:=So hry
   have d0:=hcx 0 _ rfl;have d1:=hcx 1 _ rfl
   have e0:=hcy 0 _ rfl;have e1:=hcy 1 _ rfl
   simp only [show Z0.k=2 from rfl,Nat.add_zero] at d0 d1
   simp only [show Z0.k=2 from rfl,Nat.add_zero] at e0 e1
   have hE2:(p x y&&eqL p (a.drop (k+1)) (b.drop (k+1)))=r:=by have:=hE.out;rw [hda,hdb] at this;exact this
   have HE2:=Qq hE2
   clear hE hE2 hda hdb hka hkb hx hy hrx hry hcx hcy
   cases hq:p x y with
   | true=>
    rw [hq] at HCall HE2
    go_wp2_with (go_at_fn g;refine (HCall.out _ (Zv _ _ _)).mono ?_;rintro e w' ⟨rfl,hw⟩;have HW:=Qq (HBr.out.thn ((Zv wr _ _).thn hw));clear hw)
    go_roundw
    case measure=>simp [intOf];omega
    case rel=>exact ⟨k+1,by omega,by go_num,(show Aside _ from by have:=HE2.out;rwa [Bool.true_and] at this),HW.out⟩
   | false=>
    rw [hq] at HCall HE2
    have hr0:r=false:=by have:=HE2.out;rw [Bool.false_and] at this;exact this.symm
    subst hr0
    go_wp2_with (go_at_fn g;refine (HCall.out _ (Zv _ _ _)).mono ?_;rintro e w' ⟨rfl,hw⟩;have HW:=Qq (HBr.out.thn ((Zv wr _ _).thn hw));clear hw)
    go_ret
    exact ⟨rfl,HW.out⟩
  have hr1:r=true:=by
   have:=hE.out
   rw [List.drop_eq_nil_of_le (by rw [HNa.out];omega),List.drop_eq_nil_of_le (by rw [HNb.out];omega)] at this
   exact this.symm
  subst hr1
  clear hE
  go_wp2_with fail
  go_ret
  exact ⟨rfl,HBr.out⟩
 rw [Ud p a b hn]
 have hq:((a.length:Int) != (b.length:Int))=true:=by rw [bne_iff_ne];omega
 clear hn
 go_enter func68,ntmps68
 go_wp2_with fail
 go_ret
 exact ⟨rfl,Qz _ _⟩
theorem Wg (S:Nat→Prop) (x y:Rel) (cx cy:List Value) (w:World) (hx:Z0.R S w cx x) (hy:Z0.R S w cy y):
  Calls prog 69 #[.agg cx.toArray,.agg cy.toArray] w fun e w'=>e=.returned (.bool (Ju x y))∧Below w.heap.size w w':=by
 obtain ⟨va,rfl,_,hva⟩:=hx
 obtain ⟨vb,rfl,_,hvb⟩:=hy
 have HC:=Qq (fun W (hb:Below w.heap.size w W)=>Rv 45 #[] (enters_of func45 (by kernel_rfl) rfl) S va vb x.rows y.rows W (hva.below hb) (hvb.below hb) eqv
  (fun W' x y cx cy _ _ _ h1 h2=>Gz S x y cx cy W' h1 h2))
 obtain ⟨qa,qca,rfl,_⟩:=hva.len
 obtain ⟨qb,qcb,rfl,_⟩:=hvb.len
 have hR:Ju x y=(eqL eqv x.rows y.rows&&decide (x.table=y.table)):=rfl
 generalize eqL eqv x.rows y.rows=c at HC hR
 clear hva hvb
 unfold sv
 by_cases he:x.table=y.table
 ·have hq:(x.table==y.table)=true:=by rw [beq_iff_eq];exact he
  rw [hR,show (c&&decide (x.table=y.table))=c by simp [he]]
  clear he hR
  go_enter func69,ntmps69
  go_wp2_with (go_at_call 44;refine (HC.out _ (Zv _ _ _)).mono ?_;rintro e w' ⟨rfl,hw⟩;have HW:=Qq ((Zv w _ _).thn hw);clear hw)
  go_ret
  exact ⟨rfl,HW.out⟩
 have hq:(x.table==y.table)=false:=by rw [← Bool.not_eq_true,beq_iff_eq];exact he
 rw [hR,show (c&&decide (x.table=y.table))=false by simp [he]]
 clear he hR
 go_enter func69,ntmps69
 go_wp2_with fail
 go_ret
 exact ⟨rfl,Zv _ _ _⟩
theorem Tl (S S':Nat→Prop) (av bv:Value) (a b:List Rel) (w:World) (ha:Sl Z0 S w av a) (hb:Sl Z0 S' w bv b):
  Calls prog 34 #[av,bv] w fun e w'=>e=.returned (.bool (eqL Ju a b))∧Below w.heap.size w w':=by
 have HE:=Qq (Wt 69 #[] (enters_of func69 (by kernel_rfl) rfl) (fun _=>True) av bv a b w (ha.mono (fun _ _ _=>trivial)) (hb.mono (fun _ _ _=>trivial)) Ju
  (fun W' x y cx cy _ _ _ hx hy=>Wg _ x y cx cy W' hx hy))
 obtain ⟨pa,ca,rfl,_⟩:=ha.len
 obtain ⟨pb,cb,rfl,_⟩:=hb.len
 generalize eqL Ju a b=r at HE ⊢
 clear ha hb
 go_enter func34,ntmps34
 go_wp2_with (go_at_call 68;refine HE.out.mono ?_;rintro e w' ⟨rfl,hw⟩;have HW:=Qq hw;clear hw)
 go_ret
 exact ⟨rfl,HW.out⟩
theorem Ti (l:List Rel) (t:Bs):Ym l t=(l.map Rel.table).findIdx? (fun y=>decide (y=t)):=by
 unfold Ym;rw [List.findIdx?_map];rfl
theorem Tc {l:List Rel} {t:Bs} {i:Nat} (h:Ym l t=some i):∃ r,l[i]?=some r∧r.table=t:=by
 unfold Ym at h
 obtain ⟨h1,h2,_⟩:=List.findIdx?_eq_some_iff_getElem.1 h
 exact ⟨_,Qx h1,of_decide_eq_true h2⟩
theorem Tn {l:List Rel} {i:Nat} (zs:List Val):(l.set i ⟨(l.getD i ⟨[],[]⟩).table,zs⟩).map Rel.table=l.map Rel.table:=by
 apply List.ext_getElem?
 intro j
 simp only [List.getElem?_map,List.getElem?_set]
 by_cases hj:i=j
 ·subst hj
  rw [if_pos rfl]
  by_cases hl:i<l.length
  ·rw [if_pos hl];simp [List.getD_eq_getElem?_getD,Qx hl]
  rw [if_neg hl,List.getElem?_eq_none (by omega)]
 rw [if_neg hj]
theorem Tb {l:List Rel} {t:Bs} {i:Nat} {r:Rel} (h:Ym l t=some i) (hr:l[i]?=some r):Yv l t=r.rows:=by
 unfold Yv;rw [h];simp [List.getD_eq_getElem?_getD,hr]
theorem Te {l:List Rel} {t:Bs} (h:Ym l t=none):Yv l t=[]:=by unfold Yv;rw [h]
theorem Tp {l:List Rel} {t:Bs} {i:Nat} (h:Ym l t=some i) (zs:List Val) (t':Bs):
  Yv (l.set i ⟨(l.getD i ⟨[],[]⟩).table,zs⟩) t'=if t'=t then zs else Yv l t':=by
 have hr:∀ y,Ym (l.set i ⟨(l.getD i ⟨[],[]⟩).table,zs⟩) y=Ym l y:=fun y=>by rw [Ti,Tn,← Ti]
 obtain ⟨r,hir,htr⟩:=Tc h
 have hil:=(Qj hir).1
 by_cases ht:t'=t
 ·subst ht
  rw [if_pos rfl]
  exact Tb (by rw [hr,h]) (by rw [List.getElem?_set,if_pos rfl,if_pos hil])
 rw [if_neg ht]
 cases h':Ym l t' with
 | none=>rw [Te h',Te (by rw [hr,h'])]
 | some j=>
  obtain ⟨s,hjs,hts⟩:=Tc h'
  have hij:i≠j:=fun e=>by subst e;rw [hir] at hjs;cases hjs;exact ht (hts.symm.trans htr)
  rw [Tb h' hjs]
  exact Tb (by rw [hr,h']) (by rw [List.getElem?_set,if_neg hij];exact hjs)
def Td (l:List Rel) (t:Bs) (k:List Int):Prop:=k ∈ (Yv l t).map key
theorem delV_mem (l:List Val) (x:Val) (k:List Int):k ∈ (U6 l x).map key↔k ∈ l.map key∧k≠key x:=by
 unfold U6
 simp only [List.mem_map,List.mem_filter]
 constructor
 ·rintro ⟨y,⟨hy,he⟩,rfl⟩
  exact ⟨⟨y,hy,rfl⟩,fun e=>by simp [eqv,e] at he⟩
 rintro ⟨⟨y,hy,rfl⟩,hne⟩
 exact ⟨y,⟨hy,by simp [eqv,hne]⟩,rfl⟩
theorem hasK_del (l:List Rel) (t:Bs) (x:Val) (t':Bs) (k:List Int):Td (Kt l t x) t' k↔Td l t' k∧¬ (t'=t∧k=key x):=by
 unfold Td Kt
 cases h:Ym l t with
 | none=>
  refine ⟨fun hk=>⟨hk,?_⟩,fun hk=>hk.1⟩
  rintro ⟨rfl,_⟩
  rw [Te h] at hk
  cases hk
 | some i=>
  show k ∈ (Yv (l.set i ⟨(l.getD i ⟨[],[]⟩).table,U6 (l.getD i ⟨[],[]⟩).rows x⟩) t').map key↔_
  obtain ⟨r,hr,_⟩:=Tc h
  rw [Tp h]
  by_cases ht:t'=t
  ·subst ht
   rw [if_pos rfl,Tb h hr,show (l.getD i ⟨[],[]⟩).rows=r.rows by simp [List.getD_eq_getElem?_getD,hr],delV_mem]
   simp
  rw [if_neg ht];simp [ht]
theorem hasK_ins {l:List Rel} {t:Bs} (x:Val) (t':Bs) (k:List Int) (hin:t ∈ l.map Rel.table):Td (Uv l t x) t' k↔Td l t' k∨(t'=t∧k=key x):=by
 unfold Td Uv
 cases h:Ym l t with
 | none=>
  rw [Ti,List.findIdx?_eq_none_iff] at h
  exact absurd (h t hin) (by simp)
 | some i=>
  show k ∈ (Yv (l.set i ⟨(l.getD i ⟨[],[]⟩).table,Vc (l.getD i ⟨[],[]⟩).rows x⟩) t').map key↔_
  obtain ⟨r,hr,_⟩:=Tc h
  rw [Tp h]
  by_cases ht:t'=t
  ·subst ht
   rw [if_pos rfl,Tb h hr,show (l.getD i ⟨[],[]⟩).rows=r.rows by simp [List.getD_eq_getElem?_getD,hr],putV_mem]
   simp [or_comm]
  rw [if_neg ht];simp [ht]
theorem Wm (l:List Rel) (t:Bs) (x:Val):(Kt l t x).map Rel.table=l.map Rel.table:=by
 unfold Kt;cases Ym l t with
 | none=>rfl
 | some i=>exact Tn _
theorem To (l:List Rel) (t:Bs) (x:Val):(Uv l t x).map Rel.table=l.map Rel.table:=by
 unfold Uv;cases Ym l t with
 | none=>rfl
 | some i=>exact Tn _
theorem Wc {p:List Val→Prop} {l:List Rel} (h:∀ r ∈ l,p r.rows) (t:Bs) (x:Val) (hp:∀ xs,p xs→p (U6 xs x)):∀ r ∈ Kt l t x,p r.rows:=by
 unfold Kt
 cases e:Ym l t with
 | none=>exact h
 | some i=>
  obtain ⟨r0,hr0,_⟩:=Tc e
  intro r hr
  rcases List.mem_or_eq_of_mem_set hr with hr | rfl
  ·exact h r hr
  show p (U6 _ x)
  rw [show (l.getD i ⟨[],[]⟩).rows=r0.rows by simp [List.getD_eq_getElem?_getD,hr0]]
  exact hp _ (h r0 (Qy hr0))
theorem We {p q:List Val→Prop} {l:List Rel} (h:∀ r ∈ l,p r.rows) (t:Bs) (x:Val) (hp:∀ xs,p xs→q (Vc xs x)) (hq:∀ xs,p xs→q xs):∀ r ∈ Uv l t x,q r.rows:=by
 unfold Uv
 cases e:Ym l t with
 | none=>exact fun r hr=>hq _ (h r hr)
 | some i=>
  obtain ⟨r0,hr0,_⟩:=Tc e
  intro r hr
  rcases List.mem_or_eq_of_mem_set hr with hr | rfl
  ·exact hq _ (h r hr)
  show q (Vc _ x)
  rw [show (l.getD i ⟨[],[]⟩).rows=r0.rows by simp [List.getD_eq_getElem?_getD,hr0]]
  exact hp _ (h r0 (Qy hr0))
structure Ta (T:List Bs) (c:Nat) (l:List Rel):Prop where
 tabs:l.map Rel.table=T
 up:∀ r ∈ l,UpV r.rows
 few:∀ r ∈ l,r.rows.length≤c
theorem Ak (l:List Val) (x:Val):(Vc l x).length≤l.length+1:=by
 unfold Vc
 split
 ·omega
 simp [List.length_take,List.length_drop];omega
theorem Ta.del {T:List Bs} {c:Nat} {l:List Rel} (h:Ta T c l) (t:Bs) (x:Val):Ta T c (Kt l t x):=
 ⟨by rw [Wm];exact h.tabs,Wc h.up t x (fun xs hx=>List.Pairwise.filter _ hx),Wc (p:=fun xs=>xs.length≤c) h.few t x (fun xs hx=>Qc (List.length_filter_le _ _) hx)⟩
theorem Ta.ins {T:List Bs} {c:Nat} {l:List Rel} (h:Ta T c l) (t:Bs) (x:Val):Ta T (c+1) (Uv l t x):=
 ⟨by rw [To];exact h.tabs,We h.up t x (fun xs hx=>putV_up hx x) (fun _ h=>h),We (p:=fun xs=>xs.length≤c) (q:=fun xs=>xs.length≤c+1) h.few t x (fun xs hx=>Qc (Ak xs x) (by omega)) (fun xs hx=>by omega)⟩
def delT (l:List Rel) (t:Bs) (vs:List Val):List Rel:=vs.foldl (fun l v=>Kt l t v) l
def delX (l:List Rel) (x:List Rel):List Rel:=x.foldl (fun l r=>delT l r.table r.rows) l
def insT (l:List Rel) (t:Bs) (vs:List Val):List Rel:=vs.foldl (fun l v=>Uv l t v) l
def insY (l:List Rel) (y:List Rel):List Rel:=y.foldl (fun l r=>insT l r.table r.rows.reverse) l
theorem Ws {l:List Rel} {t:Bs} {vs:List Val} {k:Nat} {v:Val} (h:vs[k]?=some v):delT l t (vs.take (k+1))=Kt (delT l t (vs.take k)) t v:=by
 unfold delT;rw [List.take_add_one,h,List.foldl_append];rfl
theorem Wi {l:List Rel} {t:Bs} {vs:List Val} {k:Nat} {v:Val} (h:vs[k]?=some v):insT l t (vs.take (k+1))=Uv (insT l t (vs.take k)) t v:=by
 unfold insT;rw [List.take_add_one,h,List.foldl_append];rfl
theorem Wr {l x:List Rel} {i:Nat} {r:Rel} (h:x[i]?=some r):delX l (x.take (i+1))=delT (delX l (x.take i)) r.table r.rows:=by
 unfold delX;rw [List.take_add_one,h,List.foldl_append];rfl
theorem Wn {l y:List Rel} {i:Nat} {r:Rel} (h:y[i]?=some r):insY l (y.take (i+1))=insT (insY l (y.take i)) r.table r.rows.reverse:=by
 unfold insY;rw [List.take_add_one,h,List.foldl_append];rfl
theorem Ta.delT {T:List Bs} {c:Nat} (t:Bs) (vs:List Val):∀ {l:List Rel},Ta T c l→Ta T c (delT l t vs):=by
 induction vs with
 | nil=>exact fun h=>h
 | cons v vs ih=>exact fun h=>ih (h.del t v)
theorem Ta.delX {T:List Bs} {c:Nat} (x:List Rel):∀ {l:List Rel},Ta T c l→Ta T c (delX l x):=by
 induction x with
 | nil=>exact fun h=>h
 | cons r x ih=>exact fun h=>ih (h.delT r.table r.rows)
theorem Ta.insT {T:List Bs} (t:Bs) (vs:List Val):∀ {c:Nat} {l:List Rel},Ta T c l→Ta T (c+vs.length) (insT l t vs):=by
 induction vs with
 | nil=>exact fun h=>h
 | cons v vs ih=>exact fun {c l} h=>by have:=ih (h.ins t v);rwa [show c+1+vs.length=c+(v::vs).length by simp;omega] at this
theorem Ta.insY {T:List Bs} {d:Nat} (y:List Rel):∀ {c:Nat} {l:List Rel},(∀ r ∈ y,r.rows.length≤d)→Ta T c l→Ta T (c+d*y.length) (insY l y):=by
 induction y with
 | nil=>exact fun {c l} _ h=>h
 | cons r y ih=>
  intro c l hd h
  have h1:=h.insT r.table r.rows.reverse
  have h2:Ta T (c+d) (Go.Proofs.YtppbaladeefnkaaGreatDoor.insT l r.table r.rows.reverse):=⟨h1.tabs,h1.up,fun r' hr'=>Qc (h1.few r' hr') (by have:=hd r (by simp);simp;omega)⟩
  have h3:=ih (fun r' hr'=>hd r' (by simp [hr'])) h2
  rwa [show c+d+d*y.length=c+d*(r::y).length by simp [Nat.mul_add];omega] at h3
theorem Av (t:Bs) (vs:List Val):∀ (l:List Rel) (t':Bs) (k:List Int),Td (delT l t vs) t' k↔Td l t' k∧¬ (t'=t∧k ∈ vs.map key):=by
 induction vs with
 | nil=>intro l t' k;simp [delT]
 | cons v vs ih=>
  intro l t' k
  show Td (delT (Kt l t v) t vs) t' k↔_
  rw [ih,hasK_del]
  simp only [List.map_cons,List.mem_cons]
  constructor
  ·rintro ⟨⟨h1,h2⟩,h3⟩
   exact ⟨h1,fun ⟨e,h⟩=>h.elim (fun h=>h2 ⟨e,h⟩) (fun h=>h3 ⟨e,h⟩)⟩
  rintro ⟨h1,h2⟩
  exact ⟨⟨h1,fun ⟨e,h⟩=>h2 ⟨e,.inl h⟩⟩,fun ⟨e,h⟩=>h2 ⟨e,.inr h⟩⟩
theorem Wl (x:List Rel):∀ (l:List Rel) (t':Bs) (k:List Int),Td (delX l x) t' k↔Td l t' k∧¬ ∃ r ∈ x,t'=r.table∧k ∈ r.rows.map key:=by
 induction x with
 | nil=>intro l t' k;simp [delX]
 | cons r x ih=>
  intro l t' k
  show Td (delX (delT l r.table r.rows) x) t' k↔_
  rw [ih,Av]
  constructor
  ·rintro ⟨⟨h1,h2⟩,h3⟩
   refine ⟨h1,fun ⟨r',hr',h⟩=>?_⟩
   rcases List.mem_cons.1 hr' with rfl | hr'
   ·exact h2 h
   exact h3 ⟨r',hr',h⟩
  rintro ⟨h1,h2⟩
  exact ⟨⟨h1,fun h=>h2 ⟨r,by simp,h⟩⟩,fun ⟨r',hr',h⟩=>h2 ⟨r',by simp [hr'],h⟩⟩
theorem Aq (t:Bs) (vs:List Val):∀ l:List Rel,(insT l t vs).map Rel.table=l.map Rel.table:=by
 induction vs with
 | nil=>intro l;rfl
 | cons v vs ih=>intro l;show (insT (Uv l t v) t vs).map _=_;rw [ih,To]
theorem Wo {t:Bs} (vs:List Val):∀ {l:List Rel} (t':Bs) (k:List Int),t ∈ l.map Rel.table→(Td (insT l t vs) t' k↔Td l t' k∨(t'=t∧k ∈ vs.map key)):=by
 induction vs with
 | nil=>intro l t' k _;simp [insT]
 | cons v vs ih=>
  intro l t' k hin
  show Td (insT (Uv l t v) t vs) t' k↔_
  rw [ih t' k (by rw [To];exact hin),hasK_ins v t' k hin]
  simp only [List.map_cons,List.mem_cons]
  constructor
  ·rintro ((h | ⟨e,h⟩) | ⟨e,h⟩)
   ·exact .inl h
   ·exact .inr ⟨e,.inl h⟩
   exact .inr ⟨e,.inr h⟩
  rintro (h | ⟨e,h | h⟩)
  ·exact .inl (.inl h)
  ·exact .inl (.inr ⟨e,h⟩)
  exact .inr ⟨e,h⟩
theorem Az (y:List Rel):∀ {l:List Rel} (t':Bs) (k:List Int),(∀ r ∈ y,r.table ∈ l.map Rel.table)→(Td (insY l y) t' k↔Td l t' k∨∃ r ∈ y,t'=r.table∧k ∈ r.rows.map key):=by
 induction y with
 | nil=>intro l t' k _;simp [insY]
 | cons r y ih=>
  intro l t' k hin
  show Td (insY (insT l r.table r.rows.reverse) y) t' k↔_
  rw [ih t' k (fun r' hr'=>by rw [Aq];exact hin r' (by simp [hr'])),Wo _ t' k (hin r (by simp)),List.map_reverse,List.mem_reverse]
  constructor
  ·rintro ((h | h) | ⟨r',hr',h⟩)
   ·exact .inl h
   ·exact .inr ⟨r,by simp,h⟩
   exact .inr ⟨r',by simp [hr'],h⟩
  rintro (h | ⟨r',hr',h⟩)
  ·exact .inl (.inl h)
  rcases List.mem_cons.1 hr' with rfl | hr'
  ·exact .inl (.inr h)
  exact .inr ⟨r',hr',h⟩
theorem Tm (l m:List Val) (k:List Int):k ∈ (Xv l m).map key↔k ∈ l.map key∧k ∉ m.map key:=by
 unfold Xv
 simp only [List.mem_map,List.mem_filter]
 constructor
 ·rintro ⟨y,⟨hy,he⟩,rfl⟩
  refine ⟨⟨y,hy,rfl⟩,fun hm=>?_⟩
  rw [hasV_iff.2 (by simpa using hm)] at he
  cases he
 rintro ⟨⟨y,hy,rfl⟩,hne⟩
 refine ⟨y,⟨hy,?_⟩,rfl⟩
 cases h:Kx m y with
 | false=>rfl
 | true=>exact absurd (by simpa using hasV_iff.1 h) hne
theorem Tg {l:List Rel} (hd:(l.map Rel.table).Nodup) {i:Nat} {r:Rel} (h:l[i]?=some r):Ym l r.table=some i:=by
 obtain ⟨hi,he⟩:=Qj h
 rw [Ti,List.findIdx?_eq_some_iff_getElem]
 refine ⟨by simpa using hi,by simp [he],fun j hj=>?_⟩
 simp only [List.getElem_map,Bool.not_eq_true,decide_eq_false_iff_not]
 intro e
 rw [← he] at e
 exact (List.pairwise_iff_getElem.1 hd) j i (by simpa using (by omega:j<l.length)) (by simpa using hi) hj (by simpa using e)
theorem Wd {a b:List Rel} (hd:(a.map Rel.table).Nodup) (t:Bs) (k:List Int):(∃ r ∈ T9 a b,t=r.table∧k ∈ r.rows.map key)↔Td a t k∧¬ Td b t k:=by
 unfold T9
 constructor
 ·rintro ⟨r,hr,rfl,hk⟩
  obtain ⟨r0,hr0,h⟩:=List.mem_filterMap.1 hr
  unfold Tf at h
  split at h
  ·cases h
  cases h
  obtain ⟨i,hi⟩:=List.mem_iff_getElem?.1 hr0
  rw [Tm] at hk
  unfold Td
  rw [Tb (Tg hd hi) hi]
  exact hk
 rintro ⟨h1,h2⟩
 unfold Td at h1
 cases e:Ym a t with
 | none=>rw [Te e] at h1;cases h1
 | some i=>
  obtain ⟨r,hr,ht⟩:=Tc e
  rw [Tb e hr] at h1
  have hm:k ∈ (Xv r.rows (Yv b r.table)).map key:=(Tm _ _ _).2 ⟨h1,by rw [ht];exact h2⟩
  refine ⟨⟨r.table,Xv r.rows (Yv b r.table)⟩,List.mem_filterMap.2 ⟨r,Qy hr,?_⟩,ht.symm,hm⟩
  unfold Tf
  rw [if_neg]
  intro h0
  rw [List.eq_nil_of_length_eq_zero h0] at hm
  cases hm
theorem only_tab {a b:List Rel} {r:Rel} (h:r ∈ T9 a b):r.table ∈ a.map Rel.table:=by
 obtain ⟨r0,hr0,h⟩:=List.mem_filterMap.1 h
 unfold Tf at h
 split at h
 ·cases h
 cases h;exact List.mem_map.2 ⟨r0,hr0,rfl⟩
theorem Wq {a b:List Rel} {c:Nat} (h:∀ r ∈ a,r.rows.length≤c):∀ r ∈ T9 a b,r.rows.length≤c:=by
 intro r hr
 obtain ⟨r0,hr0,e⟩:=List.mem_filterMap.1 hr
 unfold Tf at e
 split at e
 ·cases e
 cases e;exact Qc (List.length_filter_le _ _) (h r0 hr0)
theorem Wj:∀ {a b:List Val},sameVs a b=true→eqL eqv a b=true
 | [],[],_=>rfl
 | [],_::_,h=>by simp [sameVs] at h
 | _::_,[],h=>by simp [sameVs] at h
 | x::s,y::t,h=>by
  rw [sameVs_cons,Bool.and_eq_true] at h
  unfold eqL
  rw [h.1,Wj h.2];rfl
theorem Ts {A B:Type} {p:A→B→Bool}:∀ {a:List A} {b:List B},a.length=b.length→(∀ (i:Nat) (x:A) (y:B),a[i]?=some x→b[i]?=some y→p x y=true)→eqL p a b=true
 | [],[],_,_=>rfl
 | [],_::_,h,_=>by simp at h
 | _::_,[],h,_=>by simp at h
 | x::s,y::t,h,hp=>by
  unfold eqL
  rw [hp 0 x y rfl rfl,Ts (by simpa using h) (fun i x' y' h1 h2=>hp (i+1) x' y' (by simpa using h1) (by simpa using h2))];rfl
theorem Aj {T:List Bs} {c d:Nat} {a b:List Rel} (ha:Ta T c a) (hb:Ta T d b) (hd:T.Nodup) (hk:∀ t k,Td a t k↔Td b t k):eqL Ju a b=true:=by
 refine Ts (by have h1:=congrArg List.length ha.tabs;have h2:=congrArg List.length hb.tabs;simp at h1 h2;omega) (fun i x y hx hy=>?_)
 have htx:T[i]?=some x.table:=by rw [← ha.tabs];simp [hx]
 have hty:T[i]?=some y.table:=by rw [← hb.tabs];simp [hy]
 have ht:x.table=y.table:=by rw [htx] at hty;exact Qb hty
 have h1:=Tb (Tg (by rw [ha.tabs];exact hd) hx) hx
 have h2:=Tb (Tg (by rw [hb.tabs];exact hd) hy) hy
 unfold Ju
 rw [Wj (upV_same (ha.up x (Qy hx)) (hb.up y (Qy hy)) (fun k=>?_)),ht]
 ·simp
 have:=hk x.table k
 unfold Td at this
 rw [h1,ht,h2] at this
 exact this
theorem Wh {T:List Bs} {c:Nat} {a b:List Rel} (ha:Ta T c a) (hb:Ta T c b) (hd:T.Nodup):eqL Ju (insY (delX a (T9 a b)) (T9 b a)) b=true:=by
 have h1:=ha.delX (T9 a b)
 have h2:=h1.insY (d:=c) (T9 b a) (Wq hb.few)
 refine Aj h2 hb hd (fun t k=>?_)
 rw [Az _ t k (fun r hr=>by rw [h1.tabs,← hb.tabs];exact only_tab hr),Wl,Wd (by rw [ha.tabs];exact hd),Wd (by rw [hb.tabs];exact hd)]
 constructor
 ·rintro (⟨h,h'⟩ | ⟨h,_⟩)
  ·exact Classical.byContradiction fun hn=>h' ⟨h,hn⟩
  exact h
 intro h
 by_cases ha':Td a t k
 ·exact .inl ⟨ha',fun h'=>h'.2 h⟩
 exact .inr ⟨h,ha'⟩
def StD (T:List Bs) (w:World) (e:Ending) (w':World):Prop:=∃ l p cap,e=.returned (.slice p l.length cap)∧Ta T 5 l∧Sl Z0 (fun _=>True) w' (.slice p l.length cap) l∧Below w.heap.size w w'
def DyD (n0:Nat) (w:World) (e:Ending) (w':World):Prop:=∃ l p cap,e=.returned (.slice p l.length cap)∧(∀ r ∈ l,r.rows.length≤8)∧l.length≤n0∧Sl Z0 (fun _=>True) w' (.slice p l.length cap) l∧Below w.heap.size w w'
theorem Ax {T:List Bs} {c d:Nat} {l:List Rel} (h:Ta T c l) (t:Bs) (vs:List Val) (k:Nat) (hd:vs.length≤d):Ta T (c+d) (insT l t (vs.take k)):=
 have h':=h.insT t (vs.take k)
 ⟨h'.tabs,h'.up,fun r hr=>Qc (h'.few r hr) (by have:=List.length_take_le' k vs;omega)⟩
theorem Tu (l:List Rel):eqL Ju l l=true:=Ts rfl (fun i x y hx hy=>by
 rw [hx] at hy
 cases hy
 unfold Ju
 rw [Ts rfl (fun i x y hx hy=>by rw [hx] at hy;cases hy;simp [eqv])]
 simp)
theorem Wy (a b:List Rel):(T9 a b).length≤a.length:=List.length_filterMap_le _ _
def Tt (w8 W:World) (z:List Rel) (n:Nat) (e:Ending) (w2:World):Prop:=∃ p c,e=.returned (.slice p n c)∧Sl Z0 (fun _=>True) w2 (.slice p n c) z∧Below W.heap.size W w2∧Below w8.heap.size w8 w2
def OutIs (w8:World) (an:Nat) (z:List Rel) (e:Ending) (w2:World):Prop:=∃ p c,e=.returned (.slice p an c)∧Sl Z0 (fun _=>True) w2 (.slice p an c) z∧Below w8.heap.size w8 w2
theorem Ay {w8:World} {a b z:List Rel} {an bn zn ac bc:Nat} {ap bp:Option Addr} (ha:Sl Z0 (fun _=>True) w8 (.slice ap an ac) a) (hb:Sl Z0 (fun _=>True) w8 (.slice bp bn bc) b) (h8:∀ r ∈ a,r.rows.length≤8) (hl:a.length≤20) (he:T9 a b=z) (hz:z.length=zn) (W:World) (hW:Below w8.heap.size w8 W):
  Calls prog 33 #[.slice ap an ac,.slice bp bn bc] W (Tt w8 W z zn):=by
 refine (Th _ _ _ _ a b W (ha.below hW) (hb.below hW) (fun r hr=>by have:=h8 r hr;omega) (by omega)).mono ?_
 rintro e w2 ⟨p,c,rfl,h1,h2⟩
 rw [he,hz] at h1 ⊢
 exact ⟨p,c,rfl,h1,h2,hW.thn h2⟩
theorem eq_p {w8:World} {a b:List Rel} {av bv:Value} {r:Bool} (ha:Sl Z0 (fun _=>True) w8 av a) (hb:Sl Z0 (fun _=>True) w8 bv b) (hr:eqL Ju a b=r) (W:World) (hW:Below w8.heap.size w8 W):
  Calls prog 34 #[av,bv] W fun e w2=>e=.returned (.bool r)∧Below w8.heap.size w8 w2:=by
 refine (Tl _ _ _ _ a b W (ha.below hW) (hb.below hW)).mono ?_
 rintro e w2 ⟨rfl,hg⟩
 exact ⟨by rw [hr],hW.thn hg⟩
theorem eq_r {w8:World} {a b:List Rel} {av bv:Value} {r:Bool} (ha:Sl Z0 (fun _=>True) w8 av a) (hb:Sl Z0 (fun _=>True) w8 bv b) (hr:eqL Ju a b=r) (W:World) (hW:Below w8.heap.size w8 W):
  Calls prog 21 #[av,bv] W fun e w2=>e=.returned (.bool r)∧Below w8.heap.size w8 w2:=by
 refine (Nv _ _ _ _ a b W (ha.below hW) (hb.below hW)).mono ?_
 rintro e w2 ⟨rfl,hg⟩
 exact ⟨by rw [hr],hW.thn hg.bl⟩
theorem Ta.len {T:List Bs} {c:Nat} {l:List Rel} (h:Ta T c l):l.length=T.length:=by have:=congrArg List.length h.tabs;simpa using this
theorem Wk (s:Sc) (T:List Bs) (n0:Nat) (hn0:n0≤20) (hTl:T.length≤n0) (hTd:T.Nodup) (lv nv mv:Value) (w:World)
  (hSch:Calls prog 7 #[lv] w (fun e w'=>∃ up m1 uc tp m2 tc,e=.returned (.agg #[.slice up m1 uc,.slice tp m2 tc])∧Yn (fun _=>True) w' [.slice up m1 uc,.slice tp m2 tc] s∧Below w.heap.size w w'))
  (hSt1:∀ W cs,Below w.heap.size w W→Yn (fun _=>True) W cs s→Calls prog 31 #[.agg cs.toArray,nv] W (StD T W))
  (hSt2:∀ W cs,Below w.heap.size w W→Yn (fun _=>True) W cs s→Calls prog 31 #[.agg cs.toArray,mv] W (StD T W))
  (hDy1:∀ W cs,Below w.heap.size w W→Yn (fun _=>True) W cs s→Calls prog 8 #[.agg cs.toArray,nv,mv] W (DyD n0 W))
  (hLv:∀ W,Below w.heap.size w W→Calls prog 18 #[] W (fun e w'=>e=.returned (.bool true)∧Below W.heap.size W w')):
  Calls prog 6 #[lv,nv,mv] w fun e w'=>e=.returned (.bool true)∧Below w.heap.size w w':=by
 have HSch:=Qq hSch;have HSt1:=Qq hSt1;have HSt2:=Qq hSt2;have HDy1:=Qq hDy1;have HLv:=Qq hLv
 have HTd:=Qq hTd;have HTl:=Qq hTl
 clear hSch hSt1 hSt2 hDy1 hLv hTd hTl
 go_enter func6,ntmps6
 go_upto_region 2 with (go_at_call 7;refine HSch.out.mono ?_;rintro e w1 ⟨up,m1,uc,tp,m2,tc,rfl,hsc1,hb1⟩;have HSc1:=Qq hsc1;have HB1:=Qq hb1;clear hsc1 hb1)
 generalize hW2:w1.alloc _=W2
 have hb2:=eqB hW2 (Qn _ _)
 have hX2:=eqH (b:=w1.heap.size) hW2 (Qw _ _)
 have HSc2:=Qq (HSc1.out.below hb2);have HB2:=Qq (HB1.out.thn hb2);have HX2:=Qq hX2
 obtain ⟨c0,c1⟩:=row2 hX2
 have hlt2:=Qf hX2
 clear hW2 hb2 hX2 HSc1
 have HDa:=Qq (HSt1.out W2 _ HB2.out HSc2.out)
 go_upto_region 3 with (go_at_call 31;refine HDa.out.mono ?_;rintro e w3 ⟨a,ap,ac,rfl,hua,hsa,hb3⟩;have HUa:=Qq hua;have HSa3:=Qq hsa;have HB3:=Qq hb3;clear hua hsa hb3)
 have k0:w3.cell? ⟨w1.heap.size,0,none⟩=some (.slice up m1 uc):=kD HB3.out hlt2 c0
 have k1:w3.cell? ⟨w1.heap.size,1,none⟩=some (.slice tp m2 tc):=kD HB3.out hlt2 c1
 have hlt3:=Qv _ _ k0
 have HDb:=Qq (HSt2.out w3 _ (HB2.out.thn HB3.out) (HSc2.out.below HB3.out))
 clear HDa c0 c1
 go_upto_region 4 with (go_at_call 31;refine HDb.out.mono ?_;rintro e w4 ⟨b,bp,bc,rfl,hub,hsb,hb4⟩;have HUb:=Qq hub;have HSb4:=Qq hsb;have HB4:=Qq hb4;clear hub hsb hb4)
 have e0:w4.cell? ⟨w1.heap.size,0,none⟩=some (.slice up m1 uc):=kD HB4.out hlt3 k0
 have e1:w4.cell? ⟨w1.heap.size,1,none⟩=some (.slice tp m2 tc):=kD HB4.out hlt3 k1
 have HDc:=Qq (HDy1.out w4 _ ((HB2.out.thn HB3.out).thn HB4.out) ((HSc2.out.below HB3.out).below HB4.out))
 clear HDb k0 k1
 go_upto_region 5 with (go_at_call 8;refine HDc.out.mono ?_;rintro e w5 ⟨c,cp,cc,rfl,hc8,hcl,hsc,hb5⟩;have HC8:=Qq hc8;have HCl:=Qq hcl;have HSc5:=Qq hsc;have HB5:=Qq hb5;clear hc8 hcl hsc hb5)
 clear e0 e1 HDc hlt2 hlt3
 have HS5a:=Qq (HSa3.out.below (HB4.out.thn HB5.out));have HS5b:=Qq (HSb4.out.below HB5.out)
 have HBw:=Qq (((HB2.out.thn HB3.out).thn HB4.out).thn HB5.out)
 obtain ⟨an,han⟩:=eX (a.length)
 obtain ⟨bn,hbn⟩:=eX (b.length)
 obtain ⟨cn,hcn⟩:=eX (c.length)
 have hTn:=HTl.out
 have HFew:=Qq (show (∀ r ∈ a,r.rows.length≤8)∧(∀ r ∈ b,r.rows.length≤8)∧(∀ r ∈ c,r.rows.length≤8)∧a.length≤20∧b.length≤20∧c.length≤20 from ⟨fun r hr=>Qc (HUa.out.few r hr) (by omega),fun r hr=>Qc (HUb.out.few r hr) (by omega),HC8.out,by have:=HUa.out.len;omega,by have:=HUb.out.len;omega,by have:=HCl.out;omega⟩)
 rw [han] at HS5a ⊢
 rw [hbn] at HS5b ⊢
 rw [hcn] at HSc5 ⊢
 have HAn:=Qq han;have HBn:=Qq hbn;have HCn:=Qq hcn
 obtain ⟨X,hX⟩:=eX (T9 a b)
 obtain ⟨Y,hY⟩:=eX (T9 b a)
 obtain ⟨Z,hZ⟩:=eX (T9 c a)
 obtain ⟨V,hV⟩:=eX (T9 a c)
 obtain ⟨xn,hxn⟩:=eX (X.length)
 obtain ⟨yn,hyn⟩:=eX (Y.length)
 obtain ⟨zn,hzn⟩:=eX (Z.length)
 obtain ⟨vn,hvn⟩:=eX (V.length)
 have HNX:=Qq hxn;have HNY:=Qq hyn;have HNZ:=Qq hzn;have HNV:=Qq hvn
 have HEX:=Qq hX;have HEY:=Qq hY;have HEZ:=Qq hZ;have HEV:=Qq hV
 have hd1:=Wx (fun _=>True) (fun _=>True) (.slice ap an ac) (.slice bp bn bc) a b w5 HS5a.out HS5b.out (fun r hr=>by have:=HFew.out.1 r hr;omega) (fun r hr=>by have:=HFew.out.2.1 r hr;omega) (by have:=HFew.out.2.2.2.1;omega) (by have:=HFew.out.2.2.2.2.1;omega)
 rw [hX,hY,hxn,hyn] at hd1
 have HD1:=Qq hd1
 have HD2:=Qq (fun W (hW:Below w5.heap.size w5 W)=>(Wx (fun _=>True) (fun _=>True) (.slice cp cn cc) (.slice ap an ac) c a W (HSc5.out.below hW) (HS5a.out.below hW) (fun r hr=>by have:=HFew.out.2.2.1 r hr;omega) (fun r hr=>by have:=HFew.out.1 r hr;omega) (by have:=HFew.out.2.2.2.2.2;omega) (by have:=HFew.out.2.2.2.1;omega)).mono (R':=fun e w'=>∃ p c q d,e=.returned (.tuple #[.slice p zn c,.slice q vn d])∧Sl Z0 (fun _=>True) w' (.slice p zn c) Z∧Sl Z0 (fun _=>True) w' (.slice q vn d) V∧Below W.heap.size W w') (by
  rintro e w' ⟨p,c',q,d,rfl,h1,h2,h3⟩
  rw [HEZ.out,HNZ.out] at h1 ⊢
  rw [HEV.out,HNV.out] at h2 ⊢
  exact ⟨p,c',q,d,rfl,h1,h2,h3⟩))
 clear hd1 hX hY hZ hV hxn hyn hzn hvn han hbn hcn hTn
 go_upto_region 6 with (go_at_call 32;refine HD1.out.mono ?_;rintro e w6 ⟨xp,xc,yp,yc,rfl,hx,hy,hb6⟩;have HX6:=Qq hx;have HY6:=Qq hy;have HB6:=Qq hb6;clear hx hy hb6)
 have HD2':=Qq (HD2.out w6 HB6.out)
 clear HD1 HD2
 go_upto_region 7 with (go_at_call 32;refine HD2'.out.mono ?_;rintro e w8 ⟨zp,zc,vp,vc,rfl,hz,hv,hb8⟩;have HSZ:=Qq hz;have HSV:=Qq hv;have HB8:=Qq hb8;clear hz hv hb8)
 have HSX:=Qq (HX6.out.below HB8.out);have HSY:=Qq (HY6.out.below HB8.out)
 have HSa:=Qq (HS5a.out.below (HB6.out.thn HB8.out));have HSb:=Qq (HS5b.out.below (HB6.out.thn HB8.out));have HSc:=Qq (HSc5.out.below (HB6.out.thn HB8.out))
 have HB:=Qq (HBw.out.thn (HB6.out.thn HB8.out))
 clear HX6 HY6 HS5a HS5b HSc5 HD2'
 have HO1:=Qq (Ay HSa.out HSb.out HFew.out.1 HFew.out.2.2.2.1 HEX.out HNX.out)
 have HO2:=Qq (Ay HSb.out HSa.out HFew.out.2.1 HFew.out.2.2.2.2.1 HEY.out HNY.out)
 have HO3:=Qq (Ay HSc.out HSa.out HFew.out.2.2.1 HFew.out.2.2.2.2.2 HEZ.out HNZ.out)
 have HO4:=Qq (Ay HSa.out HSc.out HFew.out.1 HFew.out.2.2.2.1 HEV.out HNV.out)
 have HEq:=Qq (fun W v1 v2 (l:List Rel) (h1:Sl Z0 (fun _=>True) W v1 l) (h2:Sl Z0 (fun _=>True) W v2 l) (hW:Below w8.heap.size w8 W)=>(eq_r h1 h2 (Tu l) W (Qz _ _)).mono (R':=fun e w2=>e=.returned (.bool true)∧Below w8.heap.size w8 w2) (fun _ _ h=>⟨h.1,hW.thn h.2⟩))
 go_upto_region 9 with (first
  | (go_at_call 21;refine (HEq.out _ _ _ _ HG4x.out HG4.out HG4b.out).mono ?_;rintro e w' ⟨rfl,hb⟩;have HE4:=Qq hb;clear hb)
  | (go_at_call 33;refine (HO4.out _ HE3.out).mono ?_;rintro e w' ⟨p4,c4,rfl,h1,h2,h3⟩;have HG4:=Qq h1;have HG4x:=Qq (HSV.out.below h3);have HG4b:=Qq h3;clear h1 h2 h3)
  | (go_at_call 21;refine (HEq.out _ _ _ _ HG3x.out HG3.out HG3b.out).mono ?_;rintro e w' ⟨rfl,hb⟩;have HE3:=Qq hb;clear hb)
  | (go_at_call 33;refine (HO3.out _ HE2.out).mono ?_;rintro e w' ⟨p3,c3,rfl,h1,h2,h3⟩;have HG3:=Qq h1;have HG3x:=Qq (HSZ.out.below h3);have HG3b:=Qq h3;clear h1 h2 h3)
  | (go_at_call 21;refine (HEq.out _ _ _ _ HG2x.out HG2.out HG2b.out).mono ?_;rintro e w' ⟨rfl,hb⟩;have HE2:=Qq hb;clear hb)
  | (go_at_call 33;refine (HO2.out _ HE1.out).mono ?_;rintro e w' ⟨p2,c2,rfl,h1,h2,h3⟩;have HG2:=Qq h1;have HG2x:=Qq (HSY.out.below h3);have HG2b:=Qq h3;clear h1 h2 h3)
  | (go_at_call 21;refine (HEq.out _ _ _ _ HG1x.out HG1.out HG1b.out).mono ?_;rintro e w' ⟨rfl,hb⟩;have HE1:=Qq hb;clear hb)
  | (go_at_call 33;refine (HO1.out _ (Qz _ _)).mono ?_;rintro e w' ⟨p1,c1,rfl,h1,h2,h3⟩;have HG1:=Qq h1;have HG1x:=Qq (HSX.out.below h3);have HG1b:=Qq h3;clear h1 h2 h3))
 clear HO1 HO2 HO3 HO4 HEq HG1 HG1x HG1b HG2 HG2x HG2b HG3 HG3x HG3b HG4 HG4x HG4b HE1 HE2 HE3 HSZ HSV
 obtain ⟨r1,hr1⟩:=eX (eqL Ju a b)
 obtain ⟨r2,hr2⟩:=eX (eqL Ju a c)
 have Hr1:=Qq hr1;have Hr2:=Qq hr2
 have HP1:=Qq (eq_p HSa.out HSb.out Hr1.out)
 have HP2:=Qq (eq_r HSa.out HSb.out Hr1.out)
 have HP3:=Qq (eq_p HSa.out HSc.out Hr2.out)
 have HP4:=Qq (eq_r HSa.out HSc.out Hr2.out)
 have HP5:=Qq (eq_p HSa.out HSa.out (Tu _))
 have hq1:(r1 != r1)=false:=by simp
 have hq2:(r2 != r2)=false:=by simp
 clear hr1 hr2
 go_upto_region 11 with (first
  | (go_at_call 34;refine (HP5.out _ HF4.out).mono ?_;rintro e w' ⟨rfl,hb⟩;have HF5:=Qq hb;clear hb)
  | (go_at_call 21;refine (HP4.out _ HF3.out).mono ?_;rintro e w' ⟨rfl,hb⟩;have HF4:=Qq hb;clear hb)
  | (go_at_call 34;refine (HP3.out _ HF2.out).mono ?_;rintro e w' ⟨rfl,hb⟩;have HF3:=Qq hb;clear hb)
  | (go_at_call 21;refine (HP2.out _ HF1.out).mono ?_;rintro e w' ⟨rfl,hb⟩;have HF2:=Qq hb;clear hb)
  | (go_at_call 34;refine (HP1.out _ HE4.out).mono ?_;rintro e w' ⟨rfl,hb⟩;have HF1:=Qq hb;clear hb))
 obtain ⟨w9,hw9⟩:∃ w9,w9=w':=⟨_,rfl⟩
 subst hw9
 clear HP1 HP2 HP3 HP4 HP5 HF1 HF2 HF3 HF4 HE4 hq1 hq2 Hr1 Hr2
 have HSa9:=Qq (HSa.out.below HF5.out);have HSb9:=Qq (HSb.out.below HF5.out)
 have HSX9:=Qq (HSX.out.below HF5.out);have HSY9:=Qq (HSY.out.below HF5.out)
 have HB9:=Qq (HB.out.thn HF5.out)
 have HXf:=Qq (show ∀ r ∈ X,r.rows.length≤5 from HEX.out ▸ Wq HUa.out.few)
 have HYf:=Qq (show ∀ r ∈ Y,r.rows.length≤5 from HEY.out ▸ Wq HUb.out.few)
 have hxn9:xn≤20:=by have h1:=Wy a b;have h2:=HFew.out.2.2.2.1;rw [HEX.out,HNX.out] at h1;omega
 have hyn9:yn≤20:=by have h1:=Wy b a;have h2:=HFew.out.2.2.2.2.1;rw [HEY.out,HNY.out] at h1;omega
 clear HSa HSb HSc HSX HSY HB HF5
 go_wp2_with fail
 have HUst:∀ k,Ta T 5 (delX a (X.take k)):=fun k=>HUa.out.delX _
 have HUst:=Qq HUst
 go_loopw [15,16,17] (fun o i _ wr=>∃ (k:Nat) (p:Option Addr) (c:Nat),k≤xn∧i=.int .i64 k∧o=.slice p an c∧Aside (Below w9.heap.size w9 wr)∧Aside (Sl Z0 (fun _=>True) wr (.slice p an c) (delX a (X.take (k))))) (fun _ i _ _=>xn - (intOf i).toNat)
 case atStart=>exact ⟨0,ap,ac,Q8 _,rfl,rfl,Qz _ _,HSa9.out⟩
 obtain ⟨k,p,c',hk,rfl,rfl,hBk,hSk⟩:=hrel
 have HBk:=Qq (show Below w9.heap.size w9 wr from hBk)
 have HSk:=Qq (show Sl Z0 (fun _=>True) wr (.slice p an c') (delX a (X.take (k))) from hSk)
 clear hBk hSk
 by_cases hlt:k<xn
 ·have hi1:(0:Int)≤(k:Int):=by omega
  have hi2:(k:Int)<(xn:Int):=by omega
  obtain ⟨r,hr⟩:∃ r,X[k]?=some r:=⟨_,Qx (by rw [HNX.out];exact hlt)⟩
  obtain ⟨ga,oa,_,xe,hga,_,_,⟨va,rfl,htl,hva⟩,hca⟩:=(HSX9.out.below HBk.out).elem hr
  subst xe
  have d0:=hca 0 _ rfl;have d1:=hca 1 _ rfl
  rw [show Z0.k=2 from rfl] at d0 d1
  rw [Nat.add_zero] at d0
  unfold sv at d0
  obtain ⟨qa,qca,rfl,_⟩:=hva.len
  obtain ⟨rn,hrn⟩:=eX (r.rows.length)
  rw [hrn] at hva d1
  have hr5:rn≤5:=by rw [← hrn];exact HXf.out r (Qy hr)
  obtain ⟨St,hSt⟩:=eX (delX a (X.take (k)))
  have hup:=HUst.out k
  rw [hSt] at HSk hup
  have HUp:=Qq hup
  have hnx:delX a (X.take (k+1))=delT St r.table r.rows:=by rw [Wr hr,hSt]
  have HNx:=Qq hnx;have HVa:=Qq hva;have HRn:=Qq hrn
  obtain ⟨w6',hw6'⟩:∃ w6',w6'=wr:=⟨_,rfl⟩
  subst hw6'
  have HD0:=Qq (fun W (hW:Below w6'.heap.size w6' W)=>Qe (show W.cell? ⟨ga,oa+k*2,none⟩=some (.string ⟨r.table.toArray⟩) from kD hW hga d0) (show W.cell? ⟨ga,oa+k*2+1,none⟩=some (.slice qa rn qca) from kD hW hga d1))
  clear hr hva hca hup hSt hnx hrn htl
  clear d0 d1
  go_wp2_with fail
  go_loopw [15,17] (fun o j wr=>∃ (m:Nat) (p:Option Addr) (c:Nat),m≤rn∧j=.int .i64 m∧o=.slice p an c∧Aside (Below w6'.heap.size w6' wr)∧Aside (Sl Z0 (fun _=>True) wr (.slice p an c) (delT St r.table (r.rows.take (m))))) (fun _ j _=>rn - (intOf j).toNat)
  case atStart=>exact ⟨0,p,c',Q8 _,rfl,rfl,Qz _ _,HSk.out⟩
  obtain ⟨m,p2,c2,hm,rfl,rfl,hBm,hSm⟩:=hrel
  have HBm:=Qq (show Below w6'.heap.size w6' wr from hBm)
  have HSm:=Qq (show Sl Z0 (fun _=>True) wr (.slice p2 an c2) (delT St r.table (r.rows.take (m))) from hSm)
  clear hBm hSm
  have d1:=(HD0.out wr HBm.out).2
  by_cases hlm:m<rn
  ·have hj1:(0:Int)≤(m:Int):=by omega
   have hj2:(m:Int)<(rn:Int):=by omega
   have d0:=(HD0.out wr HBm.out).1
   obtain ⟨y,hy⟩:∃ y,r.rows[m]?=some y:=⟨_,Qx (by rw [HRn.out];exact hlm)⟩
   obtain ⟨l1,hl1⟩:=eX (delT St r.table (r.rows.take (m)))
   obtain ⟨l2,hl2⟩:=eX (delT St r.table (r.rows.take (m+1)))
   have hst:Kt l1 r.table y=l2:=by rw [← hl2,← hl1,Ws hy]
   have hu1:Ta T _ l1:=hl1 ▸ HUp.out.delT r.table (r.rows.take m)
   have hu2:Ta T _ l2:=hl2 ▸ HUp.out.delT r.table (r.rows.take (m+1))
   obtain ⟨fb,foff,y3,y3c,y4,y4c,hfp,hfb,hvy,f0,f1,f2,f3,f4⟩:=(HVa.out.below HBm.out).val hy
   subst hfp
   rw [hl1] at HSm
   have hn2:l2.length=an:=by rw [hu2.len,← HAn.out,HUa.out.len]
   have HVy:=Qq hvy;have HLs:=Qq hl2;have HU1:=Qq hu1
   have HCp:=Qq (fun W (hW:Below wr.heap.size wr W)=>(Ln (fun _=>True) _ (.slice p2 an c2) l1 r.table y (vcs y y3 y3c y4 y4c) W (HSm.out.below hW) (HVy.out.move (.of_below hW) (fun _ _ h=>h)) (fun r' hr'=>by have:=HU1.out.few r' hr';omega)).mono (R':=OutIs wr an l2) (by
    rintro e w2 ⟨p,c,rfl,h1,h2⟩
    rw [hst,hn2] at h1 ⊢
    exact ⟨p,c,rfl,h1,hW.thn h2⟩))
   unfold vcs sv at HCp
   refine let_mvar% ?Lq1:=fun w':World=>w'.cell? ⟨ga,oa+k*2,none⟩=some (.string ⟨r.table.toArray⟩)∧w'.cell? ⟨ga,oa+k*2+1,none⟩=some (.slice (some ⟨fb,foff,none⟩) rn qca)∧w'.cell? ⟨fb,foff+m*5,none⟩=some (.int .i64 y.kind)∧w'.cell? ⟨fb,foff+m*5+1,none⟩=some (.int .i64 y.n)∧w'.cell? ⟨fb,foff+m*5+2,none⟩=some (.string ⟨y.s.toArray⟩)∧w'.cell? ⟨fb,foff+m*5+3,none⟩=some (.slice y3 y.names.length y3c)∧w'.cell? ⟨fb,foff+m*5+4,none⟩=some (.slice y4 y.kids.length y4c)∧Below wr.heap.size wr w';?_
   have HS:∀ w',Below wr.heap.size wr w'→?Lq1 w':=by
    intro w' h
    have hh:∀ {b j:Nat} {u:Value},wr.cell? ⟨b,j,none⟩=some u→w'.cell? ⟨b,j,none⟩=some u:=fun hc=>kC h hc
    exact ⟨hh d0,hh d1,hh f0,hh f1,hh f2,hh f3,hh f4,h⟩
   obtain ⟨HS0,HSr,HD',HSB',HA',HSq⟩:=X5 HS (fun w' h=>h.2.2.2.2.2.2.2)
   clear HS hy hvy hl1 hl2 hst hu1 hu2 hn2
   go_upto_region 18 with fail
   clear d0 d1 f0 f1 f2 f3 f4
   go_region_held3 ?Lq1 (first | with_reducible exact HS0.out | with_reducible exact hS2 | with_reducible exact HD'.out _ hS2)
    (first | (go_at_call 24;refine (HCp.out _ (HSB'.out _ (by assumption))).mono ?_;rintro e w9' ⟨p9,c9,rfl,h9,hb9⟩;have hS2:=HSq.out _ hb9;have HQ9:=Qq h9;have HQb:=Qq hb9;clear h9 hb9))
   all_goals
    have HB9':=Qq (HBm.out.thn HQb.out)
    rw [← HLs.out] at HQ9
    go_wp2_with fail
    go_roundw
    case measure=>simp [intOf];omega
    case rel=>exact ⟨m+1,p9,c9,by omega,by go_num,rfl,HB9'.out,HQ9.out⟩
  have hq:¬ (m:Int)<(rn:Int):=by omega
  have hmr:m=rn:=by omega
  subst hmr
  rw [List.take_of_length_le (by rw [HRn.out];exact Q9 _),← HNx.out] at HSm
  go_wp2_with fail
  go_roundw
  case measure=>simp [intOf];omega
  case rel=>exact ⟨k+1,p2,c2,by omega,by go_num,rfl,HBk.out.thn HBm.out,HSm.out⟩
 have hq:¬ (k:Int)<(xn:Int):=by omega
 have hkx:k=xn:=by omega
 subst hkx
 rw [List.take_of_length_le (by rw [HNX.out];exact Q9 _)] at HSk
 obtain ⟨op,hop⟩:∃ op,op=p:=⟨_,rfl⟩
 subst hop
 obtain ⟨oc,hoc⟩:∃ oc,oc=c':=⟨_,rfl⟩
 subst hoc
 obtain ⟨A1,hA1⟩:=eX (delX a X)
 rw [hA1] at HSk
 have hUA1:Ta T 5 A1:=by rw [← hA1];exact HUa.out.delX _
 have HUA1:=Qq hUA1;have HEA1:=Qq hA1
 clear HUst hUA1 hA1
 obtain ⟨w7',hw7'⟩:∃ w7',w7'=wr:=⟨_,rfl⟩
 subst hw7'
 have HBo:=HBk;have HSo:=HSk
 clear HBk HSk hlt hk
 go_wp2_with fail
 have HUst:∀ k,Ta T (5+5*20) (insY A1 (Y.take k)):=fun k=>(fun h=>(⟨h.tabs,h.up,fun r hr=>Qc (h.few r hr) (by have:=List.length_take_le' k Y;have:=HNY.out;omega)⟩:Ta T (5+5*20) (insY A1 (Y.take k)))) (HUA1.out.insY (d:=5) (Y.take k) (fun r hr=>HYf.out r (List.mem_of_mem_take hr)))
 have HUst:=Qq HUst
 go_loopw [15,18,19] (fun o i _ wr=>∃ (k:Nat) (p:Option Addr) (c:Nat),k≤yn∧i=.int .i64 k∧o=.slice p an c∧Aside (Below w9.heap.size w9 wr)∧Aside (Sl Z0 (fun _=>True) wr (.slice p an c) (insY A1 (Y.take (k))))) (fun _ i _ _=>yn - (intOf i).toNat)
 case atStart=>exact ⟨0,op,oc,Q8 _,rfl,rfl,HBo.out,HSo.out⟩
 obtain ⟨k,p,c',hk,rfl,rfl,hBk,hSk⟩:=hrel
 have HBk:=Qq (show Below w9.heap.size w9 wr from hBk)
 have HSk:=Qq (show Sl Z0 (fun _=>True) wr (.slice p an c') (insY A1 (Y.take (k))) from hSk)
 clear hBk hSk
 by_cases hlt:k<yn
 ·have hi1:(0:Int)≤(k:Int):=by omega
  have hi2:(k:Int)<(yn:Int):=by omega
  obtain ⟨r,hr⟩:∃ r,Y[k]?=some r:=⟨_,Qx (by rw [HNY.out];exact hlt)⟩
  obtain ⟨ga,oa,_,ye,hga,_,_,⟨va,rfl,htl,hva⟩,hca⟩:=(HSY9.out.below HBk.out).elem hr
  subst ye
  have d0:=hca 0 _ rfl;have d1:=hca 1 _ rfl
  rw [show Z0.k=2 from rfl] at d0 d1
  rw [Nat.add_zero] at d0
  unfold sv at d0
  obtain ⟨qa,qca,rfl,_⟩:=hva.len
  obtain ⟨rn,hrn⟩:=eX (r.rows.length)
  rw [hrn] at hva d1
  have hr5:rn≤5:=by rw [← hrn];exact HYf.out r (Qy hr)
  obtain ⟨St,hSt⟩:=eX (insY A1 (Y.take (k)))
  have hup:=HUst.out k
  rw [hSt] at HSk hup
  have HUp:=Qq hup
  have hnx:insY A1 (Y.take (k+1))=insT St r.table r.rows.reverse:=by rw [Wn hr,hSt]
  have HNx:=Qq hnx;have HVa:=Qq hva;have HRn:=Qq hrn
  obtain ⟨w6',hw6'⟩:∃ w6',w6'=wr:=⟨_,rfl⟩
  subst hw6'
  have HD0:=Qq (fun W (hW:Below w6'.heap.size w6' W)=>Qe (show W.cell? ⟨ga,oa+k*2,none⟩=some (.string ⟨r.table.toArray⟩) from kD hW hga d0) (show W.cell? ⟨ga,oa+k*2+1,none⟩=some (.slice qa rn qca) from kD hW hga d1))
  clear hr hva hca hup hSt hnx hrn htl
  have hrw:IntKind.i64.wrap ((rn:Int) - 1)=(rn:Int) - 1:=by rw [IntKind.wrap_i64];omega
  go_upto_region 23 with fail
  clear d0 d1 hrw
  go_loopw [15,19] (fun o j wr=>∃ (m:Nat) (p:Option Addr) (c:Nat),m≤rn∧j=.int .i64 ((m:Int) - 1)∧o=.slice p an c∧Aside (Below w6'.heap.size w6' wr)∧Aside (Sl Z0 (fun _=>True) wr (.slice p an c) (insT St r.table (r.rows.reverse.take (rn - (m)))))) (fun _ j _=>(intOf j+1).toNat)
  case atStart=>exact ⟨rn,p,c',Q9 _,rfl,rfl,Qz _ _,by rw [Nat.sub_self];exact HSk.out⟩
  obtain ⟨m,p2,c2,hm,rfl,rfl,hBm,hSm⟩:=hrel
  have HBm:=Qq (show Below w6'.heap.size w6' wr from hBm)
  have HSm:=Qq (show Sl Z0 (fun _=>True) wr (.slice p2 an c2) (insT St r.table (r.rows.reverse.take (rn - (m)))) from hSm)
  clear hBm hSm
  have d1:=(HD0.out wr HBm.out).2
  by_cases hlm:0<m
  ·obtain ⟨t,rfl⟩:∃ t,m=t+1:=⟨m - 1,by omega⟩
   have hjt:((t+1:Nat):Int) - 1=(t:Int):=by omega
   simp only [hjt] at *
   have hj0:(t:Int) ≥ 0:=by omega
   have hj1:(0:Int)≤(t:Int):=by omega
   have hj2:(t:Int)<(rn:Int):=by omega
   have hjw:IntKind.i64.wrap ((t:Int) - 1)=(t:Int) - 1:=by rw [IntKind.wrap_i64];omega
   have d0:=(HD0.out wr HBm.out).1
   obtain ⟨y,hy⟩:∃ y,r.rows[t]?=some y:=⟨_,Qx (by rw [HRn.out];omega)⟩
   obtain ⟨l1,hl1⟩:=eX (insT St r.table (r.rows.reverse.take (rn - (t+1))))
   obtain ⟨l2,hl2⟩:=eX (insT St r.table (r.rows.reverse.take (rn - (t))))
   have hyr:r.rows.reverse[rn - (t+1)]?=some y:=by
    rw [List.getElem?_reverse (by rw [HRn.out];omega),HRn.out,show rn - 1 - (rn - (t+1))=t by omega];exact hy
   have hst:Uv l1 r.table y=l2:=by rw [← hl2,← hl1,show rn - t=rn - (t+1)+1 by omega,Wi hyr]
   have hrl:r.rows.reverse.length≤5:=by rw [List.length_reverse,HRn.out];exact hr5
   have hu1:Ta T _ l1:=hl1 ▸ Ax HUp.out r.table r.rows.reverse (rn - (t+1)) hrl
   have hu2:Ta T _ l2:=hl2 ▸ Ax HUp.out r.table r.rows.reverse (rn - t) hrl
   obtain ⟨fb,foff,y3,y3c,y4,y4c,hfp,hfb,hvy,f0,f1,f2,f3,f4⟩:=(HVa.out.below HBm.out).val hy
   subst hfp
   rw [hl1] at HSm
   have hn2:l2.length=an:=by rw [hu2.len,← HAn.out,HUa.out.len]
   have HVy:=Qq hvy;have HLs:=Qq hl2;have HU1:=Qq hu1
   have HCp:=Qq (fun W (hW:Below wr.heap.size wr W)=>(L7 (fun _=>True) _ (.slice p2 an c2) l1 r.table y (vcs y y3 y3c y4 y4c) W (HSm.out.below hW) (HVy.out.move (.of_below hW) (fun _ _ h=>h)) (fun r' hr'=>by have:=HU1.out.few r' hr';omega)).mono (R':=OutIs wr an l2) (by
    rintro e w2 ⟨p,c,rfl,h1,h2⟩
    rw [hst,hn2] at h1 ⊢
    exact ⟨p,c,rfl,h1,hW.thn h2⟩))
   unfold vcs sv at HCp
   refine let_mvar% ?Lq2:=fun w':World=>w'.cell? ⟨ga,oa+k*2,none⟩=some (.string ⟨r.table.toArray⟩)∧w'.cell? ⟨ga,oa+k*2+1,none⟩=some (.slice (some ⟨fb,foff,none⟩) rn qca)∧w'.cell? ⟨fb,foff+t*5,none⟩=some (.int .i64 y.kind)∧w'.cell? ⟨fb,foff+t*5+1,none⟩=some (.int .i64 y.n)∧w'.cell? ⟨fb,foff+t*5+2,none⟩=some (.string ⟨y.s.toArray⟩)∧w'.cell? ⟨fb,foff+t*5+3,none⟩=some (.slice y3 y.names.length y3c)∧w'.cell? ⟨fb,foff+t*5+4,none⟩=some (.slice y4 y.kids.length y4c)∧Below wr.heap.size wr w';?_
   have HS:∀ w',Below wr.heap.size wr w'→?Lq2 w':=by
    intro w' h
    have hh:∀ {b j:Nat} {u:Value},wr.cell? ⟨b,j,none⟩=some u→w'.cell? ⟨b,j,none⟩=some u:=fun hc=>kC h hc
    exact ⟨hh d0,hh d1,hh f0,hh f1,hh f2,hh f3,hh f4,h⟩
   obtain ⟨HS0,HSr,HD',HSB',HA',HSq⟩:=X5 HS (fun w' h=>h.2.2.2.2.2.2.2)
   clear HS hy hvy hl1 hl2 hst hu1 hu2 hn2 hyr
   go_upto_region 25 with fail
   clear d0 d1 f0 f1 f2 f3 f4
   go_region_held3 ?Lq2 (first | with_reducible exact HS0.out | with_reducible exact hS2 | with_reducible exact HD'.out _ hS2)
    (first | (go_at_call 22;refine (HCp.out _ (HSB'.out _ (by assumption))).mono ?_;rintro e w9' ⟨p9,c9,rfl,h9,hb9⟩;have hS2:=HSq.out _ hb9;have HQ9:=Qq h9;have HQb:=Qq hb9;clear h9 hb9))
   all_goals
    have HB9':=Qq (HBm.out.thn HQb.out)
    rw [← HLs.out] at HQ9
    go_wp2_with fail
    go_roundw
    case measure=>simp [intOf]
    case rel=>exact ⟨t,p9,c9,by omega,rfl,rfl,HB9'.out,HQ9.out⟩
  obtain rfl:m=0:=by omega
  have hj0:((0:Nat):Int) - 1=-1:=by decide
  rw [Nat.sub_zero,List.take_of_length_le (by rw [List.length_reverse,HRn.out];exact Q9 _),← HNx.out] at HSm
  simp only [hj0] at *
  have hj9:¬ ((-1:Int) ≥ 0):=by omega
  go_wp2_with fail
  go_roundw
  case measure=>simp [intOf];omega
  case rel=>exact ⟨k+1,p2,c2,by omega,by go_num,rfl,HBk.out.thn HBm.out,HSm.out⟩
 have hq:¬ (k:Int)<(yn:Int):=by omega
 have hky:k=yn:=by omega
 subst hky
 rw [List.take_of_length_le (by rw [HNY.out];exact Q9 _)] at HSk
 have HLst:=Qq ((Tl (fun _=>True) (fun _=>True) (.slice p an c') (.slice bp bn bc) _ b wr HSk.out (HSb9.out.below HBk.out)).mono (R':=fun e w2=>e=.returned (.bool true)∧Below wr.heap.size wr w2) (by
  rintro e w2 ⟨rfl,hg⟩
  have hd:=Wh HUa.out HUb.out HTd.out
  rw [HEX.out,HEY.out,HEA1.out] at hd
  rw [hd]
  exact ⟨rfl,hg⟩))
 have HLr:=Qq (fun W (hW:Below wr.heap.size wr W)=>HLv.out W (HB9.out.thn (HBk.out.thn hW)))
 have HBe:=Qq (HB9.out.thn HBk.out)
 clear HSk HBk
 go_wp2_with (first
  | (go_at_call 18;refine (HLr.out _ HE9.out).mono ?_;rintro e w' ⟨rfl,hw'⟩;have HBz:=Qq hw';clear hw')
  | (go_at_call 34;refine HLst.out.mono ?_;rintro e w' ⟨rfl,hw'⟩;have HE9:=Qq hw';clear hw'))
 go_ret
 exact ⟨rfl,(HBe.out.thn HE9.out).thn HBz.out⟩
end Go.Proofs.YtppbaladeefnkaaGreatDoor
