import Derived.Test.YtppbaladeefnkaaGreatDoorV26
import Derived.Test.YtppbaladeefnkaaGreatDoorV27
set_option maxRecDepth 100000
set_option maxHeartbeats 400000000
namespace Go.Proofs.YtppbaladeefnkaaGreatDoor
open Go.RowKit Go.Shelf Go.Lib Tryz
theorem N2 (S0 S1:Nat→Prop) (lv:Value) (l:List Rel) (tn:Bs) (x:Val) (cx:List Value) (w:World) (i:Nat) (o:Rel) (hl0:Sl Z0 S0 w lv l) (hx0:Qh S1 w cx x) (hf:l.findIdx? (fun r=>decide (r.table=tn))=some i) (ho:l[i]?=some o)
  (hne:∀ y ∈ o.rows,eqv y x=false) (k:Nat) (y0:Val) (hk:o.rows[k]?=some y0) (hk1:0<Z1 y0 x) (hk2:∀ (j:Nat) (y:Val),j<k→o.rows[j]?=some y→decide (0<Z1 y x)=false) (hrl:∀ r ∈ l,r.rows.length≤10000):
  Calls prog 22 #[lv,sv tn,.agg cx.toArray] w (X9 w (l.set i ⟨o.table,Jg o.rows k x⟩)):=by
 have hx:Qh (fun b=>b<w.heap.size) w cx x:=hx0.move (.refl _ _) (fun b hb _=>hb)
 have HCo:=Qq (fun W (hb:Below w.heap.size w W)=>Vx S0 lv l W (hl0.below hb))
 have hix:Y9 (fun r=>decide (r.table=tn)) l=i:=by unfold Y9;rw [hf]
 have HIx:=Qq (fun v W (hs:Sl Z0 (fun _=>True) W v l)=>Xg _ v l tn W hs)
 rw [hix] at HIx
 have hin:i<l.length:=(Qj ho).1
 have hll:l.length≤1000000:=by obtain ⟨_,_,_,h⟩:=hl0.len;exact h
 obtain ⟨lp,lc,rfl,_⟩:=hl0.len
 have HX:=Qq hx;have HO:=Qq ho;have HRL:=Qq hrl
 have hor:=hrl o (Qy ho)
 have hany:o.rows.any (fun v=>eqv v x)=false:=by rw [List.any_eq_false];intro y hy;rw [hne y hy];decide
 have hidx:Y9 (fun v=>decide (0<Z1 v x)) o.rows=(k:Int):=Vb hk (by simpa using hk1) hk2
 have hkl:k≤o.rows.length:=Nat.le_of_lt (Qj hk).1
 have hk0:decide ((k:Int)<0)=false:=by simp
 obtain ⟨x3,x3c,x4,x4c,hcs,_⟩:=Qh.cells hx
 simp only [vcs] at hcs
 have HB:=Qq (fun v W (hb:Below w.heap.size w W) (hs:Sl Ql (fun _=>True) W v o.rows) (hc:∀ j u,cx[j]?=some u→W.cell? ⟨w.heap.size,j,none⟩=some u) (hR:w.heap.size<W.heap.size)=>L2 Tryz.cfVal Ql isAgg44 sizeOf44 55 #[.pointer (some ⟨w.heap.size,0,none⟩)] (enters_of func55 (by kernel_rfl) rfl) (fun _=>True) v o.rows W _ hs
  (Bj w.heap.size (fun _=>True) x cx o.rows W hc hR (hx.move (.of_below hb) (fun _ _ _=>trivial))))
 have HI:=Qq (fun v W (hb:Below w.heap.size w W) (hs:Sl Ql (fun _=>True) W v o.rows) (hc:∀ j u,cx[j]?=some u→W.cell? ⟨w.heap.size,j,none⟩=some u) (hR:w.heap.size<W.heap.size)=>Fz Tryz.ixVal Ql isAgg44 sizeOf44 56 #[.pointer (some ⟨w.heap.size,0,none⟩)] (enters_of func56 (by kernel_rfl) rfl) (fun _=>True) v o.rows W _ hs
  (L4 w.heap.size (fun _=>True) x cx o.rows W hc hR (hx.move (.of_below hb) (fun _ _ _=>trivial))))
 rw [hany] at HB
 rw [hidx] at HI
 subst hcs
 clear hx hx0 hl0 hf hix hne hk hk1 hk2 hrl hany hidx ho
 unfold sv at HIx ⊢
 obtain ⟨n,hn⟩:=eX (l.length)
 unfold Uz at HCo
 rw [hn] at HCo hin hll ⊢
 have HN:=Qq hn
 clear hn
 have hi3:(0:Int)≤(i:Int):=by omega
 have hi4:(i:Int)<(n:Int):=by omega
 have hi5:decide ((i:Int)<0)=false:=by simp
 go_enter func22,ntmps22
 go_wp2_with fail
 obtain ⟨W1,hW1⟩:=eX (w.alloc (.cells #[.int .i64 x.kind,.int .i64 x.n,.string ⟨x.s.toArray⟩,.slice x3 x.names.length x3c,.slice x4 x.kids.length x4c] 44))
 have hb1:=eqB hW1 (Qn _ _)
 have hX1:=eqH (b:=w.heap.size) hW1 (Qw _ _)
 have HB1:=Qq hb1;have HX1:=Qq hX1
 rw [hW1]
 have hcp:=HCo.out W1 hb1
 clear hW1 hb1 hX1
 refine hcp.mono ?_
 rintro e w2 ⟨p,cap,rvs,rfl,hSt2,hb2⟩
 obtain ⟨g,cap',hv,hgB,hgs⟩:=hSt2.row.form (by rw [HN.out];omega)
 simp only [Value.slice.injEq] at hv
 obtain ⟨rfl,-,rfl⟩:=hv
 obtain ⟨rvi,hrvi⟩:∃ rvi,rvs[i]?=some rvi:=⟨_,Qx (by rw [hSt2.len,HN.out];exact hin)⟩
 obtain ⟨css,hOwn⟩:=hSt2.rows i o rvi HO.out hrvi
 obtain ⟨rpi,rci,rfl⟩:=hOwn.form
 have HSt2:=Qq hSt2;have HB2:=Qq hb2;have HRvi:=Qq hrvi
 have HIx2:=Qq (HIx.out _ w2 (hSt2.sl (by rw [HN.out];omega) (fun r hr=>by have:=HRL.out r hr;omega) _ (fun _ _=>trivial) (fun _ _ _=>trivial)))
 clear hSt2 hb2 hOwn hrvi hcp HCo HIx
 go_wp2_with fail
 refine HIx2.out.mono ?_
 rintro e w3 ⟨rfl,hb3⟩
 have hSt3:=HSt2.out.below hb3
 have hX3:=kB hb3 (kE HB2.out (Qf HX1.out) HX1.out)
 obtain ⟨cur,hcur,-,hci⟩:=hSt3.at HO.out HRvi.out
 have c1:=Qk _ _ (i*2+1) _ _ _ hcur
 rw [hci] at c1
 obtain ⟨css,hOwn⟩:=hSt3.rows i o _ HO.out HRvi.out
 have HBw3:=Qq (HB1.out.trans ((HB2.out.thn hb3).mono HB1.out.size))
 have HBf:=Qq (HB.out _ w3 HBw3.out (hOwn.sl (by omega) (fun _ _=>trivial) (fun _ _ _=>trivial)) (fun j u hu=>by rw [Qk _ _ j _ _ _ hX3];simpa using hu) (Qf hX3))
 have HSt3:=Qq hSt3;have HX3:=Qq hX3
 clear hSt3 hX3 hcur hci hOwn hb3 cur HB
 go_wp2_with fail
 refine HBf.out.mono ?_
 rintro e w4 ⟨rfl,hb4⟩
 have hSt4:=HSt3.out.below hb4
 have hX4:=kB hb4 HX3.out
 obtain ⟨cur,hcur,-,hci⟩:=hSt4.at HO.out HRvi.out
 have c4:=Qk _ _ (i*2+1) _ _ _ hcur
 rw [hci] at c4
 obtain ⟨css,hOwn⟩:=hSt4.rows i o _ HO.out HRvi.out
 have HBw4:=Qq (HBw3.out.thn hb4)
 have HIf:=Qq (HI.out _ w4 HBw4.out (hOwn.sl (by omega) (fun _ _=>trivial) (fun _ _ _=>trivial)) (fun j u hu=>by rw [Qk _ _ j _ _ _ hX4];simpa using hu) (Qf hX4))
 have HSt4:=Qq hSt4;have HX4:=Qq hX4
 clear hSt4 hX4 hcur hci hOwn hb4 cur HI c1
 go_wp2_with fail
 refine HIf.out.mono ?_
 rintro e w5 ⟨rfl,hb5⟩
 have hSt5:=HSt4.out.below hb5
 have hX5:=kB hb5 HX4.out
 obtain ⟨cur,hcur,-,hci⟩:=hSt5.at HO.out HRvi.out
 have c5:=Qk _ _ (i*2+1) _ _ _ hcur
 rw [hci] at c5
 have x0:=rA0 hX5;have x1:=rA1 hX5;have x2:=rA2 hX5;have x3':=rA3 hX5;have x4':=rA4 hX5
 obtain ⟨css,hOwn⟩:=hSt5.rows i o _ HO.out HRvi.out
 have HBw5:=Qq (HBw4.out.thn hb5)
 have hg5:=Qf hcur
 have hR5:=Qf hX5
 have hne1:g≠w5.heap.size:=by omega
 have hne2:w.heap.size≠w5.heap.size:=by omega
 have hne6:some g≠(Value.slice rpi o.rows.length rci).ownBlock:=fun e=>Zs hSt5.row hOwn.row (by decide) rfl e.symm
 have HSt5:=Qq hSt5;have HOwn:=Qq hOwn;have HCur:=Qq hcur;have HCi:=Qq hci
 have hxv:Qh (But (Bb (.slice (some ⟨g,0,none⟩) n cap) rvs) (.slice rpi o.rows.length rci)) w5 [.int .i64 x.kind,.int .i64 x.n,.string ⟨x.s.toArray⟩,.slice x3 x.names.length x3c,.slice x4 x.kids.length x4c] x:=by
  refine HX.out.move (.of_below HBw5.out) (fun b _ hb=>?_)
  have hb':b<w.heap.size:=hb
  have hB0:=HB1.out.size
  refine ⟨⟨fun e=>?_,fun u hu e=>?_⟩,fun e=>?_⟩
  ·have:g=b:=Qb e
   omega
  ·obtain ⟨j,hj⟩:=List.getElem?_of_mem hu
   obtain ⟨y,hy⟩:∃ y,l[j]?=some y:=⟨_,Qx (by rw [← HSt5.out.len];exact (Qj hj).1)⟩
   obtain ⟨_,ho2⟩:=HSt5.out.rows j y u hy hj
   have:=(ho2.row.lt b e).1
   omega
  have:=(HOwn.out.row.lt b e.symm).1
  omega
 have HXV:=Qq hxv
 clear hSt5 hX5 hcur hci hOwn hb5 hxv c4
 obtain ⟨W8,hW8⟩:=eX ((w5.alloc (.cells #[.int .i64 x.kind,.int .i64 x.n,.string ⟨x.s.toArray⟩,.slice x3 x.names.length x3c,.slice x4 x.kids.length x4c] 44)).drew)
 have hb8:Below w5.heap.size w5 W8:=by rw [← hW8];exact (Qn _ _).drew
 have hX8:W8.heap[w5.heap.size]?=some (.cells #[.int .i64 x.kind,.int .i64 x.n,.string ⟨x.s.toArray⟩,.slice x3 x.names.length x3c,.slice x4 x.kids.length x4c] 44 (0,0)):=by rw [← hW8,heap_drew];exact Qw _ _
 have hsz8:W8.heap.size=w5.heap.size+1:=by rw [← hW8];simp
 have hY8:But (Bb (.slice (some ⟨g,0,none⟩) n cap) rvs) (.slice rpi o.rows.length rci) w5.heap.size:=by
  refine ⟨⟨fun e=>?_,fun u hu e=>?_⟩,fun e=>?_⟩
  ·exact hne1 (Qb e)
  ·obtain ⟨j,hj⟩:=List.getElem?_of_mem hu
   obtain ⟨y,hy⟩:∃ y,l[j]?=some y:=⟨_,Qx (by rw [← HSt5.out.len];exact (Qj hj).1)⟩
   obtain ⟨_,ho2⟩:=HSt5.out.rows j y u hy hj
   have:=(ho2.row.lt _ e).2
   omega
  have:=(HOwn.out.row.lt _ e.symm).2
  omega
 have HIns:=Qq (insAny _ W1.heap.size W8 (.slice rpi o.rows.length rci) o.rows css x _ k w5.heap.size 1 (HOwn.out.below hb8) hX8 hY8 (HXV.out.move (.of_below hb8) (fun _ _ h=>h)) hkl (by omega) (by omega))
 have HHc:=Qq (fun (w6:World) (hg:W8.grownBy w6 (Value.slice rpi o.rows.length rci).ownBlock)=>(hg.block g (by omega) hne6).trans ((hb8.block g hg5).trans HCur.out))
 have c8:=(hb8.cell (p:=⟨g,i*2+1,none⟩) hg5).trans c5
 have HB8:=Qq hb8;have HSz8:=Qq hsz8
 have HW8:=Qq hW8
 clear hY8 hX8 hb8 hsz8
 go_wp2_with fail
 go_region_with (first | (go_at_call 58;refine HIns.out.mono ?_;rintro e w6 ⟨p6,c6,css6,rfl,hO6,hg6,ha6⟩;have hc6:=HHc.out w6 hg6;have f6:=frozen_of_row _ _ (i*2+1) _ _ hc6;have k6:=Qk _ _ (i*2+1) _ _ _ hc6;rw [HCi.out] at k6;have HO6:=Qq hO6;have HG6:=Qq hg6;have HA6:=Qq ha6;clear hc6 hO6 hg6 ha6))
 all_goals
  go_wp2_with fail
  go_ret
  have hO6:=HO6.out;have hA6:=HA6.out
  have hP:=(HSt5.out.below HB8.out).put' HN.out HO.out HRvi.out ⟨css6,hO6⟩ HG6.out (by
   rcases hA6 with h | h
   ·exact .inl h
   exact .inr fun g' e=>by rw [h] at e;exact Nat.le_of_eq (Qb e))
  have hlen:(l.set i ⟨o.table,Jg o.rows k x⟩).length=n:=by rw [List.length_set];exact HN.out
  have hrw:∀ r ∈ l.set i ⟨o.table,Jg o.rows k x⟩,r.rows.length≤1000000:=by
   intro r hr
   rcases List.mem_or_eq_of_mem_set hr with h | rfl
   ·have:=HRL.out r h;omega
   show (Jg o.rows k x).length≤1000000
   rw [Ve];omega
  refine ⟨some ⟨g,0,none⟩,cap,by rw [hlen];rfl,by rw [hlen];exact hP.sl (by rw [hlen];exact hll) hrw _ (fun _ _=>trivial) (fun _ _ _=>trivial),?_⟩
  have hbw:=HBw5.out.thn HB8.out
  have hB1:=HB1.out.size
  refine (hbw.grown HG6.out hbw.size (fun b hb=>?_)).setCell (p:=⟨g,i*2+1,none⟩) (by show w.heap.size≤g;omega) _
  have:=(HOwn.out.row.lt b hb).1
  omega
theorem Zx {S:Nat→Prop} {w:World} (k:Int) (nm:Bs) (n:Int) (sx:Bs) (h1:nm.length≤1000000) (h2:sx.length≤1000000):Z6 S w [.int .i64 k,.string ⟨nm.toArray⟩,.int .i64 n,.string ⟨sx.toArray⟩,.slice none 0 0,.slice none 0 0,.slice none 0 0,.int .i64 0,.int .i64 0] (.mk k nm n sx [] [] [] 0 0):=
 Yk h1 h2 (Sl.nil _ _ _) (Sl.nil _ _ _) (Sl.nil _ _ _)
theorem T5 {W:World} {R b j:Nat} {x0 x1 x2 x3 x4 x5 x6 x7 x8 u:Value} (h:b≠R) (hc:W.cell? ⟨b,j,none⟩=some u):(put9 W R x0 x1 x2 x3 x4 x5 x6 x7 x8).cell? ⟨b,j,none⟩=some u:=(World.cell?_of_block (Fr h)).trans hc
def ExAt (Rb:Nat) (w:World) (x:Ex) (e:Ending) (w':World):Prop:=∃ ek es en et e1 f1 g1 e2 f2 g2 e3 f3 g3 ea ez,e=.returned (.agg #[.int .i64 ek,.string es,.int .i64 en,.string et,.slice e1 f1 g1,.slice e2 f2 g2,.slice e3 f3 g3,.int .i64 ea,.int .i64 ez])∧Z6 (fun b=>Rb<b) w' [.int .i64 ek,.string es,.int .i64 en,.string et,.slice e1 f1 g1,.slice e2 f2 g2,.slice e3 f3 g3,.int .i64 ea,.int .i64 ez] x∧Below w.heap.size w w'
theorem Xx (Rb:Nat) (o:Bs) (a b:Ex) (ca cb:List Value) (w:World) (ho:o.length≤1000000) (ha:Z6 (fun b=>Rb<b) w ca a) (hb:Z6 (fun b=>Rb<b) w cb b) (hR:Rb<w.heap.size):
  Calls prog 70 #[.string ⟨o.toArray⟩,.agg ca.toArray,.agg cb.toArray] w (ExAt Rb w (Gen.op o [a,b])):=
 (rop_any _ o a b ca cb w ho ha hb).mono fun _ _ ⟨ek,es,en,et,e1,f1,g1,e2,f2,g2,e3,f3,g3,ea,ez,h1,h2,h3⟩=>⟨ek,es,en,et,e1,f1,g1,e2,f2,g2,e3,f3,g3,ea,ez,h1,h2.move (.refl _ _) (fun b _ h=>h.elim id (fun h=>by omega)),h3⟩
theorem Vy {w W:World} {cs:List Value} {x:Ex} {c0 c1 c2 c3 c4 c5 c6 c7 c8:Value} (hx:Z6 (fun b=>w.heap.size<b) W [c0,c1,c2,c3,c4,c5,c6,c7,c8] x) (hb:Below w.heap.size w W) (hc:cs=[c0,c1,c2,c3,c4,c5,c6,c7,c8]):Vi w x (.returned (.agg #[c0,c1,c2,c3,c4,c5,c6,c7,c8])) (put9 W w.heap.size c0 c1 c2 c3 c4 c5 c6 c7 c8):=
 ⟨cs,by rw [hc],by rw [hc];exact hx.move (fun b hb _=>Fr (by have h:w.heap.size<b:=hb;omega)) (fun b _ h=>by show w.heap.size≤b;have h':w.heap.size<b:=h;omega),Nb hb (Q9 _)⟩
def Yj (L:List (Nat × Nat × Value)) (w:World):Prop:=∀ x ∈ L,w.cell? ⟨x.1,x.2.1,none⟩=some x.2.2
def Ol:List (Nat × Nat × Value)→World→Prop
 | [],_=>True
 | [x],w=>w.cell? ⟨x.1,x.2.1,none⟩=some x.2.2
 | x::y::l,w=>w.cell? ⟨x.1,x.2.1,none⟩=some x.2.2∧Ol (y::l) w
theorem Yj.spread:∀ {L:List (Nat × Nat × Value)} {w:World},Yj L w→Ol L w
 | [],_,_=>trivial
 | [x],_,h=>h x (List.mem_cons_self ..)
 | x::y::l,_,h=>⟨h x (List.mem_cons_self ..),Yj.spread (L:=y::l) (fun z hz=>h z (List.mem_cons_of_mem _ hz))⟩
theorem Yj.later {L:List (Nat × Nat × Value)} {w w':World} (h:Yj L w) (hb:Below w.heap.size w w'):Yj L w':=fun x hx=>kC hb (h x hx)
theorem Yj.alloc {L:List (Nat × Nat × Value)} {w:World} (h:Yj L w) (o:Obj):Yj L (w.alloc o):=h.later (Qn _ _)
theorem Yj.drew {L:List (Nat × Nat × Value)} {w:World} (h:Yj L w):Yj L w.drew:=h
theorem Yj.put9 {L:List (Nat × Nat × Value)} {w:World} {R:Nat} (h:Yj L w) (hn:∀ x ∈ L,R<x.1) (a0 a1 a2 a3 a4 a5 a6 a7 a8:Value):Yj L (put9 w R a0 a1 a2 a3 a4 a5 a6 a7 a8):=fun x hx=>T5 (Nat.ne_of_gt (hn x hx)) (h x hx)
def Vu (b:Nat) (a0 a1 a2 a3 a4 a5 a6 a7 a8:Value):List (Nat × Nat × Value):=[(b,0,a0),(b,1,a1),(b,2,a2),(b,3,a3),(b,4,a4),(b,5,a5),(b,6,a6),(b,7,a7),(b,8,a8)]
theorem Yj.row {w:World} {b:Nat} {t:TypeId} {a0 a1 a2 a3 a4 a5 a6 a7 a8:Value} (h:w.heap[b]?=some (.cells #[a0,a1,a2,a3,a4,a5,a6,a7,a8] t (0,0))):Yj (Vu b a0 a1 a2 a3 a4 a5 a6 a7 a8) w:=by
 intro x hx
 simp only [Vu,List.mem_cons,List.not_mem_nil,or_false] at hx
 rcases hx with rfl | rfl | rfl | rfl | rfl | rfl | rfl | rfl | rfl
 all_goals exact Qk _ _ _ _ _ _ h
theorem Yj.app {K L:List (Nat × Nat × Value)} {w:World} (h:Yj K w) (g:Yj L w):Yj (K++L) w:=fun x hx=>(List.mem_append.1 hx).elim (h x) (g x)
theorem Y2 {R b:Nat} (h:R<b) (a0 a1 a2 a3 a4 a5 a6 a7 a8:Value):∀ x ∈ Vu b a0 a1 a2 a3 a4 a5 a6 a7 a8,R<x.1:=by
 intro x hx
 simp only [Vu,List.mem_cons,List.not_mem_nil,or_false] at hx
 rcases hx with rfl | rfl | rfl | rfl | rfl | rfl | rfl | rfl | rfl
 all_goals exact h
theorem Vz {R:Nat} {K L:List (Nat × Nat × Value)} (h:∀ x ∈ K,R<x.1) (g:∀ x ∈ L,R<x.1):∀ x ∈ K++L,R<x.1:=fun x hx=>(List.mem_append.1 hx).elim (h x) (g x)
theorem Rc {W:World} {b:Nat} {t:TypeId} {x0 x1 x2 x3 x4 x5 x6 x7 x8:Value} (h:W.heap[b]?=some (.cells #[x0,x1,x2,x3,x4,x5,x6,x7,x8] t (0,0))):(W.frozen? ⟨b,0,none⟩=false∧W.frozen? ⟨b,1,none⟩=false∧W.frozen? ⟨b,2,none⟩=false∧W.frozen? ⟨b,3,none⟩=false∧W.frozen? ⟨b,4,none⟩=false∧W.frozen? ⟨b,5,none⟩=false∧W.frozen? ⟨b,6,none⟩=false∧W.frozen? ⟨b,7,none⟩=false∧W.frozen? ⟨b,8,none⟩=false)∧W.cell? ⟨b,0,none⟩=some x0∧W.cell? ⟨b,1,none⟩=some x1∧W.cell? ⟨b,2,none⟩=some x2∧W.cell? ⟨b,3,none⟩=some x3∧W.cell? ⟨b,4,none⟩=some x4∧W.cell? ⟨b,5,none⟩=some x5∧W.cell? ⟨b,6,none⟩=some x6∧W.cell? ⟨b,7,none⟩=some x7∧W.cell? ⟨b,8,none⟩=some x8:=
 ⟨⟨fA 0 h,fA 1 h,fA 2 h,fA 3 h,fA 4 h,fA 5 h,fA 6 h,fA 7 h,fA 8 h⟩,Qk _ _ 0 _ _ _ h,Qk _ _ 1 _ _ _ h,Qk _ _ 2 _ _ _ h,Qk _ _ 3 _ _ _ h,Qk _ _ 4 _ _ _ h,Qk _ _ 5 _ _ _ h,Qk _ _ 6 _ _ _ h,Qk _ _ 7 _ _ _ h,Qk _ _ 8 _ _ _ h⟩
theorem X8 {X W:World} (h:Below X.drew.heap.size X.drew W):Below X.heap.size X W:=(Qz _ _).drew.thn h
theorem Xw {X W:World} {o:Obj} (h:World.alloc X o=W):Below X.heap.size X W:=by rw [← h];exact Qn _ _
theorem Uw {X W:World} {o:Obj} (h:World.alloc X o=W):W.heap[X.heap.size]?=some o:=by rw [← h];exact Qw _ _
theorem Je {X W:World} {o o':Obj} {g:Nat} (_h:World.alloc X o=W) (hg:X.heap[g]?=some o'):g<X.heap.size:=Qf hg
theorem Dv {X W:World} {o:Obj} (h:World.alloc X o=W):W.heap.size=X.heap.size+1:=by rw [← h];simp
theorem Mu {W:World} {b c:Nat} {o:Obj} (h:W.heap[b]?=some o) (e:c=b):W.heap[c]?=some o:=by rw [e];exact h
theorem Zi {w w':World} {b:Nat} {o:Obj} (hb:Below w.heap.size w w') (h:w.heap[b]?=some o):w'.heap[b]?=some o:=kB hb h
theorem Ss (S:Nat→Prop) (v:Value) (l:List Int) (w:World) (hs:Y6 S w v l) (hi:V9 l) (hk:Zp l 0 13=3):
  Calls prog 35 #[v,.int .i64 0] w (Vi w (Gen.check 3)):=by
 have HP:=Qq (fun W (hb:Below w.heap.size w W)=>Zt S v l 0 13 W (hs.below hb) hi (by omega) (by omega))
 rw [hk] at HP
 obtain ⟨p,cap,rfl,_⟩:=hs.len
 clear hs hi hk
 go_enter func35,ntmps35
 go_upto_region 8 with fail
 generalize hW8:(((((((w.alloc _).alloc _).alloc _).alloc _).alloc _).alloc _).alloc _).alloc _=W8
 have hb8:=eqB hW8 (Zq (Zq (Zq (Zq (Zq (Zq (Zq (Qn w _) _) _) _) _) _) _) _)
 have hz8:W8.heap.size=w.heap.size+8:=by rw [← hW8];simp
 have r8:=eqH (b:=w.heap.size) hW8 (Qi (Qi (Qi (Qi (Qi (Qi (Qi (Z8 rfl _) _) _) _) _) _) _) _)
 have hS2:=(((Yj.row (show W8.heap[w.heap.size+1]?=some (.cells #[.int .i64 3,.string ⟨#[97]⟩,.int .i64 0,.string ⟨#[]⟩,.slice none 0 0,.slice none 0 0,.slice none 0 0,.int .i64 0,.int .i64 0] 35 (0,0)) from by rw [← hW8];exact Qi (Qi (Qi (Qi (Qi (Qi (Z8 (by simp) _) _) _) _) _) _) _)).app (Yj.row (show W8.heap[w.heap.size+1+1]?=some (.cells #[.int .i64 3,.string ⟨#[98]⟩,.int .i64 0,.string ⟨#[]⟩,.slice none 0 0,.slice none 0 0,.slice none 0 0,.int .i64 0,.int .i64 0] 35 (0,0)) from by rw [← hW8];exact Qi (Qi (Qi (Qi (Qi (Z8 (by simp) _) _) _) _) _) _))).app (Yj.row (show W8.heap[w.heap.size+1+1+1+1+1+1]?=some (.cells #[.int .i64 0,.string ⟨#[]⟩,.int .i64 1,.string ⟨#[]⟩,.slice none 0 0,.slice none 0 0,.slice none 0 0,.int .i64 0,.int .i64 0] 35 (0,0)) from by rw [← hW8];exact Qi (Z8 (by simp) _) _)))
 have hG:=(Vz (Vz (Y2 (show w.heap.size<w.heap.size+1 by omega) (.int .i64 3) (.string ⟨#[97]⟩) (.int .i64 0) (.string ⟨#[]⟩) (.slice none 0 0) (.slice none 0 0) (.slice none 0 0) (.int .i64 0) (.int .i64 0)) (Y2 (show w.heap.size<w.heap.size+1+1 by omega) (.int .i64 3) (.string ⟨#[98]⟩) (.int .i64 0) (.string ⟨#[]⟩) (.slice none 0 0) (.slice none 0 0) (.slice none 0 0) (.int .i64 0) (.int .i64 0))) (Y2 (show w.heap.size<w.heap.size+1+1+1+1+1+1 by omega) (.int .i64 0) (.string ⟨#[]⟩) (.int .i64 1) (.string ⟨#[]⟩) (.slice none 0 0) (.slice none 0 0) (.slice none 0 0) (.int .i64 0) (.int .i64 0)))
 have HB8:=Qq hb8;have HR:=Qq r8
 clear hW8 hb8 r8 hz8
 go_upto_region 14 with (go_at_call 26;refine (HP.out _ HB8.out).mono ?_;rintro e w' ⟨rfl,rfl⟩)
 refine let_mvar% ?Lq1:=fun w':World=>w'.cell? ⟨w.heap.size+1,0,none⟩=some (.int .i64 3)∧w'.cell? ⟨w.heap.size+1,1,none⟩=some (.string ⟨#[97]⟩)∧w'.cell? ⟨w.heap.size+1,2,none⟩=some (.int .i64 0)∧w'.cell? ⟨w.heap.size+1,3,none⟩=some (.string ⟨#[]⟩)∧w'.cell? ⟨w.heap.size+1,4,none⟩=some (.slice none 0 0)∧w'.cell? ⟨w.heap.size+1,5,none⟩=some (.slice none 0 0)∧w'.cell? ⟨w.heap.size+1,6,none⟩=some (.slice none 0 0)∧w'.cell? ⟨w.heap.size+1,7,none⟩=some (.int .i64 0)∧w'.cell? ⟨w.heap.size+1,8,none⟩=some (.int .i64 0)∧w'.cell? ⟨w.heap.size+1+1,0,none⟩=some (.int .i64 3)∧w'.cell? ⟨w.heap.size+1+1,1,none⟩=some (.string ⟨#[98]⟩)∧w'.cell? ⟨w.heap.size+1+1,2,none⟩=some (.int .i64 0)∧w'.cell? ⟨w.heap.size+1+1,3,none⟩=some (.string ⟨#[]⟩)∧w'.cell? ⟨w.heap.size+1+1,4,none⟩=some (.slice none 0 0)∧w'.cell? ⟨w.heap.size+1+1,5,none⟩=some (.slice none 0 0)∧w'.cell? ⟨w.heap.size+1+1,6,none⟩=some (.slice none 0 0)∧w'.cell? ⟨w.heap.size+1+1,7,none⟩=some (.int .i64 0)∧w'.cell? ⟨w.heap.size+1+1,8,none⟩=some (.int .i64 0)∧w'.cell? ⟨w.heap.size+1+1+1+1+1+1,0,none⟩=some (.int .i64 0)∧w'.cell? ⟨w.heap.size+1+1+1+1+1+1,1,none⟩=some (.string ⟨#[]⟩)∧w'.cell? ⟨w.heap.size+1+1+1+1+1+1,2,none⟩=some (.int .i64 1)∧w'.cell? ⟨w.heap.size+1+1+1+1+1+1,3,none⟩=some (.string ⟨#[]⟩)∧w'.cell? ⟨w.heap.size+1+1+1+1+1+1,4,none⟩=some (.slice none 0 0)∧w'.cell? ⟨w.heap.size+1+1+1+1+1+1,5,none⟩=some (.slice none 0 0)∧w'.cell? ⟨w.heap.size+1+1+1+1+1+1,6,none⟩=some (.slice none 0 0)∧w'.cell? ⟨w.heap.size+1+1+1+1+1+1,7,none⟩=some (.int .i64 0)∧w'.cell? ⟨w.heap.size+1+1+1+1+1+1,8,none⟩=some (.int .i64 0);?_
 have HS:=Qq (fun w' (h:Yj (Vu (w.heap.size+1) (.int .i64 3) (.string ⟨#[97]⟩) (.int .i64 0) (.string ⟨#[]⟩) (.slice none 0 0) (.slice none 0 0) (.slice none 0 0) (.int .i64 0) (.int .i64 0)++Vu (w.heap.size+1+1) (.int .i64 3) (.string ⟨#[98]⟩) (.int .i64 0) (.string ⟨#[]⟩) (.slice none 0 0) (.slice none 0 0) (.slice none 0 0) (.int .i64 0) (.int .i64 0)++Vu (w.heap.size+1+1+1+1+1+1) (.int .i64 0) (.string ⟨#[]⟩) (.int .i64 1) (.string ⟨#[]⟩) (.slice none 0 0) (.slice none 0 0) (.slice none 0 0) (.int .i64 0) (.int .i64 0)) w')=>(show ?Lq1 w' from Yj.spread h))
 have HG:=Qq hG
 have HPt:=Qq (fun w' z0 z1 z2 z3 z4 z5 z6 z7 z8 (h:Yj _ w')=>HS.out _ (h.put9 HG.out z0 z1 z2 z3 z4 z5 z6 z7 z8))
 unfold put9 at HPt
 have HBc:=HB8
 clear hG
 have hTok1:=Qq True.intro;have hTok2:=Qq True.intro;have hTok3:=Qq True.intro;have hTokL:=Qq True.intro
 go_region_held3 ?Lq1 (first | with_reducible exact HS.out _ hS2 | with_reducible exact HS.out _ hS2.drew | with_reducible exact HS.out _ (hS2.alloc _) | with_reducible exact HS.out _ (hS2.alloc _).drew | with_reducible exact HS.out _ ((hS2.alloc _).alloc _) | with_reducible exact HS.out _ ((hS2.alloc _).alloc _).drew | with_reducible exact HS.out _ (((hS2.alloc _).alloc _).alloc _) | with_reducible exact HPt.out _ _ _ _ _ _ _ _ _ _ hS2)
  (first
   | (have hn:=HX2.out;clear hn;have hk:=hTok3.out;go_at_call 70;refine (Xx w.heap.size [60,61] _ _ _ _ _ (by simp) (by exact (Zx 3 [97] 0 [] (by simp) (by simp))) (by exact HX2.out) (by exact Qf HR.out)).mono ?_;rintro e W3 ⟨ek3,es3,en3,et3,e13,f13,g13,e23,f23,g23,e33,f33,g33,ea3,ez3,rfl,hx3,hb3⟩;clear hTok3 hk;(try (have hb0:=X8 hb3;clear hb3;have hb3:=hb0;clear hb0));have hS3:=hS2.later hb3;clear hS2;have hS2:=hS3;clear hS3;have HR0:=Qq (Zi hb3 HR.out);clear HR;have HR:=HR0;clear HR0;have HC0:=Qq (HBc.out.thn hb3);clear HBc;have HBc:=HC0;clear HC0;(try (have h0:=Qq (HX1.out.move (.of_below hb3) (fun _ _ h=>h));clear HX1;have HX1:=h0;clear h0));(try (have h0:=Qq (HX2.out.move (.of_below hb3) (fun _ _ h=>h));clear HX2;have HX2:=h0;clear h0));have HX3:=Qq hx3;clear hx3 hb3;obtain ⟨⟨f0,f1,f2,f3,f4,f5,f6,f7,f8⟩,y0,y1,y2,y3,y4,y5,y6,y7,y8⟩:=Rc HR.out)
   | (have hn:=HX1.out;clear hn;have hk:=hTok2.out;go_at_call 70;refine (Xx w.heap.size [43] _ _ _ _ _ (by simp) (by exact (Zx 3 [98] 0 [] (by simp) (by simp))) (by exact HX1.out) (by exact Qf HR.out)).mono ?_;rintro e W2 ⟨ek2,es2,en2,et2,e12,f12,g12,e22,f22,g22,e32,f32,g32,ea2,ez2,rfl,hx2,hb2⟩;clear hTok2 hk;(try (have hb0:=X8 hb2;clear hb2;have hb2:=hb0;clear hb0));have hS3:=hS2.later hb2;clear hS2;have hS2:=hS3;clear hS3;have HR0:=Qq (Zi hb2 HR.out);clear HR;have HR:=HR0;clear HR0;have HC0:=Qq (HBc.out.thn hb2);clear HBc;have HBc:=HC0;clear HC0;(try (have h0:=Qq (HX1.out.move (.of_below hb2) (fun _ _ h=>h));clear HX1;have HX1:=h0;clear h0));(try (have h0:=Qq (HX3.out.move (.of_below hb2) (fun _ _ h=>h));clear HX3;have HX3:=h0;clear h0));have HX2:=Qq hx2;clear hx2 hb2)
   | (have hk:=hTok1.out;go_at_call 70;refine (Xx w.heap.size [42] _ _ _ _ _ (by simp) (by exact (Zx 0 [] 1 [] (by simp) (by simp))) (by exact (Zx 0 [] 1 [] (by simp) (by simp))) (by exact Qf HR.out)).mono ?_;rintro e W1 ⟨ek1,es1,en1,et1,e11,f11,g11,e21,f21,g21,e31,f31,g31,ea1,ez1,rfl,hx1,hb1⟩;clear hTok1 hk;(try (have hb0:=X8 hb1;clear hb1;have hb1:=hb0;clear hb0));have hS3:=hS2.later hb1;clear hS2;have hS2:=hS3;clear hS3;have HR0:=Qq (Zi hb1 HR.out);clear HR;have HR:=HR0;clear HR0;have HC0:=Qq (HBc.out.thn hb1);clear HBc;have HBc:=HC0;clear HC0;(try (have h0:=Qq (HX2.out.move (.of_below hb1) (fun _ _ h=>h));clear HX2;have HX2:=h0;clear h0));(try (have h0:=Qq (HX3.out.move (.of_below hb1) (fun _ _ h=>h));clear HX3;have HX3:=h0;clear h0));have HX1:=Qq hx1;clear hx1 hb1)
   | fail)
 all_goals
  go_wp2_with fail
  show bodyPost _ _ _ _ _ (put9 _ w.heap.size (.int .i64 ek3) (.string es3) (.int .i64 en3) (.string et3) (.slice e13 f13 g13) (.slice e23 f23 g23) (.slice e33 f33 g33) (.int .i64 ea3) (.int .i64 ez3))
  exact Q7 (v:=.agg #[.int .i64 ek3,.string es3,.int .i64 en3,.string et3,.slice e13 f13 g13,.slice e23 f23 g23,.slice e33 f33 g33,.int .i64 ea3,.int .i64 ez3]) (by simp [results,results35,go_sem,Y4 HR.out]) rfl (Vy HX3.out HBc.out rfl)
theorem Tw (S:Nat→Prop) (v:Value) (l:List Int) (w:World) (hs:Y6 S w v l) (hi:V9 l) (hk:Zp l 0 13=4):
  Calls prog 35 #[v,.int .i64 0] w (Vi w (Gen.check 4)):=by
 have HP:=Qq (fun W (hb:Below w.heap.size w W)=>Zt S v l 0 13 W (hs.below hb) hi (by omega) (by omega))
 rw [hk] at HP
 obtain ⟨p,cap,rfl,_⟩:=hs.len
 clear hs hi hk
 go_enter func35,ntmps35
 go_upto_region 8 with fail
 generalize hW8:(((((((w.alloc _).alloc _).alloc _).alloc _).alloc _).alloc _).alloc _).alloc _=W8
 have hb8:=eqB hW8 (Zq (Zq (Zq (Zq (Zq (Zq (Zq (Qn w _) _) _) _) _) _) _) _)
 have hz8:W8.heap.size=w.heap.size+8:=by rw [← hW8];simp
 have r8:=eqH (b:=w.heap.size) hW8 (Qi (Qi (Qi (Qi (Qi (Qi (Qi (Z8 rfl _) _) _) _) _) _) _) _)
 have hS2:=((Yj.row (show W8.heap[w.heap.size+1+1+1+1]?=some (.cells zQ 35 (0,0)) from by rw [← hW8];exact Qi (Qi (Qi (Z8 (by simp) _) _) _) _)).app (Yj.row (show W8.heap[w.heap.size+1+1+1]?=some (.cells #[.int .i64 3,.string ⟨#[99]⟩,.int .i64 0,.string ⟨#[]⟩,.slice none 0 0,.slice none 0 0,.slice none 0 0,.int .i64 0,.int .i64 0] 35 (0,0)) from by rw [← hW8];exact Qi (Qi (Qi (Qi (Z8 (by simp) _) _) _) _) _)))
 have hG:=(Vz (Y2 (show w.heap.size<w.heap.size+1+1+1+1 by omega) (.int .i64 3) (.string ⟨#[100]⟩) (.int .i64 0) (.string ⟨#[]⟩) (.slice none 0 0) (.slice none 0 0) (.slice none 0 0) (.int .i64 0) (.int .i64 0)) (Y2 (show w.heap.size<w.heap.size+1+1+1 by omega) (.int .i64 3) (.string ⟨#[99]⟩) (.int .i64 0) (.string ⟨#[]⟩) (.slice none 0 0) (.slice none 0 0) (.slice none 0 0) (.int .i64 0) (.int .i64 0)))
 have HB8:=Qq hb8;have HR:=Qq r8
 clear hW8 hb8 r8 hz8
 go_upto_region 16 with (go_at_call 26;refine (HP.out _ HB8.out).mono ?_;rintro e w' ⟨rfl,rfl⟩)
 refine let_mvar% ?Lq1:=fun w':World=>w'.cell? ⟨w.heap.size+1+1+1+1,0,none⟩=some (.int .i64 3)∧w'.cell? ⟨w.heap.size+1+1+1+1,1,none⟩=some (.string ⟨#[100]⟩)∧w'.cell? ⟨w.heap.size+1+1+1+1,2,none⟩=some (.int .i64 0)∧w'.cell? ⟨w.heap.size+1+1+1+1,3,none⟩=some (.string ⟨#[]⟩)∧w'.cell? ⟨w.heap.size+1+1+1+1,4,none⟩=some (.slice none 0 0)∧w'.cell? ⟨w.heap.size+1+1+1+1,5,none⟩=some (.slice none 0 0)∧w'.cell? ⟨w.heap.size+1+1+1+1,6,none⟩=some (.slice none 0 0)∧w'.cell? ⟨w.heap.size+1+1+1+1,7,none⟩=some (.int .i64 0)∧w'.cell? ⟨w.heap.size+1+1+1+1,8,none⟩=some (.int .i64 0)∧w'.cell? ⟨w.heap.size+1+1+1,0,none⟩=some (.int .i64 3)∧w'.cell? ⟨w.heap.size+1+1+1,1,none⟩=some (.string ⟨#[99]⟩)∧w'.cell? ⟨w.heap.size+1+1+1,2,none⟩=some (.int .i64 0)∧w'.cell? ⟨w.heap.size+1+1+1,3,none⟩=some (.string ⟨#[]⟩)∧w'.cell? ⟨w.heap.size+1+1+1,4,none⟩=some (.slice none 0 0)∧w'.cell? ⟨w.heap.size+1+1+1,5,none⟩=some (.slice none 0 0)∧w'.cell? ⟨w.heap.size+1+1+1,6,none⟩=some (.slice none 0 0)∧w'.cell? ⟨w.heap.size+1+1+1,7,none⟩=some (.int .i64 0)∧w'.cell? ⟨w.heap.size+1+1+1,8,none⟩=some (.int .i64 0);?_
 have HS:=Qq (fun w' (h:Yj (Vu (w.heap.size+1+1+1+1) (.int .i64 3) (.string ⟨#[100]⟩) (.int .i64 0) (.string ⟨#[]⟩) (.slice none 0 0) (.slice none 0 0) (.slice none 0 0) (.int .i64 0) (.int .i64 0)++Vu (w.heap.size+1+1+1) (.int .i64 3) (.string ⟨#[99]⟩) (.int .i64 0) (.string ⟨#[]⟩) (.slice none 0 0) (.slice none 0 0) (.slice none 0 0) (.int .i64 0) (.int .i64 0)) w')=>(show ?Lq1 w' from Yj.spread h))
 have HG:=Qq hG
 have HPt:=Qq (fun w' z0 z1 z2 z3 z4 z5 z6 z7 z8 (h:Yj _ w')=>HS.out _ (h.put9 HG.out z0 z1 z2 z3 z4 z5 z6 z7 z8))
 unfold put9 at HPt
 have HBc:=HB8
 clear hG
 have hTok1:=Qq True.intro;have hTok2:=Qq True.intro;have hTokL:=Qq True.intro
 go_region_held3 ?Lq1 (first | with_reducible exact HS.out _ hS2 | with_reducible exact HS.out _ hS2.drew | with_reducible exact HS.out _ (hS2.alloc _) | with_reducible exact HS.out _ (hS2.alloc _).drew | with_reducible exact HS.out _ ((hS2.alloc _).alloc _) | with_reducible exact HS.out _ ((hS2.alloc _).alloc _).drew | with_reducible exact HS.out _ (((hS2.alloc _).alloc _).alloc _) | with_reducible exact HPt.out _ _ _ _ _ _ _ _ _ _ hS2)
  (first
   | (have hn:=HX1.out;clear hn;have hk:=hTok2.out;go_at_call 70;refine (Xx w.heap.size [111,114] _ _ _ _ _ (by simp) (by exact (Zx 3 [100] 0 [] (by simp) (by simp))) (by exact HX1.out) (by exact Qf HR.out)).mono ?_;rintro e W2 ⟨ek2,es2,en2,et2,e12,f12,g12,e22,f22,g22,e32,f32,g32,ea2,ez2,rfl,hx2,hb2⟩;clear hTok2 hk;(try (have hb0:=X8 hb2;clear hb2;have hb2:=hb0;clear hb0));have hS3:=hS2.later hb2;clear hS2;have hS2:=hS3;clear hS3;have HR0:=Qq (Zi hb2 HR.out);clear HR;have HR:=HR0;clear HR0;have HC0:=Qq (HBc.out.thn hb2);clear HBc;have HBc:=HC0;clear HC0;(try (have h0:=Qq (HX1.out.move (.of_below hb2) (fun _ _ h=>h));clear HX1;have HX1:=h0;clear h0));have HX2:=Qq hx2;clear hx2 hb2;obtain ⟨⟨f0,f1,f2,f3,f4,f5,f6,f7,f8⟩,y0,y1,y2,y3,y4,y5,y6,y7,y8⟩:=Rc HR.out)
   | (have hk:=hTok1.out;go_at_call 70;refine (Xx w.heap.size [33,61] _ _ _ _ _ (by simp) (by exact (Zx 3 [99] 0 [] (by simp) (by simp))) (by exact (Zx 1 [] 0 [97,98] (by simp) (by simp))) (by exact Qf HR.out)).mono ?_;rintro e W1 ⟨ek1,es1,en1,et1,e11,f11,g11,e21,f21,g21,e31,f31,g31,ea1,ez1,rfl,hx1,hb1⟩;clear hTok1 hk;(try (have hb0:=X8 hb1;clear hb1;have hb1:=hb0;clear hb0));have hS3:=hS2.later hb1;clear hS2;have hS2:=hS3;clear hS3;have HR0:=Qq (Zi hb1 HR.out);clear HR;have HR:=HR0;clear HR0;have HC0:=Qq (HBc.out.thn hb1);clear HBc;have HBc:=HC0;clear HC0;(try (have h0:=Qq (HX2.out.move (.of_below hb1) (fun _ _ h=>h));clear HX2;have HX2:=h0;clear h0));have HX1:=Qq hx1;clear hx1 hb1)
   | fail)
 all_goals
  go_wp2_with fail
  show bodyPost _ _ _ _ _ (put9 _ w.heap.size (.int .i64 ek2) (.string es2) (.int .i64 en2) (.string et2) (.slice e12 f12 g12) (.slice e22 f22 g22) (.slice e32 f32 g32) (.int .i64 ea2) (.int .i64 ez2))
  exact Q7 (v:=.agg #[.int .i64 ek2,.string es2,.int .i64 en2,.string et2,.slice e12 f12 g12,.slice e22 f22 g22,.slice e32 f32 g32,.int .i64 ea2,.int .i64 ez2]) (by simp [results,results35,go_sem,Y4 HR.out]) rfl (Vy HX2.out HBc.out rfl)
theorem Nk (S:Nat→Prop) (v:Value) (l:List Int) (w:World) (hs:Y6 S w v l) (hi:V9 l) (hk:Zp l 0 13=10):
  Calls prog 35 #[v,.int .i64 0] w (Vi w (Gen.check 10)):=by
 have HP:=Qq (fun W (hb:Below w.heap.size w W)=>Zt S v l 0 13 W (hs.below hb) hi (by omega) (by omega))
 rw [hk] at HP
 obtain ⟨p,cap,rfl,_⟩:=hs.len
 clear hs hi hk
 go_enter func35,ntmps35
 go_upto_region 8 with fail
 generalize hW8:(((((((w.alloc _).alloc _).alloc _).alloc _).alloc _).alloc _).alloc _).alloc _=W8
 have hb8:=eqB hW8 (Zq (Zq (Zq (Zq (Zq (Zq (Zq (Qn w _) _) _) _) _) _) _) _)
 have hz8:W8.heap.size=w.heap.size+8:=by rw [← hW8];simp
 have r8:=eqH (b:=w.heap.size) hW8 (Qi (Qi (Qi (Qi (Qi (Qi (Qi (Z8 rfl _) _) _) _) _) _) _) _)
 have hS2:=(((Yj.row (show W8.heap[w.heap.size+1+1+1+1]?=some (.cells zQ 35 (0,0)) from by rw [← hW8];exact Qi (Qi (Qi (Z8 (by simp) _) _) _) _)).app (Yj.row (show W8.heap[w.heap.size+1]?=some (.cells #[.int .i64 3,.string ⟨#[97]⟩,.int .i64 0,.string ⟨#[]⟩,.slice none 0 0,.slice none 0 0,.slice none 0 0,.int .i64 0,.int .i64 0] 35 (0,0)) from by rw [← hW8];exact Qi (Qi (Qi (Qi (Qi (Qi (Z8 (by simp) _) _) _) _) _) _) _))).app (Yj.row (show W8.heap[w.heap.size+1+1+1]?=some (.cells #[.int .i64 3,.string ⟨#[99]⟩,.int .i64 0,.string ⟨#[]⟩,.slice none 0 0,.slice none 0 0,.slice none 0 0,.int .i64 0,.int .i64 0] 35 (0,0)) from by rw [← hW8];exact Qi (Qi (Qi (Qi (Z8 (by simp) _) _) _) _) _)))
 have hG:=(Vz (Vz (Y2 (show w.heap.size<w.heap.size+1+1+1+1 by omega) (.int .i64 3) (.string ⟨#[100]⟩) (.int .i64 0) (.string ⟨#[]⟩) (.slice none 0 0) (.slice none 0 0) (.slice none 0 0) (.int .i64 0) (.int .i64 0)) (Y2 (show w.heap.size<w.heap.size+1 by omega) (.int .i64 3) (.string ⟨#[97]⟩) (.int .i64 0) (.string ⟨#[]⟩) (.slice none 0 0) (.slice none 0 0) (.slice none 0 0) (.int .i64 0) (.int .i64 0))) (Y2 (show w.heap.size<w.heap.size+1+1+1 by omega) (.int .i64 3) (.string ⟨#[99]⟩) (.int .i64 0) (.string ⟨#[]⟩) (.slice none 0 0) (.slice none 0 0) (.slice none 0 0) (.int .i64 0) (.int .i64 0)))
 have HB8:=Qq hb8;have HR:=Qq r8
 clear hW8 hb8 r8 hz8
 go_upto_region 30 with (go_at_call 26;refine (HP.out _ HB8.out).mono ?_;rintro e w' ⟨rfl,rfl⟩)
 refine let_mvar% ?Lq1:=fun w':World=>w'.cell? ⟨w.heap.size+1+1+1+1,0,none⟩=some (.int .i64 3)∧w'.cell? ⟨w.heap.size+1+1+1+1,1,none⟩=some (.string ⟨#[100]⟩)∧w'.cell? ⟨w.heap.size+1+1+1+1,2,none⟩=some (.int .i64 0)∧w'.cell? ⟨w.heap.size+1+1+1+1,3,none⟩=some (.string ⟨#[]⟩)∧w'.cell? ⟨w.heap.size+1+1+1+1,4,none⟩=some (.slice none 0 0)∧w'.cell? ⟨w.heap.size+1+1+1+1,5,none⟩=some (.slice none 0 0)∧w'.cell? ⟨w.heap.size+1+1+1+1,6,none⟩=some (.slice none 0 0)∧w'.cell? ⟨w.heap.size+1+1+1+1,7,none⟩=some (.int .i64 0)∧w'.cell? ⟨w.heap.size+1+1+1+1,8,none⟩=some (.int .i64 0)∧w'.cell? ⟨w.heap.size+1,0,none⟩=some (.int .i64 3)∧w'.cell? ⟨w.heap.size+1,1,none⟩=some (.string ⟨#[97]⟩)∧w'.cell? ⟨w.heap.size+1,2,none⟩=some (.int .i64 0)∧w'.cell? ⟨w.heap.size+1,3,none⟩=some (.string ⟨#[]⟩)∧w'.cell? ⟨w.heap.size+1,4,none⟩=some (.slice none 0 0)∧w'.cell? ⟨w.heap.size+1,5,none⟩=some (.slice none 0 0)∧w'.cell? ⟨w.heap.size+1,6,none⟩=some (.slice none 0 0)∧w'.cell? ⟨w.heap.size+1,7,none⟩=some (.int .i64 0)∧w'.cell? ⟨w.heap.size+1,8,none⟩=some (.int .i64 0)∧w'.cell? ⟨w.heap.size+1+1+1,0,none⟩=some (.int .i64 3)∧w'.cell? ⟨w.heap.size+1+1+1,1,none⟩=some (.string ⟨#[99]⟩)∧w'.cell? ⟨w.heap.size+1+1+1,2,none⟩=some (.int .i64 0)∧w'.cell? ⟨w.heap.size+1+1+1,3,none⟩=some (.string ⟨#[]⟩)∧w'.cell? ⟨w.heap.size+1+1+1,4,none⟩=some (.slice none 0 0)∧w'.cell? ⟨w.heap.size+1+1+1,5,none⟩=some (.slice none 0 0)∧w'.cell? ⟨w.heap.size+1+1+1,6,none⟩=some (.slice none 0 0)∧w'.cell? ⟨w.heap.size+1+1+1,7,none⟩=some (.int .i64 0)∧w'.cell? ⟨w.heap.size+1+1+1,8,none⟩=some (.int .i64 0);?_
 have HS:=Qq (fun w' (h:Yj (Vu (w.heap.size+1+1+1+1) (.int .i64 3) (.string ⟨#[100]⟩) (.int .i64 0) (.string ⟨#[]⟩) (.slice none 0 0) (.slice none 0 0) (.slice none 0 0) (.int .i64 0) (.int .i64 0)++Vu (w.heap.size+1) (.int .i64 3) (.string ⟨#[97]⟩) (.int .i64 0) (.string ⟨#[]⟩) (.slice none 0 0) (.slice none 0 0) (.slice none 0 0) (.int .i64 0) (.int .i64 0)++Vu (w.heap.size+1+1+1) (.int .i64 3) (.string ⟨#[99]⟩) (.int .i64 0) (.string ⟨#[]⟩) (.slice none 0 0) (.slice none 0 0) (.slice none 0 0) (.int .i64 0) (.int .i64 0)) w')=>(show ?Lq1 w' from Yj.spread h))
 have HG:=Qq hG
 have HPt:=Qq (fun w' z0 z1 z2 z3 z4 z5 z6 z7 z8 (h:Yj _ w')=>HS.out _ (h.put9 HG.out z0 z1 z2 z3 z4 z5 z6 z7 z8))
 unfold put9 at HPt
 have HBc:=HB8
 clear hG
 have hTok1:=Qq True.intro;have hTok2:=Qq True.intro;have hTokL:=Qq True.intro
 go_region_held3 ?Lq1 (first | with_reducible exact HS.out _ hS2 | with_reducible exact HS.out _ hS2.drew | with_reducible exact HS.out _ (hS2.alloc _) | with_reducible exact HS.out _ (hS2.alloc _).drew | with_reducible exact HS.out _ ((hS2.alloc _).alloc _) | with_reducible exact HS.out _ ((hS2.alloc _).alloc _).drew | with_reducible exact HS.out _ (((hS2.alloc _).alloc _).alloc _) | with_reducible exact HPt.out _ _ _ _ _ _ _ _ _ _ hS2)
  (first
   | (have hn:=HX1.out;clear hn;have hk:=hTok2.out;go_at_call 70;refine (Xx w.heap.size [97,110,100] _ _ _ _ _ (by simp) (by exact (Zx 3 [100] 0 [] (by simp) (by simp))) (by exact HX1.out) (by exact Qf HR.out)).mono ?_;rintro e W2 ⟨ek2,es2,en2,et2,e12,f12,g12,e22,f22,g22,e32,f32,g32,ea2,ez2,rfl,hx2,hb2⟩;clear hTok2 hk;(try (have hb0:=X8 hb2;clear hb2;have hb2:=hb0;clear hb0));have hS3:=hS2.later hb2;clear hS2;have hS2:=hS3;clear hS3;have HR0:=Qq (Zi hb2 HR.out);clear HR;have HR:=HR0;clear HR0;have HC0:=Qq (HBc.out.thn hb2);clear HBc;have HBc:=HC0;clear HC0;(try (have h0:=Qq (HX1.out.move (.of_below hb2) (fun _ _ h=>h));clear HX1;have HX1:=h0;clear h0));have HX2:=Qq hx2;clear hx2 hb2;obtain ⟨⟨f0,f1,f2,f3,f4,f5,f6,f7,f8⟩,y0,y1,y2,y3,y4,y5,y6,y7,y8⟩:=Rc HR.out)
   | (have hk:=hTok1.out;go_at_call 70;refine (Xx w.heap.size [43] _ _ _ _ _ (by simp) (by exact (Zx 3 [97] 0 [] (by simp) (by simp))) (by exact (Zx 3 [99] 0 [] (by simp) (by simp))) (by exact Qf HR.out)).mono ?_;rintro e W1 ⟨ek1,es1,en1,et1,e11,f11,g11,e21,f21,g21,e31,f31,g31,ea1,ez1,rfl,hx1,hb1⟩;clear hTok1 hk;(try (have hb0:=X8 hb1;clear hb1;have hb1:=hb0;clear hb0));have hS3:=hS2.later hb1;clear hS2;have hS2:=hS3;clear hS3;have HR0:=Qq (Zi hb1 HR.out);clear HR;have HR:=HR0;clear HR0;have HC0:=Qq (HBc.out.thn hb1);clear HBc;have HBc:=HC0;clear HC0;(try (have h0:=Qq (HX2.out.move (.of_below hb1) (fun _ _ h=>h));clear HX2;have HX2:=h0;clear h0));have HX1:=Qq hx1;clear hx1 hb1)
   | fail)
 all_goals
  go_wp2_with fail
  show bodyPost _ _ _ _ _ (put9 _ w.heap.size (.int .i64 ek2) (.string es2) (.int .i64 en2) (.string et2) (.slice e12 f12 g12) (.slice e22 f22 g22) (.slice e32 f32 g32) (.int .i64 ea2) (.int .i64 ez2))
  exact Q7 (v:=.agg #[.int .i64 ek2,.string es2,.int .i64 en2,.string et2,.slice e12 f12 g12,.slice e22 f22 g22,.slice e32 f32 g32,.int .i64 ea2,.int .i64 ez2]) (by simp [results,results35,go_sem,Y4 HR.out]) rfl (Vy HX2.out HBc.out rfl)
end Go.Proofs.YtppbaladeefnkaaGreatDoor
