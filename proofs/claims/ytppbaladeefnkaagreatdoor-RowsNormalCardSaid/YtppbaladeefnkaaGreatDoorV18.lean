import Derived.Test.YtppbaladeefnkaaGreatDoorV16
set_option maxRecDepth 100000
set_option maxHeartbeats 400000000
namespace Go.Proofs.YtppbaladeefnkaaGreatDoor
open Go.RowKit Go.Shelf Go.Lib Tryz
def Uz (w:World) (l:List Rel) (e:Ending) (w':World):Prop:=∃ p cap rvs,e=.returned (.slice p l.length cap)∧Xo w.heap.size w' (.slice p l.length cap) l rvs∧Below w.heap.size w w'
structure Db (w:World) (g n cap:Nat) (l:List Rel) (css0:List (List Value)) (k:Nat) (rvs:List Value) (wx:World):Prop where
 below:Below w.heap.size w wx
 len:rvs.length=k
 row:wx.ownsRow w.heap.size 57 2 (.slice (some ⟨g,0,none⟩) n cap) n (Zc (l.take k) rvs++css0.drop k).flatten
 rows:∀ (i:Nat) (r:Rel) (rv:Value),i<k→l[i]?=some r→rvs[i]?=some rv→∃ css,Own Ql 44 (fun b=>b<w.heap.size) w.heap.size wx rv r.rows css
 apart:∀ (i j:Nat) (a b:Value) (h:Nat),rvs[i]?=some a→rvs[j]?=some b→a.ownBlock=some h→b.ownBlock=some h→i=j
theorem Db.next {w wr w4:World} {g n cap:Nat} {l:List Rel} {css0:List (List Value)} {k:Nat} {rvs:List Value} {r:Rel} {rv0 rv':Value} {css:List (List Value)} (hM:Db w g n cap l css0 k rvs wr) (hn:l.length=n) (hc0:css0.length=n) (hc2:∀ c ∈ css0,c.length=2)
  (hr:l[k]?=some r) (hc:css0[k]?=some [sv r.table,rv0]) (hb:Below wr.heap.size wr w4) (ho:Own Ql 44 (fun b=>b<w.heap.size) wr.heap.size w4 rv' r.rows css):
  Db w g n cap l css0 (k+1) (rvs++[rv']) (w4.setCell ⟨g,k*2+1,none⟩ rv'):=by
 subst hn
 have hk:=(Qj hr).1
 have hg:=hM.row.lt g rfl
 have hsz:=hM.below.size
 have hlt:(l.take k).length=k:=by rw [List.length_take];omega
 have hst:(Zc (l.take k) rvs).length=k:=by rw [Va (by rw [hlt];exact hM.len),hlt]
 have hall:∀ c ∈ Zc (l.take k) rvs++css0.drop k,c.length=2:=by
  intro c hcm
  rcases List.mem_append.1 hcm with h | h
  ·exact Uc c h
  exact hc2 c (List.mem_of_mem_drop h)
 have hat:(Zc (l.take k) rvs++css0.drop k)[k]?=some [sv r.table,rv0]:=by
  rw [List.getElem?_append_right (by omega),hst,Nat.sub_self,List.getElem?_drop,Nat.add_zero];exact hc
 have hset:(Zc (l.take k) rvs++css0.drop k).set k [sv r.table,rv']=Zc (l.take (k+1)) (rvs++[rv'])++css0.drop (k+1):=by
  have hd:css0.drop k=css0[k]'(by omega)::css0.drop (k+1):=List.drop_eq_getElem_cons (by omega)
  have hs:Zc (l.take (k+1)) (rvs++[rv'])=Zc (l.take k) rvs++[[sv r.table,rv']]:=by
   unfold Zc
   rw [List.take_succ_eq_append_getElem hk,List.zipWith_append (by rw [hlt,hM.len])]
   rw [Qx hk] at hr
   rw [Qb hr];rfl
  rw [hd,List.set_append_right _ _ (by omega),hst,Nat.sub_self,List.set_cons_zero,hs,List.append_assoc];rfl
 have hne:∀ h,rv'.ownBlock=some h→h≠g:=fun h e=>by have:=(ho.row.lt h e).1;omega
 refine ⟨(hM.below.thn hb).setCell (p:=⟨g,k*2+1,none⟩) hg.1 _,by rw [List.length_append,hM.len];rfl,?_,?_,?_⟩
 ·rw [← hset,← Em _ k _ rv0 rv' hall hat]
  exact ((X7 hM.row (Q9 _) (fun b _ hlt=>hb.block b hlt)).stored (k*2+1) rv').1
 ·intro i x u hi hx hu
  by_cases e:i=k
  ·subst e
   rw [List.getElem?_append_right (by rw [hM.len];exact Q9 _),hM.len,Nat.sub_self] at hu
   simp at hu;subst hu
   rw [hr] at hx;cases hx
   refine ⟨css,ho.move (by omega) (fun b hb' h=>Qg (fun e=>?_))⟩
   have e':b=g:=e
   rcases h with h | h
   ·have h':b<w.heap.size:=h;omega
   exact hne b h e'
  rw [List.getElem?_append_left (by rw [hM.len];omega)] at hu
  obtain ⟨cs,hj⟩:=hM.rows i x u (by omega) hx hu
  have hu1:u.ownBlock≠some g:=Zs hM.row hj.row (by decide) rfl
  refine ⟨cs,hj.move (Q9 _) (fun b hb' h=>?_)⟩
  have:b≠g:=by
   intro e'
   rcases h with h | h
   ·have h':b<w.heap.size:=h;omega
   exact hu1 (e' ▸ h)
  rw [Qg (fun e2=>this e2),hb.block b hb']
 intro i j a b h ha hb' h1 h2
 have hold:∀ (i:Nat) (a:Value),i<k→rvs[i]?=some a→a.ownBlock=some h→h<wr.heap.size:=by
  intro i a hi ha hh
  obtain ⟨x,hx⟩:∃ x,l[i]?=some x:=⟨_,Qx (by omega)⟩
  obtain ⟨cs,hj⟩:=hM.rows i x a hi hx ha
  exact (hj.row.lt h hh).2
 have hlast:∀ (i:Nat) (a:Value),¬ i<k→(rvs++[rv'])[i]?=some a→i=k∧a=rv':=by
  intro i a hi ha
  rw [List.getElem?_append_right (by rw [hM.len];omega),hM.len] at ha
  have h0:=(Qj ha).1
  simp at h0
  have:i=k:=by omega
  subst this
  simp at ha
  exact ⟨rfl,ha.symm⟩
 by_cases hi:i<k
 ·have ha':=ha
  rw [List.getElem?_append_left (by rw [hM.len];exact hi)] at ha'
  by_cases hj:j<k
  ·rw [List.getElem?_append_left (by rw [hM.len];exact hj)] at hb'
   exact hM.apart i j a b h ha' hb' h1 h2
  obtain ⟨rfl,rfl⟩:=hlast j b hj hb'
  have:=hold i a hi ha' h1
  have:=(ho.row.lt h h2).1
  omega
 obtain ⟨rfl,rfl⟩:=hlast i a hi ha
 by_cases hj:j<i
 ·rw [List.getElem?_append_left (by rw [hM.len];exact hj)] at hb'
  have:=hold j b hj hb' h2
  have:=(ho.row.lt h h1).1
  omega
 obtain ⟨rfl,_⟩:=hlast j b hj hb'
 rfl
theorem Db.done {w wr:World} {g n cap:Nat} {l:List Rel} {css0:List (List Value)} {rvs:List Value} (hM:Db w g n cap l css0 n rvs wr) (hn:l.length=n) (hc0:css0.length=n) (htl:∀ r ∈ l,r.table.length≤1000000):Xo w.heap.size wr (.slice (some ⟨g,0,none⟩) n cap) l rvs:=by
 subst hn
 have hrow:=hM.row
 rw [List.take_of_length_le (Q9 _),List.drop_eq_nil_of_le (by omega),List.append_nil] at hrow
 refine ⟨hM.len,hrow,htl,fun i r rv hr hrv=>?_,hM.apart⟩
 obtain ⟨cs,hj⟩:=hM.rows i r rv (Qj hr).1 hr hrv
 refine ⟨cs,⟨hj.row,hj.cs.move (.refl _ _) (fun b hb hS=>⟨⟨fun e=>?_,fun u hu e=>?_⟩,hS.2⟩)⟩⟩
 ·have h':b<w.heap.size:=hS.1
  have:=(hrow.lt b e).1
  omega
 have h':b<w.heap.size:=hS.1
 obtain ⟨j,hju⟩:=List.getElem?_of_mem hu
 have hjl:j<l.length:=by rw [← hM.len];exact (Qj hju).1
 obtain ⟨cs',hj'⟩:=hM.rows j _ u hjl (Qx hjl) hju
 have:=(hj'.row.lt b e).1
 omega
theorem Vx (S0:Nat→Prop) (lv:Value) (l:List Rel) (w:World) (hl0:Sl Z0 S0 w lv l):
  Calls prog 53 #[lv] w (Uz w l):=by
 have hl:Sl Z0 (fun b=>b<w.heap.size) w lv l:=hl0.mono (fun b hb _=>hb)
 have HCl:=Qq (cloneRel _ lv l w hl)
 obtain ⟨lp,lc,rfl,hll⟩:=hl.len
 clear hl0 hl
 obtain ⟨n,hn⟩:=eX (l.length)
 unfold U3 at HCl
 rw [hn] at HCl hll ⊢
 have HN:=Qq hn
 clear hn
 go_enter func53,ntmps53
 go_wp2_with fail
 refine HCl.out.mono ?_
 rintro e w1 ⟨p,cap,css0,rfl,hO,hb1⟩
 have HO:=Qq hO;have HB1:=Qq hb1
 clear hO hb1 HCl
 by_cases hn0:n=0
 ·subst hn0
  go_wp2_with fail
  go_loopw [10] (fun i wr=>i=.int .i64 0∧w1=wr) (fun _ _=>0)
  case atStart=>exact ⟨rfl,rfl⟩
  obtain ⟨rfl,rfl⟩:=hrel
  go_wp2_with fail
  go_ret
  have hl0:l=[]:=List.eq_nil_of_length_eq_zero HN.out
  subst hl0
  refine ⟨p,cap,[],rfl,⟨rfl,?_,by simp,fun i r rv h=>by simp at h,fun i j a b g h=>by simp at h⟩,HB1.out⟩
  have h1:w1.ownsRow w.heap.size 57 2 (.slice p 0 cap) 0 css0.flatten:=HO.out.row
  have h2:css0=[]:=List.eq_nil_of_length_eq_zero HO.out.cs.len
  rw [h2] at h1
  exact h1
 obtain ⟨g,cap',hv,hgB,hgs⟩:=HO.out.row.form (by rw [HN.out];omega)
 simp only [Value.slice.injEq] at hv
 obtain ⟨rfl,-,rfl⟩:=hv
 go_wp2_with fail
 go_loopw [10] (fun i wr=>∃ (k:Nat) (rvs:List Value),k≤n∧i=.int .i64 k∧Db w g n cap l css0 k rvs wr) (fun i _=>n - (intOf i).toNat)
 case atStart=>
  refine ⟨0,[],Q8 _,rfl,HB1.out,rfl,?_,fun i r rv h=>absurd h (Nat.not_lt_zero _),fun i j a b h ha=>by simp at ha⟩
  have h1:w1.ownsRow w.heap.size 57 2 (.slice (some ⟨g,0,none⟩) n cap) l.length css0.flatten:=HO.out.row
  rw [HN.out] at h1
  exact h1
 obtain ⟨k,rvs,hkn,rfl,hM⟩:=hrel
 have HM:=Qq hM
 clear hM
 by_cases hlt:k<n
 ·have hi1:(0:Int)≤(k:Int):=by omega
  have hi2:(k:Int)<(n:Int):=by omega
  obtain ⟨r,hr⟩:∃ r,l[k]?=some r:=⟨_,Qx (by rw [HN.out];exact hlt)⟩
  obtain ⟨c,hc⟩:∃ c,css0[k]?=some c:=⟨_,Qx (by rw [HO.out.cs.len,HN.out];exact hlt)⟩
  obtain ⟨rv,rfl,htl,hrv⟩:=HO.out.cs.R k c r hc hr
  obtain ⟨rp,rc,rfl,_⟩:=hrv.len
  have hst:(Zc (l.take k) rvs).length=k:=by rw [Va (by rw [List.length_take,HM.out.len,HN.out];omega),List.length_take,HN.out];omega
  have hall:∀ c ∈ Zc (l.take k) rvs++css0.drop k,c.length=2:=by
   intro c hcm
   rcases List.mem_append.1 hcm with h | h
   ·exact Uc c h
   exact HO.out.cs.all c (List.mem_of_mem_drop h)
  have hat:(Zc (l.take k) rvs++css0.drop k)[k]?=some [sv r.table,.slice rp r.rows.length rc]:=by
   rw [List.getElem?_append_right (by omega),hst,Nat.sub_self,List.getElem?_drop,Nat.add_zero];exact hc
  have l0:=HM.out.row.cellAt (k*2) (by omega)
  have l1:=HM.out.row.cellAt (k*2+1) (by omega)
  rw [show (Zc (l.take k) rvs++css0.drop k).flatten[k*2]?=some (sv r.table) from Yg (k:=2) hall hat (j:=0) rfl] at l0
  rw [show (Zc (l.take k) rvs++css0.drop k).flatten[k*2+1]?=some (.slice rp r.rows.length rc) from Yg (k:=2) hall hat (j:=1) rfl] at l1
  unfold sv at l0
  have hrs:Sl Ql (fun b=>b<w.heap.size) w (.slice rp r.rows.length rc) r.rows:=(hrv.mono (S':=fun b=>b<w.heap.size) (fun b _ hb=>hb.1)).frame (fun b hb _=>(HB1.out.block b hb).symm)
  have HRs:=Qq hrs;have HR:=Qq hr;have HC:=Qq hc
  have f1:=HM.out.row.frozenAt (k*2+1)
  clear hr hc hrv hst hall hat hrs f1
  go_upto_region 5 with fail
  obtain ⟨W5,hW5⟩:=eX (wr.alloc (.cells #[.string ⟨r.table.toArray⟩,.slice rp r.rows.length rc] 57))
  rw [hW5]
  have hb5:=eqB hW5 (Qn _ _)
  have hX5:=eqH (b:=wr.heap.size) hW5 (Qw _ _)
  have x1:=rA1 hX5
  have HB5:=Qq hb5
  have HCv:=Qq (Gb _ _ _ W5 (HRs.out.below (HM.out.below.thn hb5)))
  clear hW5 hb5 hX5 l0 l1
  go_wp2_with fail
  refine HCv.out.mono ?_
  rintro e w6 ⟨p6,c6,css6,rfl,ho6,hb6⟩
  have hB6:=HB5.out.thn hb6
  have hrow6:=X7 HM.out.row (Q9 _) (fun b _ hlt=>hB6.block b hlt)
  have f7:=hrow6.frozenAt (k*2+1)
  have k7:=hrow6.cellAt (k*2+1) (by omega)
  have HO6:=Qq (ho6.move (B':=wr.heap.size) HB5.out.size (fun _ _ _=>rfl));have HB6:=Qq hB6
  obtain ⟨u7,hu7⟩:∃ u,(Zc (l.take k) rvs++css0.drop k).flatten[k*2+1]?=some u:=by
   cases h:(Zc (l.take k) rvs++css0.drop k).flatten[k*2+1]? with
   | some u=>exact ⟨u,rfl⟩
   | none=>
    have h2:=List.getElem?_eq_none_iff.1 h
    have:=hrow6.1
    omega
  rw [hu7] at k7
  clear ho6 hb6 hB6 hrow6 hu7 x1 HCv
  go_wp2_with fail
  go_roundw
  case measure=>simp [intOf];omega
  case rel=>exact ⟨k+1,rvs++[.slice p6 r.rows.length c6],by omega,by go_num,HM.out.next HN.out (by rw [HO.out.cs.len];exact HN.out) HO.out.cs.all HR.out HC.out HB6.out HO6.out⟩
 obtain rfl:k=n:=by omega
 have hi2:¬ (k:Int)<(k:Int):=by omega
 go_wp2_with fail
 go_ret
 have htl:∀ r ∈ l,r.table.length≤1000000:=by
  intro r hr
  obtain ⟨i,hi⟩:=List.getElem?_of_mem hr
  have hil:=(Qj hi).1
  obtain ⟨_,_,h,_⟩:=HO.out.cs.R i _ r (Qx (by rw [HO.out.cs.len];exact hil)) hi
  exact h
 have hd:=HM.out.done HN.out (by rw [HO.out.cs.len];exact HN.out) htl
 refine ⟨some ⟨g,0,none⟩,cap,rvs,by rw [HN.out];rfl,by rw [HN.out];exact hd,HM.out.below⟩
def InsIs (S:Nat→Prop) (B:Nat) (w:World) (v:Value) (xs:List Val) (e:Ending) (w':World):Prop:=
 ∃ p cap css,e=.returned (.slice p xs.length cap)∧Own Ql 44 S B w' (.slice p xs.length cap) xs css∧w.grownBy w' v.ownBlock∧((Value.slice p xs.length cap).ownBlock=v.ownBlock∨(Value.slice p xs.length cap).ownBlock=some w.heap.size)
theorem insEnd (S:Nat→Prop) (B:Nat) (w:World) (v:Value) (xs:List Val) (css:List (List Value)) (y:Val) (q:Option Addr) (c:Nat) (hO:Own Ql 44 S B w v xs css) (hY:Sl Ql (But S v) w (.slice q 1 c) [y]) (hl:xs.length≤100000) (hB:B≤w.heap.size):
  Calls prog 58 #[v,.int .i64 xs.length,.slice q 1 c] w (InsIs S B w v (xs++[y])):=by
 obtain ⟨i0,j1,j2,j3,j4⟩:=Za (P:=prog) (t:=44) (z:=.agg zV) (n:=5) (b:=80) (by kernel_rfl)
 have HJ:=Qq j1;have HJ2:=Qq j2;have HJ3:=Qq j3;have HJ4:=Qq j4
 obtain ⟨qb,qo,_,rfl,_,_,_,_,_⟩:=hY.elem (i:=0) (x:=y) rfl
 have hend:∀ p7 cap7 css7 w7,Own Ql 44 S B w7 (.slice p7 (xs.length+1) cap7) (xs++[y]) css7→w.grownBy w7 v.ownBlock→((Value.slice p7 (xs.length+1) cap7).ownBlock=v.ownBlock∨(Value.slice p7 (xs.length+1) cap7).ownBlock=some w.heap.size)→InsIs S B w v (xs++[y]) (.returned (.slice p7 (xs.length+1) cap7)) w7:=by
  intro p7 cap7 css7 w7 h1 h2 h3
  refine ⟨p7,cap7,css7,by rw [List.length_append];rfl,by rw [List.length_append];exact h1,h2,by rw [List.length_append];exact h3⟩
 rcases hO.row.2 with ⟨rfl,h0⟩ | ⟨g,cap,cur,rfl,hgB,_,hcc,hcm,hnc,_⟩
 ·have h0':xs=[]:=List.eq_nil_of_length_eq_zero h0
  have HO:=Qq hO;have HY:=Qq hY;have HE:=Qq hend
  clear hO hY j1 j2 j3 j4 h0 hend
  subst h0'
  show Calls _ _ #[.slice none 0 0,.int .i64 0,.slice (some ⟨qb,qo,none⟩) 1 c] _ _
  go_enter func58,ntmps58
  go_wp2_with (at_builtin;refine J0 (r:=Ql) (by decide) rfl (.tmp 23) (.tmp 24) _ rfl 44 i0 (.agg zV) 80 underlying40 HJ.out HJ2.out HJ3.out HJ4.out rfl (by omega) S B w (.slice none 0 0) [] css [y] (some ⟨qb,qo,none⟩) 1 c rfl HO.out rfl HY.out rfl (by simp) Zu (by simp only [List.length_cons,List.length_nil];omega) hB ?_;intro p7 cap7 css7 w7 hO7 hg7 hat7;have HO7:=Qq hO7;have HG7:=Qq hg7;have HA7:=Qq hat7;clear hO7 hg7 hat7)
  go_ret
  exact HE.out p7 cap7 css7 w7 HO7.out HG7.out HA7.out
 have HO:=Qq hO;have HY:=Qq hY;have HE:=Qq hend
 clear hO hY j1 j2 j3 j4 hnc hcm hend
 have hb1:(xs.length:Int)≤(cap:Int):=by omega
 obtain ⟨n,hn⟩:=eX (xs.length)
 rw [hn] at HO HY hl hcc hb1 ⊢
 have HN:=Qq hn
 have hl2:xs.length≤100000:=by omega
 clear hn
 have hi0:(0:Int)≤(n:Int):=by omega
 by_cases hcn:cap=n
 ·subst hcn
  have hi1:(cap:Int)≤(cap:Int):=by omega
  go_enter func58,ntmps58
  go_wp2_with (at_builtin;refine J0 (r:=Ql) (by decide) rfl (.tmp 23) (.tmp 24) _ rfl 44 i0 (.agg zV) 80 underlying40 HJ.out HJ2.out HJ3.out HJ4.out rfl (by omega) S B w (.slice (some ⟨g,0,none⟩) cap cap) xs css [y] (some ⟨qb,qo,none⟩) 1 c rfl HO.out rfl HY.out rfl (by simp) Zu (by simp only [List.length_cons,List.length_nil];omega) hB ?_;intro p7 cap7 css7 w7 hO7 hg7 hat7;have HO7:=Qq hO7;have HG7:=Qq hg7;have HA7:=Qq hat7;clear hO7 hg7 hat7)
  go_ret
  exact HE.out p7 cap7 css7 w7 HO7.out HG7.out HA7.out
 have hi1:(n:Int)<(cap:Int):=by omega
 have hd:cap - n≠0:=by omega
 go_enter func58,ntmps58
 go_wp2_with (at_builtin;refine J0 (r:=Ql) (by decide) rfl (.tmp 23) (.tmp 24) _ rfl 44 i0 (.agg zV) 80 underlying40 HJ.out HJ2.out HJ3.out HJ4.out rfl (by omega) S B w (.slice (some ⟨g,0,none⟩) n cap) xs css [y] (some ⟨qb,qo,none⟩) 1 c rfl HO.out rfl HY.out rfl (by simp) Zu (by simp only [List.length_cons,List.length_nil];omega) hB ?_;intro p7 cap7 css7 w7 hO7 hg7 hat7;have HO7:=Qq hO7;have HG7:=Qq hg7;have HA7:=Qq hat7;clear hO7 hg7 hat7)
 go_ret
 exact HE.out p7 cap7 css7 w7 HO7.out HG7.out HA7.out
theorem Bj (R:Nat) (S:Nat→Prop) (x:Val) (cx:List Value) (rows:List Val) (w:World) (hcx:∀ j u,cx[j]?=some u→w.cell? ⟨R,j,none⟩=some u) (hRl:R<w.heap.size) (hx:Qh S w cx x):
  Xp prog 55 #[.pointer (some ⟨R,0,none⟩)] Ql S rows (fun v=>eqv v x) w:=by
 intro W v cs hb hv hr
 have hxW:=hx.move (.of_below hb) (fun _ _ h=>h)
 have HC:=Qq (fun W' (h':Below W.heap.size W W')=>Gz S v x cs cx W' (Qh.move (show Qh S W cs v from hr) (.of_below h') (fun _ _ h=>h)) (hxW.move (.of_below h') (fun _ _ h=>h)))
 obtain ⟨p3,k3,p4,k4,hcs,_⟩:=Qh.cells (show Qh S W cs v from hr)
 obtain ⟨q3,l3,q4,l4,hcx',_⟩:=Qh.cells hxW
 simp only [vcs] at hcs hcx'
 subst hcs;subst hcx'
 have d:=fun j u hj=>(hb.cell (p:=⟨R,j,none⟩) hRl).trans (hcx j u hj)
 have d0:=d 0 _ rfl
 have d1:=d 1 _ rfl
 have d2:=d 2 _ rfl
 have d3:=d 3 _ rfl
 have d4:=d 4 _ rfl
 have hRW:R<W.heap.size:=Qv W _ d0
 show Calls prog 55 #[.agg #[.int .i64 v.kind,.int .i64 v.n,.string ⟨v.s.toArray⟩,.slice p3 v.names.length k3,.slice p4 v.kids.length k4],.pointer (some ⟨R,0,none⟩)] W (fun e w'=>e=.returned (.bool (eqv v x))∧Below W.heap.size W w')
 generalize eqv v x=b at HC ⊢
 clear d hcx hb hv hr hx hxW
 go_enter func55,ntmps55
 go_wp2_with (go_at_call 45;refine (HC.out _ (Qn _ _)).mono ?_;rintro e w' ⟨rfl,hw⟩)
 go_ret
 exact ⟨rfl,(Qn _ _).thn hw⟩
theorem L4 (R:Nat) (S:Nat→Prop) (x:Val) (cx:List Value) (rows:List Val) (w:World) (hcx:∀ j u,cx[j]?=some u→w.cell? ⟨R,j,none⟩=some u) (hRl:R<w.heap.size) (hx:Qh S w cx x):
  Xp prog 56 #[.pointer (some ⟨R,0,none⟩)] Ql S rows (fun v=>decide (0<Z1 v x)) w:=by
 intro W v cs hb hv hr
 have hxW:=hx.move (.of_below hb) (fun _ _ h=>h)
 have HC:=Qq (fun W' (h':Below W.heap.size W W')=>Dw S v x cs cx W' (Qh.move (show Qh S W cs v from hr) (.of_below h') (fun _ _ h=>h)) (hxW.move (.of_below h') (fun _ _ h=>h)))
 obtain ⟨p3,k3,p4,k4,hcs,_⟩:=Qh.cells (show Qh S W cs v from hr)
 obtain ⟨q3,l3,q4,l4,hcx',_⟩:=Qh.cells hxW
 simp only [vcs] at hcs hcx'
 subst hcs;subst hcx'
 have d:=fun j u hj=>(hb.cell (p:=⟨R,j,none⟩) hRl).trans (hcx j u hj)
 have d0:=d 0 _ rfl
 have d1:=d 1 _ rfl
 have d2:=d 2 _ rfl
 have d3:=d 3 _ rfl
 have d4:=d 4 _ rfl
 have hRW:R<W.heap.size:=Qv W _ d0
 show Calls prog 56 #[.agg #[.int .i64 v.kind,.int .i64 v.n,.string ⟨v.s.toArray⟩,.slice p3 v.names.length k3,.slice p4 v.kids.length k4],.pointer (some ⟨R,0,none⟩)] W (fun e w'=>e=.returned (.bool (decide (0<Z1 v x)))∧Below W.heap.size W w')
 generalize Z1 v x=b at HC ⊢
 clear d hcx hb hv hr hx hxW
 go_enter func56,ntmps56
 go_wp2_with (go_at_call 57;refine (HC.out _ (Qn _ _)).mono ?_;rintro e w' ⟨rfl,hw⟩)
 go_ret
 exact ⟨rfl,(Qn _ _).thn hw.bl⟩
def X9 (w:World) (l:List Rel) (e:Ending) (w':World):Prop:=∃ p cap,e=.returned (.slice p l.length cap)∧Sl Z0 (fun _=>True) w' (.slice p l.length cap) l∧Below w.heap.size w w'
theorem Uu (S0 S1:Nat→Prop) (lv:Value) (l:List Rel) (tn:Bs) (x:Val) (cx:List Value) (w:World) (i:Nat) (o:Rel) (hl0:Sl Z0 S0 w lv l) (hx0:Qh S1 w cx x) (hf:l.findIdx? (fun r=>decide (r.table=tn))=some i) (ho:l[i]?=some o)
  (hne:∀ y ∈ o.rows,eqv y x=false) (hgr:∀ y ∈ o.rows,decide (0<Z1 y x)=false) (hrl:∀ r ∈ l,r.rows.length≤10000):
  Calls prog 22 #[lv,sv tn,.agg cx.toArray] w (X9 w (l.set i ⟨o.table,o.rows++[x]⟩)):=by
 have hx:Qh (fun b=>b<w.heap.size) w cx x:=hx0.move (.refl _ _) (fun b hb _=>hb)
 have HCo:=Qq (fun W (hb:Below w.heap.size w W)=>Vx S0 lv l W (hl0.below hb))
 have hix:Y9 (fun r=>decide (r.table=tn)) l=i:=by unfold Y9;rw [hf]
 have HIx:=Qq (fun v W (hs:Sl Z0 (fun _=>True) W v l)=>Xg _ v l tn W hs)
 rw [hix] at HIx
 have hin:i<l.length:=(Qj ho).1
 have hll:l.length≤1000000:=by obtain ⟨_,_,_,h⟩:=hl0.len;exact h
 obtain ⟨lp,lc,rfl,_⟩:=hl0.len
 have HX:=Qq hx;have HO:=Qq ho;have HRL:=Qq hrl
 have hor:=hrl o (Qy ho)
 have hany:o.rows.any (fun v=>eqv v x)=false:=by rw [List.any_eq_false];intro y hy;rw [hne y hy];decide
 have hidx:Y9 (fun v=>decide (0<Z1 v x)) o.rows=-1:=Xf (fun j y hy=>hgr y (Qy hy))
 obtain ⟨x3,x3c,x4,x4c,hcs,_⟩:=Qh.cells hx
 simp only [vcs] at hcs
 have HB:=Qq (fun v W (hb:Below w.heap.size w W) (hs:Sl Ql (fun _=>True) W v o.rows) (hc:∀ j u,cx[j]?=some u→W.cell? ⟨w.heap.size,j,none⟩=some u) (hR:w.heap.size<W.heap.size)=>L2 Tryz.cfVal Ql isAgg44 sizeOf44 55 #[.pointer (some ⟨w.heap.size,0,none⟩)] (enters_of func55 (by kernel_rfl) rfl) (fun _=>True) v o.rows W _ hs
  (Bj w.heap.size (fun _=>True) x cx o.rows W hc hR (hx.move (.of_below hb) (fun _ _ _=>trivial))))
 have HI:=Qq (fun v W (hb:Below w.heap.size w W) (hs:Sl Ql (fun _=>True) W v o.rows) (hc:∀ j u,cx[j]?=some u→W.cell? ⟨w.heap.size,j,none⟩=some u) (hR:w.heap.size<W.heap.size)=>Fz Tryz.ixVal Ql isAgg44 sizeOf44 56 #[.pointer (some ⟨w.heap.size,0,none⟩)] (enters_of func56 (by kernel_rfl) rfl) (fun _=>True) v o.rows W _ hs
  (L4 w.heap.size (fun _=>True) x cx o.rows W hc hR (hx.move (.of_below hb) (fun _ _ _=>trivial))))
 rw [hany] at HB
 rw [hidx] at HI
 subst hcs
 clear hx hx0 hl0 hf hix hne hgr hrl hany hidx ho
 unfold sv at HIx ⊢
 obtain ⟨n,hn⟩:=eX (l.length)
 unfold Uz at HCo
 rw [hn] at HCo hin hll ⊢
 have HN:=Qq hn
 clear hn
 have hi3:(0:Int)≤(i:Int):=by omega
 have hi4:(i:Int)<(n:Int):=by omega
 have hi5:decide ((i:Int)<0)=false:=by simp
 go_enter func22,ntmps22
 go_wp2_with fail
 obtain ⟨W1,hW1⟩:=eX (w.alloc (.cells #[.int .i64 x.kind,.int .i64 x.n,.string ⟨x.s.toArray⟩,.slice x3 x.names.length x3c,.slice x4 x.kids.length x4c] 44))
 have hb1:=eqB hW1 (Qn _ _)
 have hX1:=eqH (b:=w.heap.size) hW1 (Qw _ _)
 have HB1:=Qq hb1;have HX1:=Qq hX1
 rw [hW1]
 have hcp:=HCo.out W1 hb1
 clear hW1 hb1 hX1
 refine hcp.mono ?_
 rintro e w2 ⟨p,cap,rvs,rfl,hSt2,hb2⟩
 obtain ⟨g,cap',hv,hgB,hgs⟩:=hSt2.row.form (by rw [HN.out];omega)
 simp only [Value.slice.injEq] at hv
 obtain ⟨rfl,-,rfl⟩:=hv
 obtain ⟨rvi,hrvi⟩:∃ rvi,rvs[i]?=some rvi:=⟨_,Qx (by rw [hSt2.len,HN.out];exact hin)⟩
 obtain ⟨css,hOwn⟩:=hSt2.rows i o rvi HO.out hrvi
 obtain ⟨rpi,rci,rfl⟩:=hOwn.form
 have HSt2:=Qq hSt2;have HB2:=Qq hb2;have HRvi:=Qq hrvi
 have HIx2:=Qq (HIx.out _ w2 (hSt2.sl (by rw [HN.out];omega) (fun r hr=>by have:=HRL.out r hr;omega) _ (fun _ _=>trivial) (fun _ _ _=>trivial)))
 clear hSt2 hb2 hOwn hrvi hcp HCo HIx
 go_wp2_with fail
 refine HIx2.out.mono ?_
 rintro e w3 ⟨rfl,hb3⟩
 have hSt3:=HSt2.out.below hb3
 have hX3:=kB hb3 (kE HB2.out (Qf HX1.out) HX1.out)
 obtain ⟨cur,hcur,-,hci⟩:=hSt3.at HO.out HRvi.out
 have c1:=Qk _ _ (i*2+1) _ _ _ hcur
 rw [hci] at c1
 obtain ⟨css,hOwn⟩:=hSt3.rows i o _ HO.out HRvi.out
 have HBw3:=Qq (HB1.out.trans ((HB2.out.thn hb3).mono HB1.out.size))
 have HBf:=Qq (HB.out _ w3 HBw3.out (hOwn.sl (by omega) (fun _ _=>trivial) (fun _ _ _=>trivial)) (fun j u hu=>by rw [Qk _ _ j _ _ _ hX3];simpa using hu) (Qf hX3))
 have HSt3:=Qq hSt3;have HX3:=Qq hX3
 clear hSt3 hX3 hcur hci hOwn hb3 cur HB
 go_wp2_with fail
 refine HBf.out.mono ?_
 rintro e w4 ⟨rfl,hb4⟩
 have hSt4:=HSt3.out.below hb4
 have hX4:=kB hb4 HX3.out
 obtain ⟨cur,hcur,-,hci⟩:=hSt4.at HO.out HRvi.out
 have c4:=Qk _ _ (i*2+1) _ _ _ hcur
 rw [hci] at c4
 obtain ⟨css,hOwn⟩:=hSt4.rows i o _ HO.out HRvi.out
 have HBw4:=Qq (HBw3.out.thn hb4)
 have HIf:=Qq (HI.out _ w4 HBw4.out (hOwn.sl (by omega) (fun _ _=>trivial) (fun _ _ _=>trivial)) (fun j u hu=>by rw [Qk _ _ j _ _ _ hX4];simpa using hu) (Qf hX4))
 have HSt4:=Qq hSt4;have HX4:=Qq hX4
 clear hSt4 hX4 hcur hci hOwn hb4 cur HI c1
 go_wp2_with fail
 refine HIf.out.mono ?_
 rintro e w5 ⟨rfl,hb5⟩
 have hSt5:=HSt4.out.below hb5
 have hX5:=kB hb5 HX4.out
 obtain ⟨cur,hcur,-,hci⟩:=hSt5.at HO.out HRvi.out
 have c5:=Qk _ _ (i*2+1) _ _ _ hcur
 rw [hci] at c5
 have x0:=rA0 hX5;have x1:=rA1 hX5;have x2:=rA2 hX5;have x3':=rA3 hX5;have x4':=rA4 hX5
 obtain ⟨css,hOwn⟩:=hSt5.rows i o _ HO.out HRvi.out
 have HBw5:=Qq (HBw4.out.thn hb5)
 have hg5:=Qf hcur
 have hR5:=Qf hX5
 have hne1:g≠w5.heap.size:=by omega
 have hne2:w.heap.size≠w5.heap.size:=by omega
 have hne6:some g≠(Value.slice rpi o.rows.length rci).ownBlock:=fun e=>Zs hSt5.row hOwn.row (by decide) rfl e.symm
 have HSt5:=Qq hSt5;have HOwn:=Qq hOwn;have HCur:=Qq hcur;have HCi:=Qq hci
 have hxv:Qh (But (Bb (.slice (some ⟨g,0,none⟩) n cap) rvs) (.slice rpi o.rows.length rci)) w5 [.int .i64 x.kind,.int .i64 x.n,.string ⟨x.s.toArray⟩,.slice x3 x.names.length x3c,.slice x4 x.kids.length x4c] x:=by
  refine HX.out.move (.of_below HBw5.out) (fun b _ hb=>?_)
  have hb':b<w.heap.size:=hb
  have hB0:=HB1.out.size
  refine ⟨⟨fun e=>?_,fun u hu e=>?_⟩,fun e=>?_⟩
  ·have:g=b:=Qb e
   omega
  ·obtain ⟨j,hj⟩:=List.getElem?_of_mem hu
   obtain ⟨y,hy⟩:∃ y,l[j]?=some y:=⟨_,Qx (by rw [← HSt5.out.len];exact (Qj hj).1)⟩
   obtain ⟨_,ho2⟩:=HSt5.out.rows j y u hy hj
   have:=(ho2.row.lt b e).1
   omega
  have:=(HOwn.out.row.lt b e.symm).1
  omega
 have HXV:=Qq hxv
 clear hSt5 hX5 hcur hci hOwn hb5 hxv c4
 obtain ⟨W8,hW8⟩:=eX ((w5.alloc (.cells #[.int .i64 x.kind,.int .i64 x.n,.string ⟨x.s.toArray⟩,.slice x3 x.names.length x3c,.slice x4 x.kids.length x4c] 44)).drew)
 have hb8:Below w5.heap.size w5 W8:=by rw [← hW8];exact (Qn _ _).drew
 have hX8:W8.heap[w5.heap.size]?=some (.cells #[.int .i64 x.kind,.int .i64 x.n,.string ⟨x.s.toArray⟩,.slice x3 x.names.length x3c,.slice x4 x.kids.length x4c] 44 (0,0)):=by rw [← hW8,heap_drew];exact Qw _ _
 have hsz8:W8.heap.size=w5.heap.size+1:=by rw [← hW8];simp
 have hY8:Sl Ql (But (Bb (.slice (some ⟨g,0,none⟩) n cap) rvs) (.slice rpi o.rows.length rci)) W8 (.slice (some ⟨w5.heap.size,0,none⟩) 1 1) [x]:=by
  refine ⟨_,1,rfl,by simp,fun _=>⟨w5.heap.size,0,rfl,?_,Qf hX8,fun j u hj=>?_⟩⟩
  ·refine ⟨⟨fun e=>?_,fun u hu e=>?_⟩,fun e=>?_⟩
   ·exact hne1 (Qb e)
   ·obtain ⟨j,hj⟩:=List.getElem?_of_mem hu
    obtain ⟨y,hy⟩:∃ y,l[j]?=some y:=⟨_,Qx (by rw [← HSt5.out.len];exact (Qj hj).1)⟩
    obtain ⟨_,ho2⟩:=HSt5.out.rows j y u hy hj
    have:=(ho2.row.lt _ e).2
    omega
   have:=(HOwn.out.row.lt _ e.symm).2
   omega
  have h0:=(Qj hj).1
  simp at h0
  subst h0
  simp at hj
  subst hj
  refine ⟨_,fun j u hu=>?_,HXV.out.move (.of_below hb8) (fun _ _ h=>h)⟩
  rw [Nat.zero_mul,Nat.zero_add,Qk _ _ j _ _ _ hX8]
  simpa using hu
 have HIns:=Qq (insEnd _ W1.heap.size W8 (.slice rpi o.rows.length rci) o.rows css x (some ⟨w5.heap.size,0,none⟩) 1 (HOwn.out.below hb8) hY8 (by omega) (by omega))
 have HHc:=Qq (fun (w6:World) (hg:W8.grownBy w6 (Value.slice rpi o.rows.length rci).ownBlock)=>(hg.block g (by omega) hne6).trans ((hb8.block g hg5).trans HCur.out))
 have c8:=(hb8.cell (p:=⟨g,i*2+1,none⟩) hg5).trans c5
 have HB8:=Qq hb8;have HSz8:=Qq hsz8
 have HW8:=Qq hW8
 clear hY8 hX8 hb8 hsz8
 go_wp2_with fail
 go_region_with (first | (go_at_call 58;refine HIns.out.mono ?_;rintro e w6 ⟨p6,c6,css6,rfl,hO6,hg6,ha6⟩;have hc6:=HHc.out w6 hg6;have f6:=frozen_of_row _ _ (i*2+1) _ _ hc6;have k6:=Qk _ _ (i*2+1) _ _ _ hc6;rw [HCi.out] at k6;have HO6:=Qq hO6;have HG6:=Qq hg6;have HA6:=Qq ha6;clear hc6 hO6 hg6 ha6))
 all_goals
  go_wp2_with fail
  go_ret
  have hO6:=HO6.out;have hA6:=HA6.out
  simp only [List.length_append,List.length_cons,List.length_nil,Nat.zero_add] at hO6 hA6
  have hP:=(HSt5.out.below HB8.out).put' HN.out HO.out HRvi.out ⟨css6,hO6⟩ HG6.out (by
   rcases hA6 with h | h
   ·exact .inl h
   exact .inr fun g' e=>by rw [h] at e;exact Nat.le_of_eq (Qb e))
  have hlen:(l.set i ⟨o.table,o.rows++[x]⟩).length=n:=by rw [List.length_set];exact HN.out
  have hrw:∀ r ∈ l.set i ⟨o.table,o.rows++[x]⟩,r.rows.length≤1000000:=by
   intro r hr
   rcases List.mem_or_eq_of_mem_set hr with h | rfl
   ·have:=HRL.out r h;omega
   simp;omega
  refine ⟨some ⟨g,0,none⟩,cap,by rw [hlen];rfl,by rw [hlen];exact hP.sl (by rw [hlen];exact hll) hrw _ (fun _ _=>trivial) (fun _ _ _=>trivial),?_⟩
  have hbw:=HBw5.out.thn HB8.out
  have hB1:=HB1.out.size
  refine (hbw.grown HG6.out hbw.size (fun b hb=>?_)).setCell (p:=⟨g,i*2+1,none⟩) (by show w.heap.size≤g;omega) _
  have:=(HOwn.out.row.lt b hb).1
  omega
end Go.Proofs.YtppbaladeefnkaaGreatDoor
