import Derived.Test.YtppbaladeefnkaaGreatDoorV16
set_option maxRecDepth 100000
set_option maxHeartbeats 400000000
namespace Go.Proofs.YtppbaladeefnkaaGreatDoor
open Go.RowKit Go.Shelf Go.Lib Tryz
def U1 (n:Nat) (cf:Nat→Nat→Ft) (nm:Nat→Bs) (f:Ft):Prop:=
 (f=Ft.zero∧∀ c i,c<5→i<n→(cf c i).code=0) ∨
 ∃ c i,c<5∧i<n∧(cf c i).code≠0∧f=⟨(cf c i).code,nm i,(cf c i).row,(cf c i).other⟩∧∀ c' i',i'<n→(c'<c∨c'=c∧i'<i)→(cf c' i').code=0
def Kq:Nat→Nat
 | 0=>84
 | 1=>85
 | 2=>90
 | 3=>92
 | _=>94
def J7 (B C:Nat):Nat→Array Value
 | 1=>#[.pointer (some ⟨B,0,none⟩)]
 | 3=>#[.pointer (some ⟨B,0,none⟩),.pointer (some ⟨C,0,none⟩)]
 | _=>#[]
def ConOk (w:World) (s:Sc) (cs:List Value) (lv:Value) (l:List Rel) (cf:Nat→Nat→Ft):Prop:=
 ∀ c,c<5→∀ (i:Nat) (t:Tbl) (r:Rel),s.tables[i]?=some t→l[i]?=some r→∀ (B C:Nat) (W:World) (ct:List Value) (rv:Value),Below w.heap.size w W→W.heap[B]?=some (.cells cs.toArray 26 (0,0))→W.cell? ⟨C,0,none⟩=some lv →
  Qt.R (fun b=>b<w.heap.size) W ct t→Sl Ql (fun b=>b<w.heap.size) W rv r.rows→Calls prog (Kq c) (#[.agg ct.toArray,rv]++J7 B C c) W (Ka (fun b=>b<w.heap.size) W (cf c i))
def Pf (w:World) (s:Sc) (l:List Rel) (cf:Nat→Nat→Ft) (e:Ending) (w':World):Prop:=
 ∃ f,(Bz s l=true→U1 s.tables.length cf (fun i=>((s.tables[i]?).getD Tbl.zero).name) f)∧(Bz s l=false→f=⟨1,[],Val.zero,Val.zero⟩)∧Ka (fun b=>b<w.heap.size) w f e w'
theorem E7 {w W:World} {o:Obj} (h:Below (w.alloc o).drew.heap.size (w.alloc o).drew W):W.heap[w.heap.size]?=some o:=
 kE h (by simp) (by rw [heap_drew];exact Qw w o)
theorem S6 (S0 S1:Nat→Prop) (s:Sc) (cs:List Value) (lv:Value) (l:List Rel) (w:World) (hs0:Yn S0 w cs s) (hl0:Sl Z0 S1 w lv l) (cf:Nat→Nat→Ft) (hcon:ConOk w s cs lv l cf):
  Calls prog 51 #[.agg cs.toArray,lv] w (Pf w s l cf):=by
 have hN:=Qq (fun W (hb:Below w.heap.size w W)=>No S0 S1 s cs lv l W (hs0.below hb) (hl0.below hb))
 obtain ⟨uv,tv,rfl,hu0,ht0⟩:=hs0
 have hu:Sl Ke (fun b=>b<w.heap.size) w uv s.sums:=hu0.mono (fun b hb _=>hb)
 have ht:Sl Qt (fun b=>b<w.heap.size) w tv s.tables:=ht0.mono (fun b hb _=>hb)
 have hl:Sl Z0 (fun b=>b<w.heap.size) w lv l:=hl0.mono (fun b hb _=>hb)
 obtain ⟨up,uc,rfl,_⟩:=hu.len
 obtain ⟨tp,tc,rfl,htl⟩:=ht.len
 obtain ⟨lp,lc,rfl,_⟩:=hl.len
 have HT:=Qq ht;have HL:=Qq hl;have HCon:=Qq hcon
 clear hu0 ht0 hl0 hu ht hl hcon
 obtain ⟨nb,hnb⟩:=eX (Bz s l)
 rw [hnb] at hN
 have HNB:=Qq hnb
 clear hnb
 cases nb with
 | false=>
  go_enter func51,ntmps51
  go_wp2_with fail
  refine (hN.out _ (Xr _ _ _ _)).mono ?_
  rintro e w1 ⟨rfl,hb1⟩
  have HR36:=Qq ((hb1.block (w.heap.size+2) (by simp)).trans (Zw w _ _ _))
  have HB6:=Qq ((Xr w _ _ _).thn hb1)
  have rz:=fun j=>frozen_of_row _ _ j _ _ HR36.out
  have rr:=fun j=>Qk _ _ j _ _ _ HR36.out
  have rz0:=rz 0;have rz1:=rz 1;have rz2:=rz 2;have rz3:=rz 3;have rz4:=rz 4;have rz5:=rz 5;have rz6:=rz 6;have rz7:=rz 7;have rz8:=rz 8;have rz9:=rz 9;have rz10:=rz 10;have rz11:=rz 11
  have rr0:=rr 0;have rr1:=rr 1;have rr2:=rr 2;have rr3:=rr 3;have rr4:=rr 4;have rr5:=rr 5;have rr6:=rr 6;have rr7:=rr 7;have rr8:=rr 8;have rr9:=rr 9;have rr10:=rr 10;have rr11:=rr 11
  simp only [List.getElem?_toArray,List.getElem?_cons_zero,List.getElem?_cons_succ] at rr0 rr1 rr2 rr3 rr4 rr5 rr6 rr7 rr8 rr9 rr10 rr11
  clear rz rr hb1
  go_wp2_with fail
  show bodyPost _ _ _ _ _ (Zh w1 (w.heap.size+1+1) (.int .i64 1) (.string ⟨#[]⟩) (.int .i64 0) (.int .i64 0) (.string ⟨#[]⟩) (.slice none 0 0) (.slice none 0 0) (.int .i64 0) (.int .i64 0) (.string ⟨#[]⟩) (.slice none 0 0) (.slice none 0 0))
  refine Q7 (v:=.agg #[.int .i64 1,.string ⟨#[]⟩,.int .i64 0,.int .i64 0,.string ⟨#[]⟩,.slice none 0 0,.slice none 0 0,.int .i64 0,.int .i64 0,.string ⟨#[]⟩,.slice none 0 0,.slice none 0 0]) (by simp [results,results51,go_sem,Zb HR36.out]) rfl ⟨⟨1,[],Val.zero,Val.zero⟩,fun h=>absurd HNB.out (by rw [h];decide),fun _=>rfl,[.int .i64 1,.string ⟨#[]⟩,.int .i64 0,.int .i64 0,.string ⟨#[]⟩,.slice none 0 0,.slice none 0 0,.int .i64 0,.int .i64 0,.string ⟨#[]⟩,.slice none 0 0,.slice none 0 0],rfl,⟨_,_,rfl,by simp,Zo _ _,Zo _ _⟩,Z3 HB6.out (by omega)⟩
 | true=>
  go_enter func51,ntmps51
  go_wp2_with (go_at_call 83;refine (hN.out _ (Xr _ _ _ _)).mono ?_;rintro e w1 ⟨rfl,hb1⟩)
  generalize hW3:w1.alloc _=W3
  have hb3:=eqB hW3 (Qn _ _)
  have hF3:=eqH (b:=w1.heap.size) hW3 (Qw _ _)
  have hsz1:w.heap.size+3≤w1.heap.size:=by have:=hb1.size;simp at this;omega
  have hB1:=(hb1.block w.heap.size (by simp;omega)).trans (Zd w _ _ _)
  have hC1:=(hb1.block (w.heap.size+1) (by simp)).trans (Z9 w _ _ _)
  have hR1:=(hb1.block (w.heap.size+2) (by simp)).trans (Zw w _ _ _)
  have HB3:=Qq (hb3.block w.heap.size (by omega) |>.trans hB1)
  have HC3:=Qq (hb3.block (w.heap.size+1) (by omega) |>.trans hC1)
  have HR3:=Qq (hb3.block (w.heap.size+2) (by omega) |>.trans hR1)
  have HF3:=Qq hF3
  have HW3:=Qq (((Xr w _ _ _).thn hb1).thn hb3)
  have hsz3:w1.heap.size<W3.heap.size:=Qf hF3
  clear hW3 hb3 hF3 hb1 hB1 hC1 hR1
  have hln:l.length=s.tables.length:=by
   refine Decidable.byContradiction fun h=>?_
   have h2:=HNB.out
   unfold Bz at h2
   rw [Ud _ _ _ (fun e=>h e.symm)] at h2
   cases h2
  have HLN:=Qq hln
  clear hln
  obtain ⟨n,hn⟩:=eX (s.tables.length)
  rw [hn] at htl
  rw [hn] at HLN
  rw [hn] at HT
  rw [hn]
  have HN:=Qq hn
  clear hn
  have mixed:(prog).follows .mixedOrders=true:=by kernel_rfl
  go_loopw [21] (fun i wr=>∃ c:Nat,c≤5∧i=.int .i64 c∧Below W3.heap.size W3 wr∧Aside (∀ c' i',c'<c→i'<n→(cf c' i').code=0)) (fun i _=>5 - (intOf i).toNat)
  case atStart=>exact ⟨0,Q8 _,rfl,Qz _ _,fun _ _ h=>absurd h (Nat.not_lt_zero _)⟩
  obtain ⟨c,hc5,rfl,hBr,hI⟩:=hrel
  generalize h6:wr=w6 at *
  have HBr:=Qq hBr;have HI:=Qq hI.out
  clear hBr hI
  by_cases hlt:c<5
  ·have hi1:(0:Int)≤(c:Int):=by omega
   have hi2:(c:Int)<5:=by omega
   have hF6:=kE HBr.out hsz3 HF3.out
   have hFc:w6.cell? ⟨w1.heap.size,c,none⟩=some (.func (.func (Kq c)) #[] (J7 w.heap.size (w.heap.size+1) c)):=by
    rw [Qk _ _ _ _ _ _ hF6]
    match c,hlt with
    | 0,_=>rfl
    | 1,_=>rfl
    | 2,_=>rfl
    | 3,_=>rfl
    | 4,_=>rfl
   have heg:∀ args w,(callFunc (Kq c) args).run prog w=.ok (.enter (Kq c) args) w:=by
    match c,hlt with
    | 0,_=>exact enters_of func84 (by kernel_rfl) rfl
    | 1,_=>exact enters_of func85 (by kernel_rfl) rfl
    | 2,_=>exact enters_of func90 (by kernel_rfl) rfl
    | 3,_=>exact enters_of func92 (by kernel_rfl) rfl
    | 4,_=>exact enters_of func94 (by kernel_rfl) rfl
   have hCC:=HCon.out c hlt
   generalize Kq c=g at hFc heg hCC
   have HCC:=Qq (fun i t r h1 h2 W ct rv=>hCC i t r h1 h2 w.heap.size (w.heap.size+1) W ct rv)
   generalize J7 w.heap.size (w.heap.size+1) c=lb9 at hFc HCC
   have hB6:=kB HBr.out HB3.out
   have b1:=rA1 hB6
   rw [HN.out] at b1
   clear hF6 hCC hB6
   go_wp2_with fail
   go_loopw [28] (fun i wr=>∃ k:Nat,k≤n∧i=.int .i64 k∧Below W3.heap.size W3 wr∧Aside (∀ i',i'<k→(cf c i').code=0)) (fun i _=>n - (intOf i).toNat)
   case atStart=>exact ⟨0,Q8 _,rfl,HBr.out,fun _ h=>absurd h (Nat.not_lt_zero _)⟩
   obtain ⟨i,hin,rfl,hBv,hJ⟩:=hrel
   have HBv:=Qq hBv;have HJ:=Qq hJ.out
   clear hBv hJ b1 hFc
   by_cases hli:i<n
   ·have hi3:(0:Int)≤(i:Int):=by omega
    have hi4:(i:Int)<(n:Int):=by omega
    obtain ⟨t,ht⟩:∃ t,s.tables[i]?=some t:=⟨_,Qx (by rw [HN.out];exact hli)⟩
    obtain ⟨r,hr⟩:∃ r,l[i]?=some r:=⟨_,Qx (by rw [HLN.out];exact hli)⟩
    have HBw:=Qq (HW3.out.trans (HBv.out.mono HW3.out.size))
    obtain ⟨tb,toff,ct,rfl,htb,_,htlen,htR,htc⟩:=(HT.out.below HBw.out).elem ht
    obtain ⟨lb,loff,cl,rfl,hlb,_,hllen,hlR,hlc⟩:=(HL.out.below HBw.out).elem hr
    obtain ⟨cp9,cc9,kp9,kc9,rp9,rc9,k9,s19,n9,s29,p19,n19,c19,p29,n29,c29,p39,n39,c39,a9,z9,hcs,htn,_⟩:=Zk htR
    simp only [tcs] at hcs
    subst hcs
    obtain ⟨rv,rfl,_,hrv⟩:=hlR
    obtain ⟨rp,rc,rfl,_⟩:=hrv.len
    have l1:=hlc 1 _ rfl
    have d0:=htc 0 _ rfl
    have d1:=htc 1 _ rfl
    have d2:=htc 2 _ rfl
    have d3:=htc 3 _ rfl
    have d4:=htc 4 _ rfl
    have d5:=htc 5 _ rfl
    have d6:=htc 6 _ rfl
    have d7:=htc 7 _ rfl
    have d8:=htc 8 _ rfl
    have d9:=htc 9 _ rfl
    have d10:=htc 10 _ rfl
    have d11:=htc 11 _ rfl
    have d12:=htc 12 _ rfl
    simp only [show Qt.k=13 from rfl,show Z0.k=2 from rfl,Nat.add_zero] at l1 d0 d1 d2 d3 d4 d5 d6 d7 d8 d9 d10 d11 d12
    have hC6:=kB HBv.out HC3.out
    have c0:=rA0 hC6
    have hlc1:(i:Int)<(l.length:Int):=by rw [HLN.out];exact hi4
    have HTr:=Qq htR;have HRv:=Qq hrv;have HTi:=Qq ht;have HRi:=Qq hr
    clear htR hrv ht hr htc hlc hC6 htlen hllen
    go_upto_region 10 with fail
    obtain ⟨W4,hW4⟩:=eX (wr.alloc (.cells #[.string ⟨t.name.toArray⟩,.slice cp9 t.columns.length cc9,.slice kp9 t.key.length kc9,.slice rp9 t.refs.length rc9,.int .i64 k9,.string s19,.int .i64 n9,.string s29,.slice p19 n19 c19,.slice p29 n29 c29,.slice p39 n39 c39,.int .i64 a9,.int .i64 z9] 37))
    rw [hW4]
    have hb4:=eqB hW4 (Qn _ _)
    have hX4:=eqH (b:=wr.heap.size) hW4 (Qw _ _)
    have hszX:W4.heap.size=wr.heap.size+1:=by rw [← hW4];simp
    have hClt:w.heap.size+1<wr.heap.size:=Qv wr _ c0
    have HBlt:=Qq (show w.heap.size+2≤wr.heap.size from by have:=Qf HR3.out;have:=HBv.out.size;omega)
    have hBlt:w.heap.size+2≤wr.heap.size:=by have:=Qf HR3.out;have:=HBv.out.size;omega
    have hlblt:lb<wr.heap.size:=hlb
    refine let_mvar% ?Lq1:=fun w':World=>w'.cell? ⟨wr.heap.size,0,none⟩=some (.string ⟨t.name.toArray⟩)∧w'.cell? ⟨wr.heap.size,1,none⟩=some (.slice cp9 t.columns.length cc9)∧w'.cell? ⟨wr.heap.size,2,none⟩=some (.slice kp9 t.key.length kc9)∧w'.cell? ⟨wr.heap.size,3,none⟩=some (.slice rp9 t.refs.length rc9)∧w'.cell? ⟨wr.heap.size,4,none⟩=some (.int .i64 k9)∧w'.cell? ⟨wr.heap.size,5,none⟩=some (.string s19)∧w'.cell? ⟨wr.heap.size,6,none⟩=some (.int .i64 n9)∧w'.cell? ⟨wr.heap.size,7,none⟩=some (.string s29)∧w'.cell? ⟨wr.heap.size,8,none⟩=some (.slice p19 n19 c19)∧w'.cell? ⟨wr.heap.size,9,none⟩=some (.slice p29 n29 c29)∧w'.cell? ⟨wr.heap.size,10,none⟩=some (.slice p39 n39 c39)∧w'.cell? ⟨wr.heap.size,11,none⟩=some (.int .i64 a9)∧w'.cell? ⟨wr.heap.size,12,none⟩=some (.int .i64 z9)∧w'.cell? ⟨w.heap.size+1,0,none⟩=some (.slice (some ⟨lb,loff,none⟩) l.length lc)∧w'.cell? ⟨lb,loff+i*2+1,none⟩=some (.slice rp r.rows.length rc)∧Below W4.heap.size W4 w';?_
    have HS:∀ w',Below W4.heap.size W4 w'→?Lq1 w':=by
     intro w' h
     have hx:∀ {j:Nat} {u:Value},#[.string ⟨t.name.toArray⟩,.slice cp9 t.columns.length cc9,.slice kp9 t.key.length kc9,.slice rp9 t.refs.length rc9,.int .i64 k9,.string s19,.int .i64 n9,.string s29,.slice p19 n19 c19,.slice p29 n29 c29,.slice p39 n39 c39,.int .i64 a9,.int .i64 z9][j]?=some u→w'.cell? ⟨wr.heap.size,j,none⟩=some u:=fun {j u} hu=>by
      rw [h.cell (p:=⟨wr.heap.size,j,none⟩) (by show wr.heap.size<W4.heap.size;omega),Qk _ _ j _ _ _ hX4];exact hu
     have hh:∀ {b j:Nat} {u:Value},b<wr.heap.size→wr.cell? ⟨b,j,none⟩=some u→w'.cell? ⟨b,j,none⟩=some u:=fun {b j u} hlt hc=>((hb4.thn h).cell (p:=⟨b,j,none⟩) hlt).trans hc
     exact ⟨hx rfl,hx rfl,hx rfl,hx rfl,hx rfl,hx rfl,hx rfl,hx rfl,hx rfl,hx rfl,hx rfl,hx rfl,hx rfl,hh hClt c0,hh hlblt l1,h⟩
    have HB9:∀ w',?Lq1 w'→Below W4.heap.size W4 w':=fun w' h=>h.2.2.2.2.2.2.2.2.2.2.2.2.2.2.2
    have HX9:∀ w' w'',?Lq1 w'→Below w'.heap.size w' w''→?Lq1 w'':=fun w' w'' h h2=>HS w'' ((HB9 w' h).thn h2)
    have HA9:∀ w' o,?Lq1 w'→?Lq1 (w'.alloc o):=fun w' o h=>HX9 w' _ h (Qn _ _)
    have HP9:∀ w' g0 g1 g2 g3 g4 g5 g6 g7 g8 g9 g10 g11,?Lq1 w'→?Lq1 (Zh w' W4.heap.size g0 g1 g2 g3 g4 g5 g6 g7 g8 g9 g10 g11):=fun w' g0 g1 g2 g3 g4 g5 g6 g7 g8 g9 g10 g11 h=>HS _ (Z3 (HB9 w' h) (Q9 _))
    unfold Zh at HP9
    have hbw4:Below w.heap.size w W4:=HBw.out.trans (hb4.mono HBw.out.size)
    have HCall:∀ W',?Lq1 W'→Calls prog g (#[.agg #[.string ⟨t.name.toArray⟩,.slice cp9 t.columns.length cc9,.slice kp9 t.key.length kc9,.slice rp9 t.refs.length rc9,.int .i64 k9,.string s19,.int .i64 n9,.string s29,.slice p19 n19 c19,.slice p29 n29 c29,.slice p39 n39 c39,.int .i64 a9,.int .i64 z9],.slice rp r.rows.length rc]++lb9) W' fun e w2=>∃ p3 k3 p4 k4 q3 l3 q4 l4,e=.returned (.agg #[.int .i64 (cf c i).code,.string ⟨(cf c i).table.toArray⟩,.int .i64 (cf c i).row.kind,.int .i64 (cf c i).row.n,.string ⟨(cf c i).row.s.toArray⟩,.slice p3 (cf c i).row.names.length k3,.slice p4 (cf c i).row.kids.length k4,.int .i64 (cf c i).other.kind,.int .i64 (cf c i).other.n,.string ⟨(cf c i).other.s.toArray⟩,.slice q3 (cf c i).other.names.length l3,.slice q4 (cf c i).other.kids.length l4])∧Ba (fun b=>b<w.heap.size) w2 [.int .i64 (cf c i).code,.string ⟨(cf c i).table.toArray⟩,.int .i64 (cf c i).row.kind,.int .i64 (cf c i).row.n,.string ⟨(cf c i).row.s.toArray⟩,.slice p3 (cf c i).row.names.length k3,.slice p4 (cf c i).row.kids.length k4,.int .i64 (cf c i).other.kind,.int .i64 (cf c i).other.n,.string ⟨(cf c i).other.s.toArray⟩,.slice q3 (cf c i).other.names.length l3,.slice q4 (cf c i).other.kids.length l4] (cf c i)∧?Lq1 w2∧Below W'.heap.size W' w2:=by
     intro W' h'
     have hbW:=hbw4.trans ((HB9 W' h').mono hbw4.size)
     have hbv:=HBv.out.trans (((hb4.thn (HB9 W' h'))).mono HBv.out.size)
     refine (HCC.out i t r HTi.out HRi.out W' [.string ⟨t.name.toArray⟩,.slice cp9 t.columns.length cc9,.slice kp9 t.key.length kc9,.slice rp9 t.refs.length rc9,.int .i64 k9,.string s19,.int .i64 n9,.string s29,.slice p19 n19 c19,.slice p29 n29 c29,.slice p39 n39 c39,.int .i64 a9,.int .i64 z9] (.slice rp r.rows.length rc) hbW ?_ ?_ ?_ ?_).mono ?_
     ·exact kB hbv HB3.out
     ·have:=kB hbv HC3.out
      rw [Qk _ _ _ _ _ _ this];rfl
     ·exact Qt.frame HTr.out (.of_below (hb4.thn (HB9 W' h')))
     ·exact HRv.out.below (hb4.thn (HB9 W' h'))
     rintro e w2 ⟨cs',rfl,hf2,hb2⟩
     obtain ⟨p3,k3,p4,k4,q3,l3,q4,l4,hcs,_⟩:=U5 hf2
     simp only [fcs] at hcs
     subst hcs
     exact ⟨p3,k3,p4,k4,q3,l3,q4,l4,rfl,hf2,HX9 _ _ h' hb2,hb2⟩
    have HHS:=Qq (HS W4.drew (Qz _ _).drew);have HB9':=Qq HB9;have HA9':=Qq HA9;have HCl:=Qq HCall
    have HP9':=Qq HP9;have HHA:=Qq (fun o=>HS (W4.alloc o).drew (Qn _ _).drew)
    have HSzX:=Qq hszX
    have HX4:=Qq hX4;have HBw4:=Qq (HBv.out.trans (hb4.mono HBv.out.size))
    clear HS HP9 HB9 HX9 HA9 HCall hbw4 hX4 hb4 hW4 l1 c0 d0 d1 d2 d3 d4 d5 d6 d7 d8 d9 d10 d11 d12 hClt hlblt htb hlb hszX hBlt
    generalize hcf:cf c i=f at HCl
    have HCF:=Qq hcf;have HTN:=Qq htn
    clear hcf htn
    go_region_held3 ?Lq1 (first | with_reducible exact HHS.out | with_reducible exact hS2 | with_reducible exact HHA.out _ | with_reducible exact HA9'.out _ _ hS2 | with_reducible exact HP9'.out _ _ _ _ _ _ _ _ _ _ _ _ _ hS2)
     (first
      | (go_at_fn g;refine (HCl.out _ (by assumption)).mono ?_;rintro e w2 ⟨p3,k3,p4,k4,q3,l3,q4,l4,rfl,hf2,hS2,hb2⟩;try (have r2:=E7 hb2;obtain ⟨f0,f1,f2,f3,f4,f5,f6,f7,f8,f9,f10,f11⟩:=frz12 r2;obtain ⟨y0,y1,y2,y3,y4,y5,y6,y7,y8,y9,y10,y11⟩:=row12 r2;have HR2:=Qq r2;clear r2)))
    ·obtain ⟨W6,hW6⟩:=eX (w2.alloc (.cells #[.int .i64 f.code,.string ⟨f.table.toArray⟩,.int .i64 f.row.kind,.int .i64 f.row.n,.string ⟨f.row.s.toArray⟩,.slice p3 f.row.names.length k3,.slice p4 f.row.kids.length k4,.int .i64 f.other.kind,.int .i64 f.other.n,.string ⟨f.other.s.toArray⟩,.slice q3 f.other.names.length l3,.slice q4 f.other.kids.length l4] 94))
     have hR6:=eqH (b:=w2.heap.size) hW6 (Qw _ _)
     have hb26:=eqB hW6 (Qn _ _)
     have hb6:Below W4.heap.size W4 W6:=(HB9'.out _ hS2).thn hb26
     have hf6:Ba (fun b=>b<w.heap.size) W6 [.int .i64 f.code,.string ⟨f.table.toArray⟩,.int .i64 f.row.kind,.int .i64 f.row.n,.string ⟨f.row.s.toArray⟩,.slice p3 f.row.names.length k3,.slice p4 f.row.kids.length k4,.int .i64 f.other.kind,.int .i64 f.other.n,.string ⟨f.other.s.toArray⟩,.slice q3 f.other.names.length l3,.slice q4 f.other.kids.length l4] f:=hf2.move (.of_below hb26) (fun _ _ h=>h)
     have hN6:W4.heap.size≤w2.heap.size:=(HB9'.out _ hS2).size
     rw [hW6]
     have HB6:=Qq (HBw4.out.trans (hb6.mono HBw4.out.size));have HF6:=Qq hf6;have HR6:=Qq hR6;have HN6:=Qq hN6
     have hT6:=kB hb6 HX4.out
     have t0:=rA0 hT6
     have n0:=rA0 hR6
     have HT6:=Qq t0
     have HR36:=Qq (kB HB6.out HR3.out)
     clear hW6 hR6 hb6 hf6 hN6 hT6 hf2 hS2 hb2 HHS HHA HB9' HA9' HP9' HCl
     by_cases hz:f.code=0
     ·have hq:(f.code != 0)=false:=by rw [hz];rfl
      clear t0
      go_wp2_with fail
      go_roundw
      case measure=>simp [intOf];omega
      case rel=>
       refine ⟨i+1,by omega,by go_num,HB6.out,(show Aside _ from fun i' hi'=>?_)⟩
       by_cases e:i'=i
       ·subst e
        rw [HCF.out]
        exact hz
       exact HJ.out i' (by omega)
     have hq:(f.code != 0)=true:=by simpa using hz
     have HZ:=Qq hz
     clear hz
     have nz:=fun j=>frozen_of_row _ _ j _ _ HR6.out
     have nr:=fun j=>Qk _ _ j _ _ _ HR6.out
     have rz:=fun j=>frozen_of_row _ _ j _ _ HR36.out
     have rr:=fun j=>Qk _ _ j _ _ _ HR36.out
     have nz0:=nz 0;have nz1:=nz 1;have nz2:=nz 2;have nz3:=nz 3;have nz4:=nz 4;have nz5:=nz 5;have nz6:=nz 6;have nz7:=nz 7;have nz8:=nz 8;have nz9:=nz 9;have nz10:=nz 10;have nz11:=nz 11
     have nr0:=nr 0;have nr1:=nr 1;have nr2:=nr 2;have nr3:=nr 3;have nr4:=nr 4;have nr5:=nr 5;have nr6:=nr 6;have nr7:=nr 7;have nr8:=nr 8;have nr9:=nr 9;have nr10:=nr 10;have nr11:=nr 11
     have rz0:=rz 0;have rz1:=rz 1;have rz2:=rz 2;have rz3:=rz 3;have rz4:=rz 4;have rz5:=rz 5;have rz6:=rz 6;have rz7:=rz 7;have rz8:=rz 8;have rz9:=rz 9;have rz10:=rz 10;have rz11:=rz 11
     have rr0:=rr 0;have rr1:=rr 1;have rr2:=rr 2;have rr3:=rr 3;have rr4:=rr 4;have rr5:=rr 5;have rr6:=rr 6;have rr7:=rr 7;have rr8:=rr 8;have rr9:=rr 9;have rr10:=rr 10;have rr11:=rr 11
     simp only [List.getElem?_toArray,List.getElem?_cons_zero,List.getElem?_cons_succ] at nr0 nr1 nr2 nr3 nr4 nr5 nr6 nr7 nr8 nr9 nr10 nr11 rr0 rr1 rr2 rr3 rr4 rr5 rr6 rr7 rr8 rr9 rr10 rr11
     have hne1:w2.heap.size≠w.heap.size+1+1:=by have:=HBlt.out;have:=HSzX.out;have:=HN6.out;omega
     have hne2:w.heap.size+1+1≠w2.heap.size:=fun e=>hne1 e.symm
     have hne3:w2.heap.size≠wr.heap.size:=by have:=HSzX.out;have:=HN6.out;omega
     clear nz nr rz rr n0
     go_wp2_with fail
     obtain ⟨V7,hV7⟩:=eX (W6.setCell ⟨w2.heap.size,1,none⟩ (.string ⟨t.name.toArray⟩))
     rw [hV7]
     have hR7:V7.heap[w.heap.size+1+1]?=some (.cells zF 94 (0,0)):=by rw [← hV7,Qg hne2];exact HR36.out
     have HO7:=Qq (fun b (hb:b<w.heap.size)=>show V7.heap[b]?=W6.heap[b]? by rw [← hV7];exact Qg (by show b≠w2.heap.size;have:=HBlt.out;have:=HSzX.out;have:=HN6.out;omega))
     have hb7:Below W3.heap.size W3 V7:=by rw [← hV7];exact HB6.out.setCell (p:=⟨w2.heap.size,1,none⟩) (by show W3.heap.size≤w2.heap.size;have:=HBv.out.size;have:=HSzX.out;have:=HN6.out;omega) _
     have HB7:=Qq (HW3.out.trans (hb7.mono HW3.out.size))
     show bodyPost _ _ _ _ _ (Zh V7 (w.heap.size+1+1) (.int .i64 f.code) (.string ⟨t.name.toArray⟩) (.int .i64 f.row.kind) (.int .i64 f.row.n) (.string ⟨f.row.s.toArray⟩) (.slice p3 f.row.names.length k3) (.slice p4 f.row.kids.length k4) (.int .i64 f.other.kind) (.int .i64 f.other.n) (.string ⟨f.other.s.toArray⟩) (.slice q3 f.other.names.length l3) (.slice q4 f.other.kids.length l4))
     have q:=fun j=>Zb (a0:=.int .i64 f.code) (a1:=.string ⟨t.name.toArray⟩) (a2:=.int .i64 f.row.kind) (a3:=.int .i64 f.row.n) (a4:=.string ⟨f.row.s.toArray⟩) (a5:=.slice p3 f.row.names.length k3) (a6:=.slice p4 f.row.kids.length k4) (a7:=.int .i64 f.other.kind) (a8:=.int .i64 f.other.n) (a9:=.string ⟨f.other.s.toArray⟩) (a10:=.slice q3 f.other.names.length l3) (a11:=.slice q4 f.other.kids.length l4) hR7 j
     generalize hW9:Zh V7 (w.heap.size+1+1) (.int .i64 f.code) (.string ⟨t.name.toArray⟩) (.int .i64 f.row.kind) (.int .i64 f.row.n) (.string ⟨f.row.s.toArray⟩) (.slice p3 f.row.names.length k3) (.slice p4 f.row.kids.length k4) (.int .i64 f.other.kind) (.int .i64 f.other.n) (.string ⟨f.other.s.toArray⟩) (.slice q3 f.other.names.length l3) (.slice q4 f.other.kids.length l4)=W9 at q
     have hb9:Below w.heap.size w W9:=by rw [← hW9];exact Z3 HB7.out (by omega)
     have hf9:Ba (fun b=>b<w.heap.size) W9 [.int .i64 f.code,.string ⟨f.table.toArray⟩,.int .i64 f.row.kind,.int .i64 f.row.n,.string ⟨f.row.s.toArray⟩,.slice p3 f.row.names.length k3,.slice p4 f.row.kids.length k4,.int .i64 f.other.kind,.int .i64 f.other.n,.string ⟨f.other.s.toArray⟩,.slice q3 f.other.names.length l3,.slice q4 f.other.kids.length l4] f:=HF6.out.move (fun b hb _=>by rw [← hW9,Yz (by have:b<w.heap.size:=hb;omega)];exact HO7.out b hb) (fun _ _ h=>h)
     have qq0:=q 0;have qq1:=q 1;have qq2:=q 2;have qq3:=q 3;have qq4:=q 4;have qq5:=q 5;have qq6:=q 6;have qq7:=q 7;have qq8:=q 8;have qq9:=q 9;have qq10:=q 10;have qq11:=q 11
     simp only [List.getElem?_toArray,List.getElem?_cons_zero,List.getElem?_cons_succ] at qq0 qq1 qq2 qq3 qq4 qq5 qq6 qq7 qq8 qq9 qq10 qq11
     have HB9:=Qq hb9;have HF9:=Qq hf9
     try rw [hW9]
     clear q hb9 hf9 hW9 hV7 hR7 hb7 nz0 nr0 rz0 rr0 nz1 nr1 rz1 rr1 nz2 nr2 rz2 rr2 nz3 nr3 rz3 rr3 nz4 nr4 rz4 rr4 nz5 nr5 rz5 rr5 nz6 nr6 rz6 rr6 nz7 nr7 rz7 rr7 nz8 nr8 rz8 rr8 nz9 nr9 rz9 rr9 nz10 nr10 rz10 rr10 nz11 nr11 rz11 rr11
     refine Q7 (v:=.agg #[.int .i64 f.code,.string ⟨t.name.toArray⟩,.int .i64 f.row.kind,.int .i64 f.row.n,.string ⟨f.row.s.toArray⟩,.slice p3 f.row.names.length k3,.slice p4 f.row.kids.length k4,.int .i64 f.other.kind,.int .i64 f.other.n,.string ⟨f.other.s.toArray⟩,.slice q3 f.other.names.length l3,.slice q4 f.other.kids.length l4]) (by simp [results,results51,go_sem,qq0,qq1,qq2,qq3,qq4,qq5,qq6,qq7,qq8,qq9,qq10,qq11]) rfl ⟨⟨f.code,t.name,f.row,f.other⟩,fun _=>.inr ⟨c,i,hlt,by rw [HN.out];exact hli,by rw [HCF.out];exact HZ.out,?_,?_⟩,fun h=>absurd HNB.out (by rw [h];decide),[.int .i64 f.code,.string ⟨t.name.toArray⟩,.int .i64 f.row.kind,.int .i64 f.row.n,.string ⟨f.row.s.toArray⟩,.slice p3 f.row.names.length k3,.slice p4 f.row.kids.length k4,.int .i64 f.other.kind,.int .i64 f.other.n,.string ⟨f.other.s.toArray⟩,.slice q3 f.other.names.length l3,.slice q4 f.other.kids.length l4],rfl,?_,HB9.out⟩
     ·show (⟨_,_,_,_⟩:Ft)=⟨(cf c i).code,((s.tables[i]?).getD Tbl.zero).name,(cf c i).row,(cf c i).other⟩
      rw [HCF.out,HTi.out];rfl
     ·intro c' i' h1 h2
      rcases h2 with h2 | ⟨rfl,h2⟩
      ·exact HI.out c' i' h2 (by rw [← HN.out];exact h1)
      exact HJ.out i' h2
     obtain ⟨c1,c2,hcc,_,h2,h3⟩:=HF9.out
     have hc1:c1=[.int .i64 f.row.kind,.int .i64 f.row.n,.string ⟨f.row.s.toArray⟩,.slice p3 f.row.names.length k3,.slice p4 f.row.kids.length k4]∧c2=[.int .i64 f.other.kind,.int .i64 f.other.n,.string ⟨f.other.s.toArray⟩,.slice q3 f.other.names.length l3,.slice q4 f.other.kids.length l4]:=by
      have e1:=h2.length;have e2:=h3.length
      match c1,e1,c2,e2,hcc with
      | [_,_,_,_,_],_,[_,_,_,_,_],_,hcc=>
       simp only [List.cons_append,List.nil_append,List.cons.injEq] at hcc
       obtain ⟨-,-,rfl,rfl,rfl,rfl,rfl,rfl,rfl,rfl,rfl,rfl,-⟩:=hcc
       exact ⟨rfl,rfl⟩
     exact ⟨_,_,rfl,HTN.out,hc1.1 ▸ h2,hc1.2 ▸ h3⟩
    obtain ⟨W6,hW6⟩:=eX (Zh w2 W4.heap.size (.int .i64 f.code) (.string ⟨f.table.toArray⟩) (.int .i64 f.row.kind) (.int .i64 f.row.n) (.string ⟨f.row.s.toArray⟩) (.slice p3 f.row.names.length k3) (.slice p4 f.row.kids.length k4) (.int .i64 f.other.kind) (.int .i64 f.other.n) (.string ⟨f.other.s.toArray⟩) (.slice q3 f.other.names.length l3) (.slice q4 f.other.kids.length l4))
    have hR6:W6.heap[W4.heap.size]?=some (.cells #[.int .i64 f.code,.string ⟨f.table.toArray⟩,.int .i64 f.row.kind,.int .i64 f.row.n,.string ⟨f.row.s.toArray⟩,.slice p3 f.row.names.length k3,.slice p4 f.row.kids.length k4,.int .i64 f.other.kind,.int .i64 f.other.n,.string ⟨f.other.s.toArray⟩,.slice q3 f.other.names.length l3,.slice q4 f.other.kids.length l4] 94 (0,0)):=by rw [← hW6];exact Gv (E7 hb2)
    have hb6:Below W4.heap.size W4 W6:=by rw [← hW6];exact Z3 (HB9'.out _ hS2) (Q9 _)
    have hf6:Ba (fun b=>b<w.heap.size) W6 [.int .i64 f.code,.string ⟨f.table.toArray⟩,.int .i64 f.row.kind,.int .i64 f.row.n,.string ⟨f.row.s.toArray⟩,.slice p3 f.row.names.length k3,.slice p4 f.row.kids.length k4,.int .i64 f.other.kind,.int .i64 f.other.n,.string ⟨f.other.s.toArray⟩,.slice q3 f.other.names.length l3,.slice q4 f.other.kids.length l4] f:=hf2.move (fun b hb _=>by rw [← hW6];exact Yz (by have:=HBlt.out;have:=HSzX.out;omega)) (fun _ _ h=>h)
    have hN6:W4.heap.size≤W4.heap.size:=Q9 _
    unfold Zh at hW6
    rw [hW6]
    have HB6:=Qq (HBw4.out.trans (hb6.mono HBw4.out.size));have HF6:=Qq hf6;have HR6:=Qq hR6;have HN6:=Qq hN6
    have hT6:=kB hb6 HX4.out
    have t0:=rA0 hT6
    have n0:=rA0 hR6
    have HT6:=Qq t0
    have HR36:=Qq (kB HB6.out HR3.out)
    clear hW6 hR6 hb6 hf6 hN6 hT6 hf2 hS2 hb2 HHS HHA HB9' HA9' HP9' HCl
    by_cases hz:f.code=0
    ·have hq:(f.code != 0)=false:=by rw [hz];rfl
     clear t0
     go_wp2_with fail
     go_roundw
     case measure=>simp [intOf];omega
     case rel=>
      refine ⟨i+1,by omega,by go_num,HB6.out,(show Aside _ from fun i' hi'=>?_)⟩
      by_cases e:i'=i
      ·subst e
       rw [HCF.out]
       exact hz
      exact HJ.out i' (by omega)
    have hq:(f.code != 0)=true:=by simpa using hz
    have HZ:=Qq hz
    clear hz
    have nz:=fun j=>frozen_of_row _ _ j _ _ HR6.out
    have nr:=fun j=>Qk _ _ j _ _ _ HR6.out
    have rz:=fun j=>frozen_of_row _ _ j _ _ HR36.out
    have rr:=fun j=>Qk _ _ j _ _ _ HR36.out
    have nz0:=nz 0;have nz1:=nz 1;have nz2:=nz 2;have nz3:=nz 3;have nz4:=nz 4;have nz5:=nz 5;have nz6:=nz 6;have nz7:=nz 7;have nz8:=nz 8;have nz9:=nz 9;have nz10:=nz 10;have nz11:=nz 11
    have nr0:=nr 0;have nr1:=nr 1;have nr2:=nr 2;have nr3:=nr 3;have nr4:=nr 4;have nr5:=nr 5;have nr6:=nr 6;have nr7:=nr 7;have nr8:=nr 8;have nr9:=nr 9;have nr10:=nr 10;have nr11:=nr 11
    have rz0:=rz 0;have rz1:=rz 1;have rz2:=rz 2;have rz3:=rz 3;have rz4:=rz 4;have rz5:=rz 5;have rz6:=rz 6;have rz7:=rz 7;have rz8:=rz 8;have rz9:=rz 9;have rz10:=rz 10;have rz11:=rz 11
    have rr0:=rr 0;have rr1:=rr 1;have rr2:=rr 2;have rr3:=rr 3;have rr4:=rr 4;have rr5:=rr 5;have rr6:=rr 6;have rr7:=rr 7;have rr8:=rr 8;have rr9:=rr 9;have rr10:=rr 10;have rr11:=rr 11
    simp only [List.getElem?_toArray,List.getElem?_cons_zero,List.getElem?_cons_succ] at nr0 nr1 nr2 nr3 nr4 nr5 nr6 nr7 nr8 nr9 nr10 nr11 rr0 rr1 rr2 rr3 rr4 rr5 rr6 rr7 rr8 rr9 rr10 rr11
    have hne1:W4.heap.size≠w.heap.size+1+1:=by have:=HBlt.out;have:=HSzX.out;have:=HN6.out;omega
    have hne2:w.heap.size+1+1≠W4.heap.size:=fun e=>hne1 e.symm
    have hne3:W4.heap.size≠wr.heap.size:=by have:=HSzX.out;have:=HN6.out;omega
    clear nz nr rz rr n0
    go_wp2_with fail
    obtain ⟨V7,hV7⟩:=eX (W6.setCell ⟨W4.heap.size,1,none⟩ (.string ⟨t.name.toArray⟩))
    rw [hV7]
    have hR7:V7.heap[w.heap.size+1+1]?=some (.cells zF 94 (0,0)):=by rw [← hV7,Qg hne2];exact HR36.out
    have HO7:=Qq (fun b (hb:b<w.heap.size)=>show V7.heap[b]?=W6.heap[b]? by rw [← hV7];exact Qg (by show b≠W4.heap.size;have:=HBlt.out;have:=HSzX.out;have:=HN6.out;omega))
    have hb7:Below W3.heap.size W3 V7:=by rw [← hV7];exact HB6.out.setCell (p:=⟨W4.heap.size,1,none⟩) (by show W3.heap.size≤W4.heap.size;have:=HBv.out.size;have:=HSzX.out;have:=HN6.out;omega) _
    have HB7:=Qq (HW3.out.trans (hb7.mono HW3.out.size))
    show bodyPost _ _ _ _ _ (Zh V7 (w.heap.size+1+1) (.int .i64 f.code) (.string ⟨t.name.toArray⟩) (.int .i64 f.row.kind) (.int .i64 f.row.n) (.string ⟨f.row.s.toArray⟩) (.slice p3 f.row.names.length k3) (.slice p4 f.row.kids.length k4) (.int .i64 f.other.kind) (.int .i64 f.other.n) (.string ⟨f.other.s.toArray⟩) (.slice q3 f.other.names.length l3) (.slice q4 f.other.kids.length l4))
    have q:=fun j=>Zb (a0:=.int .i64 f.code) (a1:=.string ⟨t.name.toArray⟩) (a2:=.int .i64 f.row.kind) (a3:=.int .i64 f.row.n) (a4:=.string ⟨f.row.s.toArray⟩) (a5:=.slice p3 f.row.names.length k3) (a6:=.slice p4 f.row.kids.length k4) (a7:=.int .i64 f.other.kind) (a8:=.int .i64 f.other.n) (a9:=.string ⟨f.other.s.toArray⟩) (a10:=.slice q3 f.other.names.length l3) (a11:=.slice q4 f.other.kids.length l4) hR7 j
    generalize hW9:Zh V7 (w.heap.size+1+1) (.int .i64 f.code) (.string ⟨t.name.toArray⟩) (.int .i64 f.row.kind) (.int .i64 f.row.n) (.string ⟨f.row.s.toArray⟩) (.slice p3 f.row.names.length k3) (.slice p4 f.row.kids.length k4) (.int .i64 f.other.kind) (.int .i64 f.other.n) (.string ⟨f.other.s.toArray⟩) (.slice q3 f.other.names.length l3) (.slice q4 f.other.kids.length l4)=W9 at q
    have hb9:Below w.heap.size w W9:=by rw [← hW9];exact Z3 HB7.out (by omega)
    have hf9:Ba (fun b=>b<w.heap.size) W9 [.int .i64 f.code,.string ⟨f.table.toArray⟩,.int .i64 f.row.kind,.int .i64 f.row.n,.string ⟨f.row.s.toArray⟩,.slice p3 f.row.names.length k3,.slice p4 f.row.kids.length k4,.int .i64 f.other.kind,.int .i64 f.other.n,.string ⟨f.other.s.toArray⟩,.slice q3 f.other.names.length l3,.slice q4 f.other.kids.length l4] f:=HF6.out.move (fun b hb _=>by rw [← hW9,Yz (by have:b<w.heap.size:=hb;omega)];exact HO7.out b hb) (fun _ _ h=>h)
    have qq0:=q 0;have qq1:=q 1;have qq2:=q 2;have qq3:=q 3;have qq4:=q 4;have qq5:=q 5;have qq6:=q 6;have qq7:=q 7;have qq8:=q 8;have qq9:=q 9;have qq10:=q 10;have qq11:=q 11
    simp only [List.getElem?_toArray,List.getElem?_cons_zero,List.getElem?_cons_succ] at qq0 qq1 qq2 qq3 qq4 qq5 qq6 qq7 qq8 qq9 qq10 qq11
    have HB9:=Qq hb9;have HF9:=Qq hf9
    try rw [hW9]
    clear q hb9 hf9 hW9 hV7 hR7 hb7 nz0 nr0 rz0 rr0 nz1 nr1 rz1 rr1 nz2 nr2 rz2 rr2 nz3 nr3 rz3 rr3 nz4 nr4 rz4 rr4 nz5 nr5 rz5 rr5 nz6 nr6 rz6 rr6 nz7 nr7 rz7 rr7 nz8 nr8 rz8 rr8 nz9 nr9 rz9 rr9 nz10 nr10 rz10 rr10 nz11 nr11 rz11 rr11
    refine Q7 (v:=.agg #[.int .i64 f.code,.string ⟨t.name.toArray⟩,.int .i64 f.row.kind,.int .i64 f.row.n,.string ⟨f.row.s.toArray⟩,.slice p3 f.row.names.length k3,.slice p4 f.row.kids.length k4,.int .i64 f.other.kind,.int .i64 f.other.n,.string ⟨f.other.s.toArray⟩,.slice q3 f.other.names.length l3,.slice q4 f.other.kids.length l4]) (by simp [results,results51,go_sem,qq0,qq1,qq2,qq3,qq4,qq5,qq6,qq7,qq8,qq9,qq10,qq11]) rfl ⟨⟨f.code,t.name,f.row,f.other⟩,fun _=>.inr ⟨c,i,hlt,by rw [HN.out];exact hli,by rw [HCF.out];exact HZ.out,?_,?_⟩,fun h=>absurd HNB.out (by rw [h];decide),[.int .i64 f.code,.string ⟨t.name.toArray⟩,.int .i64 f.row.kind,.int .i64 f.row.n,.string ⟨f.row.s.toArray⟩,.slice p3 f.row.names.length k3,.slice p4 f.row.kids.length k4,.int .i64 f.other.kind,.int .i64 f.other.n,.string ⟨f.other.s.toArray⟩,.slice q3 f.other.names.length l3,.slice q4 f.other.kids.length l4],rfl,?_,HB9.out⟩
    ·show (⟨_,_,_,_⟩:Ft)=⟨(cf c i).code,((s.tables[i]?).getD Tbl.zero).name,(cf c i).row,(cf c i).other⟩
     rw [HCF.out,HTi.out];rfl
    ·intro c' i' h1 h2
     rcases h2 with h2 | ⟨rfl,h2⟩
     ·exact HI.out c' i' h2 (by rw [← HN.out];exact h1)
     exact HJ.out i' h2
    obtain ⟨c1,c2,hcc,_,h2,h3⟩:=HF9.out
    have hc1:c1=[.int .i64 f.row.kind,.int .i64 f.row.n,.string ⟨f.row.s.toArray⟩,.slice p3 f.row.names.length k3,.slice p4 f.row.kids.length k4]∧c2=[.int .i64 f.other.kind,.int .i64 f.other.n,.string ⟨f.other.s.toArray⟩,.slice q3 f.other.names.length l3,.slice q4 f.other.kids.length l4]:=by
     have e1:=h2.length;have e2:=h3.length
     match c1,e1,c2,e2,hcc with
     | [_,_,_,_,_],_,[_,_,_,_,_],_,hcc=>
      simp only [List.cons_append,List.nil_append,List.cons.injEq] at hcc
      obtain ⟨-,-,rfl,rfl,rfl,rfl,rfl,rfl,rfl,rfl,rfl,rfl,-⟩:=hcc
      exact ⟨rfl,rfl⟩
    exact ⟨_,_,rfl,HTN.out,hc1.1 ▸ h2,hc1.2 ▸ h3⟩
   obtain rfl:i=n:=by omega
   have hi4:¬ (i:Int)<(i:Int):=by omega
   go_wp2_with fail
   go_roundw
   case measure=>simp [intOf];omega
   case rel=>
    refine ⟨c+1,by omega,by go_num,HBv.out,(show Aside _ from fun c' i' hc' hi'=>?_)⟩
    by_cases e:c'=c
    ·subst e;exact HJ.out i' hi'
    exact HI.out c' i' (by omega) hi'
  obtain rfl:c=5:=by omega
  have HR36:=Qq (kB HBr.out HR3.out)
  have HB6:=Qq (HW3.out.trans (HBr.out.mono HW3.out.size))
  have rz:=fun j=>frozen_of_row _ _ j _ _ HR36.out
  have rr:=fun j=>Qk _ _ j _ _ _ HR36.out
  have rz0:=rz 0;have rz1:=rz 1;have rz2:=rz 2;have rz3:=rz 3;have rz4:=rz 4;have rz5:=rz 5;have rz6:=rz 6;have rz7:=rz 7;have rz8:=rz 8;have rz9:=rz 9;have rz10:=rz 10;have rz11:=rz 11
  have rr0:=rr 0;have rr1:=rr 1;have rr2:=rr 2;have rr3:=rr 3;have rr4:=rr 4;have rr5:=rr 5;have rr6:=rr 6;have rr7:=rr 7;have rr8:=rr 8;have rr9:=rr 9;have rr10:=rr 10;have rr11:=rr 11
  simp only [List.getElem?_toArray,List.getElem?_cons_zero,List.getElem?_cons_succ] at rr0 rr1 rr2 rr3 rr4 rr5 rr6 rr7 rr8 rr9 rr10 rr11
  clear rz rr
  go_wp2_with fail
  show bodyPost _ _ _ _ _ (Zh w6 (w.heap.size+1+1) (.int .i64 0) (.string ⟨#[]⟩) (.int .i64 0) (.int .i64 0) (.string ⟨#[]⟩) (.slice none 0 0) (.slice none 0 0) (.int .i64 0) (.int .i64 0) (.string ⟨#[]⟩) (.slice none 0 0) (.slice none 0 0))
  refine Q7 (v:=.agg zF) (by simp [results,results51,go_sem,Zb HR36.out]) rfl ⟨Ft.zero,fun _=>.inl ⟨rfl,fun c i hc hi=>HI.out c i hc (by rw [← HN.out];exact hi)⟩,fun h=>absurd HNB.out (by rw [h];decide),[.int .i64 0,.string ⟨#[]⟩,.int .i64 0,.int .i64 0,.string ⟨#[]⟩,.slice none 0 0,.slice none 0 0,.int .i64 0,.int .i64 0,.string ⟨#[]⟩,.slice none 0 0,.slice none 0 0],rfl,Ug _ _,Z3 HB6.out (by omega)⟩
end Go.Proofs.YtppbaladeefnkaaGreatDoor
