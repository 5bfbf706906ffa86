import Derived.Test.YtppbaladeefnkaaGreatDoorV32
set_option maxRecDepth 100000
set_option maxHeartbeats 400000000
namespace Go.Proofs.YtppbaladeefnkaaGreatDoor
open Go.RowKit Go.Shelf Go.Lib Tryz
def Jt (l:List Col):List Bs × List Ty:=l.foldl (fun A c=>(Y8 A.1 (below A.1 c.name) c.name,Y8 A.2 (below A.1 c.name) c.type)) ([],[])
def H6 (t:Tbl):Ty:=.mk 5 [] 0 (Jt t.columns).1 (Jt t.columns).2
theorem Dd (l:List Col) (c:Col):Jt (l++[c])=(Y8 (Jt l).1 (below (Jt l).1 c.name) c.name,Y8 (Jt l).2 (below (Jt l).1 c.name) c.type):=by unfold Jt;rw [List.foldl_append];rfl
theorem Gd {T:Type} (l:List T) (i:Nat) (x:T):(Y8 l i x).length=l.length+1:=by unfold Y8;simp [List.length_take,List.length_drop];omega
theorem O0 {T:Type} {l:List T} {i:Nat} {x y:T} (h:y ∈ Y8 l i x):y ∈ l∨y=x:=by
 unfold Y8 at h
 rcases List.mem_append.1 h with h | h
 ·exact .inl (List.mem_of_mem_take h)
 rcases List.mem_cons.1 h with h | h
 ·exact .inr h
 exact .inl (List.mem_of_mem_drop h)
theorem Ge:∀ (k:Nat) (l:List Col),l.length=k→(Jt l).1.length=l.length∧(Jt l).2.length=l.length∧∀ y ∈ (Jt l).2,∃ c ∈ l,c.type=y
 | 0,l,h=>by rw [List.eq_nil_of_length_eq_zero h];exact ⟨rfl,rfl,fun y hy=>by simp [Jt] at hy⟩
 | k+1,l,h=>by
  obtain ⟨l',c,rfl⟩:∃ l' c,l=l'++[c]:=⟨l.dropLast,l.getLast (by intro e;subst e;simp at h),(List.dropLast_concat_getLast (by intro e;subst e;simp at h)).symm⟩
  obtain ⟨h1,h2,h3⟩:=Ge k l' (by simpa using h)
  rw [Dd]
  refine ⟨by rw [Gd,h1];simp,by rw [Gd,h2];simp,fun y hy=>?_⟩
  rcases O0 hy with hy | rfl
  ·obtain ⟨c',hc,e⟩:=h3 y hy
   exact ⟨c',by simp [hc],e⟩
  exact ⟨c,by simp,rfl⟩
theorem Bq {T:Type} {l:List T} {k:Nat} {x:T} (h:l[k]?=some x):l.take (k+1)=l.take k++[x]:=by
 obtain ⟨h1,rfl⟩:=Qj h
 exact List.take_succ_eq_append_getElem h1
theorem Sl.col {S:Nat→Prop} {w:World} {p:Option Addr} {n cap:Nat} {xs:List Col} (h:Sl Y0 S w (.slice p n cap) xs) {i:Nat} {x:Col} (hx:xs[i]?=some x):
  ∃ b off tk ts tn t3 n3 l3 t4 n4 l4,p=some ⟨b,off,none⟩∧S b∧b<w.heap.size∧x.name.length≤1000000∧Y7 S w [.int .i64 tk,.string ts,.int .i64 tn,.slice t3 n3 l3,.slice t4 n4 l4] x.type∧w.cell? ⟨b,off+i*6,none⟩=some (.string ⟨x.name.toArray⟩)∧w.cell? ⟨b,off+i*6+1,none⟩=some (.int .i64 tk)∧w.cell? ⟨b,off+i*6+2,none⟩=some (.string ts)∧w.cell? ⟨b,off+i*6+3,none⟩=some (.int .i64 tn)∧w.cell? ⟨b,off+i*6+4,none⟩=some (.slice t3 n3 l3)∧w.cell? ⟨b,off+i*6+5,none⟩=some (.slice t4 n4 l4):=by
 obtain ⟨b,off,cs,rfl,hb,hS,_,hr,hc⟩:=h.elem hx
 obtain ⟨tc,rfl,hn,ht⟩:=hr
 obtain ⟨tk,ts,tn,t3,n3,l3,t4,n4,l4,rfl⟩:=ht.cells
 simp only [show Y0.k=6 from rfl] at hc
 exact ⟨b,off,tk,ts,tn,t3,n3,l3,t4,n4,l4,rfl,hS,hb,hn,ht,hc 0 _ rfl,hc 1 _ rfl,hc 2 _ rfl,hc 3 _ rfl,hc 4 _ rfl,hc 5 _ rfl⟩
theorem veil0 {P:Program} {id:Nat} {b:Bool} {Q:Exit→Act→World→Prop} {a:Act} {w:World} {o:Oper} {l:List Oper} (h:(Code.region id (List.toArray (veil o::l)) b).wp P Q a w):(Code.region id (List.toArray (o::l)) b).wp P Q a w:=h
def RowTIs (S:Nat→Prop) (w:World) (u:Ty) (m:Nat) (e:Ending) (w':World):Prop:=∃ p3 k3 p4 k4,e=.returned (.agg #[.int .i64 5,.string ⟨#[]⟩,.int .i64 0,.slice p3 m k3,.slice p4 m k4])∧Y7 (fun b=>S b∨w.heap.size≤b) w' [.int .i64 5,.string ⟨#[]⟩,.int .i64 0,.slice p3 m k3,.slice p4 m k4] u∧Below w.heap.size w w'
def Hv (S:Nat→Prop) (w W1:World) (t:Tbl) (k:Nat) (wx:World):Prop:=∃ p3 k3 p4 k4,k≤k3∧k≤k4∧wx.heap[w.heap.size+2]?=some (.cells #[.int .i64 5,.string ⟨#[]⟩,.int .i64 0,.slice p3 k k3,.slice p4 k k4] 70 (0,0)) ∧
 Sl Qp (fun b=>(S b∧b<w.heap.size)∨w.heap.size+3≤b) wx (.slice p3 k k3) (Jt (t.columns.take k)).1∧Sl Uq (fun b=>(S b∧b<w.heap.size)∨w.heap.size+3≤b) wx (.slice p4 k k4) (Jt (t.columns.take k)).2∧Below (w.heap.size+2) W1 wx
theorem Rw (S:Nat→Prop) (t:Tbl) (ct:List Value) (w:World) (ht0:Qt.R S w ct t) (hcl:t.columns.length≤1000):
  Calls prog 111 #[.agg ct.toArray] w (RowTIs S w (H6 t) t.columns.length):=by
 have ht:Qt.R (fun b=>S b∧b<w.heap.size) w ct t:=Qt.mono ht0 (fun b hb h=>⟨h,hb⟩)
 obtain ⟨cp0,cc0,kp0,kc0,rp0,rc0,k0,s10,n0,s20,p10,n10,c10,p20,n20,c20,p30,n30,c30,a0,z0,rfl,_,hcol,_,_,_⟩:=Zk ht
 unfold tcs
 have HC:=Qq hcol
 clear ht0 ht hcol
 obtain ⟨n,hn⟩:=eX (t.columns.length)
 rw [hn] at HC hcl ⊢
 have HN:=Qq hn
 clear hn
 go_enter func111,ntmps111
 go_wp2_with fail
 generalize hW1:((w.alloc _).alloc _).alloc _=W1
 have hb1:=eqB hW1 (Xr _ _ _ _)
 have hT1:=eqH (b:=w.heap.size) hW1 (Zd _ _ _ _)
 have hZ1:=eqH (b:=w.heap.size+1) hW1 (Z9 _ _ _ _)
 have hQ1:=eqH (b:=w.heap.size+2) hW1 (Zw _ _ _ _)
 have hz1:W1.heap.size=w.heap.size+3:=by rw [← hW1];simp
 have HB1:=Qq hb1;have HT1:=Qq hT1;have HZ1:=Qq hZ1;have HZS:=Qq hz1
 have hst:Hv S w W1 t 0 W1:=⟨none,0,none,0,Q9 _,Q9 _,hQ1,Sl.nil _ _ _,Sl.nil _ _ _,Qz _ _⟩
 clear hW1 hb1 hT1 hZ1 hQ1 hz1
 go_loopw [4] (fun i wr=>∃ k:Nat,k≤n∧i=.int .i64 k∧Aside (Hv S w W1 t k wr)) (fun i _=>n - (intOf i).toNat)
 case atStart=>exact ⟨0,Q8 _,rfl,hst⟩
 clear hst
 obtain ⟨k,hk,rfl,hMid⟩:=hrel
 obtain ⟨p3,k3,p4,k4,hk3,hk4,hQ,hns,hks,hBr⟩:=hMid.out
 have hTr:=kE hBr (by omega) HT1.out
 have hZr:=kE hBr (by omega) HZ1.out
 have hbw:Below w.heap.size w wr:=HB1.out.trans (hBr.mono (by omega))
 have hsr:=hBr.size
 have hzs:=HZS.out
 have HTr:=Qq hTr;have HZr:=Qq hZr;have HBr:=Qq hBr;have HBw:=Qq hbw;have HNs:=Qq hns;have HKs:=Qq hks;have HQ:=Qq hQ
 have c1:=rA1 hTr
 clear hTr hZr hBr hbw hns hks hMid
 by_cases hlt:k<n
 ·have hi1:(0:Int)≤(k:Int):=by omega
  have hi2:(k:Int)<(n:Int):=by omega
  obtain ⟨c,hc⟩:∃ c,t.columns[k]?=some c:=⟨_,Qx (by rw [HN.out];exact hlt)⟩
  have hsn:=Bq hc
  obtain ⟨cb,coff,tk,ts,tn,t3,n3,l3,t4,n4,l4,hcp,hcS,hcb,hcn,hcty,d0,d1,d2,d3,d4,d5⟩:=(HC.out.below HBw.out).col hc
  subst hcp
  have hcl2:=hcS.2
  have hll:=Ge _ (t.columns.take k) rfl
  have hlk:(t.columns.take k).length=k:=by rw [List.length_take,HN.out];omega
  rw [hlk] at hll
  have HTy:=Qq hcty;have HLL:=Qq hll;have HSn:=Qq hsn
  refine let_mvar% ?Lq1:=fun w':World=>w'.cell? ⟨w.heap.size,1,none⟩=some (.slice (some ⟨cb,coff,none⟩) n cc0)∧w'.cell? ⟨cb,coff+k*6,none⟩=some (.string ⟨c.name.toArray⟩)∧w'.cell? ⟨cb,coff+k*6+1,none⟩=some (.int .i64 tk)∧w'.cell? ⟨cb,coff+k*6+2,none⟩=some (.string ts)∧w'.cell? ⟨cb,coff+k*6+3,none⟩=some (.int .i64 tn)∧w'.cell? ⟨cb,coff+k*6+4,none⟩=some (.slice t3 n3 l3)∧w'.cell? ⟨cb,coff+k*6+5,none⟩=some (.slice t4 n4 l4);?_
  have HSf:=Qq (fun (w':World) (h:Below wr.heap.size wr w')=>(show ?Lq1 w' from ⟨kC h c1,kC h d0,kC h d1,kC h d2,kC h d3,kC h d4,kC h d5⟩))
  have HP:∀ w' x0 x1 x2 x3 x4,?Lq1 w'→?Lq1 (Zz w' (w.heap.size+2) x0 x1 x2 x3 x4):=fun w' x0 x1 x2 x3 x4 h=>⟨Qr (by omega) h.1,Qr (by omega) h.2.1,Qr (by omega) h.2.2.1,Qr (by omega) h.2.2.2.1,Qr (by omega) h.2.2.2.2.1,Qr (by omega) h.2.2.2.2.2.1,Qr (by omega) h.2.2.2.2.2.2⟩
  unfold Zz at HP
  have HP':=Qq HP
  have HS0:=Qq (HSf.out wr.drew (Qz _ _).drew)
  have hPut:=Qq (fun W (hW:Below wr.heap.size wr W)=>Pu (fun b=>(S b∧b<w.heap.size)∨w.heap.size+3≤b) 5 ⟨#[]⟩ 0 (Jt (t.columns.take k)).1 (Jt (t.columns.take k)).2 k p3 k3 p4 k4 c.name c.type [.int .i64 tk,.string ts,.int .i64 tn,.slice t3 n3 l3,.slice t4 n4 l4] W (HNs.out.below hW) (HKs.out.below hW) HLL.out.1 HLL.out.2.1 (HTy.out.move (.of_below hW) (fun _ _ h=>.inl h)) hk3 hk4 (by omega) hcn)
  unfold sv at hPut
  have hveil:∀ o,veil o=o:=fun _=>rfl
  obtain ⟨q0,q1,q2,q3,q4⟩:=row5 hQ
  have hQl:=Qf hQ
  clear hcty hll hlk hsn HP hQ
  go_upto_region 5 with fail
  clear c1 d0 d1 d2 d3 d4 d5
  refine veil0 ?_
  go_region_held3 ?Lq1 (first | with_reducible exact HS0.out | with_reducible exact hS2 | with_reducible exact HP'.out _ _ _ _ _ _ hS2)
   (first
    | (go_at_call 138;refine (hPut.out _ (Qz _ _).drew).mono ?_;rintro e w7 ⟨r3,m3,r4,m4,rfl,hm3,hm4,hv7,hb7⟩;have hb7':=(Qz _ wr).drew.thn hb7;have hS2:=HSf.out w7 hb7';have hQ7:=kE hb7' hQl HQ.out;have f0:=fA 0 hQ7;have y0:=Qk _ _ 0 _ _ _ hQ7;have f1:=fA 1 hQ7;have y1:=Qk _ _ 1 _ _ _ hQ7;have f2:=fA 2 hQ7;have y2:=Qk _ _ 2 _ _ _ hQ7;have f3:=fA 3 hQ7;have y3:=Qk _ _ 3 _ _ _ hQ7;have f4:=fA 4 hQ7;have y4:=Qk _ _ 4 _ _ _ hQ7;simp only [List.getElem?_toArray,List.getElem?_cons_zero,List.getElem?_cons_succ] at y0 y1 y2 y3 y4;have HQ7:=Qq hQ7;have HV7:=Qq hv7;have HB7:=Qq hb7';clear hv7 hb7 hb7' hQ7))
  all_goals
   go_wp2_with fail
   go_roundw
   case measure=>simp [intOf];omega
   case rel=>
    refine ⟨k+1,by omega,by go_num,(show Aside _ from ?_)⟩
    show Hv S w W1 t (k+1) (Zz w7 (w.heap.size+2) (.int .i64 5) (.string ⟨#[]⟩) (.int .i64 0) (.slice r3 (k+1) m3) (.slice r4 (k+1) m4))
    have hv7:=HV7.out
    have hs7:=HB7.out.size
    obtain ⟨nv,kv,hcs,_,hn7,hk7⟩:=L1.1 hv7
    simp only [List.cons.injEq,and_true,true_and] at hcs
    obtain ⟨-,rfl,rfl⟩:=hcs
    have hset:∀ b,((fun b=>(S b∧b<w.heap.size)∨w.heap.size+3≤b) b∨wr.heap.size≤b)→b≠w.heap.size+2:=fun b hb=>by
     rcases hb with (hb | hb) | hb
     ·have:=hb.2;omega
     ·omega
     omega
    have hmono:∀ b,((fun b=>(S b∧b<w.heap.size)∨w.heap.size+3≤b) b∨wr.heap.size≤b)→(fun b=>(S b∧b<w.heap.size)∨w.heap.size+3≤b) b:=fun b hb=>by
     rcases hb with hb | hb
     ·exact hb
     exact .inr (by omega)
    refine ⟨r3,m3,r4,m4,hm3,hm4,Yr HQ7.out,?_,?_,?_⟩
    ·rw [HSn.out,Dd]
     exact (hn7.frame (fun b hb _=>Qu (hset b hb))).mono (fun b _ hb=>hmono b hb)
    ·rw [HSn.out,Dd]
     exact (hk7.frame (fun b hb _=>Qu (hset b hb))).mono (fun b _ hb=>hmono b hb)
    exact Qo (HBr.out.trans (HB7.out.mono (by omega))) (Q9 _)
 have hkn:k=n:=by omega
 subst hkn
 have hfull:t.columns.take k=t.columns:=List.take_of_length_le (by rw [HN.out];exact Q9 _)
 rw [hfull] at HNs HKs
 obtain ⟨q0,q1,q2,q3,q4⟩:=row5 hQ
 obtain ⟨y0,y1,y2,y3,y4⟩:=row5 HZr.out
 obtain ⟨f0,f1,f2,f3,f4⟩:=frz5 HZr.out
 clear hQ hfull
 go_wp2_with fail
 show bodyPost _ _ _ _ _ (Zz wr (w.heap.size+1) (.int .i64 5) (.string ⟨#[]⟩) (.int .i64 0) (.slice p3 k k3) (.slice p4 k k4))
 refine Q7 (v:=.agg #[.int .i64 5,.string ⟨#[]⟩,.int .i64 0,.slice p3 k k3,.slice p4 k k4]) (by simp [results,results111,go_sem,Qm HZr.out]) rfl ⟨p3,k3,p4,k4,rfl,?_,Qo HBw.out (by omega)⟩
 have hset:∀ b,(fun b=>(S b∧b<w.heap.size)∨w.heap.size+3≤b) b→b≠w.heap.size+1:=fun b hb=>by
  rcases hb with hb | hb
  ·have:=hb.2;omega
  omega
 exact (Jj (s:=[]) (by simp) (HNs.out.frame (fun b hb _=>Qu (hset b hb))) (HKs.out.frame (fun b hb _=>Qu (hset b hb)))).move (.refl _ _) (fun b _ hb=>by
  rcases hb with hb | hb
  ·exact .inl hb.1
  exact .inr (by omega))
theorem Pg (a b c d e f g h i j k l:Value) (w:World):(Instr.field 94 (.agg #[a,b,c,d,e,f,g,h,i,j,k,l]) 0).run prog w=.ok a w:=by
 simp [Instr.field,go_sem,part,asAgg]
theorem pair_bd {a b:Int} (h:-1000≤a∧a≤1000):∀ p ∈ [((1:Int),(3:Int)),(a,b)],-1000≤p.1∧p.1≤1000:=by
 intro p hp
 simp at hp
 rcases hp with rfl | rfl
 ·decide
 exact h
def LvSt (w:World) (l:List (Int × Int)) (e:Ending) (w':World):Prop:=∃ p cap,e=.returned (.slice p 2 cap)∧Sl Z0 (fun _=>True) w' (.slice p 2 cap) (Law.st l)∧Below w.heap.size w w'
def CodeIs (w:World) (q:Int) (e:Ending) (w':World):Prop:=∃ a1 a2 a3 a4 a5 a6 a7 a8 a9 a10 a11:Value,e=.returned (.agg #[.int .i64 q,a1,a2,a3,a4,a5,a6,a7,a8,a9,a10,a11])∧Below w.heap.size w w'
theorem Du (S0 S1:Nat→Prop) (cs:List Value) (lv:Value) (l:List (Int × Int)) (q:Int) (w:World) (hs:Yn S0 w cs Law.sc) (hl:Sl Z0 S1 w lv (Law.st l)) (hkw:Xe w) (hll:l.length≤1000) (hb:∀ p ∈ l,-1000≤p.1∧p.1≤1000)
  (hi:Jl (l.map fun p=>Law.rT p.1 p.2)=true) (hq:∀ f,U1 Law.sc.tables.length (Law.cf l) (fun i=>((Law.sc.tables[i]?).getD Tbl.zero).name) f→f.code=q):
  Calls prog 51 #[.agg cs.toArray,lv] w (CodeIs w q):=by
 refine (checkOk S0 S1 Law.sc cs lv (Law.st l) _ _ _ w hs hl hkw (by decide) (Law.st_ok l hll hb)).mono ?_
 rintro e w' ⟨f,h1,_,cs',rfl,hf,hbw⟩
 obtain ⟨p3,k3,p4,k4,q3,l3,q4,l4,rfl,_⟩:=U5 hf
 have:=hq f (h1 (Law.st_norm l hi))
 refine ⟨.string ⟨f.table.toArray⟩,.int .i64 f.row.kind,.int .i64 f.row.n,.string ⟨f.row.s.toArray⟩,.slice p3 f.row.names.length k3,.slice p4 f.row.kids.length k4,.int .i64 f.other.kind,.int .i64 f.other.n,.string ⟨f.other.s.toArray⟩,.slice q3 f.other.names.length l3,.slice q4 f.other.kids.length l4,?_,hbw⟩
 rw [← this]
 rfl
theorem R9 (w:World) (hkw:Xe w):Calls prog 18 #[] w fun e w'=>e=.returned (.bool true)∧Below w.heap.size w w':=by
 have mixed:(prog).follows .mixedOrders=true:=by kernel_rfl
 go_enter func18,ntmps18
 go_upto_region 6 with fail
 obtain ⟨W6,hW6⟩:=eX ((World.alloc (World.alloc (World.alloc (World.alloc (World.alloc (World.alloc (World.alloc (World.alloc (World.alloc (World.alloc (World.alloc (World.alloc w (.cells zY 70)) (.cells #[.string ⟨#[107]⟩,.int .i64 0,.string ⟨#[]⟩,.int .i64 0,.slice none 0 0,.slice none 0 0] 78)) (.cells #[.string ⟨#[107]⟩] 9)) (.cells #[.string ⟨#[117]⟩,.slice (some ⟨w.heap.size+1,0,none⟩) 1 1,.slice (some ⟨w.heap.size+1+1,0,none⟩) 1 1,.slice none 0 0,.int .i64 2,.string ⟨#[]⟩,.int .i64 1,.string ⟨#[]⟩,.slice none 0 0,.slice none 0 0,.slice none 0 0,.int .i64 0,.int .i64 0] 37)) (.cells #[.int .i64 3,.string ⟨#[97]⟩,.int .i64 0,.string ⟨#[]⟩,.slice none 0 0,.slice none 0 0,.slice none 0 0,.int .i64 0,.int .i64 0,.int .i64 3,.string ⟨#[98]⟩,.int .i64 0,.string ⟨#[]⟩,.slice none 0 0,.slice none 0 0,.slice none 0 0,.int .i64 0,.int .i64 0] 35)) (.cells #[.int .i64 14,.string ⟨#[60]⟩,.int .i64 0,.string ⟨#[]⟩,.slice none 0 0,.slice none 0 0,.slice (some ⟨w.heap.size+1+1+1+1,0,none⟩) 2 2,.int .i64 0,.int .i64 0] 35)) (.cells #[.string ⟨#[97]⟩,.int .i64 0,.string ⟨#[]⟩,.int .i64 0,.slice none 0 0,.slice none 0 0,.string ⟨#[98]⟩,.int .i64 0,.string ⟨#[]⟩,.int .i64 0,.slice none 0 0,.slice none 0 0] 78)) (.cells #[.string ⟨#[97]⟩] 9)) (.cells #[.string ⟨#[98]⟩,.string ⟨#[117]⟩] 80)) (.cells #[.string ⟨#[116]⟩,.slice (some ⟨w.heap.size+1+1+1+1+1+1,0,none⟩) 2 2,.slice (some ⟨w.heap.size+1+1+1+1+1+1+1,0,none⟩) 1 1,.slice (some ⟨w.heap.size+1+1+1+1+1+1+1+1,0,none⟩) 1 1,.int .i64 14,.string ⟨#[60]⟩,.int .i64 0,.string ⟨#[]⟩,.slice none 0 0,.slice none 0 0,.slice (some ⟨w.heap.size+1+1+1+1,0,none⟩) 2 2,.int .i64 0,.int .i64 0] 37)) (.cells #[.string ⟨#[116]⟩,.slice (some ⟨w.heap.size+1+1+1+1+1+1,0,none⟩) 2 2,.slice (some ⟨w.heap.size+1+1+1+1+1+1+1,0,none⟩) 1 1,.slice (some ⟨w.heap.size+1+1+1+1+1+1+1+1,0,none⟩) 1 1,.int .i64 14,.string ⟨#[60]⟩,.int .i64 0,.string ⟨#[]⟩,.slice none 0 0,.slice none 0 0,.slice (some ⟨w.heap.size+1+1+1+1,0,none⟩) 2 2,.int .i64 0,.int .i64 0,.string ⟨#[117]⟩,.slice (some ⟨w.heap.size+1,0,none⟩) 1 1,.slice (some ⟨w.heap.size+1+1,0,none⟩) 1 1,.slice none 0 0,.int .i64 2,.string ⟨#[]⟩,.int .i64 1,.string ⟨#[]⟩,.slice none 0 0,.slice none 0 0,.slice none 0 0,.int .i64 0,.int .i64 0] 37)) (.cells #[.slice none 0 0,.slice (some ⟨w.heap.size+1+1+1+1+1+1+1+1+1+1,0,none⟩) 2 2] 26)))
 have k1:=eqH (b:=w.heap.size+1) hW6 (Qi (Qi (Qi (Qi (Qi (Qi (Qi (Qi (Qi (Qi (Z8 (by simp) _) _) _) _) _) _) _) _) _) _) _)
 have k2:=eqH (b:=w.heap.size+1+1) hW6 (Qi (Qi (Qi (Qi (Qi (Qi (Qi (Qi (Qi (Z8 (by simp) _) _) _) _) _) _) _) _) _) _)
 have k4:=eqH (b:=w.heap.size+1+1+1+1) hW6 (Qi (Qi (Qi (Qi (Qi (Qi (Qi (Z8 (by simp) _) _) _) _) _) _) _) _)
 have k6:=eqH (b:=w.heap.size+1+1+1+1+1+1) hW6 (Qi (Qi (Qi (Qi (Qi (Z8 (by simp) _) _) _) _) _) _)
 have k7:=eqH (b:=w.heap.size+1+1+1+1+1+1+1) hW6 (Qi (Qi (Qi (Qi (Z8 (by simp) _) _) _) _) _)
 have k8:=eqH (b:=w.heap.size+1+1+1+1+1+1+1+1) hW6 (Qi (Qi (Qi (Z8 (by simp) _) _) _) _)
 have k10:=eqH (b:=w.heap.size+1+1+1+1+1+1+1+1+1+1) hW6 (Qi (Z8 (by simp) _) _)
 have k11:=eqH (b:=w.heap.size+1+1+1+1+1+1+1+1+1+1+1) hW6 (Z8 (by simp) _)
 have hb6:=eqB hW6 (Zq (Zq (Zq (Zq (Zq (Zq (Zq (Zq (Zq (Zq (Zq (Qn w _) _) _) _) _) _) _) _) _) _) _) _)
 rw [hW6]
 have hsc:Yn (fun b=>b<W6.heap.size) W6 [.slice none 0 0,.slice (some ⟨w.heap.size+1+1+1+1+1+1+1+1+1+1,0,none⟩) 2 2] Law.sc:=by
  refine ⟨_,_,rfl,Sl.nil _ _ _,?_⟩
  refine Z4 (xs:=Law.sc.tables) k10 (Qf k10) ((Cs.one (r:=Qt) (c:=[.string ⟨#[116]⟩,.slice (some ⟨w.heap.size+1+1+1+1+1+1,0,none⟩) 2 2,.slice (some ⟨w.heap.size+1+1+1+1+1+1+1,0,none⟩) 1 1,.slice (some ⟨w.heap.size+1+1+1+1+1+1+1+1,0,none⟩) 1 1,.int .i64 14,.string ⟨#[60]⟩,.int .i64 0,.string ⟨#[]⟩,.slice none 0 0,.slice none 0 0,.slice (some ⟨w.heap.size+1+1+1+1,0,none⟩) 2 2,.int .i64 0,.int .i64 0]) (x:=Law.tT) ⟨_,_,_,_,rfl,by simp [Law.tT],?_,?_,?_,?_⟩).app (Cs.one (r:=Qt) (c:=[.string ⟨#[117]⟩,.slice (some ⟨w.heap.size+1,0,none⟩) 1 1,.slice (some ⟨w.heap.size+1+1,0,none⟩) 1 1,.slice none 0 0,.int .i64 2,.string ⟨#[]⟩,.int .i64 1,.string ⟨#[]⟩,.slice none 0 0,.slice none 0 0,.slice none 0 0,.int .i64 0,.int .i64 0]) (x:=Law.uT) ⟨_,_,_,_,rfl,by simp [Law.uT],?_,?_,Sl.nil _ _ _,Hq _ _ none none none 0 0 0⟩)) rfl rfl (by simp [Law.sc])
  ·exact Z4 (xs:=Law.tT.columns) k6 (Qf k6) ((Cs.one (r:=Y0) (Xc [97] 0 [] (by simp) (by simp))).app (Cs.one (r:=Y0) (Xc [98] 0 [] (by simp) (by simp)))) rfl rfl (by simp [Law.tT])
  ·exact Z4 (xs:=Law.tT.key) k7 (Qf k7) (Jv [97] (by simp)) rfl rfl (by simp [Law.tT])
  ·exact Z4 (xs:=Law.tT.refs) k8 (Qf k8) (Cs.one (r:=Jb) (x:=⟨[98],[117]⟩) (c:=[.string ⟨#[98]⟩,.string ⟨#[117]⟩]) ⟨rfl,by simp,by simp⟩) rfl rfl (by simp [Law.tT])
  ·refine Yk (nm:=[60]) (s:=[]) (by simp) (by simp) (Sl.nil _ _ _) (Sl.nil _ _ _) ?_
   exact Z4 (xs:=[Gen.a,Gen.b]) k4 (Qf k4) ((Cs.one (r:=Ys) (x:=Gen.var [97]) (show Z6 _ W6 [.int .i64 3,.string ⟨#[97]⟩,.int .i64 0,.string ⟨#[]⟩,.slice none 0 0,.slice none 0 0,.slice none 0 0,.int .i64 0,.int .i64 0] (Gen.var [97]) from Yk (nm:=[97]) (s:=[]) (by simp) (by simp) (Sl.nil _ _ _) (Sl.nil _ _ _) (Sl.nil _ _ _))).app (Cs.one (r:=Ys) (x:=Gen.var [98]) (show Z6 _ W6 [.int .i64 3,.string ⟨#[98]⟩,.int .i64 0,.string ⟨#[]⟩,.slice none 0 0,.slice none 0 0,.slice none 0 0,.int .i64 0,.int .i64 0] (Gen.var [98]) from Yk (nm:=[98]) (s:=[]) (by simp) (by simp) (Sl.nil _ _ _) (Sl.nil _ _ _) (Sl.nil _ _ _)))) rfl rfl (by simp)
  ·exact Z4 (xs:=Law.uT.columns) k1 (Qf k1) (Cs.one (r:=Y0) (Xc [107] 0 [] (by simp) (by simp))) rfl rfl (by simp [Law.uT])
  exact Z4 (xs:=Law.uT.key) k2 (Qf k2) (Jv [107] (by simp)) rfl rfl (by simp [Law.uT])
 obtain ⟨c0,c1⟩:=row2 k11
 have HSc:=Qq hsc;have HB6:=Qq hb6;have K11:=Qq k11;have HK6:=Qq (hkw.below hb6)
 have HEm:Hid (Calls prog 29 #[.agg #[.slice none 0 0,.slice (some ⟨w.heap.size+1+1+1+1+1+1+1+1+1+1,0,none⟩) 2 2]] W6 (X9 W6 [⟨[116],[]⟩,⟨[117],[]⟩])):=Qq ((Tz _ Law.sc _ W6 hsc (by decide) (by decide)).mono (fun e w' ⟨p,cap,he,hst,hb⟩=>⟨p,cap,he,hst.sl (by decide) (by decide) (fun _=>True) (fun _ _=>trivial) (fun _ _ _=>trivial),hb⟩))
 clear hsc hb6 hW6 hkw k1 k2 k4 k6 k7 k8 k10 k11
 go_wp2_with fail
 refine HEm.out.mono ?_
 rintro e w7 ⟨p7,cap7,rfl,hSl7,hb7⟩
 have HSl7:=Qq hSl7;have HB7:=Qq hb7
 clear hSl7 hb7 HEm
 go_wp2_with fail
 obtain ⟨W8,hW8⟩:=eX ((w7.alloc (.cells #[.string ⟨#[107]⟩] 9)).alloc (.cells #[.int .i64 0,.int .i64 3,.string ⟨#[]⟩,.slice none 0 0,.slice none 0 0] 44))
 rw [hW8]
 have hb8:=eqB hW8 (Zv _ _ _)
 have hx8:Qh (fun _=>True) W8 [.int .i64 4,.int .i64 0,.string ⟨#[]⟩,.slice (some ⟨w7.heap.size,0,none⟩) 1 1,.slice (some ⟨w7.heap.size+1,0,none⟩) 1 1] (Law.rU 3):=by
  refine Zn (s:=[]) (by simp) ?_ ?_
  ·exact Z4 (xs:=[[107]]) (show W8.heap[w7.heap.size]?=some _ by rw [← hW8];exact Q5 _ _ _) trivial (Jv [107] (by simp)) rfl rfl (by simp)
  exact Z4 (xs:=[Xi 3]) (show W8.heap[w7.heap.size+1]?=some _ by rw [← hW8];exact Q6 _ _ _) trivial (Cs.one (r:=Ql) (Dp _ W8 3)) rfl rfl (by simp)
 have HB8:=Qq (HB7.out.thn hb8)
 have HI8:Hid (Calls prog 22 #[.slice p7 2 cap7,.string ⟨#[117]⟩,.agg #[.int .i64 4,.int .i64 0,.string ⟨#[]⟩,.slice (some ⟨w7.heap.size,0,none⟩) 1 1,.slice (some ⟨w7.heap.size+1,0,none⟩) 1 1]] W8 (X9 W8 [⟨[116],[]⟩,⟨[117],[Law.rU 3]⟩])):=
  Qq (Uu _ _ _ [⟨[116],[]⟩,⟨[117],[]⟩] [117] (Law.rU 3) _ W8 1 ⟨[117],[]⟩ (HSl7.out.below hb8) hx8 (by decide) rfl (by simp) (by simp) (by simp))
 clear hb8 hx8 hW8
 refine HI8.out.mono ?_
 rintro e w9 ⟨p9,cap9,rfl,hSl9,hb9⟩
 have HSl9:=Qq hSl9;have HB9:=Qq (HB8.out.thn hb9)
 have HR9:Hid (Calls prog 50 #[.string ⟨#[97]⟩,.int .i64 1,.string ⟨#[98]⟩,.int .i64 3] w9 (Fm w9 (Law.rT 1 3))):=Qq (Ku [97] [98] 1 3 w9 (by simp) (by simp))
 clear hSl9 hb9 HI8
 go_wp2_with fail
 refine HR9.out.mono ?_
 rintro e w10 ⟨cx,rfl,hx10,hb10⟩
 obtain ⟨x3,m3,x4,m4,hcs,_⟩:=Qh.cells hx10
 simp only [vcs] at hcs
 subst hcs
 have HB10:=Qq (HB9.out.thn hb10)
 have HI10:Hid (Calls prog 22 #[.slice p9 2 cap9,.string ⟨#[116]⟩,.agg #[.int .i64 4,.int .i64 0,.string ⟨#[]⟩,.slice x3 2 m3,.slice x4 2 m4]] w10 (LvSt w10 [(1,3)])):=
  Qq (Uu _ _ _ [⟨[116],[]⟩,⟨[117],[Law.rU 3]⟩] [116] (Law.rT 1 3) _ w10 0 ⟨[116],[]⟩ (HSl9.out.below hb10) hx10 (by decide) rfl (by simp) (by simp) (by simp))
 clear hx10 hb10 HR9
 go_wp2_with fail
 refine HI10.out.mono ?_
 rintro e w11 ⟨p11,cap11,rfl,hSl11,hb11⟩
 have HSl11:=Qq hSl11;have HB11:=Qq (HB10.out.thn hb11)
 clear hSl11 hb11 HI10
 have HR0:Hid (Calls prog 50 #[.string ⟨#[97]⟩,.int .i64 1,.string ⟨#[98]⟩,.int .i64 4] w11 (Fm w11 (Law.rT 1 4))):=Qq (Ku [97] [98] 1 4 w11 (by simp) (by simp))
 go_wp2_with fail
 refine HR0.out.mono ?_
 rintro e w12 ⟨cx,rfl,hx,hbx⟩
 obtain ⟨y0,m0,z0,n0,hcs,_⟩:=Qh.cells hx
 obtain rfl:cx=[.int .i64 4,.int .i64 0,.string ⟨#[]⟩,.slice y0 2 m0,.slice z0 2 n0]:=hcs
 have HX0:=Qq hx;have HB12:=Qq (HB11.out.thn hbx);have HS12:=Qq hbx
 clear hx hbx HR0
 have HR1:Hid (Calls prog 50 #[.string ⟨#[97]⟩,.int .i64 2,.string ⟨#[98]⟩,.int .i64 4] w12 (Fm w12 (Law.rT 2 4))):=Qq (Ku [97] [98] 2 4 w12 (by simp) (by simp))
 go_wp2_with fail
 refine HR1.out.mono ?_
 rintro e w13 ⟨cx,rfl,hx,hbx⟩
 obtain ⟨y1,m1,z1,n1,hcs,_⟩:=Qh.cells hx
 obtain rfl:cx=[.int .i64 4,.int .i64 0,.string ⟨#[]⟩,.slice y1 2 m1,.slice z1 2 n1]:=hcs
 have HX1:=Qq hx;have HB13:=Qq (HB12.out.thn hbx);have HS13:=Qq hbx
 clear hx hbx HR1
 have HR2:Hid (Calls prog 50 #[.string ⟨#[97]⟩,.int .i64 5,.string ⟨#[98]⟩,.int .i64 3] w13 (Fm w13 (Law.rT 5 3))):=Qq (Ku [97] [98] 5 3 w13 (by simp) (by simp))
 go_wp2_with fail
 refine HR2.out.mono ?_
 rintro e w14 ⟨cx,rfl,hx,hbx⟩
 obtain ⟨y2,m2,z2,n2,hcs,_⟩:=Qh.cells hx
 obtain rfl:cx=[.int .i64 4,.int .i64 0,.string ⟨#[]⟩,.slice y2 2 m2,.slice z2 2 n2]:=hcs
 have HX2:=Qq hx;have HB14:=Qq (HB13.out.thn hbx);have HS14:=Qq hbx
 clear hx hbx HR2
 go_upto_region 10 with fail
 obtain ⟨W15,hW15⟩:=eX ((w14.alloc (.cells #[.int .i64 4,.int .i64 0,.string ⟨#[]⟩,.slice y0 2 m0,.slice z0 2 n0,.int .i64 4,.int .i64 0,.string ⟨#[]⟩,.slice y1 2 m1,.slice z1 2 n1,.int .i64 4,.int .i64 0,.string ⟨#[]⟩,.slice y2 2 m2,.slice z2 2 n2] 44)).alloc (.cells #[.int .i64 11,.int .i64 12,.int .i64 13] 58))
 have hb15:=eqB hW15 (Zv _ _ _)
 have hm15:=eqH (b:=w14.heap.size) hW15 (Q5 _ _ _)
 have hn15:=eqH (b:=w14.heap.size+1) hW15 (Q6 _ _ _)
 have HB15:=Qq (HB14.out.thn hb15)
 have d0:=(HB15.out.cell (p:=⟨w.heap.size+1+1+1+1+1+1+1+1+1+1+1,0,none⟩) (Qf K11.out)).trans c0
 have d1:=(HB15.out.cell (p:=⟨w.heap.size+1+1+1+1+1+1+1+1+1+1+1,1,none⟩) (Qf K11.out)).trans c1
 have hb11:=((HS12.out.thn HS13.out).thn HS14.out).thn hb15
 have HCk:=Qq (Du _ _ [.slice none 0 0,.slice (some ⟨w.heap.size+1+1+1+1+1+1+1+1+1+1,0,none⟩) 2 2] (.slice p11 2 cap11) [(1,3)] 0 W15 (HSc.out.below HB15.out) (HSl11.out.below hb11) (HK6.out.below HB15.out) (by decide) (by decide) (Law.inc1 1 3) (fun f h=>Law.code0 h))
 have HM15:=Qq hm15;have HN15:=Qq hn15;have HB11':=Qq hb11
 have HXa:=Qq (Qh.move (S':=fun _=>True) HX0.out (.of_below ((HS13.out.thn HS14.out).thn hb15)) (fun _ _ _=>trivial));have HXb:=Qq (Qh.move (S':=fun _=>True) HX1.out (.of_below (HS14.out.thn hb15)) (fun _ _ _=>trivial));have HXc:=Qq (Qh.move (S':=fun _=>True) HX2.out (.of_below hb15) (fun _ _ _=>trivial))
 rw [hW15]
 clear hb15 hm15 hn15 hb11 hW15 c0 c1
 go_wp2_with fail
 refine HCk.out.mono ?_
 rintro e w16 ⟨a1,a2,a3,a4,a5,a6,a7,a8,a9,a10,a11,rfl,hb16⟩
 have hfd:=fun W=>Pg (.int .i64 0) a1 a2 a3 a4 a5 a6 a7 a8 a9 a10 a11 W
 have HB16:=Qq hb16
 clear hb16 HCk
 go_wp2_with fail
 go_loopw [9] (fun i wr=>∃ k:Nat,k≤3∧i=.int .i64 k∧Below W15.heap.size W15 wr) (fun i _=>3 - (intOf i).toNat)
 case atStart=>exact ⟨0,Q8 _,rfl,HB16.out⟩
 obtain ⟨k,hk3,rfl,hBr⟩:=hrel
 have HBr:=Qq hBr
 clear hBr
 by_cases hlt:k<3
 ·have hcase:∃ (a b q:Int) (yy:Option Addr) (mm:Nat) (zz9:Option Addr) (nn:Nat),(∀ (j:Nat) (u:Value),[.int .i64 4,.int .i64 0,.string ⟨#[]⟩,.slice yy 2 mm,.slice zz9 2 nn][j]?=some u→(#[.int .i64 4,.int .i64 0,.string ⟨#[]⟩,.slice y0 2 m0,.slice z0 2 n0,.int .i64 4,.int .i64 0,.string ⟨#[]⟩,.slice y1 2 m1,.slice z1 2 n1,.int .i64 4,.int .i64 0,.string ⟨#[]⟩,.slice y2 2 m2,.slice z2 2 n2]:Array Value)[k*5+j]?=some u)∧(#[.int .i64 11,.int .i64 12,.int .i64 13]:Array Value)[k]?=some (.int .i64 q) ∧
    Qh (fun _=>True) W15 [.int .i64 4,.int .i64 0,.string ⟨#[]⟩,.slice yy 2 mm,.slice zz9 2 nn] (Law.rT a b)∧eqv (Law.rT 1 3) (Law.rT a b)=false∧decide (0<Z1 (Law.rT 1 3) (Law.rT a b))=false∧(-1000≤a∧a≤1000)∧Jl ([(1,3),(a,b)].map fun p=>Law.rT p.1 p.2)=true ∧
    ∀ f,U1 Law.sc.tables.length (Law.cf [(1,3),(a,b)]) (fun i=>((Law.sc.tables[i]?).getD Tbl.zero).name) f→f.code=q:=by
   match k,hlt with
  | 0,_=>exact ⟨1,4,11,y0,m0,z0,n0,fun j u hu=>(by
    match j,hu with
    | 0,hu=>exact hu
    | 1,hu=>exact hu
    | 2,hu=>exact hu
    | 3,hu=>exact hu
    | 4,hu=>exact hu),rfl,HXa.out,by decide,by decide,by decide,(Law.inc2 1 3 1 4 (by decide)),fun f h=>Law.code1 h⟩
  | 1,_=>exact ⟨2,4,12,y1,m1,z1,n1,fun j u hu=>(by
    match j,hu with
    | 0,hu=>exact hu
    | 1,hu=>exact hu
    | 2,hu=>exact hu
    | 3,hu=>exact hu
    | 4,hu=>exact hu),rfl,HXb.out,by decide,by decide,by decide,(Law.inc2 1 3 2 4 (by decide)),fun f h=>Law.code2 h⟩
  | 2,_=>exact ⟨5,3,13,y2,m2,z2,n2,fun j u hu=>(by
    match j,hu with
    | 0,hu=>exact hu
    | 1,hu=>exact hu
    | 2,hu=>exact hu
    | 3,hu=>exact hu
    | 4,hu=>exact hu),rfl,HXc.out,by decide,by decide,by decide,(Law.inc2 1 3 5 3 (by decide)),fun f h=>Law.code3 h⟩
  obtain ⟨a,b,q,yy,mm,zz9,nn,hcx,hcq,hxv,hne,hgr,hab,hin,hcode⟩:=hcase
  have hi1:(0:Int)≤(k:Int):=by omega
  have hi2:(k:Int)<3:=by omega
  have hq:(q != q)=false:=by simp
  have hM:=kB HBr.out HM15.out
  have hN:=kB HBr.out HN15.out
  have hS6:=HB15.out.thn HBr.out
  have hKr:=kB hS6 K11.out
  refine let_mvar% ?Lq1:=fun w':World=>w'.cell? ⟨w.heap.size+1+1+1+1+1+1+1+1+1+1+1,0,none⟩=some (.slice none 0 0)∧w'.cell? ⟨w.heap.size+1+1+1+1+1+1+1+1+1+1+1,1,none⟩=some (.slice (some ⟨w.heap.size+1+1+1+1+1+1+1+1+1+1,0,none⟩) 2 2)∧w'.cell? ⟨w14.heap.size,k*5,none⟩=some (.int .i64 4)∧w'.cell? ⟨w14.heap.size,k*5+1,none⟩=some (.int .i64 0)∧w'.cell? ⟨w14.heap.size,k*5+2,none⟩=some (.string ⟨#[]⟩)∧w'.cell? ⟨w14.heap.size,k*5+3,none⟩=some (.slice yy 2 mm)∧w'.cell? ⟨w14.heap.size,k*5+4,none⟩=some (.slice zz9 2 nn)∧w'.cell? ⟨w14.heap.size+1,k,none⟩=some (.int .i64 q)∧Below wr.heap.size wr w';?_
  have HS:∀ w',Below wr.heap.size wr w'→?Lq1 w':=by
   intro w' h
   have hm:=kB h hM
   have hn:=kB h hN
   have hk:=kB h hKr
   have e:∀ (j:Nat) (u:Value),[.int .i64 4,.int .i64 0,.string ⟨#[]⟩,.slice yy 2 mm,.slice zz9 2 nn][j]?=some u→w'.cell? ⟨w14.heap.size,k*5+j,none⟩=some u:=fun j u hu=>by rw [Qk _ _ _ _ _ _ hm];exact hcx j u hu
   exact ⟨by rw [Qk _ _ _ _ _ _ hk];rfl,by rw [Qk _ _ _ _ _ _ hk];rfl,e 0 _ rfl,e 1 _ rfl,e 2 _ rfl,e 3 _ rfl,e 4 _ rfl,by rw [Qk _ _ _ _ _ _ hn];exact hcq,h⟩
  have HB9:∀ w',?Lq1 w'→Below wr.heap.size wr w':=fun w' h=>h.2.2.2.2.2.2.2.2
  have HX9:∀ w' w'',?Lq1 w'→Below w'.heap.size w' w''→?Lq1 w'':=fun w' w'' h h2=>HS w'' ((HB9 w' h).thn h2)
  have HIk:=Qq (fun W' (h':?Lq1 W')=>(show Calls prog 22 #[.slice p11 2 cap11,.string ⟨#[116]⟩,.agg #[.int .i64 4,.int .i64 0,.string ⟨#[]⟩,.slice yy 2 mm,.slice zz9 2 nn]] W' (LvSt W' [(1,3),(a,b)]) from Uu _ _ _ (Law.st [(1,3)]) [116] (Law.rT a b) _ W' 0 ⟨[116],[Law.rT 1 3]⟩ (HSl11.out.below (HB11'.out.thn (HBr.out.thn (HB9 W' h')))) (Qh.move hxv (.of_below (HBr.out.thn (HB9 W' h'))) (fun _ _ h=>h)) (by decide) rfl
   (by intro y hy;simp at hy;subst hy;exact hne) (by intro y hy;simp at hy;subst hy;exact hgr) (by intro r hr;simp [Law.st] at hr;rcases hr with rfl | rfl <;> simp)).mono (R':=fun e w2=>∃ p cap,e=.returned (.slice p 2 cap)∧Sl Z0 (fun _=>True) w2 (.slice p 2 cap) (Law.st [(1,3),(a,b)])∧?Lq1 w2) (by
   rintro e w2 ⟨p,cap,rfl,h3,h4⟩
   exact ⟨p,cap,rfl,h3,HX9 _ _ h' h4⟩))
  have HC2:=Qq (fun W' v (h':?Lq1 W') (hsl:Sl Z0 (fun _=>True) W' v (Law.st [(1,3),(a,b)]))=>(Du _ _ [.slice none 0 0,.slice (some ⟨w.heap.size+1+1+1+1+1+1+1+1+1+1,0,none⟩) 2 2] v [(1,3),(a,b)] q W' (HSc.out.below (HB15.out.thn (HBr.out.thn (HB9 W' h')))) hsl (HK6.out.below (HB15.out.thn (HBr.out.thn (HB9 W' h')))) (by simp) (pair_bd hab) hin hcode).mono (R':=fun e w2=>(∃ a1 a2 a3 a4 a5 a6 a7 a8 a9 a10 a11:Value,e=.returned (.agg #[.int .i64 q,a1,a2,a3,a4,a5,a6,a7,a8,a9,a10,a11]))∧?Lq1 w2) (by
   rintro e w2 ⟨a1,a2,a3,a4,a5,a6,a7,a8,a9,a10,a11,rfl,h4⟩
   exact ⟨⟨a1,a2,a3,a4,a5,a6,a7,a8,a9,a10,a11,rfl⟩,HX9 _ _ h' h4⟩))
  have HHS:=Qq (HS wr.drew (Qz _ _).drew);have HB9':=Qq HB9
  clear HS HB9 HX9 hcx hcq hxv hne hgr hab hin hcode hM hN hS6 hKr hfd d0 d1
  go_wp2_with fail
  go_region_held3 ?Lq1 (first | with_reducible exact HHS.out | with_reducible exact hS18 | with_reducible exact hS17)
   (first
    | (go_at_call 22;refine (HIk.out _ (by assumption)).mono ?_;rintro e w17 ⟨p17,cap17,rfl,hs17,hS17⟩)
    | (go_at_call 51;refine (HC2.out _ _ (by assumption) hs17).mono ?_;rintro e w18 ⟨⟨a1,a2,a3,a4,a5,a6,a7,a8,a9,a10,a11,rfl⟩,hS18⟩;have hfd:=fun W=>Pg (.int .i64 q) a1 a2 a3 a4 a5 a6 a7 a8 a9 a10 a11 W))
  have HB18:=Qq (HB9'.out _ hS18)
  clear hS18 hS17 hs17
  go_wp2_with fail
  go_roundw
  case measure=>simp [intOf];omega
  case rel=>exact ⟨k+1,by omega,by go_num,HBr.out.thn HB18.out⟩
 obtain rfl:k=3:=by omega
 go_wp2_with fail
 go_ret
 exact ⟨rfl,HB6.out.thn (HB15.out.thn HBr.out)⟩
end Go.Proofs.YtppbaladeefnkaaGreatDoor
