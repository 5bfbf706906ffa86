import Derived.Test.YtppbaladeefnkaaGreatDoorV20
set_option maxRecDepth 100000
set_option maxHeartbeats 400000000
namespace Go.Proofs.YtppbaladeefnkaaGreatDoor
open Go.RowKit Go.Shelf Go.Lib Tryz
section
variable {P:Program} {T:Type}
theorem Sp {r:Rd T} (hk:0<r.k) (h1:∀ S w cs x,r.R S w cs x→∀ u ∈ cs,u.oneCell'=true) {ops:Array Oper} {o:Oper} {a:Act} {K:Act→World→Prop} {Q:Exit→Act→World→Prop} {X:Prop} (hgd:o.guard=none) (s x:Operand) (t:TypeId)
  (ho:o.op=.call { callee:=.builtin .append,args:=#[s,x],argTypes:=#[t,t] }) (E:TypeId) (i:TypeInfo) (z:Value) (bytes:Nat) (ht:P.underlying t=some (.slice E)) (hi:P.info? E=some i) (hz:i.zero=some z)
  (hsize:i.size=r.k) (hby:i.bytes=bytes) (hzs:z.cells.size=r.k) (hb1:bytes≤1000) (S:Nat→Prop) (B:Nat) (w:World) (v:Value) (xs:List T) (css:List (List Value)) (hs:a.eval s=v)
  (hO:Own r E S B w v xs css) (v2:Value) (ys:List T) (hx:a.eval x=v2) (hY:Sl r (But S v) w v2 ys) (n:Nat) (hn:xs.length+ys.length=n) (hl:n≤1000000) (hB:B≤w.heap.size)
  (h:∀ p cap css' w1,Own r E S B w1 (.slice p n cap) (xs++ys) css'→Bo B w w1 v (.slice p n cap)→K (a.put o.dst (.slice p n cap)) w1):
  if Region.wanted o (yielded ops a.tmps)=true then Oper.wp P o a w K Q else X:=by
 subst hn
 obtain ⟨q,c,rfl,_⟩:=hY.len
 have hv:∀ g,v.ownBlock=some g→B≤g:=fun g hg=>(hO.row.lt g hg).1
 exact step_cat (r:=r) hk hgd s x t ho E i z bytes ht hi hz hsize hby hzs hb1 S B w v xs css ys q ys.length c hs hO hx hY h1 hl hB (fun p cap css' w1 h2 h3 h4=>h p cap css' w1 h2 (B7 h3 hv hB h4))
def veil (o:Oper):Oper:=o
theorem veil1 {id:Nat} {b:Bool} {Q:Exit→Act→World→Prop} {a:Act} {w:World} {o0 o:Oper} {l:List Oper} (h:(Code.region id (List.toArray (o0::veil o::l)) b).wp P Q a w):(Code.region id (List.toArray (o0::o::l)) b).wp P Q a w:=h
def Mk (r:Rd T) (E:TypeId) (S0:Nat→Prop) (W0 w:World) (v:Value) (n:Nat) (xs:List T):Prop:=∃ css,Own r E S0 W0.heap.size w v xs css∧xs.length=n∧Below W0.heap.size W0 w
theorem Mk.nil {r:Rd T} {E:TypeId} {S0:Nat→Prop} {W0 w:World} (h:Below W0.heap.size W0 w):Mk r E S0 W0 w (.slice none 0 0) 0 []:=⟨[],Own.nil _ _ _ _ _,rfl,h⟩
theorem Mk.grow {r:Rd T} {E:TypeId} {S0:Nat→Prop} {W0 w w':World} {v:Value} {n:Nat} {xs:List T} (h:Mk r E S0 W0 w v n xs) (hb:Below w.heap.size w w'):Mk r E S0 W0 w' v n xs:=
 let ⟨css,h1,h2,h3⟩:=h;⟨css,h1.below hb,h2,h3.thn hb⟩
theorem Mk.below {r:Rd T} {E:TypeId} {S0:Nat→Prop} {W0 w:World} {v:Value} {n:Nat} {xs:List T} (h:Mk r E S0 W0 w v n xs):Below W0.heap.size W0 w:=let ⟨_,_,_,h3⟩:=h;h3
theorem Mk.lt {r:Rd T} {E:TypeId} {S0:Nat→Prop} {W0 w:World} {v:Value} {n:Nat} {xs:List T} (h:Mk r E S0 W0 w v n xs):∀ g,v.ownBlock=some g→W0.heap.size≤g∧g<w.heap.size:=let ⟨_,h1,_,_⟩:=h;fun g e=>h1.row.lt g e
theorem Ya {r:Rd T} (hk:0<r.k) (h1:∀ S w cs x,r.R S w cs x→∀ u ∈ cs,u.oneCell'=true) {ops:Array Oper} {o:Oper} {a:Act} {K:Act→World→Prop} {Q:Exit→Act→World→Prop} {X:Prop} (hgd:o.guard=none) (s x:Operand) (t:TypeId)
  (ho:o.op=.call { callee:=.builtin .append,args:=#[s,x],argTypes:=#[t,t] }) (E:TypeId) (i:TypeInfo) (z:Value) (bytes:Nat) (ht:P.underlying t=some (.slice E)) (hi:P.info? E=some i) (hz:i.zero=some z)
  (hsize:i.size=r.k) (hby:i.bytes=bytes) (hzs:z.cells.size=r.k) (hb1:bytes≤1000) (S0:Nat→Prop) (W0 w:World) (v:Value) (n:Nat) (xs:List T) (hs:a.eval s=v)
  (hM:Mk r E S0 W0 w v n xs) (v2:Value) (ys:List T) (hx:a.eval x=v2) (hY:Sl r (But S0 v) w v2 ys) (m:Nat) (hm:n+ys.length=m) (hl:m≤1000000)
  (h:∀ p cap w1,Mk r E S0 W0 w1 (.slice p m cap) m (xs++ys)→Bo W0.heap.size w w1 v (.slice p m cap)→K (a.put o.dst (.slice p m cap)) w1):
  if Region.wanted o (yielded ops a.tmps)=true then Oper.wp P o a w K Q else X:=by
 obtain ⟨css,hO,hn,hB⟩:=hM
 subst hn
 exact Sp hk h1 hgd s x t ho E i z bytes ht hi hz hsize hby hzs hb1 S0 W0.heap.size w v xs css hs hO v2 ys hx hY m hm hl hB.size (fun p cap css' w1 h2 h3=>h p cap w1 ⟨css',h2,by rw [List.length_append];exact hm,hB.trans h3.below⟩ h3)
end
theorem Dq:∀ S w cs x,Uq.R S w cs x→∀ u ∈ cs,u.oneCell'=true:=fun S w cs x h=>ty_one (show Y7 S w cs x from h)
theorem P6 {S:Nat→Prop} {w:World} {b:Nat} {x:Bs} (hb:w.heap[b]?=some (.cells #[.string ⟨x.toArray⟩] 9 (0,0))) (hS:S b) (hl:x.length≤1000000):Sl Qp S w (.slice (some ⟨b,0,none⟩) 1 1) [x]:=
 Z4 hb hS (Cs.one (r:=Qp) (show Qp.R S w [.string ⟨x.toArray⟩] x from ⟨rfl,hl⟩)) rfl rfl (by simp)
theorem sl_ty1 {S:Nat→Prop} {w:World} {b:Nat} {k n:Int} {s:ByteArray} {v3 v4:Value} {x:Ty} (hb:w.heap[b]?=some (.cells #[.int .i64 k,.string s,.int .i64 n,v3,v4] 70 (0,0))) (hS:S b) (hx:Y7 S w [.int .i64 k,.string s,.int .i64 n,v3,v4] x):Sl Uq S w (.slice (some ⟨b,0,none⟩) 1 1) [x]:=
 Z4 hb hS (Cs.one (r:=Uq) hx) rfl rfl (by simp)
def putT (n:Int) (ns:List Bs) (ks:List Ty) (name:Bs) (x:Ty):Ty:=.mk 5 [] n (Y8 ns (below ns name) name) (Y8 ks (below ns name) x)
def PutTIs (S:Nat→Prop) (w:World) (u:Ty) (m:Nat) (n:Int) (e:Ending) (w':World):Prop:=∃ p3 k3 p4 k4,e=.returned (.agg #[.int .i64 5,.string ⟨#[]⟩,.int .i64 n,.slice p3 m k3,.slice p4 m k4])∧m≤k3∧m≤k4∧Y7 (fun b=>S b∨w.heap.size≤b) w' [.int .i64 5,.string ⟨#[]⟩,.int .i64 n,.slice p3 m k3,.slice p4 m k4] u∧Below w.heap.size w w'
def PutMid (W1s:Nat) (W2:World) (m:Nat) (xs:List Bs) (tn:Int) (wx:World):Prop:=∃ p cap,wx.heap[W1s]?=some (.cells #[.int .i64 5,.string ⟨#[]⟩,.int .i64 tn,.slice p m cap,.slice none 0 0] 70 (0,0))∧m≤cap∧Sl Qp (fun b=>W2.heap.size≤b) wx (.slice p m cap) xs∧Below W1s W2 wx
theorem Pu (S:Nat→Prop) (tk:Int) (ts:ByteArray) (tn:Int) (ns:List Bs) (ks:List Ty) (n:Nat) (p3:Option Addr) (k3:Nat) (p4:Option Addr) (k4:Nat) (name:Bs) (x:Ty) (cx:List Value) (w:World) (hn0:Sl Qp S w (.slice p3 n k3) ns) (hk0:Sl Uq S w (.slice p4 n k4) ks) (hnn:ns.length=n) (hkn:ks.length=n) (hx0:Y7 S w cx x) (hc3:n≤k3) (hc4:n≤k4) (hl1:n≤1000) (hnm:name.length≤1000000):
  Calls prog 138 #[.agg #[.int .i64 tk,.string ts,.int .i64 tn,.slice p3 n k3,.slice p4 n k4],sv name,.agg cx.toArray] w (PutTIs S w (putT tn ns ks name x) (n+1) tn):=by
 have hn:=hn0.up
 have hk:=hk0.up
 have hx:Y7 (fun b=>S b∧b<w.heap.size) w cx x:=hx0.move (.refl _ _) (fun b hb h=>⟨h,hb⟩)
 obtain ⟨xk,xs,xn,q3,m3,l3,q4,m4,l4,hcx⟩:=Y7.cells hx
 subst hcx
 have HNv:=Qq hn;have HKv:=Qq hk;have HXV:=Qq hx;have HN:=Qq hnn;have HM:=Qq hkn
 have hbk0:below ns name≤n:=by rw [← hnn];exact My _ _
 clear hn0 hk0 hx0 hn hk hx hnn hkn
 obtain ⟨i0,j1,j2,j3,j4⟩:=Za (P:=prog) (t:=70) (z:=.agg zY) (n:=5) (b:=80) (by kernel_rfl)
 have HJ:=Qq j1;have HJ2:=Qq j2;have HJ3:=Qq j3;have HJ4:=Qq j4
 clear j1 j2 j3 j4
 obtain ⟨i9,j1,j2,j3,j4⟩:=Za (P:=prog) (t:=9) (z:=.string ⟨#[]⟩) (n:=1) (b:=16) (by kernel_rfl)
 have HS:=Qq j1;have HS2:=Qq j2;have HS3:=Qq j3;have HS4:=Qq j4
 clear j1 j2 j3 j4
 unfold sv
 go_enter func138,ntmps138
 go_wp2_with fail
 generalize hW1:((w.alloc _).alloc _).alloc _=W1
 have hb1:=eqB hW1 (Xr _ _ _ _)
 have hT1:=eqH (b:=w.heap.size) hW1 (Zd _ _ _ _)
 have hX1:=eqH (b:=w.heap.size+1) hW1 (Z9 _ _ _ _)
 have hR1:=eqH (b:=w.heap.size+1+1) hW1 (Zw _ _ _ _)
 have hz1:W1.heap.size=w.heap.size+3:=by rw [← hW1];simp
 have HB1:=Qq hb1;have HT1:=Qq hT1;have HX1:=Qq hX1;have HR1:=Qq hR1;have HZ1:=Qq hz1
 obtain ⟨c0,c1,c2,c3,c4⟩:=row5 hT1
 clear hW1 hb1 hT1 hX1 hR1 hz1
 go_loop [7] (fun i=>∃ k:Nat,k≤n∧i=.int .i64 k∧Aside (∀ (j:Nat) (y:Bs),j<k→ns[j]?=some y→Zg y name<0)) (fun i=>n - (intOf i).toNat)
 case atStart=>exact ⟨0,Q8 _,rfl,fun j _ hj=>absurd hj (Nat.not_lt_zero _)⟩
 obtain ⟨k,hk,rfl,A⟩:=hrel
 have hgo:(∃ y,ns[k]?=some y∧Zg y name<0)∨(below ns name=k∧((∃ y,ns[k]?=some y∧¬ Zg y name<0)∨k=n)):=by
  by_cases hlt:k<n
  ·obtain ⟨y,hy⟩:∃ y,ns[k]?=some y:=⟨_,Qx (by rw [HN.out];exact hlt)⟩
   by_cases hc:Zg y name<0
   ·exact .inl ⟨y,hy,hc⟩
   exact .inr ⟨Kw A.out hy hc,.inl ⟨y,hy,hc⟩⟩
  have hkn:k=n:=by omega
  refine .inr ⟨?_,.inr hkn⟩
  rw [hkn,← HN.out]
  exact Dg (fun j z hz=>A.out j z (by have:=(Qj hz).1;have:=HN.out;omega) hz)
 rcases hgo with ⟨y,hy,hc⟩ | ⟨hpl,hgo⟩
 ·have hlt:k<n:=by have:=(Qj hy).1;have:=HN.out;omega
  have hi1:(0:Int)≤(k:Int):=by omega
  have hi2:(k:Int)<(n:Int):=by omega
  have hi3:decide (k<n)=true:=by simpa using hlt
  obtain ⟨b,off,rfl,hyc,-⟩:=(HNv.out.below HB1.out).str hy
  have hq:Op.bytesLess y name=true:=by rw [(Xj y name).1];simpa using hc
  have HC:=Qq hc;have HY:=Qq hy
  clear hc hy hlt
  go_wp2_with fail
  go_round
  case measure=>simp [intOf];omega
  case rel=>
   refine ⟨k+1,by omega,by go_num,(show Aside _ from fun j z hj hz=>?_)⟩
   by_cases e:j=k
   ·subst e
    have:=HY.out
    rw [this] at hz
    cases hz
    exact HC.out
   exact A.out j z (by omega) hz
 obtain ⟨V1,V2,hv1,hv2,hS1,hS2⟩:=Xh (P:=prog) 30 9 underlying30 sizeOf9 HNv.out (by rw [HN.out];exact ⟨_,_,rfl,hc3⟩) k (by rw [HN.out];exact hk)
 obtain ⟨V3,V4,hv3,hv4,hS3,hS4⟩:=Xh (P:=prog) 68 70 underlying68 sizeOf70 HKv.out (by rw [HM.out];exact ⟨_,_,rfl,hc4⟩) k (by rw [HM.out];exact hk)
 have HS1:=Qq hS1;have HS2':=Qq hS2;have HS3':=Qq hS3;have HS4':=Qq hS4;have HPl:=Qq hpl
 have htk:(ns.take k).length=k:=by rw [List.length_take,HN.out];omega
 have hdk:(ns.drop k).length=n - k:=by rw [List.length_drop,HN.out]
 have htk2:(ks.take k).length=k:=by rw [List.length_take,HM.out];omega
 have hdk2:(ks.drop k).length=n - k:=by rw [List.length_drop,HM.out]
 have HTK:=Qq htk;have HDK:=Qq hdk;have HTK2:=Qq htk2;have HDK2:=Qq hdk2
 clear hS1 hS2 hS3 hS4 hpl htk hdk htk2 hdk2 A
 rcases hgo with ⟨y,hy,hc⟩ | hkn
 focus
  have hlt:k<n:=by have:=(Qj hy).1;have:=HN.out;omega
  have hi1:(0:Int)≤(k:Int):=by omega
  have hi2:(k:Int)<(n:Int):=by omega
  have hi3:decide (k<n)=true:=by simpa using hlt
  obtain ⟨b,off,rfl,hyc,-⟩:=(HNv.out.below HB1.out).str hy
  have hq:Op.bytesLess y name=false:=by rw [(Xj y name).1];simpa using hc
  clear hc hy hlt
  go_upto_region 5 with fail
  clear hq hyc hi1 hi2 hi3
  obtain ⟨p3,hp3⟩:∃ q:Option Addr,some (⟨b,off,none⟩:Addr)=q:=⟨_,rfl⟩
  rw [hp3] at HT1 HNv
  simp only [hp3] at hv1 hv2 c3
  clear hp3
 rotate_left
 focus
  have hi3:decide (k<n)=false:=by simp;omega
  clear hkn
  go_upto_region 5 with fail
  clear hi3
 all_goals
  generalize hW2:W1.alloc _=W2
  have hb2:=eqB hW2 (Qn _ _)
  have hO2:=eqH (b:=W1.heap.size) hW2 (Qw _ _)
  clear hW2
  have hT2:=kB hb2 HT1.out
  have hlt2:=Qf hO2
  have HB2:=Qq hb2;have HO2:=Qq hO2
  have cO:=rA3 hO2
  have HV3:=Qq hv3;have HV4:=Qq hv4
  have HSf:=Qq (fun w' (h:Below W1.heap.size W1 w') (hz:W2.heap.size≤w'.heap.size)=>(show (fun w'=>w'.cell? ⟨w.heap.size,3,none⟩=some (.slice p3 n k3)∧W2.heap.size≤w'.heap.size∧Below W1.heap.size W1 w') w' from ⟨Qk _ _ 3 _ _ _ (kB h HT1.out),hz,h⟩))
  have HAl:=Qq (fun w' o (h:(fun w'=>w'.cell? ⟨w.heap.size,3,none⟩=some (.slice p3 n k3)∧W2.heap.size≤w'.heap.size∧Below W1.heap.size W1 w') w')=>HSf.out (w'.alloc o) (h.2.2.alloc h.2.2.size o) (by have:=h.2.1;simp;omega))
  have HSt:=Qq (fun w' v (h:(fun w'=>w'.cell? ⟨w.heap.size,3,none⟩=some (.slice p3 n k3)∧W2.heap.size≤w'.heap.size∧Below W1.heap.size W1 w') w')=>HSf.out (w'.setCell ⟨W1.heap.size,3,none⟩ v) (h.2.2.setCell (p:=⟨W1.heap.size,3,none⟩) (Q9 _) v) (by have:=h.2.1;simpa using this))
  have HS0:=Qq (HSf.out W2.drew hb2.drew (Q9 _))
  have HSe:=Qq (fun o=>HSf.out (W2.alloc o).drew (hb2.thn (Qn _ o)).drew (Qn _ o).size)
  have HBd:=Qq (show Below W2.heap.size W2 W2.drew from (Qz _ _).drew)
  have HBe:=Qq (show Below W2.heap.size W2 (W2.alloc (.cells #[.string ⟨name.toArray⟩] 9 (0,0))).drew from (Qn _ _).drew)
  have hwB:∀ w',Below W2.heap.size W2 w'→Below w.heap.size w w':=fun w' h=>(HB1.out.thn hb2).thn h
  have HY1:=Qq (fun w' (h:Below W2.heap.size W2 w')=>(HS1.out.below (hwB w' h)).mono (S':=But (fun b=>(S b∧b<w.heap.size)∨w.heap.size≤b) (.slice none 0 0)) (fun b _ hb=>⟨.inl hb,fun e=>by cases e⟩))
  have HY2:=Qq (fun w' v (h:Below W2.heap.size W2 w') (hv:∀ g,v.ownBlock=some g→W2.heap.size≤g∧g<w'.heap.size)=>(HS2'.out.below (hwB w' h)).mono (S':=But (fun b=>(S b∧b<w.heap.size)∨w.heap.size≤b) v) (fun b _ hb=>⟨.inl hb,fun e=>by have h1:=(hv b e.symm).1;have h2:=hb.2;have h3:=HZ1.out;omega⟩))
  have hwz:w.heap.size≤W2.heap.size:=by have:=HZ1.out;omega
  have HBl:=Qq (fun (w':World) (v:Value) (b:Nat) (hb:w'.heap[b]?=some (Obj.cells #[.string ⟨name.toArray⟩] 9 (0,0))) (h:W2.heap.size≤b) (hv:some b≠v.ownBlock)=>P6 (S:=But (fun b=>(S b∧b<w.heap.size)∨w.heap.size≤b) v) hb ⟨.inr (Qc hwz h),hv⟩ hnm)
  have hn1:0+(ns.take k).length=k:=by rw [HTK.out];omega
  have hn2:k+[name].length=k+1:=rfl
  have hn3:k+1+(ns.drop k).length=n+1:=by rw [HDK.out];omega
  have HN1:=Qq hn1;have HN2:=Qq hn2;have HN3:=Qq hn3
  clear hb2 hO2 hT2 hwB c0 c1 c2 c3 c4 hv3 hv4 hn1 hn2 hn3
  go_cut [7] from 28 to 43 (fun t7 wx=>t7=.int .i64 k∧PutMid W1.heap.size W2 (n+1) (Y8 ns k name) tn wx)
  case first=>
   refine veil1 ?_
   have hveil:∀ o,veil o=o:=fun _=>rfl
   go_region_held3 (fun w'=>w'.cell? ⟨w.heap.size,3,none⟩=some (.slice p3 n k3)∧W2.heap.size≤w'.heap.size∧Below W1.heap.size W1 w') (first | with_reducible exact HS0.out | with_reducible exact hS2 | with_reducible exact HSe.out _ | with_reducible exact HAl.out _ _ hS2 | with_reducible exact HSt.out _ _ hS2)
    (first
     | (refine Ya (r:=Qp) (by decide) Xd (by rfl) (.tmp 29) (.tmp 33) 30 (by rfl) 9 i9 (.string ⟨#[]⟩) 16 underlying30 HS.out HS2.out HS3.out HS4.out rfl (by omega) (fun b=>(S b∧b<w.heap.size)∨w.heap.size≤b) W2 W2.drew (.slice none 0 0) 0 [] (by rfl) (Mk.nil HBd.out) V1 (ns.take k) (by rfl) (HY1.out _ HBd.out) k HN1.out (by omega) ?_;intro p5 c5 w5 hM5 hL5;have hS2:=HSf.out w5 (HB2.out.trans (hM5.below.mono (by omega))) hM5.below.size;have HM5:=Qq hM5;clear hM5 hL5)
     | (refine Ya (r:=Qp) (by decide) Xd (by rfl) (.tmp 29) (.tmp 33) 30 (by rfl) 9 i9 (.string ⟨#[]⟩) 16 underlying30 HS.out HS2.out HS3.out HS4.out rfl (by omega) (fun b=>(S b∧b<w.heap.size)∨w.heap.size≤b) W2 (W2.alloc (.cells #[.string ⟨name.toArray⟩] 9 (0,0))).drew (.slice none 0 0) 0 [] (by rfl) (Mk.nil HBe.out) V1 (ns.take k) (by rfl) (HY1.out _ HBe.out) k HN1.out (by omega) ?_;intro p5 c5 w5 hM5 hL5;have hS2:=HSf.out w5 (HB2.out.trans (hM5.below.mono (by omega))) hM5.below.size;have HR9:=Qq ((hL5.other W2.heap.size (by simp) (fun e=>by cases e)).trans (show (W2.alloc (.cells #[.string ⟨name.toArray⟩] 9 (0,0))).heap[W2.heap.size]?=_ from Qw _ _));have HR8:=Qq (show some W2.heap.size≠(Value.slice p5 k c5).ownBlock from fun e=>by rcases hL5.at' with h | ⟨g,h,h'⟩;(rw [h] at e;cases e);(rw [h] at e;have e':=Qb e;simp at h';omega));have HM5:=Qq hM5;clear hM5 hL5)
     | (refine Ya (r:=Qp) (by decide) Xd (by rfl) (.tmp 34) (.tmp 36) 30 (by rfl) 9 i9 (.string ⟨#[]⟩) 16 underlying30 HS.out HS2.out HS3.out HS4.out rfl (by omega) (fun b=>(S b∧b<w.heap.size)∨w.heap.size≤b) W2 w5 (.slice p5 k c5) k ([]++ns.take k) (by rfl) HM5.out (.slice (some ⟨W2.heap.size,0,none⟩) 1 1) [name] (by rfl) (HBl.out _ _ _ HR9.out (Q9 _) HR8.out) (k+1) HN2.out (by omega) ?_;intro p6 c6 w6 hM6 hL6;have hS2:=HSf.out w6 (HB2.out.trans (hM6.below.mono (by omega))) hM6.below.size;have HM6:=Qq hM6;clear hM6 hL6)
     | (refine Ya (r:=Qp) (by decide) Xd (by rfl) (.tmp 34) (.tmp 36) 30 (by rfl) 9 i9 (.string ⟨#[]⟩) 16 underlying30 HS.out HS2.out HS3.out HS4.out rfl (by omega) (fun b=>(S b∧b<w.heap.size)∨w.heap.size≤b) W2 (w5.alloc (.cells #[.string ⟨name.toArray⟩] 9 (0,0))) (.slice p5 k c5) k ([]++ns.take k) (by rfl) (HM5.out.grow (Qn _ _)) (.slice (some ⟨w5.heap.size,0,none⟩) 1 1) [name] (by rfl) (HBl.out _ _ _ (Qw _ _) HM5.out.below.size (fun e=>Nat.lt_irrefl _ (HM5.out.lt _ e.symm).2)) (k+1) HN2.out (by omega) ?_;intro p6 c6 w6 hM6 hL6;have hS2:=HSf.out w6 (HB2.out.trans (hM6.below.mono (by omega))) hM6.below.size;have HM6:=Qq hM6;clear hM6 hL6)
     | (refine Ya (r:=Qp) (by decide) Xd (by rfl) (.tmp 37) (.tmp 41) 30 (by rfl) 9 i9 (.string ⟨#[]⟩) 16 underlying30 HS.out HS2.out HS3.out HS4.out rfl (by omega) (fun b=>(S b∧b<w.heap.size)∨w.heap.size≤b) W2 w6 (.slice p6 (k+1) c6) (k+1) ([]++ns.take k++[name]) (by rfl) HM6.out V2 (ns.drop k) (by rfl) (HY2.out _ _ HM6.out.below HM6.out.lt) (n+1) HN3.out (by omega) ?_;intro p7 c7 w7 hM7 hL7;have hS2:=HSf.out w7 (HB2.out.trans (hM7.below.mono (by omega))) hM7.below.size;have r7:=kE hM7.below hlt2 HO2.out;have f7:=fA 3 r7;have k7:=rA3 r7;have HR7:=Qq r7;have HM7:=Qq hM7;clear hM7 hL7 r7))
   all_goals
    go_wp2_with fail
    go_meet
    obtain ⟨css7,hO7,hl7,hB7⟩:=HM7.out
    have hOF:Own Qp 9 (fun _=>False) W2.heap.size w7 (.slice p7 (n+1) c7) ([]++ns.take k++[name]++ns.drop k) css7:=⟨hO7.row,⟨hO7.cs.len,fun i c x hc hx=>hO7.cs.R i c x hc hx⟩⟩
    refine ⟨rfl,p7,c7,?_,hO7.cap.2,?_,(show Below W1.heap.size W2 w7 from hB7.mono (Nat.le_of_lt hlt2)).setCell (p:=⟨W1.heap.size,3,none⟩) (Q9 _) _⟩
    ·rw [heap_setCell_same _ _ _ _ _ _ HR7.out];rfl
    have h9:=(hOF.sl (S':=fun b=>W2.heap.size≤b) (by rw [hl7];omega) (fun b hb=>hb) (fun b _ h=>h.elim)).frame (w':=w7.setCell ⟨W1.heap.size,3,none⟩ (.slice p7 (n+1) c7)) (fun b hb _=>Qg (by have:W2.heap.size≤b:=hb;show b≠W1.heap.size;omega))
    have e9:[]++ns.take k++[name]++ns.drop k=Y8 ns k name:=by unfold Y8;simp
    rw [e9] at h9
    exact h9
  obtain ⟨rfl,pn,cn,hO3,hcn,hns,hb3⟩:=hcut
  obtain ⟨W3,rfl⟩:∃ W3,W3=wc:=⟨_,rfl⟩
  have hlt3:=Qf hO3
  have hb3':Below W1.heap.size W1 W3:=HB2.out.trans hb3
  have HB3:=Qq hb3';have HO3:=Qq hO3;have HNs3:=Qq hns;have HCn:=Qq hcn
  have cO:=rA4 hO3
  clear HSf HAl HSt HS0 HSe HBd HBe HY1 HY2 HBl HN1 HN2 HN3
  have HSf:=Qq (fun w' (h:Below W1.heap.size W1 w') (hz:W3.heap.size≤w'.heap.size)=>(show (fun w'=>w'.cell? ⟨w.heap.size,4,none⟩=some (.slice p4 n k4)∧w'.cell? ⟨w.heap.size+1,0,none⟩=some (.int .i64 xk)∧w'.cell? ⟨w.heap.size+1,1,none⟩=some (.string xs)∧w'.cell? ⟨w.heap.size+1,2,none⟩=some (.int .i64 xn)∧w'.cell? ⟨w.heap.size+1,3,none⟩=some (.slice q3 m3 l3)∧w'.cell? ⟨w.heap.size+1,4,none⟩=some (.slice q4 m4 l4)∧W3.heap.size≤w'.heap.size∧Below W1.heap.size W1 w') w' from ⟨Qk _ _ 4 _ _ _ (kB h HT1.out),Qk _ _ 0 _ _ _ (kB h HX1.out),Qk _ _ 1 _ _ _ (kB h HX1.out),Qk _ _ 2 _ _ _ (kB h HX1.out),Qk _ _ 3 _ _ _ (kB h HX1.out),Qk _ _ 4 _ _ _ (kB h HX1.out),hz,h⟩))
  have HAl:=Qq (fun w' o (h:(fun w'=>w'.cell? ⟨w.heap.size,4,none⟩=some (.slice p4 n k4)∧w'.cell? ⟨w.heap.size+1,0,none⟩=some (.int .i64 xk)∧w'.cell? ⟨w.heap.size+1,1,none⟩=some (.string xs)∧w'.cell? ⟨w.heap.size+1,2,none⟩=some (.int .i64 xn)∧w'.cell? ⟨w.heap.size+1,3,none⟩=some (.slice q3 m3 l3)∧w'.cell? ⟨w.heap.size+1,4,none⟩=some (.slice q4 m4 l4)∧W3.heap.size≤w'.heap.size∧Below W1.heap.size W1 w') w')=>HSf.out (w'.alloc o) (h.2.2.2.2.2.2.2.alloc h.2.2.2.2.2.2.2.size o) (by have:=h.2.2.2.2.2.2.1;simp;omega))
  have HSt:=Qq (fun w' v (h:(fun w'=>w'.cell? ⟨w.heap.size,4,none⟩=some (.slice p4 n k4)∧w'.cell? ⟨w.heap.size+1,0,none⟩=some (.int .i64 xk)∧w'.cell? ⟨w.heap.size+1,1,none⟩=some (.string xs)∧w'.cell? ⟨w.heap.size+1,2,none⟩=some (.int .i64 xn)∧w'.cell? ⟨w.heap.size+1,3,none⟩=some (.slice q3 m3 l3)∧w'.cell? ⟨w.heap.size+1,4,none⟩=some (.slice q4 m4 l4)∧W3.heap.size≤w'.heap.size∧Below W1.heap.size W1 w') w')=>HSf.out (w'.setCell ⟨W1.heap.size,4,none⟩ v) (h.2.2.2.2.2.2.2.setCell (p:=⟨W1.heap.size,4,none⟩) (Q9 _) v) (by have:=h.2.2.2.2.2.2.1;simpa using this))
  have HS0:=Qq (HSf.out W3.drew hb3'.drew (Q9 _))
  have HSe:=Qq (fun o=>HSf.out (W3.alloc o).drew (hb3'.thn (Qn _ o)).drew (Qn _ o).size)
  have HBd:=Qq (show Below W3.heap.size W3 W3.drew from (Qz _ _).drew)
  have HBe:=Qq (show Below W3.heap.size W3 (W3.alloc (.cells #[.int .i64 xk,.string xs,.int .i64 xn,.slice q3 m3 l3,.slice q4 m4 l4] 70 (0,0))).drew from (Qn _ _).drew)
  have hz3:w.heap.size≤W3.heap.size:=by have:=HZ1.out;omega
  have hwB:∀ w',Below W3.heap.size W3 w'→Below w.heap.size w w':=fun w' h=>(HB1.out.thn hb3').thn h
  have HY1:=Qq (fun w' (h:Below W3.heap.size W3 w')=>(HS3'.out.below (hwB w' h)).mono (S':=But (fun b=>(S b∧b<w.heap.size)∨W3.heap.size≤b) (.slice none 0 0)) (fun b _ hb=>⟨.inl hb,fun e=>by cases e⟩))
  have HY2:=Qq (fun (w':World) (v:Value) (h:Below W3.heap.size W3 w') (hv:∀ g,v.ownBlock=some g→W3.heap.size≤g∧g<w'.heap.size)=>(HS4'.out.below (hwB w' h)).mono (S':=But (fun b=>(S b∧b<w.heap.size)∨W3.heap.size≤b) v) (fun b _ hb=>⟨.inl hb,fun e=>by have h1:=(hv b e.symm).1;have h2:=hb.2;omega⟩))
  have HBl:=Qq (fun (w':World) (v:Value) (b:Nat) (h':Below W3.heap.size W3 w') (hb:w'.heap[b]?=some (Obj.cells #[.int .i64 xk,.string xs,.int .i64 xn,.slice q3 m3 l3,.slice q4 m4 l4] 70 (0,0))) (h:W3.heap.size≤b) (hv:some b≠v.ownBlock) (hvv:∀ g,v.ownBlock=some g→W3.heap.size≤g∧g<w'.heap.size)=>sl_ty1 (S:=But (fun b=>(S b∧b<w.heap.size)∨W3.heap.size≤b) v) hb ⟨.inr h,hv⟩ ((HXV.out.move (.of_below (hwB w' h')) (fun c _ hc=>⟨.inl hc,fun e=>by have h1:=(hvv c e.symm).1;have h2:=hc.2;omega⟩))))
  have hn1:0+(ks.take k).length=k:=by rw [HTK2.out];omega
  have hn2:k+[x].length=k+1:=rfl
  have hn3:k+1+(ks.drop k).length=n+1:=by rw [HDK2.out];omega
  have HN1:=Qq hn1;have HN2:=Qq hn2;have HN3:=Qq hn3
  clear hO3 hcn hns hb3 hb3' hwB hn1 hn2 hn3
  have hv3:=HV3.out;have hv4:=HV4.out
  clear hv1 hv2
  go_upto_region 6 with fail
  refine veil1 ?_
  have hveil:∀ o,veil o=o:=fun _=>rfl
  go_region_held3 (fun w'=>w'.cell? ⟨w.heap.size,4,none⟩=some (.slice p4 n k4)∧w'.cell? ⟨w.heap.size+1,0,none⟩=some (.int .i64 xk)∧w'.cell? ⟨w.heap.size+1,1,none⟩=some (.string xs)∧w'.cell? ⟨w.heap.size+1,2,none⟩=some (.int .i64 xn)∧w'.cell? ⟨w.heap.size+1,3,none⟩=some (.slice q3 m3 l3)∧w'.cell? ⟨w.heap.size+1,4,none⟩=some (.slice q4 m4 l4)∧W3.heap.size≤w'.heap.size∧Below W1.heap.size W1 w') (first | with_reducible exact HS0.out | with_reducible exact hS2 | with_reducible exact HSe.out _ | with_reducible exact HAl.out _ _ hS2 | with_reducible exact HSt.out _ _ hS2)
   (first
    | (refine Ya (r:=Uq) (by decide) Dq (by rfl) (.tmp 45) (.tmp 49) 68 (by rfl) 70 i0 (.agg zY) 80 underlying68 HJ.out HJ2.out HJ3.out HJ4.out rfl (by omega) (fun b=>(S b∧b<w.heap.size)∨W3.heap.size≤b) W3 W3.drew (.slice none 0 0) 0 [] (by rfl) (Mk.nil HBd.out) V3 (ks.take k) (by rfl) (HY1.out _ HBd.out) k HN1.out (by omega) ?_;intro p5 c5 w5 hM5 hL5;have hS2:=HSf.out w5 (HB3.out.trans (hM5.below.mono (by omega))) hM5.below.size;have HM5:=Qq hM5;clear hM5 hL5)
    | (refine Ya (r:=Uq) (by decide) Dq (by rfl) (.tmp 45) (.tmp 49) 68 (by rfl) 70 i0 (.agg zY) 80 underlying68 HJ.out HJ2.out HJ3.out HJ4.out rfl (by omega) (fun b=>(S b∧b<w.heap.size)∨W3.heap.size≤b) W3 (W3.alloc (.cells #[.int .i64 xk,.string xs,.int .i64 xn,.slice q3 m3 l3,.slice q4 m4 l4] 70 (0,0))).drew (.slice none 0 0) 0 [] (by rfl) (Mk.nil HBe.out) V3 (ks.take k) (by rfl) (HY1.out _ HBe.out) k HN1.out (by omega) ?_;intro p5 c5 w5 hM5 hL5;have hS2:=HSf.out w5 (HB3.out.trans (hM5.below.mono (by omega))) hM5.below.size;have HR9:=Qq ((hL5.other W3.heap.size (by simp) (fun e=>by cases e)).trans (show (W3.alloc (.cells #[.int .i64 xk,.string xs,.int .i64 xn,.slice q3 m3 l3,.slice q4 m4 l4] 70 (0,0))).heap[W3.heap.size]?=_ from Qw _ _));have HR8:=Qq (show some W3.heap.size≠(Value.slice p5 k c5).ownBlock from fun e=>by rcases hL5.at' with h | ⟨g,h,h'⟩;(rw [h] at e;cases e);(rw [h] at e;have e':=Qb e;simp at h';omega));have HM5:=Qq hM5;clear hM5 hL5)
    | (refine Ya (r:=Uq) (by decide) Dq (by rfl) (.tmp 50) (.tmp 52) 68 (by rfl) 70 i0 (.agg zY) 80 underlying68 HJ.out HJ2.out HJ3.out HJ4.out rfl (by omega) (fun b=>(S b∧b<w.heap.size)∨W3.heap.size≤b) W3 w5 (.slice p5 k c5) k ([]++ks.take k) (by rfl) HM5.out (.slice (some ⟨W3.heap.size,0,none⟩) 1 1) [x] (by rfl) (HBl.out _ _ _ HM5.out.below HR9.out (Q9 _) HR8.out HM5.out.lt) (k+1) HN2.out (by omega) ?_;intro p6 c6 w6 hM6 hL6;have hS2:=HSf.out w6 (HB3.out.trans (hM6.below.mono (by omega))) hM6.below.size;have HM6:=Qq hM6;clear hM6 hL6)
    | (refine Ya (r:=Uq) (by decide) Dq (by rfl) (.tmp 50) (.tmp 52) 68 (by rfl) 70 i0 (.agg zY) 80 underlying68 HJ.out HJ2.out HJ3.out HJ4.out rfl (by omega) (fun b=>(S b∧b<w.heap.size)∨W3.heap.size≤b) W3 (w5.alloc (.cells #[.int .i64 xk,.string xs,.int .i64 xn,.slice q3 m3 l3,.slice q4 m4 l4] 70 (0,0))) (.slice p5 k c5) k ([]++ks.take k) (by rfl) (HM5.out.grow (Qn _ _)) (.slice (some ⟨w5.heap.size,0,none⟩) 1 1) [x] (by rfl) (HBl.out _ _ _ (HM5.out.below.thn (Qn _ _)) (Qw _ _) HM5.out.below.size (fun e=>Nat.lt_irrefl _ (HM5.out.lt _ e.symm).2) (HM5.out.grow (Qn _ _)).lt) (k+1) HN2.out (by omega) ?_;intro p6 c6 w6 hM6 hL6;have hS2:=HSf.out w6 (HB3.out.trans (hM6.below.mono (by omega))) hM6.below.size;have HM6:=Qq hM6;clear hM6 hL6)
    | (refine Ya (r:=Uq) (by decide) Dq (by rfl) (.tmp 53) (.tmp 57) 68 (by rfl) 70 i0 (.agg zY) 80 underlying68 HJ.out HJ2.out HJ3.out HJ4.out rfl (by omega) (fun b=>(S b∧b<w.heap.size)∨W3.heap.size≤b) W3 w6 (.slice p6 (k+1) c6) (k+1) ([]++ks.take k++[x]) (by rfl) HM6.out V4 (ks.drop k) (by rfl) (HY2.out _ _ HM6.out.below HM6.out.lt) (n+1) HN3.out (by omega) ?_;intro p7 c7 w7 hM7 hL7;have hS2:=HSf.out w7 (HB3.out.trans (hM7.below.mono (by omega))) hM7.below.size;have r7:=kE hM7.below hlt3 HO3.out;have f7:=fA 4 r7;have k7:=rA4 r7;have HR7:=Qq r7;have HM7:=Qq hM7;clear hM7 hL7 r7))
  all_goals
   obtain ⟨W8,hW8⟩:=eX (w7.setCell ⟨W1.heap.size,4,none⟩ (.slice p7 (n+1) c7))
   rw [hW8]
   obtain ⟨css7,hO7,hl7,hB7⟩:=HM7.out
   have hO8:W8.heap[W1.heap.size]?=some (.cells #[.int .i64 5,.string ⟨#[]⟩,.int .i64 tn,.slice pn (n+1) cn,.slice p7 (n+1) c7] 70 (0,0)):=by rw [← hW8,heap_setCell_same _ _ _ _ _ _ HR7.out];rfl
   have ho8:∀ b,b≠W1.heap.size→W8.heap[b]?=w7.heap[b]?:=fun b hb=>by rw [← hW8];exact Qg hb
   have hb37:Below W1.heap.size W1 w7:=HB3.out.trans (hB7.mono (Nat.le_of_lt hlt3))
   have hb8:Below W1.heap.size W1 W8:=by rw [← hW8];exact hb37.setCell (p:=⟨W1.heap.size,4,none⟩) (Q9 _) _
   have hR8:=kB hb8 HR1.out
   have hs8:W8.heap.size=w7.heap.size:=by rw [← hW8];simp [World.setCell]
   have hns8:Sl Qp (fun b=>W2.heap.size≤b) W8 (.slice pn (n+1) cn) (Y8 ns k name):=(HNs3.out.below hB7).frame (fun b hb _=>ho8 b (by have:W2.heap.size≤b:=hb;omega))
   have e9:[]++ks.take k++[x]++ks.drop k=Y8 ks k x:=by unfold Y8;simp
   have hks8:=(hO7.sl (S':=fun b=>(S b∧b<w.heap.size)∨W3.heap.size≤b) (by rw [hl7];omega) (fun b hb=>.inr hb) (fun b _ h=>h)).frame (w':=W8) (fun b hb _=>ho8 b (by have:=HZ1.out;rcases hb with h | h;exact (by have:=h.2;omega);omega))
   rw [e9] at hks8
   have hcap:=hO7.cap.2
   have HB8:=Qq hb8;have HR8':=Qq hR8;have HNs8:=Qq hns8;have HKs8:=Qq hks8
   obtain ⟨e0,e1,e2,e3,e4⟩:=row5 hO8
   obtain ⟨r0,r1,r2,r3,r4⟩:=row5 hR8
   obtain ⟨f0,f1,f2,f3,f4⟩:=frz5 hR8
   clear hW8 ho8 hO8 hb37 hb8 hR8 hns8 hks8 hO7 e9
   go_wp2_with fail
   show bodyPost _ _ _ _ _ (Zz W8 (w.heap.size+1+1) (.int .i64 5) (.string ⟨#[]⟩) (.int .i64 tn) (.slice pn (n+1) cn) (.slice p7 (n+1) c7))
   refine Q7 (v:=.agg #[.int .i64 5,.string ⟨#[]⟩,.int .i64 tn,.slice pn (n+1) cn,.slice p7 (n+1) c7]) (by simp [results,results138,go_sem,Qm HR8'.out]) rfl ⟨pn,cn,p7,c7,rfl,HCn.out,hcap,?_,Qo (HB1.out.thn HB8.out) (by omega)⟩
   rw [show putT tn ns ks name x=.mk 5 [] tn (Y8 ns k name) (Y8 ks k x) from by unfold putT;rw [HPl.out]]
   have hz1:=HZ1.out
   refine Jj (s:=[]) (by simp) ?_ ?_
   ·exact (HNs8.out.frame (fun b hb _=>Qu (by have:W2.heap.size≤b:=hb;omega))).mono (fun b _ hb=>.inr (by have:W2.heap.size≤b:=hb;omega))
   refine (HKs8.out.frame (fun b hb _=>Qu (by rcases hb with h | h;exact (by have:=h.2;omega);omega))).mono (fun b _ hb=>?_)
   rcases hb with h | h
   ·exact .inl h.1
   exact .inr (by omega)
end Go.Proofs.YtppbaladeefnkaaGreatDoor
