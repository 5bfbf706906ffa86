import Derived.Test.YtppbaladeefnkaaGreatDoorV23
set_option maxRecDepth 100000
set_option maxHeartbeats 400000000
namespace Go.Proofs.YtppbaladeefnkaaGreatDoor
open Go.RowKit Go.Shelf Go.Lib Tryz
inductive Z2:Val→Prop
 | mk (k n:Int) (s:Bs) (names:List Bs) (kids:List Val) (hb:k=2→n=0∨n=1) (hk:∀ x ∈ kids,Z2 x):Z2 (.mk k n s names kids)
theorem Z2.kids {v:Val} (h:Z2 v):∀ x ∈ v.kids,Z2 x:=by cases h;assumption
theorem Z2.bool {v:Val} (h:Z2 v) (hk:v.kind=2):v.n=0∨v.n=1:=by cases h with | mk k n s names kids hb _=>exact hb hk
theorem Z2.zero:Z2 Val.zero:=.mk 0 0 [] [] [] (fun h=>by cases h) (fun x h=>by simp at h)
theorem Zr.boolOk {v:Val} (h:Zr v):Z2 v:=by
 induction h with
 | int n=>exact .mk _ _ _ _ _ (fun h=>by cases h) (fun x h=>by simp at h)
 | text s=>exact .mk _ _ _ _ _ (fun h=>by cases h) (fun x h=>by simp at h)
 | bool n hn=>exact .mk _ _ _ _ _ (fun _=>hn) (fun x h=>by simp at h)
 | make s kids _ _ _ ih=>exact .mk _ _ _ _ _ (fun h=>by cases h) ih
 | record names kids _ _ _ _ ih=>exact .mk _ _ _ _ _ (fun h=>by cases h) ih
 | list kids _ ih=>exact .mk _ _ _ _ _ (fun h=>by cases h) ih
def Yi (S:Nat→Prop) (w:World) (e:Ending) (w':World):Prop:=∃ (k n:Int) (s:ByteArray) (p3:Option Addr) (n3 k3:Nat) (p4:Option Addr) (n4 k4:Nat) (b:Bool),
 e=.returned (.tuple #[.agg #[.int .i64 k,.int .i64 n,.string s,.slice p3 n3 k3,.slice p4 n4 k4],.bool b])∧(b=true→∃ v,Qh (fun c=>S c∨w.heap.size≤c) w' [.int .i64 k,.int .i64 n,.string s,.slice p3 n3 k3,.slice p4 n4 k4] v∧Z2 v)∧Below w.heap.size w w'
theorem Yi.weak {S S':Nat→Prop} {w w1 w2:World} {e:Ending} (h:Yi S' w1 e w2) (hb:Below w.heap.size w w1) (hS:∀ c,S' c→S c∨w.heap.size≤c):Yi S w e w2:=by
 obtain ⟨k,n,s,p3,n3,k3,p4,n4,k4,b,he,hv,hb'⟩:=h
 refine ⟨k,n,s,p3,n3,k3,p4,n4,k4,b,he,fun hbt=>?_,hb.thn hb'⟩
 obtain ⟨v,h1,h2⟩:=hv hbt
 refine ⟨v,h1.move (.refl _ _) (fun c _ hc=>?_),h2⟩
 rcases hc with hc | hc
 ·exact hS c hc
 exact .inr (by have:=hb.size;omega)
theorem O1 (b:Bool) (w:World):Calls prog 178 #[.bool b] w fun e w'=>e=.returned (.tuple #[.agg #[.int .i64 2,.int .i64 (if b then 1 else 0),.string ⟨#[]⟩,.slice none 0 0,.slice none 0 0],.bool true])∧Below w.heap.size w w':=by
 cases b with
 | true=>
  go_enter func178,ntmps178
  go_wp2_with fail
  exact Q7 (v:=.tuple #[.agg #[.int .i64 2,.int .i64 1,.string ⟨#[]⟩,.slice none 0 0,.slice none 0 0],.bool true]) (by simp [results,results178,go_sem]) rfl ⟨rfl,Qn _ _⟩
 | false=>
  go_enter func178,ntmps178
  go_wp2_with fail
  exact Q7 (v:=.tuple #[.agg #[.int .i64 2,.int .i64 0,.string ⟨#[]⟩,.slice none 0 0,.slice none 0 0],.bool true]) (by simp [results,results178,go_sem]) rfl ⟨rfl,Qn _ _⟩
theorem Ds (n:Int) (w:World):Calls prog 177 #[.int .i64 n] w fun e w'=>e=.returned (.tuple #[.agg #[.int .i64 0,.int .i64 n,.string ⟨#[]⟩,.slice none 0 0,.slice none 0 0],.bool true])∧Below w.heap.size w w':=by
 go_enter func177,ntmps177
 go_wp2_with fail
 exact Q7 (v:=.tuple #[.agg #[.int .i64 0,.int .i64 n,.string ⟨#[]⟩,.slice none 0 0,.slice none 0 0],.bool true]) (by simp [results,results177,go_sem]) rfl ⟨rfl,Qn _ _⟩
theorem Oa (S:Nat→Prop) (w:World) (n:Int):Qh S w [.int .i64 2,.int .i64 n,.string ⟨#[]⟩,.slice none 0 0,.slice none 0 0] (.mk 2 n [] [] []):=Zn (s:=[]) (by simp) (Sl.nil _ _ _) (Sl.nil _ _ _)
theorem G6 (n:Int):Z2 (.mk 0 n [] [] []):=.mk _ _ _ _ _ (fun h=>by cases h) (fun x h=>by simp at h)
theorem Sl.ex {S:Nat→Prop} {w:World} {p:Option Addr} {n cap:Nat} {xs:List Ex} (h:Sl Ys S w (.slice p n cap) xs) {i:Nat} {x:Ex} (hx:xs[i]?=some x):
  ∃ b off ek es1 en es2 ep1 en1 ec1 ep2 en2 ec2 ep3 en3 ec3 ea ez,p=some ⟨b,off,none⟩∧b<w.heap.size∧Z6 S w [.int .i64 ek,.string es1,.int .i64 en,.string es2,.slice ep1 en1 ec1,.slice ep2 en2 ec2,.slice ep3 en3 ec3,.int .i64 ea,.int .i64 ez] x∧w.cell? ⟨b,off+i*9,none⟩=some (.int .i64 ek)∧w.cell? ⟨b,off+i*9+1,none⟩=some (.string es1)∧w.cell? ⟨b,off+i*9+2,none⟩=some (.int .i64 en)∧w.cell? ⟨b,off+i*9+3,none⟩=some (.string es2)∧w.cell? ⟨b,off+i*9+4,none⟩=some (.slice ep1 en1 ec1)∧w.cell? ⟨b,off+i*9+5,none⟩=some (.slice ep2 en2 ec2)∧w.cell? ⟨b,off+i*9+6,none⟩=some (.slice ep3 en3 ec3)∧w.cell? ⟨b,off+i*9+7,none⟩=some (.int .i64 ea)∧w.cell? ⟨b,off+i*9+8,none⟩=some (.int .i64 ez):=by
 obtain ⟨b,off,cs,rfl,hb,_,_,hr,hc⟩:=h.elem hx
 obtain ⟨ek,es1,en,es2,ep1,en1,ec1,ep2,en2,ec2,ep3,en3,ec3,ea,ez,hcs⟩:=Z6.cells (show Z6 S w cs x from hr)
 subst hcs
 simp only [show Ys.k=9 from rfl] at hc
 exact ⟨b,off,ek,es1,en,es2,ep1,en1,ec1,ep2,en2,ec2,ep3,en3,ec3,ea,ez,rfl,hb,hr,hc 0 _ rfl,hc 1 _ rfl,hc 2 _ rfl,hc 3 _ rfl,hc 4 _ rfl,hc 5 _ rfl,hc 6 _ rfl,hc 7 _ rfl,hc 8 _ rfl⟩
def Df (x:Ex):Prop:=∀ (S:Nat→Prop) (ce:List Value) (w:World),Z6 S w ce x→Calls prog 139 #[.agg ce.toArray] w (Ms w)
theorem N7 (k:Int) (nm:Bs) (n:Int) (s:Bs) (names binds:List Bs) (kids:List Ex) (a z:Int) (ih:∀ x ∈ kids,Df x):Df (.mk k nm n s names binds kids a z):=by
 intro S ce w h
 obtain ⟨nv,bv,kv,rfl,_,_,hn,hb,hk⟩:=Zf.1 h
 obtain ⟨p1,c1,rfl,_⟩:=hn.len
 obtain ⟨p2,c2,rfl,_⟩:=hb.len
 obtain ⟨p3,c3,rfl,hml⟩:=hk.len
 have HK:=Qq hk;have HI:=Qq ih
 clear h hn hb hk ih
 obtain ⟨m,hm⟩:=eX (kids.length)
 rw [hm] at HK hml ⊢
 have HM:=Qq hm
 clear hm
 unfold sv
 by_cases hbad:k=4∨k=10∨k=15∨k=16
 ·rcases hbad with rfl | rfl | rfl | rfl
  all_goals
   go_enter func139,ntmps139
   go_wp2_with fail
   go_ret
   exact ⟨⟨_,rfl⟩,Qn _ _⟩
 have q4:(k==4)=false:=by rw [← Bool.not_eq_true,beq_iff_eq];omega
 have q10:(k==10)=false:=by rw [← Bool.not_eq_true,beq_iff_eq];omega
 have q15:(k==15)=false:=by rw [← Bool.not_eq_true,beq_iff_eq];omega
 have q16:(k==16)=false:=by rw [← Bool.not_eq_true,beq_iff_eq];omega
 clear hbad
 go_enter func139,ntmps139
 go_wp2_with fail
 generalize hW0:w.alloc _=W0
 have hb0:=eqB hW0 (Qn _ _)
 have hX0:=eqH (b:=w.heap.size) hW0 (Qw _ _)
 have HB0:=Qq hb0;have HX0:=Qq hX0
 clear hW0 hb0 hX0 q4 q10 q15 q16
 go_loopw [3,4] (fun i _ wr=>∃ k:Nat,k≤m∧i=.int .i64 k∧Aside (Below W0.heap.size W0 wr)) (fun i _ _=>m - (intOf i).toNat)
 case atStart=>exact ⟨0,Q8 _,rfl,Qz _ _⟩
 obtain ⟨j,hj,rfl,hBr⟩:=hrel
 have HBr:=Qq (show Below W0.heap.size W0 wr from hBr)
 have hXr:=kB HBr.out HX0.out
 have c6:=rA6 hXr
 clear hBr hXr
 by_cases hlt:j<m
 ·have hi1:(0:Int)≤(j:Int):=by omega
  have hi2:(j:Int)<(m:Int):=by omega
  obtain ⟨x,hx⟩:∃ x,kids[j]?=some x:=⟨_,Qx (by rw [HM.out];exact hlt)⟩
  obtain ⟨b,off,ek,es1,en,es2,ep1,en1,ec1,ep2,en2,ec2,ep3,en3,ec3,ea,ez,rfl,hbl,hvx,d0,d1,d2,d3,d4,d5,d6,d7,d8⟩:=(HK.out.below (HB0.out.thn HBr.out)).ex hx
  have HVx:=Qq hvx;have HIx:=Qq (HI.out x (Qy hx))
  clear hvx hx
  go_wp2_with (go_at_call 139;refine (HIx.out _ _ _ HVx.out).mono ?_;rintro e w5 ⟨⟨bb,rfl⟩,hb5⟩;have HB5:=Qq hb5;clear hb5)
  ·go_ret
   exact ⟨⟨_,rfl⟩,(HB0.out.thn HBr.out).thn HB5.out⟩
  go_roundw
  case measure=>simp [intOf];omega
  case rel=>exact ⟨j+1,by omega,by go_num,HBr.out.thn HB5.out⟩
 have hjm:j=m:=by omega
 subst hjm
 go_wp2_with fail
 go_ret
 exact ⟨⟨_,rfl⟩,HB0.out.thn HBr.out⟩
theorem Fk:∀ x:Ex,Df x
 | .mk k nm n s names binds kids a z=>N7 k nm n s names binds kids a z fun x _=>Fk x
termination_by x=>SizeOf.sizeOf x
decreasing_by
 have:=List.sizeOf_lt_of_mem ‹_ ∈ kids›
 simp only [Ex.mk.sizeOf_spec]
 omega
theorem Own.set5 {E:TypeId} {S:Nat→Prop} {B:Nat} {w:World} {g n cap:Nat} {xs:List Val} {css:List (List Value)} (hn:xs.length=n) (h:Own Ql E S B w (.slice (some ⟨g,0,none⟩) n cap) xs css) {i:Nat} (hi:i<n) {a b c d e:Value} {x:Val} (hx:Qh (But S (.slice (some ⟨g,0,none⟩) n cap)) w [a,b,c,d,e] x):
  Own Ql E S B (((((w.setCell ⟨g,i*5,none⟩ a).setCell ⟨g,i*5+1,none⟩ b).setCell ⟨g,i*5+2,none⟩ c).setCell ⟨g,i*5+3,none⟩ d).setCell ⟨g,i*5+4,none⟩ e) (.slice (some ⟨g,0,none⟩) n cap) (xs.set i x) (css.set i [a,b,c,d,e]):=by
 subst hn
 have hl:=h.cs.len
 have hA:∀ b',b'≠g→(((((w.setCell ⟨g,i*5,none⟩ a).setCell ⟨g,i*5+1,none⟩ b).setCell ⟨g,i*5+2,none⟩ c).setCell ⟨g,i*5+3,none⟩ d).setCell ⟨g,i*5+4,none⟩ e).heap[b']?=w.heap[b']?:=fun b' hb=>Yp hb
 refine ⟨by rw [List.length_set];exact store5 h.row hl h.cs.all i hi a b c d e,⟨by rw [List.length_set,List.length_set];exact hl,fun j cs y hc hy=>?_⟩⟩
 by_cases hj:j=i
 ·subst hj
  rw [List.getElem?_set_self (by rw [hl];exact hi)] at hc
  rw [List.getElem?_set_self hi] at hy
  cases hc;cases hy
  exact hx.move (fun b' hS _=>hA b' (fun e=>hS.2 (by rw [e];rfl))) (fun _ _ h=>h)
 rw [List.getElem?_set_ne (Ne.symm hj)] at hc hy
 exact Qh.move (h.cs.R j cs y hc hy) (fun b' hS _=>hA b' (fun e=>hS.2 (by rw [e];rfl))) (fun _ _ h=>h)
theorem Rs (S:Nat→Prop) (v x:Val) (name:Bs) (cv cx:List Value) (w:World) (hv0:Qh S w cv v) (hx0:Qh S w cx x) (hbv:Z2 v) (hbx:Z2 x):
  Calls prog 197 #[.agg cv.toArray,sv name,.agg cx.toArray] w (Yi S w):=by
 have hv:Qh (fun b=>S b∧b<w.heap.size) w cv v:=hv0.move (.refl _ _) (fun b hb h=>⟨h,hb⟩)
 have hx:Qh (fun b=>S b∧b<w.heap.size) w cx x:=hx0.move (.refl _ _) (fun b hb h=>⟨h,hb⟩)
 clear hv0 hx0
 have HF:=Qq (fun W (hb:Below w.heap.size w W)=>Bc _ v cv name W (hv.move (.of_below hb) (fun _ _ h=>h)))
 obtain ⟨p3,k3,p4,k4,hcv,hnv,hkv,hsl⟩:=Qh.cells hv
 obtain ⟨q3,l3,q4,l4,hcx,_⟩:=Qh.cells hx
 have HXV:=Qq hx
 simp only [vcs] at hcv hcx
 subst hcv;subst hcx
 have hl:v.kids.length≤1000000:=by obtain ⟨_,_,_,h⟩:=hkv.len;exact h
 have HNv:=Qq hnv;have HKv:=Qq hkv;have HBv:=Qq hbv;have HBx:=Qq hbx
 obtain ⟨i0,j1,j2,j3,j4⟩:=Za (P:=prog) (t:=44) (z:=.agg zV) (n:=5) (b:=80) (by kernel_rfl)
 have HJ:=Qq j1;have HJ2:=Qq j2;have HJ3:=Qq j3;have HJ4:=Qq j4
 clear j1 j2 j3 j4
 clear hv hx hnv hkv hbv hbx
 unfold sv at HF ⊢
 cases hg:Y1 v name with
 | none=>
  rw [Km hg] at HF
  clear hg
  go_enter func197,ntmps197
  go_wp2_with fail
  refine (HF.out _ (Xr _ _ _ _)).mono ?_
  rintro e w1 ⟨rfl,hw⟩
  have hR:=(hw.block (w.heap.size+2) (by simp)).trans (Zw _ _ _ _)
  have HW:=Qq hw;have HR:=Qq hR
  obtain ⟨y0,y1,y2,y3,y4⟩:=row5 hR
  obtain ⟨f0,f1,f2,f3,f4⟩:=frz5 hR
  clear hw hR
  go_wp2_with fail
  show bodyPost _ _ _ _ _ (Zz w1 (w.heap.size+2) (.int .i64 0) (.int .i64 0) (.string ⟨#[]⟩) (.slice none 0 0) (.slice none 0 0))
  exact Q7 (v:=.tuple #[.agg zV,.bool false]) (by simp [results,results197,go_sem,Qm HR.out]) rfl ⟨0,0,⟨#[]⟩,none,0,0,none,0,0,false,rfl,(fun h=>by cases h),Qo ((Xr w _ _ _).thn HW.out) (by omega)⟩
 | some u=>
  obtain ⟨i,hi,hku⟩:=Dj hg
  rw [hi] at HF
  obtain ⟨n,hn⟩:=eX (v.kids.length)
  have hlt:i<n:=by rw [← hn];exact (Qj hku).1
  rw [hn] at HF HKv hl ⊢
  have HN:=Qq hn
  have hi1:(0:Int)≤(i:Int):=by omega
  have hi2:(i:Int)<(n:Int):=by omega
  have hi3:decide ((i:Int)<0)=false:=by simp
  have HKu:=Qq hku;have HGu:=Qq hg
  clear hg hi hku hn
  go_enter func197,ntmps197
  go_wp2_with fail
  refine (HF.out _ (Xr _ _ _ _)).mono ?_
  rintro e w1 ⟨rfl,hw⟩
  have hX:=(hw.block w.heap.size (by simp;omega)).trans (Zd _ _ _ _)
  have hY:=(hw.block (w.heap.size+1) (by simp)).trans (Z9 _ _ _ _)
  have hR:=(hw.block (w.heap.size+1+1) (by simp)).trans (Zw _ _ _ _)
  have hbw1:=(Xr w _ _ _).thn hw
  have HX:=Qq hX;have HY:=Qq hY;have HR:=Qq hR;have HBw1:=Qq hbw1
  have hsz1:w.heap.size+1+1<w1.heap.size:=Qf hR
  have c4:=rA4 hX
  have hA:Sl Ql (But (fun b=>S b∧b<w.heap.size) (.slice none 0 0)) w1 (.slice p4 n k4) v.kids:=(HKv.out.mono (S':=But (fun b=>S b∧b<w.heap.size) (.slice none 0 0)) (fun b _ h=>⟨h,fun e=>by cases e⟩)).below hbw1
  have HA:=Qq hA
  have hn1:([]:List Val).length+v.kids.length=n:=by rw [HN.out];simp
  have HN1:=Qq hn1
  clear hw hX hY hR hbw1 hA hn1
  go_upto_region 6 with (at_builtin;refine Yq (r:=Ql) (by decide) Zu rfl (.tmp 16) (.tmp 18) _ rfl 44 i0 (.agg zV) 80 underlying40 HJ.out HJ2.out HJ3.out HJ4.out rfl (by omega) (fun b=>S b∧b<w.heap.size) (w.heap.size+3) w1 (.slice none 0 0) [] [] rfl (Own.nil _ _ _ _ _) (.slice p4 n k4) v.kids rfl HA.out n HN1.out (by omega) (by omega) ?_;intro pa ca cssa wa hOa hLa;have HOa:=Qq hOa;have HLa:=Qq hLa;clear hOa hLa)
  rw [List.nil_append] at HOa
  obtain ⟨g,cap',hpv,hgB,hgs⟩:=HOa.out.row.form (by rw [HN.out];omega)
  simp only [Value.slice.injEq] at hpv
  obtain ⟨rfl,-,rfl⟩:=hpv
  have hX2:=kE HLa.out.below (by omega) HX.out
  have hY2:=kE HLa.out.below (by omega) HY.out
  have hR2:=kE HLa.out.below (by omega) HR.out
  have hbwa:Below w.heap.size w wa:=HBw1.out.trans (HLa.out.below.mono (by omega))
  have hVx:Qh (But (fun b=>S b∧b<w.heap.size) (.slice (some ⟨g,0,none⟩) n ca)) wa [.int .i64 x.kind,.int .i64 x.n,.string ⟨x.s.toArray⟩,.slice q3 x.names.length l3,.slice q4 x.kids.length l4] x:=Qh.move HXV.out (.of_below hbwa) (fun b hb h=>⟨h,fun e=>by have:=(HOa.out.row.lt b e.symm).1;omega⟩)
  have hO2:=HOa.out.set5 HN.out hlt hVx
  obtain ⟨bq,oq,t3,s3,t4,s4,he,_,_,d0,d1,d2,d3,d4⟩:=(show Sl Ql (fun _=>True) wa (.slice (some ⟨g,0,none⟩) n ca) v.kids by have:=HOa.out.sl (S':=fun _=>True) (by rw [HN.out];omega) (fun _ _=>trivial) (fun _ _ _=>trivial);exact this).val HKu.out
  obtain ⟨rfl,rfl⟩:g=bq∧0=oq:=by simpa using he
  simp only [Nat.zero_add] at d0 d1 d2 d3 d4
  have hrow:=HOa.out.row
  rw [HN.out] at hrow
  have f0:=hrow.frozenAt (i*5);have f1:=hrow.frozenAt (i*5+1);have f2:=hrow.frozenAt (i*5+2);have f3:=hrow.frozenAt (i*5+3);have f4:=hrow.frozenAt (i*5+4)
  clear hrow
  obtain ⟨y0,y1,y2,y3,y4⟩:=row5 hY2
  have HO2:=Qq hO2;have HX2:=Qq hX2;have HR2:=Qq hR2;have HBwa:=Qq hbwa
  have hsza:=HLa.out.size
  clear he hO2 hX2 hY2 hR2 hbwa hVx c4
  go_upto_region 7 with fail
  obtain ⟨W6,hW6⟩:=eX ((((((wa.setCell ⟨g,i*5,none⟩ (.int .i64 x.kind)).setCell ⟨g,i*5+1,none⟩ (.int .i64 x.n)).setCell ⟨g,i*5+2,none⟩ (.string ⟨x.s.toArray⟩)).setCell ⟨g,i*5+3,none⟩ (.slice q3 x.names.length l3)).setCell ⟨g,i*5+4,none⟩ (.slice q4 x.kids.length l4)))
  have ho6:∀ b,b≠g→W6.heap[b]?=wa.heap[b]?:=fun b hb=>by rw [← hW6];exact Yp hb
  have hs6:W6.heap.size=wa.heap.size:=by rw [← hW6];simp [World.setCell]
  have hO6:=HO2.out
  rw [hW6] at hO6 ⊢
  have hX6:=(ho6 w.heap.size (by omega)).trans HX2.out
  have hR6:=(ho6 (w.heap.size+1+1) (by omega)).trans HR2.out
  have hb6:Below w.heap.size w W6:=by
   rw [← hW6]
   exact ((((HBwa.out.setCell (p:=⟨g,i*5,none⟩) (by show w.heap.size≤g;omega) _).setCell (p:=⟨g,i*5+1,none⟩) (by show w.heap.size≤g;omega) _).setCell (p:=⟨g,i*5+2,none⟩) (by show w.heap.size≤g;omega) _).setCell (p:=⟨g,i*5+3,none⟩) (by show w.heap.size≤g;omega) _).setCell (p:=⟨g,i*5+4,none⟩) (by show w.heap.size≤g;omega) _
  have HO6:=Qq hO6;have HX6:=Qq hX6;have HR6:=Qq hR6;have HB6:=Qq hb6
  obtain ⟨c0,c1,c2,c3,c4⟩:=row5 hX6
  have fx4:=fA 4 hX6
  clear hW6 ho6 hO6 hX6 hR6 hb6 d0 d1 d2 d3 d4 f0 f1 f2 f3 f4 y0 y1 y2 y3 y4
  go_upto_region 8 with fail
  obtain ⟨W7,hW7⟩:=eX (W6.setCell ⟨w.heap.size,4,none⟩ (.slice (some ⟨g,0,none⟩) n ca))
  rw [hW7]
  have hX7:W7.heap[w.heap.size]?=some (.cells #[.int .i64 v.kind,.int .i64 v.n,.string ⟨v.s.toArray⟩,.slice p3 v.names.length k3,.slice (some ⟨g,0,none⟩) n ca] 44 (0,0)):=by rw [← hW7,heap_setCell_same _ _ _ _ _ _ HX6.out];rfl
  have ho7:∀ b,b≠w.heap.size→W7.heap[b]?=W6.heap[b]?:=fun b hb=>by rw [← hW7];exact Qg hb
  have hR7:=(ho7 (w.heap.size+1+1) (by omega)).trans HR6.out
  have hb7:Below w.heap.size w W7:=by rw [← hW7];exact HB6.out.setCell (p:=⟨w.heap.size,4,none⟩) (Q9 _) _
  have hO7:Own Ql 44 (fun b=>S b∧b<w.heap.size) (w.heap.size+3) W7 (.slice (some ⟨g,0,none⟩) n ca) (v.kids.set i x) _:=HO6.out.move (Q9 _) (fun b _ h=>ho7 b (by
   rcases h with h | h
   ·have:=h.2;omega
   have:=(HO6.out.row.lt b h).1;omega))
  have HR7:=Qq hR7;have HB7:=Qq hb7;have HO7:=Qq hO7
  clear c0 c1 c2 c3 c4 fx4
  obtain ⟨e0,e1,e2,e3,e4⟩:=row5 hX7
  obtain ⟨r0,r1,r2,r3,r4⟩:=row5 hR7
  obtain ⟨f0,f1,f2,f3,f4⟩:=frz5 hR7
  clear hW7 hX7 ho7 hR7 hb7 hO7
  go_wp2_with fail
  show bodyPost _ _ _ _ _ (Zz W7 (w.heap.size+1+1) (.int .i64 v.kind) (.int .i64 v.n) (.string ⟨v.s.toArray⟩) (.slice p3 v.names.length k3) (.slice (some ⟨g,0,none⟩) n ca))
  refine Q7 (v:=.tuple #[.agg #[.int .i64 v.kind,.int .i64 v.n,.string ⟨v.s.toArray⟩,.slice p3 v.names.length k3,.slice (some ⟨g,0,none⟩) n ca],.bool true]) (by simp [results,results197,go_sem,Qm HR7.out]) rfl ⟨v.kind,v.n,⟨v.s.toArray⟩,p3,v.names.length,k3,some ⟨g,0,none⟩,n,ca,true,rfl,fun _=>⟨.mk v.kind v.n v.s v.names (v.kids.set i x),?_,?_⟩,Qo HB7.out (by omega)⟩
  ·have hls:(v.kids.set i x).length=n:=by rw [List.length_set,HN.out]
   have hk9:Sl Ql (fun b=>(S b∧b<w.heap.size)∨w.heap.size+3≤b) W7 (.slice (some ⟨g,0,none⟩) n ca) (v.kids.set i x):=HO7.out.sl (by rw [hls];omega) (fun b hb=>.inr hb) (fun b _ h=>.inl h)
   refine Zn hsl ?_ ?_
   ·exact ((HNv.out.below HB7.out).frame (fun b hb _=>Qu (by have:=hb.2;omega))).mono (fun b _ hb=>.inl hb.1)
   refine (hk9.frame (fun b hb _=>Qu (by omega))).mono (fun b _ hb=>?_)
   rcases hb with h | h
   ·exact .inl h.1
   exact .inr (by omega)
  refine .mk _ _ _ _ _ (fun h=>HBv.out.bool h) (fun y hy=>?_)
  rcases List.mem_or_eq_of_mem_set hy with h | h
  ·exact HBv.out.kids y h
  rw [h];exact HBx.out
theorem Sx {T:Type} {l:List T} {i:Nat} {x y:T} (h:y ∈ Y8 l i x):y ∈ l∨y=x:=by
 unfold Y8 at h
 rcases List.mem_append.1 h with h | h
 ·exact .inl (List.mem_of_mem_take h)
 rcases List.mem_cons.1 h with h | h
 ·exact .inr h
 exact .inl (List.mem_of_mem_drop h)
theorem rec2_mem:∀ {z:List (Bs × Val)} {y:Val},y ∈ (Yx z).2→∃ x,(x,y) ∈ z:=by
 have:∀ (z:List (Bs × Val)) (A:List Bs × List Val) (y:Val),y ∈ (z.foldl Vo A).2→y ∈ A.2∨∃ x,(x,y) ∈ z:=by
  intro z
  induction z with
  | nil=>intro A y h;exact .inl h
  | cons p z ih=>
   intro A y h
   rcases ih (Vo A p) y h with h | ⟨x,h⟩
   ·rcases Sx h with h | h
    ·exact .inl h
    exact .inr ⟨p.1,by rw [h];exact List.mem_cons_self⟩
   exact .inr ⟨x,List.mem_cons_of_mem _ h⟩
 intro z y h
 rcases this z ([],[]) y h with h | h
 ·simp at h
 exact h
theorem Lh (nm:Bs) (n:Int) (sx:Bs) (names binds:List Bs) (kids:List Ex) (a z:Int) (S:Nat→Prop) (ce:List Value) (vv:Value) (vals:List Val) (w:World) (he:Z6 S w ce (.mk 5 nm n sx names binds kids a z)) (hv0:Sl Ql S w vv vals) (hb:∀ v ∈ vals,Z2 v) :Calls prog 182 #[.agg ce.toArray,vv] w (Yi S w):=by
 have hv:=hv0.up
 obtain ⟨vp,vc,rfl,hvl⟩:=hv.len
 obtain ⟨nv,bv,kv,rfl,hnm,hsx,hn,hbi,hk⟩:=Zf.1 he
 obtain ⟨p1,c1,rfl,_⟩:=hn.len
 obtain ⟨p2,c2,rfl,_⟩:=hbi.len
 obtain ⟨p3,c3,rfl,_⟩:=hk.len
 have HV:=Qq hv;have HBo:=Qq hb;have HNs:=Qq hn
 clear he hv0 hv hn hbi hk hb
 unfold sv
 go_enter func182,ntmps182
 go_wp2_with fail
 refine Q7 (v:=.tuple #[.agg #[.int .i64 3,.int .i64 0,.string ⟨nm.toArray⟩,.slice none 0 0,.slice vp vals.length vc],.bool true]) (by simp [results,results182,go_sem]) rfl ⟨3,0,⟨nm.toArray⟩,none,0,0,vp,vals.length,vc,true,rfl,fun _=>⟨.mk 3 0 nm [] vals,Zn hnm (Sl.nil _ _ _) ((HV.out.mono (fun b _ h=>.inl h.1)).below (Zv _ _ _)),.mk _ _ _ _ _ (fun h=>by cases h) HBo.out⟩,Zv _ _ _⟩
theorem L3 (nm:Bs) (n:Int) (sx:Bs) (names binds:List Bs) (kids:List Ex) (a z:Int) (S:Nat→Prop) (ce:List Value) (vv:Value) (vals:List Val) (w:World) (he:Z6 S w ce (.mk 9 nm n sx names binds kids a z)) (hv0:Sl Ql S w vv vals) (hb:∀ v ∈ vals,Z2 v) (hl:vals.length≤4096):Calls prog 182 #[.agg ce.toArray,vv] w (Yi S w):=by
 have hv:=hv0.up
 obtain ⟨vp,vc,rfl,hvl⟩:=hv.len
 obtain ⟨nv,bv,kv,rfl,hnm,hsx,hn,hbi,hk⟩:=Zf.1 he
 obtain ⟨p1,c1,rfl,_⟩:=hn.len
 obtain ⟨p2,c2,rfl,_⟩:=hbi.len
 obtain ⟨p3,c3,rfl,_⟩:=hk.len
 have HV:=Qq hv;have HBo:=Qq hb;have HNs:=Qq hn
 clear he hv0 hv hn hbi hk hb
 unfold sv
 have hq:(vals.length:Int)≤4096:=by omega
 go_enter func182,ntmps182
 go_wp2_with fail
 refine Q7 (v:=.tuple #[.agg #[.int .i64 5,.int .i64 0,.string ⟨#[]⟩,.slice none 0 0,.slice vp vals.length vc],.bool true]) (by simp [results,results182,go_sem]) rfl ⟨5,0,⟨#[]⟩,none,0,0,vp,vals.length,vc,true,rfl,fun _=>⟨.mk 5 0 [] [] vals,Zn (s:=[]) (by simp) (Sl.nil _ _ _) ((HV.out.mono (fun b _ h=>.inl h.1)).below (Zv _ _ _)),.mk _ _ _ _ _ (fun h=>by cases h) HBo.out⟩,Zv _ _ _⟩
theorem Ml (k:Int) (nm:Bs) (n:Int) (sx:Bs) (names binds:List Bs) (kids:List Ex) (a z:Int) (S:Nat→Prop) (ce:List Value) (vv:Value) (vals:List Val) (w:World) (he:Z6 S w ce (.mk k nm n sx names binds kids a z)) (hv0:Sl Ql S w vv vals) (hb:∀ v ∈ vals,Z2 v) (hk5:k≠5) (hk9:k≠9) (hk6:k≠6) (hk8:k≠8) (hk7:k≠7):Calls prog 182 #[.agg ce.toArray,vv] w (Yi S w):=by
 have hv:=hv0.up
 obtain ⟨vp,vc,rfl,hvl⟩:=hv.len
 obtain ⟨nv,bv,kv,rfl,hnm,hsx,hn,hbi,hk⟩:=Zf.1 he
 obtain ⟨p1,c1,rfl,_⟩:=hn.len
 obtain ⟨p2,c2,rfl,_⟩:=hbi.len
 obtain ⟨p3,c3,rfl,_⟩:=hk.len
 have HV:=Qq hv;have HBo:=Qq hb;have HNs:=Qq hn
 clear he hv0 hv hn hbi hk hb
 unfold sv
 have q5:(k==5)=false:=by simpa using hk5
 have q9:(k==9)=false:=by simpa using hk9
 have q6:(k==6)=false:=by simpa using hk6
 have q8:(k==8)=false:=by simpa using hk8
 have q7:(k==7)=false:=by simpa using hk7
 clear hk5 hk9 hk6 hk8 hk7
 go_enter func182,ntmps182
 go_wp2_with fail
 refine Q7 (v:=.tuple #[.agg zV,.bool false]) (by simp [results,results182,go_sem]) rfl ⟨0,0,⟨#[]⟩,none,0,0,none,0,0,false,rfl,fun h=>(by cases h),Zv _ _ _⟩
theorem Oe (nm:Bs) (n:Int) (sx:Bs) (names binds:List Bs) (kids:List Ex) (a z:Int) (S:Nat→Prop) (ce:List Value) (vv:Value) (vals:List Val) (w:World) (he:Z6 S w ce (.mk 6 nm n sx names binds kids a z)) (hv0:Sl Ql S w vv vals) (hb:∀ v ∈ vals,Z2 v) (hw:∀ x ∈ names,Xy x) (hnl:names.length≤1000):Calls prog 182 #[.agg ce.toArray,vv] w (Yi S w):=by
 have hv:=hv0.up
 obtain ⟨vp,vc,rfl,hvl⟩:=hv.len
 obtain ⟨nv,bv,kv,rfl,hnm,hsx,hn,hbi,hk⟩:=Zf.1 he
 obtain ⟨p1,c1,rfl,_⟩:=hn.len
 obtain ⟨p2,c2,rfl,_⟩:=hbi.len
 obtain ⟨p3,c3,rfl,_⟩:=hk.len
 have HV:=Qq hv;have HBo:=Qq hb;have HNs:=Qq hn
 clear he hv0 hv hn hbi hk hb
 unfold sv
 have HRec:=Qq (fun W (hb:Below w.heap.size w W)=>F5 (fun b=>S b∧b<w.heap.size) _ _ names vals W ((HNs.out.mono (fun b hb h=>⟨h,hb⟩)).below hb) (HV.out.below hb) hw hnl)
 clear hw
 go_enter func182,ntmps182
 go_wp2_with fail
 refine (HRec.out _ (Zv _ _ _)).mono ?_
 rintro e w1 ⟨hb1,hcase⟩
 have hZ1:=(hb1.block (w.heap.size+1) (by simp)).trans (Q6 _ _ _)
 have HZ1:=Qq hZ1;have HB1:=Qq ((Zv w _ _).thn hb1)
 have hlt:=Qf hZ1
 rcases hcase with ⟨err,he0,rfl,_⟩ | ⟨q3,l3,q4,l4,_,rfl,_,_,hvr⟩
 ·have hq:(err==0)=false:=by simpa using he0
  clear he0 hb1 hZ1
  go_upto_region 8 with fail
  generalize hW2:w1.alloc _=W2
  have hb2:=eqB hW2 (Qn _ _)
  have hX2:=eqH (b:=w1.heap.size) hW2 (Qw _ _)
  have hZ2:=kE hb2 hlt HZ1.out
  have HZ2:=Qq hZ2;have HB2:=Qq (HB1.out.thn hb2)
  obtain ⟨x0,x1,x2,x3,x4⟩:=row5 hX2
  obtain ⟨z0,z1,z2,z3,z4⟩:=row5 hZ2
  obtain ⟨f0,f1,f2,f3,f4⟩:=frz5 hZ2
  clear hW2 hb2 hX2 hZ2
  go_wp2_with fail
  show bodyPost _ _ _ _ _ (Zz W2 (w.heap.size+1) (.int .i64 0) (.int .i64 0) (.string ⟨#[]⟩) (.slice none 0 0) (.slice none 0 0))
  refine Q7 (v:=.tuple #[.agg zV,.bool false]) (by simp [results,results182,go_sem,Qm HZ2.out]) rfl ⟨0,0,⟨#[]⟩,none,0,0,none,0,0,false,rfl,fun h=>(by cases h),Qo HB2.out (by omega)⟩
 obtain ⟨hz1,hz2⟩:=Xl (names.zip vals)
 have hbo:Z2 (U0 (Yx (names.zip vals)).1 (Yx (names.zip vals)).2):=.mk _ _ _ _ _ (fun h=>by cases h) (fun y hy=>by
  obtain ⟨x,hx⟩:=rec2_mem hy
  exact HBo.out y (List.of_mem_zip hx).2)
 have HBr:=Qq hbo
 rw [Ff] at hvr ⊢
 have HVr:=Qq hvr
 obtain ⟨r,hr⟩:=eX ((names.zip vals).length)
 rw [hr] at HVr ⊢
 clear hvr hb1 hZ1 hbo hz1 hz2 hr
 go_upto_region 8 with fail
 generalize hW2:w1.alloc _=W2
 have hb2:=eqB hW2 (Qn _ _)
 have hX2:=eqH (b:=w1.heap.size) hW2 (Qw _ _)
 have hZ2:=kE hb2 hlt HZ1.out
 have HZ2:=Qq hZ2;have HB2:=Qq (HB1.out.thn hb2)
 have HVr2:=Qq (HVr.out.move (S':=fun b=>(S b∧b≠w.heap.size+1)∨w.heap.size+2≤b) (.of_below hb2) (fun b _ h=>by
  rcases h with h | h
  ·exact .inl ⟨h.1,by have:=h.2;omega⟩
  exact .inr (by simpa using h)))
 obtain ⟨x0,x1,x2,x3,x4⟩:=row5 hX2
 obtain ⟨z0,z1,z2,z3,z4⟩:=row5 hZ2
 obtain ⟨f0,f1,f2,f3,f4⟩:=frz5 hZ2
 clear hW2 hb2 hX2 hZ2
 go_wp2_with fail
 show bodyPost _ _ _ _ _ (Zz W2 (w.heap.size+1) (.int .i64 4) (.int .i64 0) (.string ⟨#[]⟩) (.slice q3 r l3) (.slice q4 r l4))
 refine Q7 (v:=.tuple #[.agg #[.int .i64 4,.int .i64 0,.string ⟨#[]⟩,.slice q3 r l3,.slice q4 r l4],.bool true]) (by simp [results,results182,go_sem,Qm HZ2.out]) rfl ⟨4,0,⟨#[]⟩,q3,r,l3,q4,r,l4,true,rfl,fun _=>⟨_,?_,HBr.out⟩,Qo HB2.out (by omega)⟩
 exact HVr2.out.move (fun b hb _=>Qu (by omega)) (fun b _ hb=>by
  rcases hb with h | h
  ·exact .inl h.1
  exact .inr (by omega))
theorem Hx (nm:Bs) (n:Int) (sx:Bs) (names binds:List Bs) (kids:List Ex) (a z:Int) (S:Nat→Prop) (ce:List Value) (vv:Value) (vals:List Val) (w:World) (he:Z6 S w ce (.mk 8 nm n sx names binds kids a z)) (hv0:Sl Ql S w vv vals) (hb:∀ v ∈ vals,Z2 v) (v0:Val) (hv00:vals[0]?=some v0):Calls prog 182 #[.agg ce.toArray,vv] w (Yi S w):=by
 have hv:=hv0.up
 obtain ⟨vp,vc,rfl,hvl⟩:=hv.len
 obtain ⟨nv,bv,kv,rfl,hnm,hsx,hn,hbi,hk⟩:=Zf.1 he
 obtain ⟨p1,c1,rfl,_⟩:=hn.len
 obtain ⟨p2,c2,rfl,_⟩:=hbi.len
 obtain ⟨p3,c3,rfl,_⟩:=hk.len
 have HV:=Qq hv;have HBo:=Qq hb;have HNs:=Qq hn
 clear he hv0 hv hn hbi hk hb
 unfold sv
 obtain ⟨vb,voff,q3,l3,q4,l4,rfl,hvb,hvx,d0,d1,d2,d3,d4⟩:=HV.out.val hv00
 have HG:=Qq (fun W (hb:Below w.heap.size w W)=>Fo (fun b=>S b∧b<w.heap.size) v0 [.int .i64 v0.kind,.int .i64 v0.n,.string ⟨v0.s.toArray⟩,.slice q3 v0.names.length l3,.slice q4 v0.kids.length l4] nm W (Qh.move hvx (.of_below hb) (fun _ _ h=>h)))
 unfold sv at HG
 have hlen:0<vals.length:=(Qj hv00).1
 have hi2:(0:Int)<(vals.length:Int):=by omega
 have hb0:=HBo.out v0 (Qy hv00)
 have HB0:=Qq hb0
 simp only [Nat.zero_mul,Nat.add_zero] at d0 d1 d2 d3 d4
 have D:=Qq (Qe d0 (Qe d1 (Qe d2 (Qe d3 d4))))
 clear hvx hv00 hb0 d0 d1 d2 d3 d4
 go_enter func182,ntmps182
 go_upto_region 10 with fail
 generalize hW1:(w.alloc _).alloc _=W1
 have hb1:=eqB hW1 (Zv _ _ _)
 have hX1:=eqH (b:=w.heap.size) hW1 (Q5 _ _ _)
 have hZ1:=eqH (b:=w.heap.size+1) hW1 (Q6 _ _ _)
 have HB1:=Qq hb1;have HZ1:=Qq hZ1
 have hlt:=Qf hZ1
 have c1x:=rA1 hX1
 obtain ⟨d0',d1',d2',d3',d4'⟩:=D.out
 have d0:=(hb1.cell (p:=⟨vb,voff,none⟩) hvb).trans d0';have d1:=(hb1.cell (p:=⟨vb,voff+1,none⟩) hvb).trans d1';have d2:=(hb1.cell (p:=⟨vb,voff+2,none⟩) hvb).trans d2';have d3:=(hb1.cell (p:=⟨vb,voff+3,none⟩) hvb).trans d3';have d4:=(hb1.cell (p:=⟨vb,voff+4,none⟩) hvb).trans d4'
 clear hW1 hb1 hX1 hZ1 d0' d1' d2' d3' d4'
 go_region_with (go_at_call 38;refine (HG.out _ (HB1.out.thn (Qz _ _).drew)).mono ?_;rintro e w5 ⟨cs',rfl,hv5,hb5⟩;obtain ⟨t3,s3,t4,s4,hcs,_⟩:=Qh.cells hv5;simp only [vcs] at hcs;subst hcs;have hZ5:=kE ((Qz _ W1).drew.thn hb5) hlt HZ1.out;have HZ5:=Qq hZ5;have HB5:=Qq (HB1.out.thn ((Qz _ W1).drew.thn hb5));have HV5:=Qq hv5;have g0:=fA 0 hZ5;have y0:=Qk _ _ 0 _ _ _ hZ5;have g1:=fA 1 hZ5;have y1:=Qk _ _ 1 _ _ _ hZ5;have g2:=fA 2 hZ5;have y2:=Qk _ _ 2 _ _ _ hZ5;have g3:=fA 3 hZ5;have y3:=Qk _ _ 3 _ _ _ hZ5;have g4:=fA 4 hZ5;have y4:=Qk _ _ 4 _ _ _ hZ5;simp only [List.getElem?_toArray,List.getElem?_cons_zero,List.getElem?_cons_succ] at y0 y1 y2 y3 y4;clear hv5 hb5 hZ5)
 all_goals
  go_wp2_with fail
  show bodyPost _ _ _ _ _ (Zz w5 (w.heap.size+1) (.int .i64 ((Y1 v0 nm).getD Val.zero).kind) (.int .i64 ((Y1 v0 nm).getD Val.zero).n) (.string ⟨((Y1 v0 nm).getD Val.zero).s.toArray⟩) (.slice t3 ((Y1 v0 nm).getD Val.zero).names.length s3) (.slice t4 ((Y1 v0 nm).getD Val.zero).kids.length s4))
  refine Q7 (v:=.tuple #[.agg #[.int .i64 ((Y1 v0 nm).getD Val.zero).kind,.int .i64 ((Y1 v0 nm).getD Val.zero).n,.string ⟨((Y1 v0 nm).getD Val.zero).s.toArray⟩,.slice t3 ((Y1 v0 nm).getD Val.zero).names.length s3,.slice t4 ((Y1 v0 nm).getD Val.zero).kids.length s4],.bool (Y1 v0 nm).isSome]) (by simp [results,results182,go_sem,Qm HZ5.out]) rfl ⟨_,_,_,t3,_,s3,t4,_,s4,_,rfl,fun hsm=>⟨(Y1 v0 nm).getD Val.zero,?_,?_⟩,Qo HB5.out (by omega)⟩
  ·exact HV5.out.move (fun b hb _=>Qu (by have:=hb.2;omega)) (fun b _ hb=>.inl hb.1)
  cases hg:Y1 v0 nm with
  | none=>exact Z2.zero
  | some u=>
   obtain ⟨i,_,hu,_⟩:=Dm hg
   exact HB0.out.kids u (Qy hu)
def Og (S:Nat→Prop) (w W1:World) (t10 t11:Value) (wx:World):Prop:=
 ∃ (G:Nat) (uk un:Int) (us:ByteArray) (u3:Option Addr) (m3 l3:Nat) (u4:Option Addr) (m4 l4:Nat) (b:Bool),t10=.pointer (some ⟨G,0,none⟩)∧t11=.bool b∧wx.heap[G]?=some (.cells #[.int .i64 uk,.int .i64 un,.string us,.slice u3 m3 l3,.slice u4 m4 l4] 44 (0,0))∧Below W1.heap.size W1 wx∧W1.heap.size≤G∧(b=true→∃ v,Qh (fun c=>(S c∧c<w.heap.size)∨W1.heap.size≤c) wx [.int .i64 uk,.int .i64 un,.string us,.slice u3 m3 l3,.slice u4 m4 l4] v∧Z2 v)
def WithMid (S:Nat→Prop) (w W1:World) (i:Value) (wr:World):Prop:=(i=.int .i64 1∧W1=wr) ∨
 (i=.int .i64 2∧Below w.heap.size w wr∧∃ (uk un:Int) (us:ByteArray) (u3:Option Addr) (m3 l3:Nat) (u4:Option Addr) (m4 l4:Nat),wr.heap[w.heap.size+1]?=some (.cells zV 44 (0,0))∧wr.heap[w.heap.size+1+1]?=some (.cells #[.int .i64 uk,.int .i64 un,.string us,.slice u3 m3 l3,.slice u4 m4 l4] 44 (0,0))∧∃ v,Qh (fun c=>(S c∧c<w.heap.size)∨w.heap.size+3≤c) wr [.int .i64 uk,.int .i64 un,.string us,.slice u3 m3 l3,.slice u4 m4 l4] v∧Z2 v)
theorem Lr (nm:Bs) (n:Int) (sx:Bs) (names binds:List Bs) (kids:List Ex) (a z:Int) (S:Nat→Prop) (ce:List Value) (vv:Value) (vals:List Val) (w:World) (he:Z6 S w ce (.mk 7 nm n sx names binds kids a z)) (hv0:Sl Ql S w vv vals) (hb:∀ v ∈ vals,Z2 v) (x1:Bs) (hnames:names=[x1]) (v0 v1:Val) (hvals:vals=[v0,v1]):Calls prog 182 #[.agg ce.toArray,vv] w (Yi S w):=by
 subst hnames;subst hvals
 have hv:Sl Ql (fun b=>S b∧b<w.heap.size) w vv [v0,v1]:=hv0.mono (fun b hb h=>⟨h,hb⟩)
 obtain ⟨vp,vc,rfl,hvl⟩:=hv.len
 obtain ⟨nv,bv,kv,rfl,hnm,hsx,hn,hbi,hk⟩:=Zf.1 he
 obtain ⟨p1,c1,rfl,_⟩:=hn.len
 obtain ⟨p2,c2,rfl,_⟩:=hbi.len
 obtain ⟨p3,c3,rfl,_⟩:=hk.len
 have HV:=Qq hv;have HBo:=Qq hb;have HNs:=Qq hn
 clear he hv0 hv hn hbi hk hb
 unfold sv
 simp only [List.length_cons,List.length_nil,Nat.zero_add,Nat.reduceAdd] at HV HNs ⊢
 have mixed:prog.follows .mixedOrders=true:=by kernel_rfl
 obtain ⟨vb,voff,q3,e3,q4,e4,hvp,hvb,hv0x,d0,d1,d2,d3,d4⟩:=HV.out.val (i:=0) (x:=v0) rfl
 obtain ⟨vb',voff',r3,f3,r4,f4,he2,_,hv1x,g0,g1,g2,g3,g4⟩:=HV.out.val (i:=1) (x:=v1) rfl
 subst hvp
 obtain ⟨rfl,rfl⟩:vb=vb'∧voff=voff':=by simpa using he2
 obtain ⟨nb,noff,hnp,hnc,_⟩:=HNs.out.str (i:=0) (x:=x1) rfl
 subst hnp
 have hnb:=Qv _ _ hnc
 simp only [Nat.zero_mul,Nat.one_mul,Nat.add_zero] at d0 d1 d2 d3 d4 g0 g1 g2 g3 g4 hnc
 have HB0:=Qq (HBo.out v0 (by simp));have HB1v:=Qq (HBo.out v1 (by simp))
 have HW:=Qq (fun W (hb:Below w.heap.size w W)=>Rs (fun b=>S b∧b<w.heap.size) v0 v1 x1 [.int .i64 v0.kind,.int .i64 v0.n,.string ⟨v0.s.toArray⟩,.slice q3 v0.names.length e3,.slice q4 v0.kids.length e4] [.int .i64 v1.kind,.int .i64 v1.n,.string ⟨v1.s.toArray⟩,.slice r3 v1.names.length f3,.slice r4 v1.kids.length f4] W (Qh.move hv0x (.of_below hb) (fun _ _ h=>h)) (Qh.move hv1x (.of_below hb) (fun _ _ h=>h)) HB0.out HB1v.out)
 unfold sv at HW
 have HV0:=Qq hv0x
 have GG:=Qq (Qe g0 (Qe g1 (Qe g2 (Qe g3 (Qe g4 hnc)))))
 clear hv0x hv1x he2 g0 g1 g2 g3 g4 hnc
 go_enter func182,ntmps182
 go_upto_region 13 with fail
 generalize hW1:((w.alloc _).alloc _).alloc _=W1
 have hb1:=eqB hW1 (Xr _ _ _ _)
 have hE1:=eqH (b:=w.heap.size) hW1 (Zd _ _ _ _)
 have hZ1:=eqH (b:=w.heap.size+1) hW1 (Z9 _ _ _ _)
 have hV1:=eqH (b:=w.heap.size+1+1) hW1 (Zw _ _ _ _)
 have HB1:=Qq hb1;have HZ1:=Qq hZ1;have HV1:=Qq hV1;have HE1:=Qq hE1
 have hlt:=Qf hV1
 clear hW1 hb1 hZ1 hE1 hV1 d0 d1 d2 d3 d4
 go_wp2_with fail
 go_loopw [9,10,11,12] (fun i _ _ _ wr=>WithMid S w W1 i wr) (fun i _ _ _ _=>2 - (intOf i).toNat)
 case atStart=>exact .inl ⟨rfl,rfl⟩
 rcases hrel with ⟨rfl,rfl⟩ | ⟨rfl,hbw,uk,un,us,u3,m3,l3,u4,m4,l4,hZ,hX,v,hv,hbv⟩
 ·obtain ⟨g0',g1',g2',g3',g4',hnc'⟩:=GG.out
  refine let_mvar% ?Lq1:=fun w':World=>w'.cell? ⟨w.heap.size+1+1,0,none⟩=some (.int .i64 v0.kind)∧w'.cell? ⟨w.heap.size+1+1,1,none⟩=some (.int .i64 v0.n)∧w'.cell? ⟨w.heap.size+1+1,2,none⟩=some (.string ⟨v0.s.toArray⟩)∧w'.cell? ⟨w.heap.size+1+1,3,none⟩=some (.slice q3 v0.names.length e3)∧w'.cell? ⟨w.heap.size+1+1,4,none⟩=some (.slice q4 v0.kids.length e4)∧w'.cell? ⟨w.heap.size,4,none⟩=some (.slice (some ⟨nb,noff,none⟩) 1 c1)∧w'.cell? ⟨nb,noff,none⟩=some (.string ⟨x1.toArray⟩)∧w'.cell? ⟨vb,voff+5,none⟩=some (.int .i64 v1.kind)∧w'.cell? ⟨vb,voff+5+1,none⟩=some (.int .i64 v1.n)∧w'.cell? ⟨vb,voff+5+2,none⟩=some (.string ⟨v1.s.toArray⟩)∧w'.cell? ⟨vb,voff+5+3,none⟩=some (.slice r3 v1.names.length f3)∧w'.cell? ⟨vb,voff+5+4,none⟩=some (.slice r4 v1.kids.length f4)∧Below W1.heap.size W1 w';?_
  have HS:∀ w',Below W1.heap.size W1 w'→?Lq1 w':=by
   intro w' h
   have hh:∀ {b j:Nat} {u:Value},b<w.heap.size→w.cell? ⟨b,j,none⟩=some u→w'.cell? ⟨b,j,none⟩=some u:=fun {b j u} hlt2 hc=>(h.cell (p:=⟨b,j,none⟩) (Qa hlt2 HB1.out.size)).trans ((HB1.out.cell (p:=⟨b,j,none⟩) hlt2).trans hc)
   have hV:=kE h hlt HV1.out
   have hE:=kB h HE1.out
   exact ⟨Qk _ _ 0 _ _ _ hV,Qk _ _ 1 _ _ _ hV,Qk _ _ 2 _ _ _ hV,Qk _ _ 3 _ _ _ hV,Qk _ _ 4 _ _ _ hV,Qk _ _ 4 _ _ _ hE,hh hnb hnc',hh hvb g0',hh hvb g1',hh hvb g2',hh hvb g3',hh hvb g4',h⟩
  have HSB:∀ w',?Lq1 w'→Below W1.heap.size W1 w':=fun w' h=>h.2.2.2.2.2.2.2.2.2.2.2.2
  have HA:∀ w' o,?Lq1 w'→?Lq1 (w'.alloc o):=fun w' o h=>HS _ ((HSB w' h).alloc (HSB w' h).size o)
  have HP:∀ w' a b c d e,?Lq1 w'→?Lq1 (Zz w' W1.heap.size a b c d e):=fun w' a b c d e h=>HS _ (Qo (HSB w' h) (Q9 _))
  unfold Zz at HP
  have HC:=Qq (fun W' (h':?Lq1 W')=>(HW.out W' (HB1.out.thn (HSB _ h'))).mono (R':=fun e w2=>∃ (uk un:Int) (us:ByteArray) (u3:Option Addr) (m3 l3:Nat) (u4:Option Addr) (m4 l4:Nat) (b:Bool),e=.returned (.tuple #[.agg #[.int .i64 uk,.int .i64 un,.string us,.slice u3 m3 l3,.slice u4 m4 l4],.bool b])∧(b=true→∃ v,Qh (fun c=>(S c∧c<w.heap.size)∨W'.heap.size≤c) w2 [.int .i64 uk,.int .i64 un,.string us,.slice u3 m3 l3,.slice u4 m4 l4] v∧Z2 v)∧Below W'.heap.size W' w2∧W1.heap.size≤W'.heap.size∧?Lq1 w2) (by
   rintro e w2 ⟨uk,un,us,u3,m3,l3,u4,m4,l4,b,rfl,h3,h4⟩
   exact ⟨uk,un,us,u3,m3,l3,u4,m4,l4,b,rfl,h3,h4,(HSB _ h').size,HS _ ((HSB _ h').thn h4)⟩))
  have HS0:=Qq (HS W1.drew (Qz _ _).drew);have HSr:=Qq (HS W1 (Qz _ _));have HD':=Qq (fun w' (h:?Lq1 w')=>HS w'.drew (HSB w' h).drew);have HSB':=Qq HSB;have HA':=Qq HA;have HP':=Qq HP
  clear HS HSB HA HP g0' g1' g2' g3' g4' hnc'
  have hwz:IntKind.i64.wrap 0=0:=by decide
  go_upto_region 16 with fail
  go_cut [10,11] from 55 to 100 (fun t10 t11 wx=>Og S w W1 t10 t11 wx)
  case first=>
   go_region_held3 ?Lq1 (first | with_reducible exact HS0.out | with_reducible exact hS2 | with_reducible exact HD'.out _ (HA'.out _ _ HSr.out) | with_reducible exact HA'.out _ _ hS2 | with_reducible exact HP'.out _ _ _ _ _ _ hS2)
    (first
     | (go_at_call 197;refine (HC.out _ (by assumption)).mono ?_;rintro e w2 ⟨uk,un,us,u3,m3,l3,u4,m4,l4,b,rfl,hv2,hb2,hsz2,hS2⟩;(try (have r2:w2.heap[W1.heap.size]?=some (.cells zV 44 (0,0)):=(hb2.block W1.heap.size (by simp)).trans (Qw W1 _);have g0:=fA 0 r2;have y0:=Qk _ _ 0 _ _ _ r2;have g1:=fA 1 r2;have y1:=Qk _ _ 1 _ _ _ r2;have g2:=fA 2 r2;have y2:=Qk _ _ 2 _ _ _ r2;have g3:=fA 3 r2;have y3:=Qk _ _ 3 _ _ _ r2;have g4:=fA 4 r2;have y4:=Qk _ _ 4 _ _ _ r2;simp only [List.getElem?_toArray,List.getElem?_cons_zero,List.getElem?_cons_succ] at y0 y1 y2 y3 y4;have HR2:=Qq r2;clear r2));have HV2:=Qq hv2;have HB2:=Qq hb2;clear hv2 hb2))
   all_goals
    go_wp2_with fail
    go_meet
   ·exact ⟨w2.heap.size,uk,un,us,u3,m3,l3,u4,m4,l4,b,rfl,rfl,Qw _ _,(HSB'.out _ hS2).thn (Qn _ _),(HSB'.out _ hS2).size,fun hbt=>by
       obtain ⟨v,h1,h2⟩:=HV2.out hbt
       exact ⟨v,h1.move (.of_below (Qn _ _)) (fun c _ h=>by rcases h with h | h;exact .inl h;exact .inr (by simpa using h)),h2⟩⟩
   show Og S w W1 _ _ (Zz w2 W1.heap.size _ _ _ _ _)
   exact ⟨W1.heap.size,uk,un,us,u3,m3,l3,u4,m4,l4,b,rfl,rfl,Yr HR2.out,Qo (HSB'.out _ hS2) (Q9 _),Q9 _,fun hbt=>by
      obtain ⟨v,h1,h2⟩:=HV2.out hbt
      exact ⟨v,h1.move (S':=fun c=>(S c∧c<w.heap.size)∨W1.heap.size<c) (.refl _ _) (fun c _ h=>by rcases h with h | h;exact .inl h;exact .inr (by have h':=h;simp at h';omega)) |>.move (fun c hc _=>Qu (by rcases hc with h | h;exact (by have:=h.2;have:=HB1.out.size;omega);omega)) (fun c _ h=>by rcases h with h | h;exact .inl h;exact .inr (by omega)),h2⟩⟩
  obtain ⟨G,uk,un,us,u3,m3,l3,u4,m4,l4,b,rfl,rfl,hG,hbc,hGl,hvb2⟩:=hcut
  have HG:=Qq hG;have HBc:=Qq hbc;have HVb:=Qq hvb2
  have hGs:=Qf hG
  have HVc:=Qq (kE hbc hlt HV1.out);have HZc:=Qq (kB hbc HZ1.out)
  clear HC HS0 HSr HD' HSB' HA' HP' hG hbc hvb2
  go_wp2_with fail
  go_loopw [11,12] (fun t11 t12 wr=>t11=.bool b∧t12=.int .i64 0∧wc=wr) (fun _ _ _=>0)
  case atStart=>exact ⟨rfl,rfl,rfl⟩
  obtain ⟨rfl,rfl,rfl⟩:=hrel
  obtain ⟨c0,c1,c2,c3,c4⟩:=row5 HVc.out
  obtain ⟨f0,f1,f2,f3,f4⟩:=frz5 HVc.out
  obtain ⟨g0,g1,g2,g3,g4⟩:=row5 HG.out
  obtain ⟨z0,z1,z2,z3,z4⟩:=row5 HZc.out
  obtain ⟨h0,h1,h2,h3,h4⟩:=frz5 HZc.out
  cases b with
  | false=>
   go_wp2_with fail
   show bodyPost _ _ _ _ _ (Zz wc (w.heap.size+1) (.int .i64 v0.kind) (.int .i64 v0.n) (.string ⟨v0.s.toArray⟩) (.slice q3 v0.names.length e3) (.slice q4 v0.kids.length e4))
   refine Q7 (v:=.tuple #[.agg #[.int .i64 v0.kind,.int .i64 v0.n,.string ⟨v0.s.toArray⟩,.slice q3 v0.names.length e3,.slice q4 v0.kids.length e4],.bool false]) (by simp [results,results182,go_sem,Qm HZc.out]) rfl ⟨_,_,_,_,_,_,_,_,_,false,rfl,fun h=>(by cases h),Qo (HB1.out.thn HBc.out) (by omega)⟩
  | true=>
   go_wp2_with fail
   go_roundw
   case measure=>simp [intOf]
   case rel=>
    obtain ⟨v,hv1,hv2⟩:=HVb.out rfl
    refine .inr ⟨rfl,?_,uk,un,us,u3,m3,l3,u4,m4,l4,?_,?_,v,?_,hv2⟩
    ·exact Qo (HB1.out.thn HBc.out) (by omega)
    ·show (Zz wc (w.heap.size+1+1) (.int .i64 uk) (.int .i64 un) (.string us) (.slice u3 m3 l3) (.slice u4 m4 l4)).heap[_]?=_
     rw [Qu (by omega)];exact HZc.out
    ·exact Yr HVc.out
    exact (hv1.move (S':=fun c=>(S c∧c<w.heap.size)∨w.heap.size+3≤c) (.refl _ _) (fun c _ h=>by rcases h with h | h;exact .inl h;exact .inr (by omega))).move (fun c hc _=>Qu (by rcases hc with h | h;exact (by have:=h.2;omega);omega)) (fun _ _ h=>h)
 have HBw:=Qq hbw;have HZ:=Qq hZ;have HX:=Qq hX;have HVv:=Qq hv;have HBv:=Qq hbv
 obtain ⟨c0,c1,c2,c3,c4⟩:=row5 hX
 obtain ⟨z0,z1,z2,z3,z4⟩:=row5 hZ
 obtain ⟨h0,h1,h2,h3,h4⟩:=frz5 hZ
 clear hbw hZ hX hv hbv
 have hZl:=Qf HZ.out
 go_upto_region 24 with fail
 go_region_with fail
 all_goals
  go_wp2_with fail
  show bodyPost _ _ _ _ _ (Zz wr (w.heap.size+1) (.int .i64 uk) (.int .i64 un) (.string us) (.slice u3 m3 l3) (.slice u4 m4 l4)).drew
  refine Q7 (v:=.tuple #[.agg #[.int .i64 uk,.int .i64 un,.string us,.slice u3 m3 l3,.slice u4 m4 l4],.bool (uk==4)]) (by simp [results,results182,go_sem,Qm HZ.out]) rfl ⟨_,_,_,_,_,_,_,_,_,_,rfl,fun _=>⟨v,?_,HBv.out⟩,(Qo HBw.out (by omega)).drew⟩
  exact HVv.out.move (fun c hc _=>by rw [show ∀ W:World,W.drew.heap=W.heap from fun _=>rfl];exact Qu (by rcases hc with h | h;exact (by have:=h.2;omega);omega)) (fun c _ h=>by rcases h with h | h;exact .inl h.1;exact .inr (by omega))
end Go.Proofs.YtppbaladeefnkaaGreatDoor
