import Derived.Test.YtppbaladeefnkaaGreatDoorV34
set_option maxRecDepth 100000
set_option maxHeartbeats 400000000
namespace Go.Proofs.YtppbaladeefnkaaGreatDoor
open Go.RowKit Go.Shelf Go.Lib Tryz
structure U4 (w:World) (g n cap:Nat) (css F:List (List Value)) (k:Nat) (wr:World):Prop where
 gr:w.grownBy wr (some g)
 row:∃ Z:Array Value,wr.heap[g]?=some (.cells Z 44 (0,0))∧Z.size=cap*5∧Z.toList.take (F.length*5)=F.flatten∧∀ m,k*5≤m→m<n*5→Z[m]?=css.flatten[m]?
theorem V8 {w wr w':World} {g:Nat} (h:w.grownBy wr (some g)) (hb:Below wr.heap.size wr w'):w.grownBy w' (some g):=
 ⟨hb.os.trans h.os,hb.tape.trans h.tape,hb.output.trans h.output,Qc h.size hb.size,fun k hk hne=>(hb.block k (Qa hk h.size)).trans (h.block k hk hne)⟩
theorem U4.keep {w wr w':World} {g n cap k:Nat} {css F:List (List Value)} (h:U4 w g n cap css F k wr) (hb:Below wr.heap.size wr w'):U4 w g n cap css F k w':=by
 obtain ⟨Z,h1,h2⟩:=h.row
 exact ⟨V8 h.gr hb,Z,(hb.block g (Qf h1)).trans h1,h2⟩
theorem U4.skip {w wr:World} {g n cap k:Nat} {css F:List (List Value)} (h:U4 w g n cap css F k wr):U4 w g n cap css F (k+1) wr:=by
 obtain ⟨Z,h1,h2,h3,h4⟩:=h.row
 exact ⟨h.gr,Z,h1,h2,h3,fun m hm hn=>h4 m (by omega) hn⟩
theorem U4.put {w wr:World} {g n cap k:Nat} {css F:List (List Value)} {c:List Value} (h:U4 w g n cap css F k wr) (hc:c.length=5) (h1:∀ v ∈ c,v.oneCell'=true) (hF:F.length<k) (hk:k<n) (hn:n≤cap):U4 w g n cap css (F++[c]) (k+1) (wr.setCells g (F.length*5) c):=by
 obtain ⟨Z,hZ,hs,ht,hr⟩:=h.row
 have hZl:Z.toList.length=cap*5:=by simpa using hs
 rw [Hr wr g (F.length*5) c Z _ hZ (by omega) h1]
 refine ⟨⟨h.gr.os,h.gr.tape,h.gr.output,by simpa [World.setRow] using h.gr.size,fun j hj hne=>(setRow_other _ _ _ _ (fun e=>hne (by rw [e]))).trans (h.gr.block j hj hne)⟩,_,setRow_heap _ _ _ _ _ _ hZ,?_,?_,fun m hm hmn=>?_⟩
 ·simp only [List.size_toArray,List.length_append,List.length_take,List.length_drop,hZl,hc];rw [Nat.min_eq_left (by omega)];omega
 ·have hl:(Z.toList.take (F.length*5)).length=F.length*5:=by rw [List.length_take,hZl,Nat.min_eq_left (by omega)]
  have hl2:(F++[c]).length*5=(Z.toList.take (F.length*5)++c).length:=by rw [List.length_append,List.length_append,hl,hc];simp;omega
  rw [hl2,List.toList_toArray,List.take_left,ht,List.flatten_append];simp
 have hl:(Z.toList.take (F.length*5)++c).length=F.length*5+5:=by rw [List.length_append,List.length_take,hZl,Nat.min_eq_left (by omega),hc]
 rw [← hr m (by omega) hmn,List.getElem?_toArray,List.getElem?_append_right (by rw [hl];omega),hl,List.getElem?_drop,hc,show F.length*5+5+(m - (F.length*5+5))=m by omega]
 simp
theorem Bp (p:Val→Bool) {css:List (List Value)} {xs:List Val} (hl:css.length=xs.length):∀ (k:Nat),k≤xs.length→(∀ (j:Nat) (y:Val),j<k→xs[j]?=some y→p y=false)→Vj p css xs k=css.take k
 | 0,_,_=>by simp [Vj]
 | k+1,hk,h=>by
  have hx:=Qx (show k<xs.length by omega)
  have hc:=Qx (l:=css) (i:=k) (by omega)
  rw [J1 p hc hx,Bp p hl k (by omega) (fun j y hj hy=>h j y (by omega) hy),h k _ (by omega) hx,List.take_add_one,hc];rfl
theorem Gw (R:Nat) (S:Nat→Prop) (x:Val) (cx:List Value) (rows:List Val) (w:World) (hcx:∀ j u,cx[j]?=some u→w.cell? ⟨R,j,none⟩=some u) (hRl:R<w.heap.size) (hx:Qh S w cx x):
  Xp prog 62 #[.pointer (some ⟨R,0,none⟩)] Ql S rows (fun v=>eqv v x) w:=by
 intro W v cs hb hv hr
 have hxW:=hx.move (.of_below hb) (fun _ _ h=>h)
 have HC:=Qq (fun W' (h':Below W.heap.size W W')=>Gz S v x cs cx W' (Qh.move (show Qh S W cs v from hr) (.of_below h') (fun _ _ h=>h)) (hxW.move (.of_below h') (fun _ _ h=>h)))
 obtain ⟨p3,k3,p4,k4,hcs,_⟩:=Qh.cells (show Qh S W cs v from hr)
 obtain ⟨q3,l3,q4,l4,hcx',_⟩:=Qh.cells hxW
 simp only [vcs] at hcs hcx'
 subst hcs;subst hcx'
 have d:=fun j u hj=>(hb.cell (p:=⟨R,j,none⟩) hRl).trans (hcx j u hj)
 have d0:=d 0 _ rfl
 have d1:=d 1 _ rfl
 have d2:=d 2 _ rfl
 have d3:=d 3 _ rfl
 have d4:=d 4 _ rfl
 have hRW:R<W.heap.size:=Qv W _ d0
 show Calls prog 62 #[.agg #[.int .i64 v.kind,.int .i64 v.n,.string ⟨v.s.toArray⟩,.slice p3 v.names.length k3,.slice p4 v.kids.length k4],.pointer (some ⟨R,0,none⟩)] W (fun e w'=>e=.returned (.bool (eqv v x))∧Below W.heap.size W w')
 generalize eqv v x=b at HC ⊢
 clear d hcx hb hv hr hx hxW
 go_enter func62,ntmps62
 go_wp2_with (go_at_call 45;refine (HC.out _ (Qn _ _)).mono ?_;rintro e w' ⟨rfl,hw⟩)
 go_ret
 exact ⟨rfl,(Qn _ _).thn hw⟩
theorem delGen (g0:Nat) (lb:Array Value) (eg:∀ args w,(callFunc g0 args).run prog w=.ok (.enter g0 args) w) (p:Val→Bool) (S:Nat→Prop) (B:Nat) (w:World) (g n cap:Nat) (xs:List Val) (css:List (List Value)) (hO:Own Ql 44 S B w (.slice (some ⟨g,0,none⟩) n cap) xs css) (hn:xs.length=n)
  (hp:∀ (S':Nat→Prop) W y cs,w.grownBy W (some g)→Qh S' W cs y→Calls prog g0 (#[.agg cs.toArray]++lb) W fun e w'=>e=.returned (.bool (p y))∧Below W.heap.size W w') (hl:n≤100000):
  Calls prog 61 #[.slice (some ⟨g,0,none⟩) n cap,.func (.func g0) #[] lb] w fun e w'=>
   ∃ css',e=.returned (.slice (some ⟨g,0,none⟩) (xs.filter (fun y=>!p y)).length cap)∧Own Ql 44 S B w' (.slice (some ⟨g,0,none⟩) (xs.filter (fun y=>!p y)).length cap) (xs.filter (fun y=>!p y)) css'∧w.grownBy w' (some g):=by
 have hbelow:∀ W,Below w.heap.size w W→w.grownBy W (some g):=fun W hb=>⟨hb.os,hb.tape,hb.output,hb.size,fun k hk _=>hb.block k hk⟩
 have HIf:=Qq (Fz Tryz.ixVal Ql isAgg44 sizeOf44 g0 lb eg (fun _=>True) (.slice (some ⟨g,0,none⟩) n cap) xs w p (by rw [← hn] at hO ⊢;exact hO.sl (by omega) (fun _ _=>trivial) (fun _ _ _=>trivial))
  (fun W y cs hb _ hv=>hp _ W y cs (hbelow W hb) hv))
 rcases hO.row.2 with ⟨h,_⟩ | ⟨g',cap',cur,hv,hgB,hgc,hnc,hcm,hcs,htk⟩
 ·cases h
 simp only [Value.slice.injEq,Option.some.injEq,Addr.mk.injEq] at hv
 obtain ⟨⟨rfl,-,-⟩,-,rfl⟩:=hv
 have hk5:Ql.k=5:=rfl
 rw [hk5] at hcs htk
 rw [hn] at hnc htk
 have hcl:css.length=n:=by rw [hO.cs.len,hn]
 have HO:=Qq hO;have HN:=Qq hn
 have HPp:=Qq hp
 have HBe:=Qq hbelow
 by_cases hall:∀ y ∈ xs,p y=false
 ·have hdl:xs.filter (fun y=>!p y)=xs:=List.filter_eq_self.2 (fun y hy=>by rw [hall y hy];rfl)
  have hix:Y9 p xs=-1:=Xf (fun j y hy=>hall y (Qy hy))
  rw [hix] at HIf
  rw [hdl,hn]
  clear hp hO hall hdl hix htk hcs hgc hbelow
  go_enter func61,ntmps61
  go_wp2_with fail
  refine HIf.out.mono ?_
  rintro e w1 ⟨rfl,hb1⟩
  go_wp2_with fail
  go_ret
  exact ⟨css,rfl,HO.out.below hb1,HBe.out _ hb1⟩
 obtain ⟨k0,y0,hy0,hp0,hpre⟩:∃ (k0:Nat) (y0:Val),xs[k0]?=some y0∧p y0=true∧∀ (j:Nat) (y:Val),j<k0→xs[j]?=some y→p y=false:=by
  cases hf:xs.findIdx? p with
  | none=>
   exact absurd (fun y hy=>by have:=List.findIdx?_eq_none_iff.1 hf y hy;simpa using this) hall
  | some k0=>
   obtain ⟨h1,h2,h3⟩:=List.findIdx?_eq_some_iff_getElem.1 hf
   exact ⟨k0,_,Qx h1,h2,fun j y hj hy=>by
    obtain ⟨h4,rfl⟩:=Qj hy
    have:=h3 j hj
    simpa using this⟩
 have hix:Y9 p xs=(k0:Int):=Vb hy0 hp0 hpre
 have hk0:k0<n:=by rw [← hn];exact (Qj hy0).1
 rw [hix] at HIf
 have hF0:Vj p css xs (k0+1)=css.take k0:=by
  obtain ⟨c0,hc0⟩:∃ c0,css[k0]?=some c0:=⟨_,Qx (by omega)⟩
  rw [J1 _ hc0 hy0,Bp _ (by omega) k0 (by omega) hpre,hp0];simp
 have hF0l:(Vj p css xs (k0+1)).length=k0:=by rw [hF0,List.length_take];omega
 have hM0:∀ W,Below w.heap.size w W→U4 w g n cap css (Vj p css xs (k0+1)) (k0+1) W:=by
  intro W hb
  refine ⟨hbelow W hb,cur,(hb.block g (Qf hgc)).trans hgc,hcs,?_,fun m _ hm=>?_⟩
  ·rw [hF0l,hF0]
   have h5:(cur.toList.take (n*5)).take (k0*5)=(css.take k0).flatten:=by
    rw [htk,← List.take_append_drop k0 css,List.flatten_append,List.take_append_of_le_length (by rw [Xn (fun c hc=>hO.cs.all c (List.mem_of_mem_take hc)),List.length_take,hk5];omega),List.take_of_length_le (by rw [Xn (fun c hc=>hO.cs.all c (List.mem_of_mem_take hc)),List.length_take,hk5];omega)]
    simp
   rwa [List.take_take,Nat.min_eq_left (by omega)] at h5
  rw [← htk,List.getElem?_take,if_pos hm];simp
 have HM0:=Qq hM0
 have HCss:=Qq (fun (k:Nat) (hk:k<n)=>(show ∃ c,css[k]?=some c from ⟨_,Qx (by omega)⟩))
 have hk9:((k0:Int)==-1)=false:=by rw [beq_eq_false_iff_ne];omega
 have hkw:IntKind.i64.wrap ((k0:Int)+1)=((k0+1:Nat):Int):=by rw [IntKind.wrap_i64];omega
 clear hp hO hall hix htk hcs hgc hbelow hM0 hF0 hy0 hp0 hpre
 go_enter func61,ntmps61
 go_wp2_with fail
 refine HIf.out.mono ?_
 rintro e w1 ⟨rfl,hb1⟩
 have hM1:=HM0.out w1 hb1
 have HM1:=Qq hM1
 clear hM1 HM0 HIf
 go_wp2_with fail
 go_loopw [5,6,7] (fun i j _ wr=>∃ k a:Nat,k≤n∧j=.int .i64 k∧i=.int .i64 a∧a<k∧Aside ((Vj p css xs k).length=a∧U4 w g n cap css (Vj p css xs k) k wr)) (fun _ j _ _=>n - (intOf j).toNat)
 case atStart=>exact ⟨k0+1,k0,by omega,by go_num,rfl,by omega,hF0l,HM1.out⟩
 obtain ⟨k,a,hk,rfl,rfl,hak,hFl,hM⟩:=hrel
 have HM:=Qq hM
 have HFl:=Qq hFl
 clear hM hFl
 by_cases hlt:k<n
 ·have hi1:(0:Int)≤(k:Int):=by omega
  have hi2:(k:Int)<(n:Int):=by omega
  have ha1:(0:Int)≤(a:Int):=by omega
  have ha2:(a:Int)<(n:Int):=by omega
  obtain ⟨c,hc⟩:=HCss.out k hlt
  obtain ⟨y,hy⟩:∃ y,xs[k]?=some y:=⟨_,Qx (by rw [HN.out];exact hlt)⟩
  have hvy:Qh (But S (.slice (some ⟨g,0,none⟩) n cap)) wr c y:=Qh.move (show Qh _ w c y from HO.out.cs.R k c y hc hy) (fun b hb hlt=>HM.out.gr.block b hlt (fun e=>hb.2 (by rw [e];rfl))) (fun _ _ h=>h)
  have hc5:c.length=5:=Ql.len hvy
  have h1c:∀ v ∈ c,v.oneCell'=true:=Zu _ wr c y hvy
  obtain ⟨Z,hZ,hZs,_,hZr⟩:=HM.out.row
  have hzc:∀ j u,c[j]?=some u→wr.cell? ⟨g,k*5+j,none⟩=some u:=by
   intro j u hu
   have hj:=(Qj hu).1
   rw [Qk _ _ _ _ _ _ hZ,hZr _ (by omega) (by omega)]
   exact Yg HO.out.cs.all hc hu
  obtain ⟨q3,l3,q4,l4,hcc,_⟩:=Qh.cells hvy
  simp only [vcs] at hcc
  have HStep:=Qq (J1 p hc hy)
  have HKeep:=Qq (fun W (hb:Below wr.heap.size wr W)=>HM.out.keep hb)
  have HPut:=Qq (fun W (hb:Below wr.heap.size wr W)=>(HM.out.keep hb).put hc5 h1c (by rw [HFl.out];exact hak) hlt hnc)
  have HDel:=Qq (fun W (hb:Below wr.heap.size wr W)=>HPp.out _ W y c (V8 HM.out.gr hb) (hvy.move (.of_below hb) (fun _ _ h=>h)))
  have HZa:=Qq (fun W (hb:Below wr.heap.size wr W) (j:Nat) (hj:j<5)=>(show ∃ u,W.cell? ⟨g,a*5+j,none⟩=some u∧W.frozen? ⟨g,a*5+j,none⟩=false from by
   have hW:=(hb.block g (Qf hZ)).trans hZ
   refine ⟨_,(Qk _ _ _ _ _ _ hW).trans (Array.getElem?_eq_getElem (by rw [hZs];omega)),frozen_of_row _ _ _ _ _ hW⟩))
  have hgz:=Qf hZ
  have z0:=hzc 0;have z1:=hzc 1;have z2:=hzc 2;have z3:=hzc 3;have z4:=hzc 4
  rw [hcc] at z0 z1 z2 z3 z4
  have z0:=z0 _ rfl;have z1:=z1 _ rfl;have z2:=z2 _ rfl;have z3:=z3 _ rfl;have z4:=z4 _ rfl
  rw [hcc] at HDel HPut HStep
  rw [Nat.add_zero] at z0
  have hne:g≠wr.heap.size:=by omega
  clear hvy hZr hZ hzc hcc hc hy h1c
  obtain ⟨b,hbv⟩:=eX (p y)
  simp only [hbv] at HDel HStep
  clear hbv
  go_wp2_with fail
  generalize hW3:wr.alloc _=W3
  have hb3:=eqB hW3 (Qn _ _)
  have hX3:=eqH (b:=wr.heap.size) hW3 (Qw _ _)
  clear hW3
  refine (HDel.out W3 hb3).mono ?_
  rintro e w4 ⟨rfl,hb4⟩
  have hb34:=hb3.thn hb4
  have hX4:=kB hb4 hX3
  obtain ⟨x0,x1,x2,x3,x4⟩:=row5 hX4
  obtain ⟨s0,e0,f0⟩:=HZa.out w4 hb34 0 (by omega)
  obtain ⟨s1,e1,f1⟩:=HZa.out w4 hb34 1 (by omega)
  obtain ⟨s2,e2,f2⟩:=HZa.out w4 hb34 2 (by omega)
  obtain ⟨s3,e3,f3⟩:=HZa.out w4 hb34 3 (by omega)
  obtain ⟨s4,e4,f4⟩:=HZa.out w4 hb34 4 (by omega)
  rw [Nat.add_zero] at e0 f0
  have HB34:=Qq hb34
  clear hb3 hX3 hb4 hb34 hX4 z0 z1 z2 z3 z4
  have hnr:∀ m:Nat,m≤n→IntKind.i64.wrap ((m:Int)+1)=((m+1:Nat):Int):=fun m hm=>by rw [IntKind.wrap_i64];omega
  have hw5:=hnr k (by omega);have hw6:=hnr a (by omega)
  clear hnr
  cases b
  ·go_wp2_with fail
   go_roundw
   case measure=>simp [intOf];omega
   case rel=>
    have hst:=HStep.out
    simp only [Bool.false_eq_true,if_false] at hst
    have hput:=HPut.out w4 HB34.out
    rw [HFl.out] at hput
    refine ⟨k+1,a+1,by omega,by go_num,by go_num,by omega,(show Aside _ from ⟨by rw [hst,List.length_append,HFl.out];rfl,?_⟩)⟩
    rw [hst]
    exact hput
  go_wp2_with fail
  go_roundw
  case measure=>simp [intOf];omega
  case rel=>
   have hst:=HStep.out
   simp only [if_true,List.append_nil] at hst
   refine ⟨k+1,a,by omega,by go_num,rfl,by omega,(show Aside _ from ⟨by rw [hst];exact HFl.out,?_⟩)⟩
   rw [hst]
   exact (HKeep.out w4 HB34.out).skip
 have hltz:¬ (k:Int)<(n:Int):=by omega
 have:k=n:=by omega
 subst this
 obtain ⟨Z,hZ,hZs,hZt,_⟩:=HM.out.row
 have hcl:∀ ty,(Builtin.clear_ #[40] ty #[.slice (some ⟨g,a*5,none⟩) (k - a) (cap - a)]).run prog wr=.ok (.tuple #[]) (wr.setRow g (Z.toList.take (a*5)++(Builtin.zeroCells zc5 (k - a)).toList++Z.toList.drop (a*5+(k - a)*5)).toArray):=fun ty=>Gp wr ty g (a*5) (k - a) (cap - a) Z _ (by omega) hZ (by rw [hZs];omega)
 have hrow:∀ X,X=(Z.toList.take (a*5)++(Builtin.zeroCells zc5 (k - a)).toList++Z.toList.drop (a*5+(k - a)*5)).toArray→X.size=cap*5∧X.toList.take (a*5)=(Vj p css xs k).flatten:=by
  intro X hX
  have hZl:Z.toList.length=cap*5:=by simpa using hZs
  have ht:(Z.toList.take (a*5)).length=a*5:=by rw [List.length_take,hZl,Nat.min_eq_left (by omega)]
  refine ⟨by rw [hX];simp only [List.size_toArray,List.length_append,ht,Hu,List.length_drop,hZl];omega,?_⟩
  rw [hX,List.toList_toArray,List.append_assoc,List.take_append_of_le_length (by rw [ht];exact Q9 _),List.take_of_length_le (by rw [ht];exact Q9 _),← HFl.out,hZt]
 obtain ⟨X,hX⟩:∃ X,X=(Z.toList.take (a*5)++(Builtin.zeroCells zc5 (k - a)).toList++Z.toList.drop (a*5+(k - a)*5)).toArray:=⟨_,rfl⟩
 obtain ⟨hXs,hXt⟩:=hrow X hX
 rw [← hX] at hcl
 have hWg:(wr.setRow g X).heap[g]?=some (.cells X 44 (0,0)):=setRow_heap _ _ _ _ _ _ hZ
 have hgr:w.grownBy (wr.setRow g X) (some g):=⟨HM.out.gr.os,HM.out.gr.tape,HM.out.gr.output,by simpa [World.setRow] using HM.out.gr.size,fun j hj hne=>(setRow_other _ _ _ _ (fun e=>hne (by rw [e]))).trans (HM.out.gr.block j hj hne)⟩
 have hC:=R3 p HO.out.cs k
 rw [List.take_of_length_le (by rw [HN.out];exact Q9 _)] at hC
 have hD:Own Ql 44 S B (wr.setRow g X) (.slice (some ⟨g,0,none⟩) a cap) (xs.filter (fun y=>!p y)) (Vj p css xs k):=by
  have hdl:(xs.filter (fun y=>!p y)).length=a:=by rw [← HFl.out];exact hC.len.symm
  refine ⟨?_,hC.move (fun b hb hlt=>hgr.block b hlt (fun e=>hb.2 (by rw [e];rfl))) (fun _ _ h=>h)⟩
  rw [hdl]
  exact ⟨by rw [Xn (fun c hc=>hC.all c hc),HFl.out],.inr ⟨g,cap,X,rfl,hgB,hWg,by omega,hcm,hXs,hXt⟩⟩
 have hdl:(xs.filter (fun y=>!p y)).length=a:=by rw [← HFl.out];exact hC.len.symm
 have HDl:=Qq hdl
 have HD:=Qq hD;have HGr:=Qq hgr
 generalize wr.setRow g X=W9 at hcl HD HGr
 have hb0:(0:Int)≤(a:Int):=by omega
 have hb1:(a:Int)≤(k:Int):=by omega
 have hb2:¬ (cap=a):=by omega
 have hb3:(a:Int)≤(cap:Int):=by omega
 have hb4:¬ (cap=0):=by omega
 clear hZ hZs hZt hrow hX hXs hXt hWg hgr hC hD hdl
 go_wp2_with fail
 go_ret
 have hD:=HD.out
 rw [HDl.out]
 exact ⟨rfl,⟨_,hD⟩,HGr.out⟩
theorem delFn (R:Nat) (S:Nat→Prop) (B:Nat) (x:Val) (cx:List Value) (w:World) (g n cap:Nat) (xs:List Val) (css:List (List Value)) (hO:Own Ql 44 S B w (.slice (some ⟨g,0,none⟩) n cap) xs css) (hn:xs.length=n)
  (hcx:∀ j u,cx[j]?=some u→w.cell? ⟨R,j,none⟩=some u) (hRl:R<w.heap.size) (hRg:R≠g) (hx:Qh (But S (.slice (some ⟨g,0,none⟩) n cap)) w cx x) (hl:n≤100000):
  Calls prog 61 #[.slice (some ⟨g,0,none⟩) n cap,.func (.func 62) #[] #[.pointer (some ⟨R,0,none⟩)]] w fun e w'=>
   ∃ css',e=.returned (.slice (some ⟨g,0,none⟩) (U6 xs x).length cap)∧Own Ql 44 S B w' (.slice (some ⟨g,0,none⟩) (U6 xs x).length cap) (U6 xs x) css'∧w.grownBy w' (some g):=by
 refine delGen 62 #[.pointer (some ⟨R,0,none⟩)] (enters_of func62 (by kernel_rfl) rfl) (fun y=>eqv y x) S B w g n cap xs css hO hn (fun S' W y cs hW hy=>?_) hl
 have hk:∀ j u,cx[j]?=some u→W.cell? ⟨R,j,none⟩=some u:=fun j u hu=>(World.cell?_of_block (hW.block R hRl (fun e=>hRg (Qb e)))).trans (hcx j u hu)
 exact Gw R (fun _=>True) x cx [y] W hk (Qa hRl hW.size) ((hx.move (fun b hb hlt=>hW.block b hlt (fun e=>hb.2 (by rw [e];rfl))) (fun _ _ h=>h) (w':=W)).move (.refl _ _) (fun _ _ _=>trivial)) W y cs (Qz _ _) (by simp) (hy.move (.refl _ _) (fun _ _ _=>trivial))
theorem Di {w w':World} {row:Option Nat} (hb:Below w.heap.size w w'):w.grownBy w' row:=⟨hb.os,hb.tape,hb.output,hb.size,fun k hk _=>hb.block k hk⟩
theorem delAny (R:Nat) (S:Nat→Prop) (B:Nat) (x:Val) (cx:List Value) (w:World) (v:Value) (xs:List Val) (css:List (List Value)) (hO:Own Ql 44 S B w v xs css)
  (hcx:∀ j u,cx[j]?=some u→w.cell? ⟨R,j,none⟩=some u) (hRl:R<w.heap.size) (hRg:v.ownBlock≠some R) (hx:Qh (But S v) w cx x) (hl:xs.length≤100000):
  Calls prog 61 #[v,.func (.func 62) #[] #[.pointer (some ⟨R,0,none⟩)]] w fun e w'=>
   ∃ p cap css',e=.returned (.slice p (U6 xs x).length cap)∧Own Ql 44 S B w' (.slice p (U6 xs x).length cap) (U6 xs x) css'∧w.grownBy w' v.ownBlock∧(Value.slice p (U6 xs x).length cap).ownBlock=v.ownBlock:=by
 rcases hO.row.2 with ⟨rfl,h0⟩ | ⟨g,cap,cur,rfl,_,_⟩
 ·have h0':xs=[]:=List.eq_nil_of_length_eq_zero h0
  subst h0'
  have HIf:=Qq (Fz Tryz.ixVal Ql isAgg44 sizeOf44 62 #[.pointer (some ⟨R,0,none⟩)] (enters_of func62 (by kernel_rfl) rfl) (fun _=>True) (.slice none 0 0) [] w _ (Sl.empty _ _ _ _ _)
   (Gw R (fun _=>True) x cx [] w hcx hRl (hx.move (.refl _ _) (fun _ _ _=>trivial))))
  rw [show Y9 (fun v=>eqv v x) ([]:List Val)=-1 from rfl] at HIf
  have HO:=Qq hO
  clear hO hcx hx
  show Calls _ _ _ _ _
  go_enter func61,ntmps61
  go_wp2_with fail
  refine HIf.out.mono ?_
  rintro e w1 ⟨rfl,hb1⟩
  go_wp2_with fail
  go_ret
  exact ⟨none,0,css,rfl,HO.out.below hb1,Di hb1,rfl⟩
 refine (delFn R S B x cx w g xs.length cap xs css hO rfl hcx hRl (fun e=>hRg (by rw [e];rfl)) hx hl).mono ?_
 rintro e w' ⟨css',rfl,h1,h2⟩
 exact ⟨_,cap,css',rfl,h1,h2,rfl⟩
theorem M3 (S0 S1:Nat→Prop) (lv:Value) (l:List Rel) (tn:Bs) (x:Val) (cx:List Value) (w:World) (hl0:Sl Z0 S0 w lv l) (hx0:Qh S1 w cx x) (hf:l.findIdx? (fun r=>decide (r.table=tn))=none) (hrl:∀ r ∈ l,r.rows.length≤10000):
  Calls prog 24 #[lv,sv tn,.agg cx.toArray] w (X9 w l):=by
 have hx:Qh (fun b=>b<w.heap.size) w cx x:=hx0.move (.refl _ _) (fun b hb _=>hb)
 have HCo:=Qq (fun W (hb:Below w.heap.size w W)=>Vx S0 lv l W (hl0.below hb))
 have hix:Y9 (fun r=>decide (r.table=tn)) l=-1:=by unfold Y9;rw [hf]
 have HIx:=Qq (fun v W (hs:Sl Z0 (fun _=>True) W v l)=>Xg _ v l tn W hs)
 rw [hix] at HIx
 have hll:l.length≤1000000:=by obtain ⟨_,_,_,h⟩:=hl0.len;exact h
 obtain ⟨lp,lc,rfl,_⟩:=hl0.len
 have HRL:=Qq hrl
 obtain ⟨x3,x3c,x4,x4c,hcs,_⟩:=Qh.cells hx
 simp only [vcs] at hcs
 subst hcs
 clear hx hx0 hl0 hf hix hrl
 unfold sv at HIx ⊢
 obtain ⟨n,hn⟩:=eX (l.length)
 unfold Uz at HCo
 rw [hn] at HCo hll ⊢
 have HN:=Qq hn
 clear hn
 go_enter func24,ntmps24
 go_wp2_with fail
 obtain ⟨W1,hW1⟩:=eX (w.alloc (.cells #[.int .i64 x.kind,.int .i64 x.n,.string ⟨x.s.toArray⟩,.slice x3 x.names.length x3c,.slice x4 x.kids.length x4c] 44))
 have hb1:=eqB hW1 (Qn _ _)
 have hX1:=eqH (b:=w.heap.size) hW1 (Qw _ _)
 have HB1:=Qq hb1;have HX1:=Qq hX1
 rw [hW1]
 have hcp:=HCo.out W1 hb1
 clear hW1 hb1 hX1
 refine hcp.mono ?_
 rintro e w2 ⟨p,cap,rvs,rfl,hSt2,hb2⟩
 have HSt2:=Qq hSt2;have HB2:=Qq hb2
 have HIx2:=Qq (HIx.out _ w2 (hSt2.sl (by rw [HN.out];omega) (fun r hr=>by have:=HRL.out r hr;omega) _ (fun _ _=>trivial) (fun _ _ _=>trivial)))
 clear hSt2 hb2 hcp HCo HIx
 go_wp2_with fail
 refine HIx2.out.mono ?_
 rintro e w3 ⟨rfl,hb3⟩
 have hSt3:=HSt2.out.below hb3
 have hS4:=hSt3.sl (by rw [HN.out];omega) (fun r hr=>by have:=HRL.out r hr;omega) (fun _=>True) (fun _ _=>trivial) (fun _ _ _=>trivial)
 have hB4:=HB1.out.trans ((HB2.out.thn hb3).mono HB1.out.size)
 have HF:=Qq (show X9 w l (.returned (.slice p n cap)) w3 from ⟨p,cap,by rw [HN.out],by rw [HN.out];exact hS4,hB4⟩)
 clear hSt3 hS4 hB4 hb3
 go_wp2_with fail
 go_ret
 exact HF.out
theorem Mh (S0 S1:Nat→Prop) (lv:Value) (l:List Rel) (tn:Bs) (x:Val) (cx:List Value) (w:World) (i:Nat) (o:Rel) (hl0:Sl Z0 S0 w lv l) (hx0:Qh S1 w cx x) (hf:l.findIdx? (fun r=>decide (r.table=tn))=some i) (ho:l[i]?=some o)
  (hrl:∀ r ∈ l,r.rows.length≤10000):
  Calls prog 24 #[lv,sv tn,.agg cx.toArray] w (X9 w (l.set i ⟨o.table,U6 o.rows x⟩)):=by
 have hx:Qh (fun b=>b<w.heap.size) w cx x:=hx0.move (.refl _ _) (fun b hb _=>hb)
 have HCo:=Qq (fun W (hb:Below w.heap.size w W)=>Vx S0 lv l W (hl0.below hb))
 have hix:Y9 (fun r=>decide (r.table=tn)) l=i:=by unfold Y9;rw [hf]
 have HIx:=Qq (fun v W (hs:Sl Z0 (fun _=>True) W v l)=>Xg _ v l tn W hs)
 rw [hix] at HIx
 have hin:i<l.length:=(Qj ho).1
 have hll:l.length≤1000000:=by obtain ⟨_,_,_,h⟩:=hl0.len;exact h
 obtain ⟨lp,lc,rfl,_⟩:=hl0.len
 have HX:=Qq hx;have HO:=Qq ho;have HRL:=Qq hrl
 have hor:=hrl o (Qy ho)
 obtain ⟨x3,x3c,x4,x4c,hcs,_⟩:=Qh.cells hx
 simp only [vcs] at hcs
 subst hcs
 clear hx hx0 hl0 hf hix hrl ho
 unfold sv at HIx ⊢
 obtain ⟨n,hn⟩:=eX (l.length)
 unfold Uz at HCo
 rw [hn] at HCo hin hll ⊢
 have HN:=Qq hn
 clear hn
 have hi3:(0:Int)≤(i:Int):=by omega
 have hi4:(i:Int)<(n:Int):=by omega
 have hi5:decide ((0:Int)≤(i:Int))=true:=by simp
 go_enter func24,ntmps24
 go_wp2_with fail
 obtain ⟨W1,hW1⟩:=eX (w.alloc (.cells #[.int .i64 x.kind,.int .i64 x.n,.string ⟨x.s.toArray⟩,.slice x3 x.names.length x3c,.slice x4 x.kids.length x4c] 44))
 have hb1:=eqB hW1 (Qn _ _)
 have hX1:=eqH (b:=w.heap.size) hW1 (Qw _ _)
 have HB1:=Qq hb1;have HX1:=Qq hX1
 rw [hW1]
 have hcp:=HCo.out W1 hb1
 clear hW1 hb1 hX1
 refine hcp.mono ?_
 rintro e w2 ⟨p,cap,rvs,rfl,hSt2,hb2⟩
 obtain ⟨g,cap',hv,hgB,hgs⟩:=hSt2.row.form (by rw [HN.out];omega)
 simp only [Value.slice.injEq] at hv
 obtain ⟨rfl,-,rfl⟩:=hv
 obtain ⟨rvi,hrvi⟩:∃ rvi,rvs[i]?=some rvi:=⟨_,Qx (by rw [hSt2.len,HN.out];exact hin)⟩
 obtain ⟨css,hOwn⟩:=hSt2.rows i o rvi HO.out hrvi
 obtain ⟨rpi,rci,rfl⟩:=hOwn.form
 have HSt2:=Qq hSt2;have HB2:=Qq hb2;have HRvi:=Qq hrvi
 have HIx2:=Qq (HIx.out _ w2 (hSt2.sl (by rw [HN.out];omega) (fun r hr=>by have:=HRL.out r hr;omega) _ (fun _ _=>trivial) (fun _ _ _=>trivial)))
 clear hSt2 hb2 hOwn hrvi hcp HCo HIx
 go_wp2_with fail
 refine HIx2.out.mono ?_
 rintro e w3 ⟨rfl,hb3⟩
 have hSt3:=HSt2.out.below hb3
 have hX3:=kB hb3 (kE HB2.out (Qf HX1.out) HX1.out)
 obtain ⟨cur,hcur,-,hci⟩:=hSt3.at HO.out HRvi.out
 have c1:=Qk _ _ (i*2+1) _ _ _ hcur
 rw [hci] at c1
 obtain ⟨css,hOwn⟩:=hSt3.rows i o _ HO.out HRvi.out
 have HBw3:=Qq (HB1.out.trans ((HB2.out.thn hb3).mono HB1.out.size))
 have hg3:=Qf hcur
 have hR3:=Qf hX3
 have hne6:some g≠(Value.slice rpi o.rows.length rci).ownBlock:=fun e=>Zs hSt3.row hOwn.row (by decide) rfl e.symm
 have HSt3:=Qq hSt3;have HOwn:=Qq hOwn;have HCur:=Qq hcur;have HCi:=Qq hci
 have hxv:Qh (But (Bb (.slice (some ⟨g,0,none⟩) n cap) rvs) (.slice rpi o.rows.length rci)) w3 [.int .i64 x.kind,.int .i64 x.n,.string ⟨x.s.toArray⟩,.slice x3 x.names.length x3c,.slice x4 x.kids.length x4c] x:=by
  refine HX.out.move (.of_below HBw3.out) (fun b _ hb=>?_)
  have hb':b<w.heap.size:=hb
  have hB0:=HB1.out.size
  refine ⟨⟨fun e=>?_,fun u hu e=>?_⟩,fun e=>?_⟩
  ·have:g=b:=Qb e
   omega
  ·obtain ⟨j,hj⟩:=List.getElem?_of_mem hu
   obtain ⟨y,hy⟩:∃ y,l[j]?=some y:=⟨_,Qx (by rw [← HSt3.out.len];exact (Qj hj).1)⟩
   obtain ⟨_,ho2⟩:=HSt3.out.rows j y u hy hj
   have:=(ho2.row.lt b e).1
   omega
  have:=(HOwn.out.row.lt b e.symm).1
  omega
 have hB1s:=HB1.out.size
 have hX1l:=Qf HX1.out
 have HD:=Qq (delAny w.heap.size _ W1.heap.size x _ w3 (.slice rpi o.rows.length rci) o.rows css hOwn (fun j u hu=>by rw [Qk _ _ j _ _ _ hX3];simpa using hu) (Qf hX3) (fun e=>by have:=(HOwn.out.row.lt _ e).1;omega) hxv (by omega))
 have HHc:=Qq (fun (w6:World) (hg:w3.grownBy w6 (Value.slice rpi o.rows.length rci).ownBlock)=>(hg.block g (by omega) hne6).trans hcur)
 clear hSt3 hX3 hcur hci hOwn hb3 hxv
 go_wp2_with fail
 refine HD.out.mono ?_
 rintro e w6 ⟨p6,c6,css6,rfl,hO6,hg6,ha6⟩
 have hc6:=HHc.out w6 hg6;have f6:=frozen_of_row _ _ (i*2+1) _ _ hc6;have k6:=Qk _ _ (i*2+1) _ _ _ hc6;rw [HCi.out] at k6;have HO6:=Qq hO6;have HG6:=Qq hg6;have HA6:=Qq ha6
 clear hc6 hO6 hg6 ha6
 go_wp2_with fail
 go_ret
 have hO6:=HO6.out
 have hP:=HSt3.out.put' HN.out HO.out HRvi.out ⟨css6,hO6⟩ HG6.out (.inl HA6.out)
 have hlen:(l.set i ⟨o.table,U6 o.rows x⟩).length=n:=by rw [List.length_set];exact HN.out
 have hrw:∀ r ∈ l.set i ⟨o.table,U6 o.rows x⟩,r.rows.length≤1000000:=by
  intro r hr
  rcases List.mem_or_eq_of_mem_set hr with h | rfl
  ·have:=HRL.out r h;omega
  have h:=List.length_filter_le (fun y=>!eqv y x) o.rows
  show (o.rows.filter (fun y=>!eqv y x)).length≤1000000
  omega
 refine ⟨some ⟨g,0,none⟩,cap,by rw [hlen];rfl,by rw [hlen];exact hP.sl (by rw [hlen];exact hll) hrw _ (fun _ _=>trivial) (fun _ _ _=>trivial),?_⟩
 have hbw:=HBw3.out
 have hB1:=HB1.out.size
 refine (hbw.grown HG6.out hbw.size (fun b hb=>?_)).setCell (p:=⟨g,i*2+1,none⟩) (by show w.heap.size≤g;omega) _
 have:=(HOwn.out.row.lt b hb).1
 omega
theorem Ln (S0 S1:Nat→Prop) (lv:Value) (l:List Rel) (tn:Bs) (x:Val) (cx:List Value) (w:World) (hl0:Sl Z0 S0 w lv l) (hx0:Qh S1 w cx x) (hrl:∀ r ∈ l,r.rows.length≤10000):
  Calls prog 24 #[lv,sv tn,.agg cx.toArray] w (X9 w (Kt l tn x)):=by
 cases hf:Ym l tn with
 | none=>rw [show Kt l tn x=l by unfold Kt;rw [hf]];exact M3 S0 S1 lv l tn x cx w hl0 hx0 hf hrl
 | some i=>
  obtain ⟨o,ho⟩:=Bv hf
  rw [show Kt l tn x=l.set i ⟨o.table,U6 o.rows x⟩ by unfold Kt;rw [hf];simp [List.getD_eq_getElem?_getD,ho]]
  exact Mh S0 S1 lv l tn x cx w i o hl0 hx0 hf ho hrl
def PRowsIs (w:World) (rows:List Val) (e:Ending) (w':World):Prop:=∃ p cap,e=.returned (.slice p rows.length cap)∧Sl Ql (fun _=>True) w' (.slice p rows.length cap) rows∧Below w.heap.size w w'
theorem Tk (S:Nat→Prop) (v:Value) (l:List Rel) (x:Bs) (w:World) (hs:Sl Z0 S w v l):
  Calls prog 20 #[v,sv x] w (PRowsIs w (Yv l x)):=by
 have HF:=Qq (Xg S v l x w hs)
 rcases Vk l x with ⟨hr,hi⟩ | ⟨i,r,hr,hi,hx⟩
 ·have hR:Yv l x=[]:=by unfold Yv;rw [hr]
  rw [hR]
  rw [hi] at HF
  clear hr hi hR
  obtain ⟨p,cap,rfl,hl⟩:=hs.len
  clear hs
  unfold sv at HF ⊢
  go_enter func20,ntmps20
  go_wp2_with fail
  refine HF.out.mono ?_
  rintro e w1 ⟨rfl,hb1⟩
  go_wp2_with fail
  go_ret
  exact ⟨none,0,rfl,Sl.nil _ _ _,hb1⟩
 have hR:Yv l x=r.rows:=by unfold Yv;rw [hr];simp [List.getD_eq_getElem?_getD,hx]
 rw [hR]
 rw [hi] at HF
 clear hr hi hR
 obtain ⟨p,cap,rfl,hl⟩:=hs.len
 have hil:=(Qj hx).1
 obtain ⟨b,off,cs,rfl,hbl,_,_,⟨rv,rfl,_,hrv⟩,hc⟩:=hs.elem hx
 have c1:=hc 1 _ rfl
 rw [show Z0.k=2 from rfl] at c1
 obtain ⟨q,qc,rfl,hql⟩:=hrv.len
 have HCl:=Qq (fun W (hW:Below w.heap.size w W)=>Gb S _ r.rows W (hrv.below hW))
 have hi1:(0:Int)≤(i:Int):=by omega
 have hi2:(i:Int)<(l.length:Int):=by omega
 have hi3:decide ((i:Int)<0)=false:=by simp
 have HL:=Qq hql
 clear hs hx hc hrv
 unfold sv at HF ⊢
 go_enter func20,ntmps20
 go_wp2_with fail
 refine HF.out.mono ?_
 rintro e w1 ⟨rfl,hb1⟩
 have k1:=kD hb1 hbl c1
 have HC:=Qq (HCl.out w1 hb1)
 clear c1
 go_wp2_with fail
 refine HC.out.mono ?_
 rintro e w2 ⟨p2,c2,css,rfl,hO2,hb2⟩
 go_wp2_with fail
 go_ret
 exact ⟨p2,c2,rfl,hO2.sl (by have:=HL.out;omega) (fun _ _=>trivial) (fun _ _ _=>trivial),hb1.thn hb2⟩
theorem Do (a b:Bs):Zg a b=lex (Bg a) (Bg b):=by
 have h:=Xb a b [] []
 rw [List.append_nil,List.append_nil,show lex [] []=0 from rfl,Uf] at h
 exact h.symm
theorem M7:∀ {a b:Bs},Zg a b=0→a=b
 | [],[],_=>rfl
 | [],_::_,h=>by simp [Zg] at h
 | _::_,[],h=>by simp [Zg] at h
 | a::s,b::t,h=>by
  unfold Zg thn at h
  split at h
  ·rename_i h0
   have hab:a.toNat=b.toNat:=by
    by_cases e:(a.toNat:Int)=(b.toNat:Int)
    ·exact_mod_cast e
    exact absurd h0 (Dl e)
   rw [UInt8.toNat_inj.1 hab,M7 h]
  rename_i h0
  exact absurd h h0
theorem Nt {a b c:Bs} (h1:Zg a b<0) (h2:Zg b c<0):Zg a c<0:=by
 rw [Do] at *
 exact Ev h1 h2
theorem Rl {a b:Bs} (h:¬ Zg a b<0) (hne:a≠b):Zg b a<0:=by
 have h0:Zg a b≠0:=fun e=>hne (M7 e)
 have h1:Zg b a=- Zg a b:=by rw [Do,Do,Jd]
 omega
abbrev UpB (l:List Bs):Prop:=l.Pairwise (fun a b=>Zg a b<0)
theorem twl_take (p:Bs→Bool) (l:List Bs):l.take (l.takeWhile p).length=l.takeWhile p:=by
 induction l with
 | nil=>rfl
 | cons a l ih=>
  rw [List.takeWhile_cons]
  cases p a
  ·rfl
  simp only [if_true,List.length_cons,List.take_succ_cons,ih]
theorem twl_drop (p:Bs→Bool) (l:List Bs):l.drop (l.takeWhile p).length=l.dropWhile p:=by
 induction l with
 | nil=>rfl
 | cons a l ih=>
  rw [List.takeWhile_cons,List.dropWhile_cons]
  cases p a
  ·rfl
  simp only [if_true,List.length_cons,List.drop_succ_cons,ih]
theorem insAt_up:∀ {l:List Bs} {x:Bs},UpB l→x ∉ l→UpB (Y8 l (below l x) x):=by
 intro l x h hx
 unfold Y8 below
 rw [twl_take,twl_drop]
 induction l with
 | nil=>simp
 | cons a l ih=>
  obtain ⟨h1,h2⟩:=List.pairwise_cons.1 h
  have hxl:x ∉ l:=fun e=>hx (List.mem_cons_of_mem _ e)
  rw [List.takeWhile_cons,List.dropWhile_cons]
  by_cases hp:Zg a x<0
  ·simp only [hp,decide_true,if_true,List.cons_append]
   refine List.pairwise_cons.2 ⟨fun b hb=>?_,ih h2 hxl⟩
   rcases List.mem_append.1 hb with hb | hb
   ·exact h1 b ((List.takeWhile_sublist _).subset hb)
   rcases List.mem_cons.1 hb with rfl | hb
   ·exact hp
   exact h1 b ((List.dropWhile_sublist _).subset hb)
  simp only [hp,decide_false,Bool.false_eq_true,if_false,List.nil_append]
  have hxa:Zg x a<0:=Rl hp (fun e=>hx (by rw [e];exact List.mem_cons_self))
  refine List.pairwise_cons.2 ⟨fun b hb=>?_,h⟩
  rcases List.mem_cons.1 hb with rfl | hb
  ·exact hxa
  exact Nt hxa (h1 b hb)
theorem Gm {T:Type} {l:List T} {i:Nat} {x y:T} (h:y ∈ Y8 l i x):y ∈ l∨y=x:=by
 unfold Y8 at h
 rcases List.mem_append.1 h with h | h
 ·exact .inl (List.mem_of_mem_take h)
 rcases List.mem_cons.1 h with h | h
 ·exact .inr h
 exact .inl (List.mem_of_mem_drop h)
theorem Lu:∀ (k:Nat) (z:List (Bs × Val)),z.length=k→(z.map Prod.fst).Nodup→UpB (Yx z).1∧(∀ y ∈ (Yx z).1,y ∈ z.map Prod.fst)∧∀ y ∈ (Yx z).2,y ∈ z.map Prod.snd
 | 0,z,h,_=>by rw [List.eq_nil_of_length_eq_zero h];exact ⟨List.Pairwise.nil,fun y hy=>by simp [Yx] at hy,fun y hy=>by simp [Yx] at hy⟩
 | k+1,z,h,hd=>by
  obtain ⟨z',p,rfl⟩:∃ z' p,z=z'++[p]:=⟨z.dropLast,z.getLast (by intro e;subst e;simp at h),(List.dropLast_concat_getLast (by intro e;subst e;simp at h)).symm⟩
  rw [List.map_append,List.nodup_append] at hd
  obtain ⟨h1,h2,h3⟩:=Lu k z' (by simpa using h) hd.1
  rw [E9]
  unfold Vo
  refine ⟨insAt_up h1 (fun e=>hd.2.2 _ (h2 _ e) p.1 (by simp) rfl),fun y hy=>?_,fun y hy=>?_⟩
  ·rcases Gm hy with hy | rfl
   ·rw [List.map_append];exact List.mem_append_left _ (h2 y hy)
   simp
  rcases Gm hy with hy | rfl
  ·rw [List.map_append];exact List.mem_append_left _ (h3 y hy)
  simp
theorem Rx {names:List Bs} {vals:List Val} (hl:names.length=vals.length) (hw:∀ x ∈ names,Xy x) (hd:names.Nodup) (hv:∀ v ∈ vals,Zr v):Zr (U0 (Yx (names.zip vals)).1 (Yx (names.zip vals)).2)∧(Yx (names.zip vals)).2.length=names.length:=by
 have h1:(names.zip vals).map Prod.fst=names:=List.map_fst_zip (Nat.le_of_eq hl)
 have h2:(names.zip vals).map Prod.snd=vals:=List.map_snd_zip (Nat.le_of_eq hl.symm)
 obtain ⟨a,b,c⟩:=Lu _ (names.zip vals) rfl (by rw [h1];exact hd)
 obtain ⟨l1,l2⟩:=Xl (names.zip vals)
 rw [h1] at b
 rw [h2] at c
 refine ⟨.record _ _ (by rw [l1,l2]) (fun x hx=>hw x (b x hx)) (fun i x y hx hy=>?_) (fun v hv'=>hv v (c v hv')),by rw [l2,List.length_zip,← hl,Nat.min_self]⟩
 obtain ⟨h3,rfl⟩:=Qj hx
 obtain ⟨h4,rfl⟩:=Qj hy
 exact List.pairwise_iff_getElem.1 a i (i+1) h3 h4 (by omega)
theorem Sg (S:Nat→Prop) (v:Value) (l:List Int) (w:World) (hs:Y6 S w v l) (hi:V9 l) (hk:Zp l 0 13=7):
  Calls prog 35 #[v,.int .i64 0] w (Vi w (Gen.check 7)):=by
 have HP:=Qq (fun W (hb:Below w.heap.size w W)=>Zt S v l 0 13 W (hs.below hb) hi (by omega) (by omega))
 rw [hk] at HP
 obtain ⟨p,cap,rfl,_⟩:=hs.len
 clear hs hi hk
 go_enter func35,ntmps35
 go_upto_region 8 with fail
 generalize hW8:(((((((w.alloc _).alloc _).alloc _).alloc _).alloc _).alloc _).alloc _).alloc _=W8
 have hb8:=eqB hW8 (Zq (Zq (Zq (Zq (Zq (Zq (Zq (Qn w _) _) _) _) _) _) _) _)
 have hz8:W8.heap.size=w.heap.size+8:=by rw [← hW8];simp
 have r8:=eqH (b:=w.heap.size) hW8 (Qi (Qi (Qi (Qi (Qi (Qi (Qi (Z8 rfl _) _) _) _) _) _) _) _)
 have ha:=eqH (b:=w.heap.size+1) hW8 (Qi (Qi (Qi (Qi (Qi (Qi (Z8 (by simp) _) _) _) _) _) _) _)
 have hb:=eqH (b:=w.heap.size+1+1) hW8 (Qi (Qi (Qi (Qi (Qi (Z8 (by simp) _) _) _) _) _) _)
 have hone:=eqH (b:=w.heap.size+1+1+1+1+1+1) hW8 (Qi (Z8 (by simp) _) _)
 have hRl:w.heap.size<W8.heap.size:=by omega
 have hRn:w.heap.size≠W8.heap.size:=by omega
 have HZ8:=Qq hz8
 clear hz8
 have HB8:=Qq hb8;have HR8:=Qq r8
 clear hW8 hb8 r8
 obtain ⟨a0,a1,a2,a3,a4,a5,a6,a7,a8⟩:=row9 ha
 clear ha
 obtain ⟨b0,b1,b2,b3,b4,b5,b6,b7,b8⟩:=row9 hb
 clear hb
 obtain ⟨one0,one1,one2,one3,one4,one5,one6,one7,one8⟩:=row9 hone
 clear hone
 go_upto_region 22 with (go_at_call 26;refine (HP.out _ HB8.out).mono ?_;rintro e w' ⟨rfl,rfl⟩)
 have hTok1:=Qq True.intro;have hTok2:=Qq True.intro;have hTok3:=Qq True.intro;have hTok4:=Qq True.intro
 go_upto_region 23 with (have hk:=hTok3.out;clear hTok3 hk;generalize hWW9:World.alloc W8 _=W9;have hbW9:=eqB hWW9 (Qn _ _);have hKW9:=eqH (b:=W8.heap.size) hWW9 (Qw _ _);have a0:=kC hbW9 a0;have a1:=kC hbW9 a1;have a2:=kC hbW9 a2;have a3:=kC hbW9 a3;have a4:=kC hbW9 a4;have a5:=kC hbW9 a5;have a6:=kC hbW9 a6;have a7:=kC hbW9 a7;have a8:=kC hbW9 a8;have b0:=kC hbW9 b0;have b1:=kC hbW9 b1;have b2:=kC hbW9 b2;have b3:=kC hbW9 b3;have b4:=kC hbW9 b4;have b5:=kC hbW9 b5;have b6:=kC hbW9 b6;have b7:=kC hbW9 b7;have b8:=kC hbW9 b8;have one0:=kC hbW9 one0;have one1:=kC hbW9 one1;have one2:=kC hbW9 one2;have one3:=kC hbW9 one3;have one4:=kC hbW9 one4;have one5:=kC hbW9 one5;have one6:=kC hbW9 one6;have one7:=kC hbW9 one7;have one8:=kC hbW9 one8;have HKW9:=Qq hKW9;have HBW9:=Qq hbW9;clear hWW9 hKW9 hbW9)
 generalize hW:(World.alloc W9 _).alloc _=W11
 have hbW11:=eqB hW (Zv _ _ _)
 have hK1:=eqH (b:=W9.heap.size) hW (Qi (Z8 rfl _) _)
 have hB1:=eqH (b:=W9.heap.size+1) hW (Z8 (by simp) _)
 clear hW
 have one0:=kC hbW11 one0
 have one1:=kC hbW11 one1
 have one2:=kC hbW11 one2
 have one3:=kC hbW11 one3
 have one4:=kC hbW11 one4
 have one5:=kC hbW11 one5
 have one6:=kC hbW11 one6
 have one7:=kC hbW11 one7
 have one8:=kC hbW11 one8
 obtain ⟨r0,r1,r2,r3,r4,r5,r6,r7,r8⟩:=row9 hB1
 have HN1:=Qq (kB hbW11 HKW9.out)
 have HB11:=Qq (HBW9.out.thn hbW11);have HK1:=Qq hK1
 clear hbW11 hK1 hB1 a0 b0 a1 b1 a2 b2 a3 b3 a4 b4 a5 b5 a6 b6 a7 b7 a8 b8
 go_upto_region 24 with (have hk:=hTok4.out;clear hTok4 hk;generalize hWW12:World.alloc W11 _=W12;have hbW12:=eqB hWW12 (Qn _ _);have hKW12:=eqH (b:=W11.heap.size) hWW12 (Qw _ _);have r0:=kC hbW12 r0;have r1:=kC hbW12 r1;have r2:=kC hbW12 r2;have r3:=kC hbW12 r3;have r4:=kC hbW12 r4;have r5:=kC hbW12 r5;have r6:=kC hbW12 r6;have r7:=kC hbW12 r7;have r8:=kC hbW12 r8;have one0:=kC hbW12 one0;have one1:=kC hbW12 one1;have one2:=kC hbW12 one2;have one3:=kC hbW12 one3;have one4:=kC hbW12 one4;have one5:=kC hbW12 one5;have one6:=kC hbW12 one6;have one7:=kC hbW12 one7;have one8:=kC hbW12 one8;have HKW12:=Qq hKW12;have HBW12:=Qq hbW12;clear hWW12 hKW12 hbW12)
 generalize hW:(World.alloc W12 _).alloc _=W14
 have hbW14:=eqB hW (Zv _ _ _)
 have hK2:=eqH (b:=W12.heap.size) hW (Qi (Z8 rfl _) _)
 have hB2:=eqH (b:=W12.heap.size+1) hW (Z8 (by simp) _)
 clear hW
 have r0:=kC hbW14 r0
 have r1:=kC hbW14 r1
 have r2:=kC hbW14 r2
 have r3:=kC hbW14 r3
 have r4:=kC hbW14 r4
 have r5:=kC hbW14 r5
 have r6:=kC hbW14 r6
 have r7:=kC hbW14 r7
 have r8:=kC hbW14 r8
 obtain ⟨t0,t1,t2,t3,t4,t5,t6,t7,t8⟩:=row9 hB2
 have HN2:=Qq (kB hbW14 HKW12.out)
 have HB14:=Qq (HBW12.out.thn hbW14);have HK2:=Qq hK2
 have HB811:=Qq (HB11.out.thn (HBW12.out.thn hbW14))
 have hl9:w.heap.size<W9.heap.size:=Qa hRl HBW9.out.size
 have hl12:w.heap.size<W12.heap.size:=Qa hRl (HB11.out.thn HBW12.out).size
 clear hbW14 hK2 hB2 one0 one1 one2 one3 one4 one5 one6 one7 one8
 have hl11:w.heap.size<W11.heap.size:=Qa hRl HB11.out.size
 have hl14:w.heap.size<W14.heap.size:=Qa hRl HB811.out.size
 have hrec:∀ W,Below W11.heap.size W11 W→Z6 (fun b=>w.heap.size<b) W [.int .i64 6,.string ⟨#[]⟩,.int .i64 0,.string ⟨#[]⟩,.slice (some ⟨W8.heap.size,0,none⟩) 2 2,.slice none 0 0,.slice (some ⟨W9.heap.size,0,none⟩) 2 2,.int .i64 0,.int .i64 0] Gen.rec:=fun W hW=>Yk (nm:=[]) (s:=[]) (by simp) (by simp) (Z4 (xs:=[[121],[120]]) (kB hW HN1.out) hRl (Gk _ _ [121] [120] (by simp) (by simp)) rfl rfl (by simp)) (Sl.nil _ _ _) (Z4 (xs:=[Gen.a,Gen.b]) (kB hW HK1.out) hl9 ((Cs.one (r:=Ys) (Zx 3 [97] 0 [] (by simp) (by simp))).app (Cs.one (r:=Ys) (Zx 3 [98] 0 [] (by simp) (by simp)))) rfl rfl (by simp))
 have hwth:∀ W,Below W14.heap.size W14 W→Z6 (fun b=>w.heap.size<b) W [.int .i64 7,.string ⟨#[]⟩,.int .i64 0,.string ⟨#[]⟩,.slice (some ⟨W11.heap.size,0,none⟩) 1 1,.slice none 0 0,.slice (some ⟨W12.heap.size,0,none⟩) 2 2,.int .i64 0,.int .i64 0] Gen.wth:=fun W hW=>Yk (nm:=[]) (s:=[]) (by simp) (by simp) (Z4 (xs:=[[120]]) (kB hW HN2.out) hl11 (Jv [120] (by simp)) rfl rfl (by simp)) (Sl.nil _ _ _) (Z4 (xs:=[Gen.rec,Gen.one]) (kB hW HK2.out) hl12 ((Cs.one (r:=Ys) (hrec W (HB14.out.thn hW))).app (Cs.one (r:=Ys) (Zx 0 [] 1 [] (by simp) (by simp)))) rfl rfl (by simp))
 have HRec:=Qq hrec;have HWth:=Qq hwth
 clear hrec hwth
 go_wp2_with (first
   | (have hk:=hTok1.out;clear hTok1 hk;generalize hWW15:World.alloc W14 _=W15;have hbW15:=eqB hWW15 (Qn _ _);have hKW15:=eqH (b:=W14.heap.size) hWW15 (Qw _ _);have r0:=kC hbW15 r0;have r1:=kC hbW15 r1;have r2:=kC hbW15 r2;have r3:=kC hbW15 r3;have r4:=kC hbW15 r4;have r5:=kC hbW15 r5;have r6:=kC hbW15 r6;have r7:=kC hbW15 r7;have r8:=kC hbW15 r8;have HKW15:=Qq hKW15;have HBW15:=Qq hbW15;clear hWW15 hKW15 hbW15)
   | (have hk:=hTok2.out;clear hTok2 hk;generalize hWW16:World.alloc W15 _=W16;have hbW16:=eqB hWW16 (Qn _ _);have hKW16:=eqH (b:=W15.heap.size) hWW16 (Qw _ _);have HKW16:=Qq hKW16;have HBW16:=Qq hbW16;clear hWW16 hKW16 hbW16)
   | (go_at_call 70;refine (Xx w.heap.size [60] _ _ [.int .i64 8,.string ⟨#[120]⟩,.int .i64 0,.string ⟨#[]⟩,.slice none 0 0,.slice none 0 0,.slice (some ⟨W14.heap.size,0,none⟩) 1 1,.int .i64 0,.int .i64 0] [.int .i64 8,.string ⟨#[121]⟩,.int .i64 0,.string ⟨#[]⟩,.slice none 0 0,.slice none 0 0,.slice (some ⟨W15.heap.size,0,none⟩) 1 1,.int .i64 0,.int .i64 0] _ (by simp) (Yk (nm:=[120]) (s:=[]) (by simp) (by simp) (Sl.nil _ _ _) (Sl.nil _ _ _) (Z4 (xs:=[Gen.wth]) (kB HBW16.out HKW15.out) hl14 (Cs.one (r:=Ys) (x:=Gen.wth) (show Z6 _ _ _ _ from HWth.out _ (HBW15.out.thn HBW16.out))) rfl rfl (by simp))) (Yk (nm:=[121]) (s:=[]) (by simp) (by simp) (Sl.nil _ _ _) (Sl.nil _ _ _) (Z4 (xs:=[Gen.rec]) HKW16.out (Qa hl14 HBW15.out.size) (Cs.one (r:=Ys) (x:=Gen.rec) (show Z6 _ _ _ _ from HRec.out _ (HB14.out.thn (HBW15.out.thn HBW16.out)))) rfl rfl (by simp))) (Qa hl14 (HBW15.out.thn HBW16.out).size)).mono ?_;rintro e w1 ⟨ek1,es1,en1,et1,e11,f11,g11,e21,f21,g21,e31,f31,g31,ea1,ez1,rfl,hx1,hb1⟩;have hR1:=(((HB811.out.thn (HBW15.out.thn HBW16.out)).thn hb1).block _ hRl).trans HR8.out;have f0:=fA 0 hR1;have y0:=Qk _ _ 0 _ _ _ hR1;have f1:=fA 1 hR1;have y1:=Qk _ _ 1 _ _ _ hR1;have f2:=fA 2 hR1;have y2:=Qk _ _ 2 _ _ _ hR1;have f3:=fA 3 hR1;have y3:=Qk _ _ 3 _ _ _ hR1;have f4:=fA 4 hR1;have y4:=Qk _ _ 4 _ _ _ hR1;have f5:=fA 5 hR1;have y5:=Qk _ _ 5 _ _ _ hR1;have f6:=fA 6 hR1;have y6:=Qk _ _ 6 _ _ _ hR1;have f7:=fA 7 hR1;have y7:=Qk _ _ 7 _ _ _ hR1;have f8:=fA 8 hR1;have y8:=Qk _ _ 8 _ _ _ hR1;simp only [List.getElem?_toArray,List.getElem?_cons_zero,List.getElem?_cons_succ] at y0 y1 y2 y3 y4 y5 y6 y7 y8;have HR1:=Qq hR1;clear hR1;have H1:=Qq hx1;have HB1:=Qq hb1;clear hx1 hb1))
 show bodyPost _ _ _ _ _ (put9 w1 w.heap.size (.int .i64 ek1) (.string es1) (.int .i64 en1) (.string et1) (.slice e11 f11 g11) (.slice e21 f21 g21) (.slice e31 f31 g31) (.int .i64 ea1) (.int .i64 ez1))
 exact Q7 (v:=.agg #[.int .i64 ek1,.string es1,.int .i64 en1,.string et1,.slice e11 f11 g11,.slice e21 f21 g21,.slice e31 f31 g31,.int .i64 ea1,.int .i64 ez1]) (by simp [results,results35,go_sem,Y4 HR1.out]) rfl (Vy H1.out (HB8.out.thn (HB811.out.thn (HBW15.out.thn (HBW16.out.thn HB1.out)))) rfl)
end Go.Proofs.YtppbaladeefnkaaGreatDoor
