import Derived.Test.YtppbaladeefnkaaGreatDoorV34
set_option maxRecDepth 100000
set_option maxHeartbeats 400000000
namespace Go.Proofs.YtppbaladeefnkaaGreatDoor
open Go.RowKit Go.Shelf Go.Lib Tryz
structure U4 (w:World) (g n cap:Nat) (css F:List (List Value)) (k:Nat) (wr:World):Prop where
 gr:w.grownBy wr (some g)
 row:∃ Z:Array Value,wr.heap[g]?=some (.cells Z 44 (0,0))∧Z.size=cap*5∧Z.toList.take (F.length*5)=F.flatten∧∀ m,k*5≤m→m<n*5→Z[m]?=css.flatten[m]?
theorem V8 {w wr w':World} {g:Nat} (h:w.grownBy wr (some g)) (hb:Below wr.heap.size wr w'):w.grownBy w' (some g):=
 ⟨hb.os.trans h.os,hb.tape.trans h.tape,hb.output.trans h.output,Qc h.size hb.size,fun k hk hne=>(hb.block k (Qa hk h.size)).trans (h.block k hk hne)⟩
theorem U4.keep {w wr w':World} {g n cap k:Nat} {css F:List (List Value)} (h:U4 w g n cap css F k wr) (hb:Below wr.heap.size wr w'):U4 w g n cap css F k w':=by
 obtain ⟨Z,h1,h2⟩:=h.row
 exact ⟨V8 h.gr hb,Z,(hb.block g (Qf h1)).trans h1,h2⟩
theorem U4.skip {w wr:World} {g n cap k:Nat} {css F:List (List Value)} (h:U4 w g n cap css F k wr):U4 w g n cap css F (k+1) wr:=by
 obtain ⟨Z,h1,h2,h3,h4⟩:=h.row
 exact ⟨h.gr,Z,h1,h2,h3,fun m hm hn=>h4 m (by omega) hn⟩
theorem U4.put {w wr:World} {g n cap k:Nat} {css F:List (List Value)} {c:List Value} (h:U4 w g n cap css F k wr) (hc:c.length=5) (h1:∀ v ∈ c,v.oneCell'=true) (hF:F.length<k) (hk:k<n) (hn:n≤cap):U4 w g n cap css (F++[c]) (k+1) (wr.setCells g (F.length*5) c):=by
 obtain ⟨Z,hZ,hs,ht,hr⟩:=h.row
 have hZl:Z.toList.length=cap*5:=by simpa using hs
 rw [Hr wr g (F.length*5) c Z _ hZ (by omega) h1]
 refine ⟨⟨h.gr.os,h.gr.tape,h.gr.output,by simpa [World.setRow] using h.gr.size,fun j hj hne=>(setRow_other _ _ _ _ (fun e=>hne (by rw [e]))).trans (h.gr.block j hj hne)⟩,_,setRow_heap _ _ _ _ _ _ hZ,?_,?_,fun m hm hmn=>?_⟩
 ·simp only [List.size_toArray,List.length_append,List.length_take,List.length_drop,hZl,hc];rw [Nat.min_eq_left (by omega)];omega
 ·have hl:(Z.toList.take (F.length*5)).length=F.length*5:=by rw [List.length_take,hZl,Nat.min_eq_left (by omega)]
  have hl2:(F++[c]).length*5=(Z.toList.take (F.length*5)++c).length:=by rw [List.length_append,List.length_append,hl,hc];simp;omega
  rw [hl2,List.toList_toArray,List.take_left,ht,List.flatten_append];simp
 have hl:(Z.toList.take (F.length*5)++c).length=F.length*5+5:=by rw [List.length_append,List.length_take,hZl,Nat.min_eq_left (by omega),hc]
 rw [← hr m (by omega) hmn,List.getElem?_toArray,List.getElem?_append_right (by rw [hl];omega),hl,List.getElem?_drop,hc,show F.length*5+5+(m - (F.length*5+5))=m by omega]
 simp
theorem Di {w w':World} {row:Option Nat} (hb:Below w.heap.size w w'):w.grownBy w' row:=⟨hb.os,hb.tape,hb.output,hb.size,fun k hk _=>hb.block k hk⟩
theorem Do (a b:Bs):Zg a b=lex (Bg a) (Bg b):=by
 have h:=Xb a b [] []
 rw [List.append_nil,List.append_nil,show lex [] []=0 from rfl,Uf] at h
 exact h.symm
theorem M7:∀ {a b:Bs},Zg a b=0→a=b
 | [],[],_=>rfl
 | [],_::_,h=>by simp [Zg] at h
 | _::_,[],h=>by simp [Zg] at h
 | a::s,b::t,h=>by
  unfold Zg thn at h
  split at h
  ·rename_i h0
   have hab:a.toNat=b.toNat:=by
    by_cases e:(a.toNat:Int)=(b.toNat:Int)
    ·exact_mod_cast e
    exact absurd h0 (Dl e)
   rw [UInt8.toNat_inj.1 hab,M7 h]
  rename_i h0
  exact absurd h h0
theorem Nt {a b c:Bs} (h1:Zg a b<0) (h2:Zg b c<0):Zg a c<0:=by
 rw [Do] at *
 exact Ev h1 h2
theorem Rl {a b:Bs} (h:¬ Zg a b<0) (hne:a≠b):Zg b a<0:=by
 have h0:Zg a b≠0:=fun e=>hne (M7 e)
 have h1:Zg b a=- Zg a b:=by rw [Do,Do,Jd]
 omega
abbrev UpB (l:List Bs):Prop:=l.Pairwise (fun a b=>Zg a b<0)
theorem twl_take (p:Bs→Bool) (l:List Bs):l.take (l.takeWhile p).length=l.takeWhile p:=by
 induction l with
 | nil=>rfl
 | cons a l ih=>
  rw [List.takeWhile_cons]
  cases p a
  ·rfl
  simp only [if_true,List.length_cons,List.take_succ_cons,ih]
theorem twl_drop (p:Bs→Bool) (l:List Bs):l.drop (l.takeWhile p).length=l.dropWhile p:=by
 induction l with
 | nil=>rfl
 | cons a l ih=>
  rw [List.takeWhile_cons,List.dropWhile_cons]
  cases p a
  ·rfl
  simp only [if_true,List.length_cons,List.drop_succ_cons,ih]
theorem insAt_up:∀ {l:List Bs} {x:Bs},UpB l→x ∉ l→UpB (Y8 l (below l x) x):=by
 intro l x h hx
 unfold Y8 below
 rw [twl_take,twl_drop]
 induction l with
 | nil=>simp
 | cons a l ih=>
  obtain ⟨h1,h2⟩:=List.pairwise_cons.1 h
  have hxl:x ∉ l:=fun e=>hx (List.mem_cons_of_mem _ e)
  rw [List.takeWhile_cons,List.dropWhile_cons]
  by_cases hp:Zg a x<0
  ·simp only [hp,decide_true,if_true,List.cons_append]
   refine List.pairwise_cons.2 ⟨fun b hb=>?_,ih h2 hxl⟩
   rcases List.mem_append.1 hb with hb | hb
   ·exact h1 b ((List.takeWhile_sublist _).subset hb)
   rcases List.mem_cons.1 hb with rfl | hb
   ·exact hp
   exact h1 b ((List.dropWhile_sublist _).subset hb)
  simp only [hp,decide_false,Bool.false_eq_true,if_false,List.nil_append]
  have hxa:Zg x a<0:=Rl hp (fun e=>hx (by rw [e];exact List.mem_cons_self))
  refine List.pairwise_cons.2 ⟨fun b hb=>?_,h⟩
  rcases List.mem_cons.1 hb with rfl | hb
  ·exact hxa
  exact Nt hxa (h1 b hb)
theorem Gm {T:Type} {l:List T} {i:Nat} {x y:T} (h:y ∈ Y8 l i x):y ∈ l∨y=x:=by
 unfold Y8 at h
 rcases List.mem_append.1 h with h | h
 ·exact .inl (List.mem_of_mem_take h)
 rcases List.mem_cons.1 h with h | h
 ·exact .inr h
 exact .inl (List.mem_of_mem_drop h)
theorem Lu:∀ (k:Nat) (z:List (Bs × Val)),z.length=k→(z.map Prod.fst).Nodup→UpB (Yx z).1∧(∀ y ∈ (Yx z).1,y ∈ z.map Prod.fst)∧∀ y ∈ (Yx z).2,y ∈ z.map Prod.snd
 | 0,z,h,_=>by rw [List.eq_nil_of_length_eq_zero h];exact ⟨List.Pairwise.nil,fun y hy=>by simp [Yx] at hy,fun y hy=>by simp [Yx] at hy⟩
 | k+1,z,h,hd=>by
  obtain ⟨z',p,rfl⟩:∃ z' p,z=z'++[p]:=⟨z.dropLast,z.getLast (by intro e;subst e;simp at h),(List.dropLast_concat_getLast (by intro e;subst e;simp at h)).symm⟩
  rw [List.map_append,List.nodup_append] at hd
  obtain ⟨h1,h2,h3⟩:=Lu k z' (by simpa using h) hd.1
  rw [E9]
  unfold Vo
  refine ⟨insAt_up h1 (fun e=>hd.2.2 _ (h2 _ e) p.1 (by simp) rfl),fun y hy=>?_,fun y hy=>?_⟩
  ·rcases Gm hy with hy | rfl
   ·rw [List.map_append];exact List.mem_append_left _ (h2 y hy)
   simp
  rcases Gm hy with hy | rfl
  ·rw [List.map_append];exact List.mem_append_left _ (h3 y hy)
  simp
theorem Rx {names:List Bs} {vals:List Val} (hl:names.length=vals.length) (hw:∀ x ∈ names,Xy x) (hd:names.Nodup) (hv:∀ v ∈ vals,Zr v):Zr (U0 (Yx (names.zip vals)).1 (Yx (names.zip vals)).2)∧(Yx (names.zip vals)).2.length=names.length:=by
 have h1:(names.zip vals).map Prod.fst=names:=List.map_fst_zip (Nat.le_of_eq hl)
 have h2:(names.zip vals).map Prod.snd=vals:=List.map_snd_zip (Nat.le_of_eq hl.symm)
 obtain ⟨a,b,c⟩:=Lu _ (names.zip vals) rfl (by rw [h1];exact hd)
 obtain ⟨l1,l2⟩:=Xl (names.zip vals)
 rw [h1] at b
 rw [h2] at c
 refine ⟨.record _ _ (by rw [l1,l2]) (fun x hx=>hw x (b x hx)) (fun i x y hx hy=>?_) (fun v hv'=>hv v (c v hv')),by rw [l2,List.length_zip,← hl,Nat.min_self]⟩
 obtain ⟨h3,rfl⟩:=Qj hx
 obtain ⟨h4,rfl⟩:=Qj hy
 exact List.pairwise_iff_getElem.1 a i (i+1) h3 h4 (by omega)
theorem Sg (S:Nat→Prop) (v:Value) (l:List Int) (w:World) (hs:Y6 S w v l) (hi:V9 l) (hk:Zp l 0 13=7):
  Calls prog 35 #[v,.int .i64 0] w (Vi w (Gen.check 7)):=by
 have HP:=Qq (fun W (hb:Below w.heap.size w W)=>Zt S v l 0 13 W (hs.below hb) hi (by omega) (by omega))
 rw [hk] at HP
 obtain ⟨p,cap,rfl,_⟩:=hs.len
 clear hs hi hk
 go_enter func35,ntmps35
 go_upto_region 8 with fail
 generalize hW8:(((((((w.alloc _).alloc _).alloc _).alloc _).alloc _).alloc _).alloc _).alloc _=W8
 have hb8:=eqB hW8 (Zq (Zq (Zq (Zq (Zq (Zq (Zq (Qn w _) _) _) _) _) _) _) _)
 have hz8:W8.heap.size=w.heap.size+8:=by rw [← hW8];simp
 have r8:=eqH (b:=w.heap.size) hW8 (Qi (Qi (Qi (Qi (Qi (Qi (Qi (Z8 rfl _) _) _) _) _) _) _) _)
 have ha:=eqH (b:=w.heap.size+1) hW8 (Qi (Qi (Qi (Qi (Qi (Qi (Z8 (by simp) _) _) _) _) _) _) _)
 have hb:=eqH (b:=w.heap.size+1+1) hW8 (Qi (Qi (Qi (Qi (Qi (Z8 (by simp) _) _) _) _) _) _)
 have hone:=eqH (b:=w.heap.size+1+1+1+1+1+1) hW8 (Qi (Z8 (by simp) _) _)
 have hRl:w.heap.size<W8.heap.size:=by omega
 have hRn:w.heap.size≠W8.heap.size:=by omega
 have HZ8:=Qq hz8
 clear hz8
 have HB8:=Qq hb8;have HR8:=Qq r8
 clear hW8 hb8 r8
 obtain ⟨a0,a1,a2,a3,a4,a5,a6,a7,a8⟩:=row9 ha
 clear ha
 obtain ⟨b0,b1,b2,b3,b4,b5,b6,b7,b8⟩:=row9 hb
 clear hb
 obtain ⟨one0,one1,one2,one3,one4,one5,one6,one7,one8⟩:=row9 hone
 clear hone
 go_upto_region 22 with (go_at_call 26;refine (HP.out _ HB8.out).mono ?_;rintro e w' ⟨rfl,rfl⟩)
 have hTok1:=Qq True.intro;have hTok2:=Qq True.intro;have hTok3:=Qq True.intro;have hTok4:=Qq True.intro
 go_upto_region 23 with (have hk:=hTok3.out;clear hTok3 hk;generalize hWW9:World.alloc W8 _=W9;have hbW9:=eqB hWW9 (Qn _ _);have hKW9:=eqH (b:=W8.heap.size) hWW9 (Qw _ _);have a0:=kC hbW9 a0;have a1:=kC hbW9 a1;have a2:=kC hbW9 a2;have a3:=kC hbW9 a3;have a4:=kC hbW9 a4;have a5:=kC hbW9 a5;have a6:=kC hbW9 a6;have a7:=kC hbW9 a7;have a8:=kC hbW9 a8;have b0:=kC hbW9 b0;have b1:=kC hbW9 b1;have b2:=kC hbW9 b2;have b3:=kC hbW9 b3;have b4:=kC hbW9 b4;have b5:=kC hbW9 b5;have b6:=kC hbW9 b6;have b7:=kC hbW9 b7;have b8:=kC hbW9 b8;have one0:=kC hbW9 one0;have one1:=kC hbW9 one1;have one2:=kC hbW9 one2;have one3:=kC hbW9 one3;have one4:=kC hbW9 one4;have one5:=kC hbW9 one5;have one6:=kC hbW9 one6;have one7:=kC hbW9 one7;have one8:=kC hbW9 one8;have HKW9:=Qq hKW9;have HBW9:=Qq hbW9;clear hWW9 hKW9 hbW9)
 generalize hW:(World.alloc W9 _).alloc _=W11
 have hbW11:=eqB hW (Zv _ _ _)
 have hK1:=eqH (b:=W9.heap.size) hW (Qi (Z8 rfl _) _)
 have hB1:=eqH (b:=W9.heap.size+1) hW (Z8 (by simp) _)
 clear hW
 have one0:=kC hbW11 one0
 have one1:=kC hbW11 one1
 have one2:=kC hbW11 one2
 have one3:=kC hbW11 one3
 have one4:=kC hbW11 one4
 have one5:=kC hbW11 one5
 have one6:=kC hbW11 one6
 have one7:=kC hbW11 one7
 have one8:=kC hbW11 one8
 obtain ⟨r0,r1,r2,r3,r4,r5,r6,r7,r8⟩:=row9 hB1
 have HN1:=Qq (kB hbW11 HKW9.out)
 have HB11:=Qq (HBW9.out.thn hbW11);have HK1:=Qq hK1
 clear hbW11 hK1 hB1 a0 b0 a1 b1 a2 b2 a3 b3 a4 b4 a5 b5 a6 b6 a7 b7 a8 b8
 go_upto_region 24 with (have hk:=hTok4.out;clear hTok4 hk;generalize hWW12:World.alloc W11 _=W12;have hbW12:=eqB hWW12 (Qn _ _);have hKW12:=eqH (b:=W11.heap.size) hWW12 (Qw _ _);have r0:=kC hbW12 r0;have r1:=kC hbW12 r1;have r2:=kC hbW12 r2;have r3:=kC hbW12 r3;have r4:=kC hbW12 r4;have r5:=kC hbW12 r5;have r6:=kC hbW12 r6;have r7:=kC hbW12 r7;have r8:=kC hbW12 r8;have one0:=kC hbW12 one0;have one1:=kC hbW12 one1;have one2:=kC hbW12 one2;have one3:=kC hbW12 one3;have one4:=kC hbW12 one4;have one5:=kC hbW12 one5;have one6:=kC hbW12 one6;have one7:=kC hbW12 one7;have one8:=kC hbW12 one8;have HKW12:=Qq hKW12;have HBW12:=Qq hbW12;clear hWW12 hKW12 hbW12)
 generalize hW:(World.alloc W12 _).alloc _=W14
 have hbW14:=eqB hW (Zv _ _ _)
 have hK2:=eqH (b:=W12.heap.size) hW (Qi (Z8 rfl _) _)
 have hB2:=eqH (b:=W12.heap.size+1) hW (Z8 (by simp) _)
 clear hW
 have r0:=kC hbW14 r0
 have r1:=kC hbW14 r1
 have r2:=kC hbW14 r2
 have r3:=kC hbW14 r3
 have r4:=kC hbW14 r4
 have r5:=kC hbW14 r5
 have r6:=kC hbW14 r6
 have r7:=kC hbW14 r7
 have r8:=kC hbW14 r8
 obtain ⟨t0,t1,t2,t3,t4,t5,t6,t7,t8⟩:=row9 hB2
 have HN2:=Qq (kB hbW14 HKW12.out)
 have HB14:=Qq (HBW12.out.thn hbW14);have HK2:=Qq hK2
 have HB811:=Qq (HB11.out.thn (HBW12.out.thn hbW14))
 have hl9:w.heap.size<W9.heap.size:=Qa hRl HBW9.out.size
 have hl12:w.heap.size<W12.heap.size:=Qa hRl (HB11.out.thn HBW12.out).size
 clear hbW14 hK2 hB2 one0 one1 one2 one3 one4 one5 one6 one7 one8
 have hl11:w.heap.size<W11.heap.size:=Qa hRl HB11.out.size
 have hl14:w.heap.size<W14.heap.size:=Qa hRl HB811.out.size
 have hrec:∀ W,Below W11.heap.size W11 W→Z6 (fun b=>w.heap.size<b) W [.int .i64 6,.string ⟨#[]⟩,.int .i64 0,.string ⟨#[]⟩,.slice (some ⟨W8.heap.size,0,none⟩) 2 2,.slice none 0 0,.slice (some ⟨W9.heap.size,0,none⟩) 2 2,.int .i64 0,.int .i64 0] Gen.rec:=fun W hW=>Yk (nm:=[]) (s:=[]) (by simp) (by simp) (Z4 (xs:=[[121],[120]]) (kB hW HN1.out) hRl (Gk _ _ [121] [120] (by simp) (by simp)) rfl rfl (by simp)) (Sl.nil _ _ _) (Z4 (xs:=[Gen.a,Gen.b]) (kB hW HK1.out) hl9 ((Cs.one (r:=Ys) (Zx 3 [97] 0 [] (by simp) (by simp))).app (Cs.one (r:=Ys) (Zx 3 [98] 0 [] (by simp) (by simp)))) rfl rfl (by simp))
 have hwth:∀ W,Below W14.heap.size W14 W→Z6 (fun b=>w.heap.size<b) W [.int .i64 7,.string ⟨#[]⟩,.int .i64 0,.string ⟨#[]⟩,.slice (some ⟨W11.heap.size,0,none⟩) 1 1,.slice none 0 0,.slice (some ⟨W12.heap.size,0,none⟩) 2 2,.int .i64 0,.int .i64 0] Gen.wth:=fun W hW=>Yk (nm:=[]) (s:=[]) (by simp) (by simp) (Z4 (xs:=[[120]]) (kB hW HN2.out) hl11 (Jv [120] (by simp)) rfl rfl (by simp)) (Sl.nil _ _ _) (Z4 (xs:=[Gen.rec,Gen.one]) (kB hW HK2.out) hl12 ((Cs.one (r:=Ys) (hrec W (HB14.out.thn hW))).app (Cs.one (r:=Ys) (Zx 0 [] 1 [] (by simp) (by simp)))) rfl rfl (by simp))
 have HRec:=Qq hrec;have HWth:=Qq hwth
 clear hrec hwth
 go_wp2_with (first
   | (have hk:=hTok1.out;clear hTok1 hk;generalize hWW15:World.alloc W14 _=W15;have hbW15:=eqB hWW15 (Qn _ _);have hKW15:=eqH (b:=W14.heap.size) hWW15 (Qw _ _);have r0:=kC hbW15 r0;have r1:=kC hbW15 r1;have r2:=kC hbW15 r2;have r3:=kC hbW15 r3;have r4:=kC hbW15 r4;have r5:=kC hbW15 r5;have r6:=kC hbW15 r6;have r7:=kC hbW15 r7;have r8:=kC hbW15 r8;have HKW15:=Qq hKW15;have HBW15:=Qq hbW15;clear hWW15 hKW15 hbW15)
   | (have hk:=hTok2.out;clear hTok2 hk;generalize hWW16:World.alloc W15 _=W16;have hbW16:=eqB hWW16 (Qn _ _);have hKW16:=eqH (b:=W15.heap.size) hWW16 (Qw _ _);have HKW16:=Qq hKW16;have HBW16:=Qq hbW16;clear hWW16 hKW16 hbW16)
   | (go_at_call 70;refine (Xx w.heap.size [60] _ _ [.int .i64 8,.string ⟨#[120]⟩,.int .i64 0,.string ⟨#[]⟩,.slice none 0 0,.slice none 0 0,.slice (some ⟨W14.heap.size,0,none⟩) 1 1,.int .i64 0,.int .i64 0] [.int .i64 8,.string ⟨#[121]⟩,.int .i64 0,.string ⟨#[]⟩,.slice none 0 0,.slice none 0 0,.slice (some ⟨W15.heap.size,0,none⟩) 1 1,.int .i64 0,.int .i64 0] _ (by simp) (Yk (nm:=[120]) (s:=[]) (by simp) (by simp) (Sl.nil _ _ _) (Sl.nil _ _ _) (Z4 (xs:=[Gen.wth]) (kB HBW16.out HKW15.out) hl14 (Cs.one (r:=Ys) (x:=Gen.wth) (show Z6 _ _ _ _ from HWth.out _ (HBW15.out.thn HBW16.out))) rfl rfl (by simp))) (Yk (nm:=[121]) (s:=[]) (by simp) (by simp) (Sl.nil _ _ _) (Sl.nil _ _ _) (Z4 (xs:=[Gen.rec]) HKW16.out (Qa hl14 HBW15.out.size) (Cs.one (r:=Ys) (x:=Gen.rec) (show Z6 _ _ _ _ from HRec.out _ (HB14.out.thn (HBW15.out.thn HBW16.out)))) rfl rfl (by simp))) (Qa hl14 (HBW15.out.thn HBW16.out).size)).mono ?_;rintro e w1 ⟨ek1,es1,en1,et1,e11,f11,g11,e21,f21,g21,e31,f31,g31,ea1,ez1,rfl,hx1,hb1⟩;have hR1:=(((HB811.out.thn (HBW15.out.thn HBW16.out)).thn hb1).block _ hRl).trans HR8.out;have f0:=fA 0 hR1;have y0:=Qk _ _ 0 _ _ _ hR1;have f1:=fA 1 hR1;have y1:=Qk _ _ 1 _ _ _ hR1;have f2:=fA 2 hR1;have y2:=Qk _ _ 2 _ _ _ hR1;have f3:=fA 3 hR1;have y3:=Qk _ _ 3 _ _ _ hR1;have f4:=fA 4 hR1;have y4:=Qk _ _ 4 _ _ _ hR1;have f5:=fA 5 hR1;have y5:=Qk _ _ 5 _ _ _ hR1;have f6:=fA 6 hR1;have y6:=Qk _ _ 6 _ _ _ hR1;have f7:=fA 7 hR1;have y7:=Qk _ _ 7 _ _ _ hR1;have f8:=fA 8 hR1;have y8:=Qk _ _ 8 _ _ _ hR1;simp only [List.getElem?_toArray,List.getElem?_cons_zero,List.getElem?_cons_succ] at y0 y1 y2 y3 y4 y5 y6 y7 y8;have HR1:=Qq hR1;clear hR1;have H1:=Qq hx1;have HB1:=Qq hb1;clear hx1 hb1))
 show bodyPost _ _ _ _ _ (put9 w1 w.heap.size (.int .i64 ek1) (.string es1) (.int .i64 en1) (.string et1) (.slice e11 f11 g11) (.slice e21 f21 g21) (.slice e31 f31 g31) (.int .i64 ea1) (.int .i64 ez1))
 exact Q7 (v:=.agg #[.int .i64 ek1,.string es1,.int .i64 en1,.string et1,.slice e11 f11 g11,.slice e21 f21 g21,.slice e31 f31 g31,.int .i64 ea1,.int .i64 ez1]) (by simp [results,results35,go_sem,Y4 HR1.out]) rfl (Vy H1.out (HB8.out.thn (HB811.out.thn (HBW15.out.thn (HBW16.out.thn HB1.out)))) rfl)
end Go.Proofs.YtppbaladeefnkaaGreatDoor
