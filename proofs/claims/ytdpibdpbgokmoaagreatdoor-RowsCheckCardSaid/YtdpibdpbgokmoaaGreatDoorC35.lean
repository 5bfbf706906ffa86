import Derived.Test.YtdpibdpbgokmoaaGreatDoorC34
set_option maxRecDepth 100000
set_option maxHeartbeats 400000000
namespace Go.Proofs.YtdpibdpbgokmoaaGreatDoor
open Go.RowKit Go.Shelf Go.Lib Tryz
def Ko (us:List Sm):Prop:=∀ u ∈ us,∀ c ∈ u.ctors,Jo c.arg
structure Mj (t:Tbl):Prop where
 key:t.key.length≤1000
 cols:t.columns.length≤1000
 types:∀ c ∈ t.columns,Jo c.type∨c.type.kind=3
 check:Xn 8 t.check
structure Vp (v:Val):Prop where
 good:Y2 v
 few:v.kids.length≤900
theorem Y2.lens {v:Val} (h:Y2 v):v.names.length≤v.kids.length∧(v.kind=4→v.kids.length=v.names.length):=by
 cases h with
 | int n=>exact ⟨Q9 _,fun h=>by cases h⟩
 | text s=>exact ⟨Q9 _,fun h=>by cases h⟩
 | bool n _=>exact ⟨Q9 _,fun h=>by cases h⟩
 | make s kids _ _ _=>exact ⟨Q8 _,fun h=>by cases h⟩
 | record names kids hl _ _ _=>exact ⟨Nat.le_of_eq hl,fun _=>hl.symm⟩
 | list kids _=>exact ⟨Q8 _,fun h=>by cases h⟩
theorem rhasP (us:List Sm) (hu:Ko us) (v:Val) (t:Ty) (h:Jo t∨t.kind=3):Dy us v t (Mh us v t):=by
 unfold Mh
 split
 ·rename_i h3
  obtain ⟨k,s,n,names,kids⟩:=t
  cases (show k=3 from h3)
  exact rhasSum us v s n names kids hu
 rename_i h3
 exact M2 us v t (h.resolve_right h3)
theorem rhasRow (us:List Sm) (hu:Ko us) (t:Tbl) (hT:Mj t) (v:Val) (hv:Vp v):Dy us v (N9 t) (D9 us t v):=by
 obtain ⟨h1,h2,h3⟩:=Hz _ t.columns rfl
 exact rhasRec us v [] _ _ (Mh us) (by rw [h1,h2]) hv.good.lens.2 (fun x _ y hy=>by
  obtain ⟨c,hc,rfl⟩:=h3 y hy
  exact rhasP us hu x c.type (hT.types c hc))
theorem Pd (X:World) (p:Addr):X.drew.cell? p=X.cell? p:=rfl
theorem Zr {W:World} {R b j:Nat} {x0 x1 x2 x3 x4 x5 x6 x7 x8 x9 x10 x11 u:Value} (h:b≠R) (hc:W.cell? ⟨b,j,none⟩=some u):(Yb W R x0 x1 x2 x3 x4 x5 x6 x7 x8 x9 x10 x11).drew.cell? ⟨b,j,none⟩=some u:=(Pd _ _).trans ((World.cell?_of_block (Xq h)).trans hc)
def Kx:Prop:=∀ (S0 S1:Nat→Prop) (s:Sc) (cs:List Value) (lv:Value) (l:List Rel) (w:World),Xu S0 w cs s→Sl Y7 S1 w lv l→l.length=s.tables.length→Ko s.sums→(∀ t ∈ s.tables,Mj t)→(∀ r ∈ l,∀ v ∈ r.rows,Vp v) →
  Calls prog 10 #[cs,lv] w (Xt w s l (cfR s l))
theorem Bi (p:Addr) (b:Bool) (older:List PanicEntry) (w:World) (hc:w.cell? p=some (.bool b)) (hz:w.frozen? p=false):
  CallsD prog 89 #[.pointer (some p)] (.panicking ({ v:=.iface 121 (.agg #[]),recovered:=false }::older)) w fun e u' w'=>
   e=.returned (.tuple #[])∧u'=.panicking ({ v:=.iface 121 (.agg #[]),recovered:=true }::older)∧∃ o,w'=(w.alloc o).setCell p (.bool false):=by
 refine callsD_of_wpS func89 rfl fun c₀ cs hu=>?_
 apply wpS_seq
 apply wpS_region
 simp [wpOpsS,go_sem,recoverD,hu,ntmps89,Exit.thenS]
 have D:∀ w,(Instr.typeAssert (.iface 121 (.agg #[])) 20 121 true).run prog w=.ok (.tuple #[.agg #[],.bool true]) w:=by
  intro w
  simp [Instr.typeAssert,go_sem]
 refine wpS_of_wp ?_
 rw [show (#[Value.pointer (some p)]++(Array.replicate 9 undef).setIfInBounds 3 (.iface 121 (.agg #[])))=#[.pointer (some p),undef,undef,undef,.iface 121 (.agg #[]),undef,undef,undef,undef,undef] from rfl]
 have hl:=Qv _ _ hc
 have A:(w.alloc (.cells #[] 121)).cell? p=some (.bool b):=((Zg w _).cell hl).trans hc
 have G:(w.alloc (.cells #[] 121)).frozen? p=false:=((Zg w _).frozen hl).trans hz
 go_wp2_with fail
 cases c₀
 simp_all [bodyPostS,results,results89]
 exact ⟨_,rfl⟩
def Ly (r:Option Val):Bool:=match r with
 | some u=>decide (u.kind=2)&&(u.n==1)
 | none=>false
theorem Wd (S0 S1:Nat→Prop) (t:Tbl) (v:Val) (ct cr:List Value) (r:Option Val) (w:World) (ht0:Zn.R S0 w ct t) (hr0:Z9 S1 w cr v) (hsi:Vx t.check=true) (hev:EvO t.check (Fz v) r) (hln:v.names.length≤v.kids.length) (hkw:Xl w):
  Calls prog 37 #[ct,cr] w fun e w'=>e=.returned (.bool (Ly r))∧Below w w w':=by
 obtain ⟨b,aG⟩:=eX (Ly r)
 rw [aG]
 have bY:∀ (fn:Fn) (first cap:Array Value) (w:World),(Instr.makeFunc fn first cap).run prog w=.ok (.func fn first cap) w:=fun _ _ _ _=>rfl
 have ht:Zn.R (fun b=>b<w) w ct t:=Zn.mono ht0 (fun b hb _=>hb)
 have hr:Z9 (fun b=>b<w) w cr v:=hr0.move (.refl _ _) (fun b hb _=>hb)
 obtain ⟨bS,bR,cC,cB,cK,cJ,k9,cL,n9,cM,cG,cD,bO,cH,cE,bP,cI,cF,bQ,a9,z9,G,_,_,_,_,aH⟩:=Yj ht
 simp only [tcs] at G
 subst G
 obtain ⟨p3,k3,p4,k4,G,aI,aR,_⟩:=Z9.cells hr
 simp only [vcs] at G
 subst G
 have aN:=Qq (fun W (hb:Below w w W)=>hsi ▸ Ng t.check _ _ W (Yv.move aH (.of_below hb) Qzx))
 have aL:=Qq (fun p W (hb:Below w w W) (he:Xv (fun _=>True) W p (Fz v))=>hev (fun _=>True) _ _ p W (fun _ _=>trivial) (hkw.below hb) (Yv.move aH (.of_below hb) Qzx) he)
 have aM:=Qq aI;have bB:=Qq aR
 obtain ⟨n,hn⟩:=eX (v.names.length)
 have cA:n≤1000000:=by rw [← hn];obtain ⟨_,_,_,h⟩:=aI.len;exact h
 rw [hn] at aM hln ⊢
 have HN:=Qq hn;have bC:=Qq hln
 clear ht ht0 hr hr0 aH aI aR hsi hev hn hln hkw
 go_enter_defers func37,ntmps37
 go_wp2_with fail
 refine (aN.out _ (Xm _ _ _ _)).mono ?_
 rintro e w1 ⟨rfl,Y⟩
 have h0:=(Y.block w (by simp;omega)).trans (Zp w _ _ _)
 have h1:=(Y.block (w+1) Qqk).trans (Zo w _ _ _)
 have h2:=(Y.block (w+1+1) Qqk).trans (Zi w _ _ _)
 have bA:=Qq ((Xm w _ _ _).thn Y)
 obtain ⟨H0,H1,H2⟩:=Qqo h0 h1 h2
 have x3:=rA3 h1;have x4:=rA4 h1
 clear Y h0 h1 h2 aN
 go_wp2_with fail
 go_loopw [5,16] (fun p i wr=>∃ k:Nat,k≤n∧i=.int .i64 k∧Xv (fun _=>True) wr p ((v.names.take k).zip (v.kids.take k)).reverse∧Below w1 w1 wr) (fun _ i _=>n - (intOf i).toNat)
 case atStart=>exact ⟨0,Q8 _,rfl,by simp only [List.take_zero,List.zip_nil_left,List.reverse_nil];exact .nil,Qz _ _⟩
 obtain ⟨k,bX,rfl,hE,M⟩:=hrel
 have aJ:=Qq M
 have J:=Qq (bA.out.thn M)
 have I:=Qq (kB M H0.out)
 have aB:=Qq (kB M H2.out)
 have y4:=rA4 ((kB M H1.out))
 obtain ⟨q,rfl⟩:=hE.ptr
 have HE:=Qq hE
 clear M hE
 by_cases O:k<n
 ·have bT:(0:Int)≤(k:Int):=Qqj
  have bU:(k:Int)<(n:Int):=Qqj
  have aT:k<v.kids.length:=Qqq bC.out
  have bV:(k:Int)<(v.kids.length:Int):=Qqj
  obtain ⟨x,hx⟩:∃ x,v.names[k]?=some x:=⟨_,Qx (by rw [HN.out];exact O)⟩
  obtain ⟨u,hu⟩:∃ u,v.kids[k]?=some u:=⟨_,Qx aT⟩
  obtain ⟨nb,bN,rfl,bZ,aV⟩:=(aM.out.below J.out).str hx
  obtain ⟨kb,bM,q3,l3,q4,l4,rfl,bW,aU,d0,d1,d2,d3,d4⟩:=(bB.out.below J.out).val hu
  have HZ:=Qq (Oj v.names v.kids k x u hx hu)
  have bE:=Qq aV;have bD:=Qq aU
  clear hx hu aU aV aT
  go_wp2_with fail
  go_roundw
  case measure=>simp [intOf];omega
  case rel=>
   refine ⟨k+1,Qqj,by go_num,?_,aJ.out.alloc (Qqq aJ.out.size) _⟩
   rw [HZ.out]
   exact .cons _ q x u q3 l3 q4 l4 _ trivial (Qw _ _) bE.out (Z9.move bD.out (.of_below (Zg _ _)) (fun _ _ _=>trivial)) (HE.out.move (.of_below (Zg _ _)) Qzx)
 have aS:k=n:=Qqj
 have hd:decide ((k:Int)<(n:Int))=false:=by simpa using O
 have hz:((v.names.take k).zip (v.kids.take k)).reverse=Fz v:=by
  unfold Fz
  rw [aS,← HN.out,List.take_length,Fp]
 rw [hz] at HE
 have aK:=Qq (aL.out (.pointer q) wr J.out HE.out)
 have z4:=rA4 I.out;have z5:=rA5 I.out;have z6:=rA6 I.out;have z7:=rA7 I.out;have z8:=rA8 I.out;have cQ:=rA9 I.out;have cN:=rA10 I.out;have cO:=rA11 I.out;have cP:=rA12 I.out
 clear hz aS HE aL
 have aD:=Qq aG
 clear aG
 cases r with
 | none=>
  obtain rfl:false=b:=aD.out
  go_wp2_with fail
  refine aK.out.mono ?_
  rintro e U ⟨rfl,D⟩
  have A:=Qq (kB D aB.out)
  have V:=Qq (J.out.thn D)
  clear D
  dsimp only
  refine leaves_cons (f:=89) (args:=#[.pointer (some ⟨w+1+1,0,none⟩)]) Qqk (by simp [go_sem]) ?_
  refine (Bi ⟨w+1+1,0,none⟩ false [] _ (by rw [Qk _ _ 0 _ _ _ A.out];rfl) (fA 0 A.out)).mono ?_
  rintro e u' aW ⟨rfl,rfl,o,rfl⟩
  have O:=Z8 A.out
  have aF:=kE (Zg U o) O A.out
  have hc:((U.alloc o).setCell ⟨w+1+1,0,none⟩ (.bool false)).cell? ⟨w+1+1,0,none⟩=some (.bool false):=by
   rw [Qk _ _ 0 _ _ _ (Qi _ _ _ _ _ _ aF)]
   rfl
  have hb:Below w w ((U.alloc o).setCell ⟨w+1+1,0,none⟩ (.bool false)):=(V.out.thn (Zg U o)).setCell (by show w≤w.heap.size+1+1;omega) _
  simp [Leaves,settle,results,results37,go_sem,hc,hb]
 | some u=>
  go_wp2_with fail
  refine aK.out.mono ?_
  rintro e w5 ⟨aO,rfl,T,N⟩
  by_cases hk:u.kind=2
  ·have aP:(u.n==1)=b:=by rw [← aD.out];show _=(decide (u.kind=2)&&(u.n==1));rw [decide_eq_true hk,Bool.true_and]
   have Z:=Qq (Uf _ u aO w5 T hk)
   rw [aP] at Z
   obtain ⟨q3,l3,q4,l4,G,_⟩:=Z9.cells T
   simp only [vcs] at G
   subst G
   have aC:=Qq (kB N aB.out)
   have aE:=Qq (J.out.thn N)
   clear T N hk aP
   go_wp2_with fail
   refine Z.out.mono ?_
   rintro e U ⟨rfl,D⟩
   have aA:=kB D aC.out
   have V:=Qq (aE.out.thn D)
   have f0:=fA 0 aA;have r0:=rA0 aA
   have A:=Qq aA
   clear D aA
   go_wp2_with fail
   refine leaves_cons (f:=89) (args:=#[.pointer (some ⟨w+1+1,0,none⟩)]) Qqk (by simp [go_sem]) ?_
   refine (Ls ⟨w+1+1,0,none⟩ _).mono ?_
   rintro e u' aW ⟨rfl,rfl,rfl⟩
   have hc:(U.setCell ⟨w+1+1,0,none⟩ (.bool b)).cell? ⟨w+1+1,0,none⟩=some (.bool b):=by
    rw [Qk _ _ 0 _ _ _ (Qi _ _ _ _ _ _ A.out)]
    rfl
   have hb:Below w w (U.setCell ⟨w+1+1,0,none⟩ (.bool b)):=V.out.setCell (by show w≤w.heap.size+1+1;omega) _
   refine ⟨.bool b,by simp [results,results37,go_sem,hc],rfl,hb⟩
  obtain rfl:false=b:=by rw [← aD.out];show _=(decide (u.kind=2)&&(u.n==1));rw [decide_eq_false hk];rfl
  have Z:=Qq (O1 _ u aO w5 T hk)
  obtain ⟨q3,l3,q4,l4,G,_⟩:=Z9.cells T
  simp only [vcs] at G
  subst G
  have aC:=Qq (kB N aB.out)
  have aE:=Qq (J.out.thn N)
  clear T N hk
  go_wp2_with fail
  refine Z.out.mono ?_
  rintro e U ⟨rfl,D⟩
  have A:=Qq (kB D aC.out)
  have V:=Qq (aE.out.thn D)
  clear D
  dsimp only
  refine leaves_cons (f:=89) (args:=#[.pointer (some ⟨w+1+1,0,none⟩)]) Qqk (by simp [go_sem]) ?_
  refine (Bi ⟨w+1+1,0,none⟩ false [] _ (by rw [Qk _ _ 0 _ _ _ A.out];rfl) (fA 0 A.out)).mono ?_
  rintro e u' aW ⟨rfl,rfl,o,rfl⟩
  have O:=Z8 A.out
  have aF:=kE (Zg U o) O A.out
  have hc:((U.alloc o).setCell ⟨w+1+1,0,none⟩ (.bool false)).cell? ⟨w+1+1,0,none⟩=some (.bool false):=by
   rw [Qk _ _ 0 _ _ _ (Qi _ _ _ _ _ _ aF)]
   rfl
  have hb:Below w w ((U.alloc o).setCell ⟨w+1+1,0,none⟩ (.bool false)):=(V.out.thn (Zg U o)).setCell (by show w≤w.heap.size+1+1;omega) _
  simp [Leaves,settle,results,results37,go_sem,hc,hb]
theorem Gn (a b:Bs):Yf a b=lex (L8 a) (L8 b):=by
 have h:=Vs a b [] []
 rw [List.append_nil,List.append_nil,show lex [] []=0 from rfl,Kw] at h
 exact h.symm
theorem Pv:∀ {a b:Bs},Yf a b=0→a=b
 | [],[],_=>rfl
 | [],_::_,h=>by simp [Yf] at h
 | _::_,[],h=>by simp [Yf] at h
 | a::s,b::t,h=>by
  unfold Yf thn at h
  split at h
  ·rename_i h0
   have hab:a.toNat=b.toNat:=by
    by_cases e:(a.toNat:Int)=(b.toNat:Int)
    ·exact_mod_cast e
    exact absurd h0 (Gt e)
   rw [UInt8.toNat_inj.1 hab,Pv h]
  rename_i h0
  exact absurd h h0
theorem Sj {a b c:Bs} (h1:Yf a b<0) (h2:Yf b c<0):Yf a c<0:=by
 rw [Gn] at *
 exact M7 h1 h2
theorem Ab {a b:Bs} (h:¬ Yf a b<0) (hne:a≠b):Yf b a<0:=by
 have h0:Yf a b≠0:=fun e=>hne (Pv e)
 have h1:Yf b a=- Yf a b:=by rw [Gn,Gn,D8]
 omega
abbrev UpB (l:List Bs):Prop:=l.Pairwise (fun a b=>Yf a b<0)
theorem twl_take (p:Bs→Bool) (l:List Bs):l.take (l.takeWhile p).length=l.takeWhile p:=by
 induction l with
 | nil=>rfl
 | cons a l ih=>
  rw [List.takeWhile_cons]
  cases p a
  ·rfl
  simp only [if_true,List.length_cons,List.take_succ_cons,ih]
theorem twl_drop (p:Bs→Bool) (l:List Bs):l.drop (l.takeWhile p).length=l.dropWhile p:=by
 induction l with
 | nil=>rfl
 | cons a l ih=>
  rw [List.takeWhile_cons,List.dropWhile_cons]
  cases p a
  ·rfl
  simp only [if_true,List.length_cons,List.drop_succ_cons,ih]
theorem insAt_up:∀ {l:List Bs} {x:Bs},UpB l→x ∉ l→UpB (Xg l (below l x) x):=by
 intro l x h hx
 unfold Xg below
 rw [twl_take,twl_drop]
 induction l with
 | nil=>simp
 | cons a l ih=>
  obtain ⟨D,h2⟩:=List.pairwise_cons.1 h
  have G:x ∉ l:=fun e=>hx (List.mem_cons_of_mem _ e)
  rw [List.takeWhile_cons,List.dropWhile_cons]
  by_cases hp:Yf a x<0
  ·simp only [hp,decide_true,if_true,List.cons_append]
   refine List.pairwise_cons.2 ⟨fun b hb=>?_,ih h2 G⟩
   rcases Z4.1 hb with hb | hb
   ·exact D b ((List.takeWhile_sublist _).subset hb)
   rcases Z3.1 hb with rfl | hb
   ·exact hp
   exact D b ((List.dropWhile_sublist _).subset hb)
  simp only [hp,decide_false,Bool.false_eq_true,if_false,List.nil_append]
  have A:Yf x a<0:=Ab hp (fun e=>hx (by rw [e];exact List.mem_cons_self))
  refine List.pairwise_cons.2 ⟨fun b hb=>?_,h⟩
  rcases Z3.1 hb with rfl | hb
  ·exact A
  exact Sj A (D b hb)
theorem Hx {T:Type} {l:List T} {i:Nat} {x y:T} (h:y ∈ Xg l i x):y ∈ l∨y=x:=by
 unfold Xg at h
 rcases Z4.1 h with h | h
 ·exact .inl (List.mem_of_mem_take h)
 rcases Z3.1 h with h | h
 ·exact .inr h
 exact .inl (Zw h)
theorem Oi:∀ (k:Nat) (z:List (Bs × Val)),z.length=k→(z.map Prod.fst).Nodup→UpB (Yt z).1∧(∀ y ∈ (Yt z).1,y ∈ z.map Prod.fst)∧∀ y ∈ (Yt z).2,y ∈ z.map Prod.snd
 | 0,z,h,_=>by rw [Zy h];exact ⟨List.Pairwise.nil,fun y hy=>by simp [Yt] at hy,fun y hy=>by simp [Yt] at hy⟩
 | k+1,z,h,hd=>by
  obtain ⟨z',p,rfl⟩:∃ z' p,z=z'++[p]:=⟨z.dropLast,z.getLast (by intro e;subst e;simp at h),(List.dropLast_concat_getLast (by intro e;subst e;simp at h)).symm⟩
  rw [List.map_append,List.nodup_append] at hd
  obtain ⟨h1,h2,h3⟩:=Oi k z' (by simpa using h) hd.1
  rw [M6]
  unfold Jw
  refine ⟨insAt_up h1 (fun e=>hd.2.2 _ (h2 _ e) p.1 Qqk rfl),fun y hy=>?_,fun y hy=>?_⟩
  ·rcases Hx hy with hy | rfl
   ·rw [List.map_append];exact List.mem_append_left _ (h2 y hy)
   simp
  rcases Hx hy with hy | rfl
  ·rw [List.map_append];exact List.mem_append_left _ (h3 y hy)
  simp
theorem Ak {names:List Bs} {vals:List Val} (hl:names.length=vals.length) (hw:∀ x ∈ names,Va x) (hd:names.Nodup) (hv:∀ v ∈ vals,Y2 v):Y2 (V8 (Yt (names.zip vals)).1 (Yt (names.zip vals)).2)∧(Yt (names.zip vals)).2.length=names.length:=by
 have h1:(names.zip vals).map Prod.fst=names:=List.map_fst_zip (Nat.le_of_eq hl)
 have h2:(names.zip vals).map Prod.snd=vals:=List.map_snd_zip (Nat.le_of_eq hl.symm)
 obtain ⟨a,b,c⟩:=Oi _ (names.zip vals) rfl (by rw [h1];exact hd)
 obtain ⟨l1,l2⟩:=U4 (names.zip vals)
 rw [h1] at b
 rw [h2] at c
 refine ⟨.record _ _ (by rw [l1,l2]) (fun x D=>hw x (b x D)) (fun i x y D hy=>?_) (fun v A=>hv v (c v A)),by rw [l2,List.length_zip,← hl,Nat.min_self]⟩
 obtain ⟨h3,rfl⟩:=Qj D
 obtain ⟨h4,rfl⟩:=Qj hy
 exact List.pairwise_iff_getElem.1 a i (i+1) h3 h4 Qqj
namespace Inc
end Inc
def UpV (l:List Val):Prop:=l.Pairwise (fun a b=>Yz a b<0)
theorem hasV_iff {l:List Val} {x:Val}:La l x=true↔key x ∈ l.map key:=by
 unfold La
 rw [List.any_eq_true,List.mem_map]
 constructor
 ·rintro ⟨y,A,h⟩;exact ⟨y,A,Ew.1 h⟩
 rintro ⟨y,A,h⟩;exact ⟨y,A,Ew.2 h⟩
theorem Fq {α:Type} (p:α→Bool):∀ (l:List α) (x:α),x ∈ l.take (l.takeWhile p).length→p x=true
 | [],x,h=>by simp at h
 | a::l,x,h=>by
  rw [List.takeWhile_cons] at h
  split at h
  ·rename_i hp
   rw [List.length_cons,List.take_succ_cons] at h
   rcases Z3.1 h with rfl | h
   ·exact hp
   exact Fq p l x h
  simp at h
theorem Hp {α:Type} (p:α→Bool):∀ (l:List α) (y:α) (r:List α),l.drop (l.takeWhile p).length=y::r→p y=false
 | [],y,r,h=>by simp at h
 | a::l,y,r,h=>by
  rw [List.takeWhile_cons] at h
  split at h
  ·rw [List.length_cons,List.drop_succ_cons] at h
   exact Hp p l y r h
  rename_i hp
  simp at h
  rw [← h.1];simpa using hp
theorem putV_up {l:List Val} (h:UpV l) (x:Val):UpV (Kj l x):=by
 by_cases hh:La l x=true
 ·unfold Kj;rw [if_pos hh];exact h
 rw [Wh _ _ (by simpa using hh)]
 have I:∀ y ∈ l,Yz y x≠0:=fun y D h0=>hh (hasV_iff.2 (List.mem_map.2 ⟨y,D,Bk.1 h0⟩))
 have h1:∀ y ∈ l.take (U1 l x),Yz y x<0:=fun y D=>by
  have:=Fq _ _ _ D
  have h2:=of_decide_eq_true this
  have:=I y (List.mem_of_mem_take D)
  omega
 have A:=h
 unfold UpV at A ⊢
 rw [← List.take_append_drop (U1 l x) l,List.pairwise_append] at A
 have hl:∀ a b:Val,Yz a b<0→∀ c,Yz b c<0→Yz a c<0:=fun a b h c h'=>by rw [Gk] at *;exact M7 h h'
 have h2:∀ y ∈ l.drop (U1 l x),Yz x y<0:=by
  intro y D
  cases hd:l.drop (U1 l x) with
  | nil=>rw [hd] at D;cases D
  | cons z r=>
   have hz:=Hp _ _ _ _ hd
   have J:0<Yz z x:=by
    have:=of_decide_eq_false hz
    omega
   have G:Yz x z<0:=by
    rw [Gk,D8,← Gk];omega
   rw [hd] at D
   rcases Z3.1 D with rfl | D
   ·exact G
   have:=A.2.1
   rw [hd] at this
   exact hl _ _ G _ ((List.pairwise_cons.1 this).1 y D)
 rw [List.pairwise_append]
 refine ⟨A.1,List.pairwise_cons.2 ⟨h2,A.2.1⟩,fun a ha b hb=>?_⟩
 rcases Z3.1 hb with rfl | hb
 ·exact h1 a ha
 exact A.2.2 a ha b hb
theorem R6 (k:Int) (nm:Bs) (n:Int) (s:Bs) (names binds:List Bs) (kids:List Ex) (a z:Int) (d:Nat) (ih:∀ x ∈ kids,Xn d x) (hN:H9 k nm names binds kids.length) (q0:k≠0) (q1:k≠1) (q2:k≠2) (q3:k≠3) (q11:k≠11) (q12:k≠12) (q13:k≠13) (q14:k≠14):∀ (S:Nat→Prop) (ce:List Value) (nv vv:Value) (ns:List Bs) (vs:List Val) (w:World),Yv S w ce (.mk k nm n s names binds kids a z)→Sl Zh S w nv ns→Sl Ze S w vv vs→ns.length≤vs.length→vs.length+(d+1)≤1000→(∀ v ∈ vs,Y3 v) →
  Calls prog 97 #[ce,nv,vv] w (X6 S w (Y1 (d+1) (.mk k nm n s names binds kids a z) ns vs)):=by
 intro S ce nv vv ns vs w D bU bX aS hd hb
 obtain ⟨r,hr⟩:=eX (Y1 (d+1) (.mk k nm n s names binds kids a z) ns vs)
 rw [hr]
 have HR:=Qq hr
 clear hr
 have hx:Yv (fun b=>S b∧b<w) w ce (.mk k nm n s names binds kids a z):=D.move (.refl _ _) (fun b hb h=>⟨h,hb⟩)
 have hn:=bU.up
 have hv:=bX.up
 obtain ⟨np,nc,rfl,_⟩:=hn.len
 obtain ⟨vp,vc,rfl,eZ⟩:=hv.len
 have dK:=Qq hx
 obtain ⟨fC,bv,kv,rfl,eV,eY,aY,aX,hk⟩:=Yx.1 hx
 obtain ⟨p1,c1,rfl,_⟩:=aY.len
 obtain ⟨p2,c2,rfl,_⟩:=aX.len
 obtain ⟨p3,c3,rfl,eS⟩:=hk.len
 obtain ⟨HN,HV,cU,eA,dZ,HK,HI,bA⟩:=Qqu hn hv hb aY aX hk ih aS
 clear D bU bX hx hn hv aY aX hk hb ih aS
 unfold sv at *
 have r0:(k==0)=false:=by rw [← Qt,beq_iff_eq];exact q0
 have r1:(k==1)=false:=by rw [← Qt,beq_iff_eq];exact q1
 have r2:(k==2)=false:=by rw [← Qt,beq_iff_eq];exact q2
 have r3:(k==3)=false:=by rw [← Qt,beq_iff_eq];exact q3
 have dT:(k==11)=false:=by rw [← Qt,beq_iff_eq];exact q11
 have dU:(k==12)=false:=by rw [← Qt,beq_iff_eq];exact q12
 have dV:(k==13)=false:=by rw [← Qt,beq_iff_eq];exact q13
 have dW:(k==14)=false:=by rw [← Qt,beq_iff_eq];exact q14
 have bB:=Qq (HR.out.symm.trans (Qjn q0 q1 q2 q3 q11 q12 q13 q14))
 clear q0 q1 q2 q3 q11 q12 q13 q14
 obtain ⟨m,hm⟩:=eX (kids.length)
 have eU:m≤1000:=by rw [← hm];exact hN.few
 have dD:=Qq hN
 rw [hm] at HK ⊢
 have HM:=Qq hm
 clear hm hN
 obtain ⟨i0,j1,j2,j3,j4⟩:=Y9 (P:=prog) (t:=36) (z:=.agg zV) (n:=5) (b:=80) Qqy
 obtain ⟨HJ,cY,cZ,dA⟩:=Qqp j1 j2 j3 j4
 clear j1 j2 j3 j4
 go_enter func97,ntmps97
 go_upto_region 31 with fail
 generalize aG:(w.alloc _).alloc _=W1
 have bP:=eqB aG (Zt _ _ _)
 have bM:=eqH (b:=w.heap.size) aG (Q5 _ _ _)
 have aU:=eqH (b:=w.heap.size+1) aG (Q6 _ _ _)
 obtain ⟨cR,dJ,dL⟩:=Qqo bP bM aU
 have eT:=Z8 aU
 clear aG bP bM aU
 clear r0 r1 r2 r3 dT dU dV dW
 go_loopw [13,14,15,16] (fun o i _ _ wr=>∃ (j:Nat) (l:List Val) (p:Option Addr) (cap:Nat),j≤m∧i=.int .i64 j∧o=.slice p j cap∧l.length=j∧Aside ((∀ v ∈ l,Y3 v)∧Jz (fun x=>Y1 d x ns vs) (kids.take j)=some l)∧Below (w+2) W1 wr ∧
  (∃ css,Own Ze 36 (fun c=>(S c∧c<w)∨w+2≤c) (w+2) wr (.slice p j cap) l css)) (fun _ i _ _ _=>m - (intOf i).toNat)
 case atStart=>exact ⟨0,[],none,0,Q8 _,rfl,rfl,rfl,⟨fun v h=>by simp at h,rfl⟩,Qz _ _,[],Own.nil _ _ _ _ _⟩
 obtain ⟨j,l,p,cap,hj,rfl,rfl,bT,bR,I,css,hO⟩:=hrel
 have bN:=kE I Qqj dJ.out
 have bO:=kE I Qqj dL.out
 have bS:Below w w wr:=cR.out.trans (I.mono Qqj)
 have eW:=I.size
 obtain ⟨bE,bG,cV,A,HO,U,M⟩:=Qqt bN bO I bS hO bR.out bT
 clear bN bO I bS hO bR bT
 by_cases hlt2:j<m
 ·have eQ:(0:Int)≤(j:Int):=Qqj
  have eR:(j:Int)<(m:Int):=Qqj
  obtain ⟨x0,D⟩:∃ x,kids[j]?=some x:=⟨_,Qx (by rw [HM.out];exact hlt2)⟩
  obtain ⟨fA,fB,eF,eH,eG,eI,eB,eK,eN,eC,eL,eO,eD,eM,eP,eE,eJ,bV,aR,O,V,Y,Z,aA,aB,aC,aD,aE,aF⟩:=HK.out.ex D
  subst bV
  have cW:=Qq (fun W (hW:Below w w W)=>HI.out x0 (Qy D) (fun b=>S b∧b<w) _ _ _ ns vs W (O.move (.of_below hW) Qzx) (HN.out.below hW) (HV.out.below hW) bA.out Qqj cU.out)
  obtain ⟨dX,cX,dC⟩:=Qqo O D (Qy D)
  have cP:=Qq (Qe aR (Qe V (Qe Y (Qe Z (Qe aA (Qe aB (Qe aC (Qe aD (Qe aE aF)))))))))
  clear O D aR V Y Z aA aB aC aD aE aF
  obtain ⟨T,q0,q1,q2,q3,q4,q5,q6,q7,q8⟩:=cP.out
  have V:=kD A.out T q0;have Y:=kD A.out T q1;have Z:=kD A.out T q2;have aA:=kD A.out T q3;have aB:=kD A.out T q4;have aC:=kD A.out T q5;have aD:=kD A.out T q6;have aE:=kD A.out T q7;have aF:=kD A.out T q8
  clear T q0 q1 q2 q3 q4 q5 q6 q7 q8
  have c6:=rA6 bE.out
  go_upto_region 34 with (go_at_call 97;refine (cW.out _ A.out).mono ?_;rintro e w5 ⟨k5,n5,s5,aM,aK,aI,aN,aL,aJ,b5,rfl,bY,bQ⟩;have bC:=Qq bY;have cS:=Qq bQ;clear bY bQ)
  clear c6 V Y Z aA aB aC aD aE aF
  generalize aT:w5.alloc _=W6
  have aV:=eqB aT (Zg _ _)
  have N:=eqH (b:=w5.heap.size) aT (Qw _ _)
  obtain ⟨J,aO,bD⟩:=Qqo (cS.out.thn aV) N aV
  clear aT aV N
  have dY:=J.out.size
  have aP:=A.out.thn J.out
  have aZ:=Qq aP
  clear aP
  cases b5 with
  | false=>
   obtain ⟨v0,v1,v2,v3,v4⟩:=row5 aO.out
   have G:=kB J.out bG.out
   obtain ⟨y0,y1,y2,y3,y4⟩:=row5 G
   obtain ⟨f0,f1,f2,f3,f4⟩:=frz5 G
   have bF:=Qq G
   clear G
   go_wp2_with fail
   show bodyPost _ _ _ _ _ (Zl W6 (w+1) k5 n5 (.string s5) (.slice aM aK aI) (.slice aN aL aJ))
   refine Q7 (v:=.tuple #[.agg #[k5,n5,.string s5,.slice aM aK aI,.slice aN aL aJ],.bool false]) (by simp [results,results97,go_sem,Zd bF.out]) rfl (Vz Qqj aZ.out (by rw [bB.out,Gu _ x0 (bC.out.2 rfl) kids dC.out];rfl))
  | true=>
   obtain ⟨u,cC,cA,cB⟩:=bC.out.1 rfl
   have cQ:Hid (Jz (fun x=>Y1 d x ns vs) (kids.take (j+1))=some (l++[u])):=Qq (by rw [Fm cX.out];exact Bz _ x0 u cB _ l U.out.2)
   clear cB
   have bK:=HO.out.below J.out
   have N:Ze.R (But (fun c=>(S c∧c<w)∨w+2≤c) (.slice p j cap)) W6 [k5,n5,.string s5,.slice aM aK aI,.slice aN aL aJ] u:=Z9.move cC (.of_below bD.out) (fun b hb hc=>by
    rcases hc with h | h
    ·exact ⟨.inl h,fun e=>by have:=(HO.out.row.lt b e.symm).1;have:=h.2;omega⟩
    have h':wr.heap.size≤b:=h
    exact ⟨.inr Qqj,fun e=>by have:=(HO.out.row.lt b e.symm).2;omega⟩)
   obtain ⟨dE,dG,dI⟩:=Qqo bK N cA
   clear bK N cC cA
   obtain ⟨v0,v1,v2,v3,v4⟩:=row5 aO.out
   go_wp2_with (at_builtin;refine Yl (r:=Ze) Qqx rfl (.tmp 160) (.tmp 162) _ rfl 36 i0 (.agg zV) 80 underlying34 HJ.out cY.out cZ.out dA.out rfl Qqj (fun c=>(S c∧c<w)∨w+2≤c) (w+2) W6 (.slice p j cap) l css [k5,n5,.string s5,.slice aM aK aI,.slice aN aL aJ] u rfl dE.out rfl dG.out (by simp [Value.oneCell']) j M.out Qqj Qqj ?_;intro p7 bH bI w7 bL bJ;have dF:=Qq bL;have dB:=Qq bJ;clear bL bJ)
   go_roundw
   case measure=>simp [intOf];omega
   case rel=>
    refine ⟨j+1,l++[u],p7,bH,Qqj,by go_num,rfl,by have:=M.out;simp [this],(show Aside _ from Qe ?_ cQ.out),(cV.out.trans (J.out.mono Qqj)).trans dB.out.below,bI,dF.out⟩
    intro v hv
    rcases Z4.1 hv with h | h
    ·exact U.out.1 v h
    simp only [Z3,Z2,or_false] at h
    subst h;exact dI.out
 have dO:j=m:=Qqj
 subst dO
 have hE:=Qq (Pp k nm n s names binds kids a z (fun c=>(S c∧c<w)∨w+2≤c) [k,nm,n,s,.slice p1 names.length c1,.slice p2 binds.length c2,.slice p3 j c3,a,z] (.slice p j cap) l wr dD.out (by
  have h:=dK.out.move (S':=(fun c=>(S c∧c<w)∨w+2≤c)) (.of_below A.out) (fun _ _ h=>.inl h)
  rw [HM.out] at h
  exact h) (by rw [M.out,HM.out]) (M.out ▸ HO.out.sl (Qqq M.out) (fun b hb=>.inr hb) (fun b _ h=>h)) U.out.1)
 obtain ⟨c0,c1,c2,c3,c4,c5,c6,c7,c8⟩:=row9 bE.out
 go_wp2_with (go_at_call 148;refine hE.out.mono ?_;rintro e w7 ⟨k7,n7,s7,cH,cF,cD,cI,cG,cE,b7,rfl,bZ,aW⟩;have aH:=kB aW bG.out;obtain ⟨y0,y1,y2,y3,y4⟩:=row5 aH;obtain ⟨f0,f1,f2,f3,f4⟩:=frz5 aH;obtain ⟨dM,dH,cT⟩:=Qqo aH bZ aW;clear bZ aW aH)
 show bodyPost _ _ _ _ _ (Zl w7 (w+1) k7 n7 (.string s7) (.slice cH cF cD) (.slice cI cG cE))
 refine Q7 (v:=.tuple #[.agg #[k7,n7,.string s7,.slice cH cF cD,.slice cI cG cE],.bool b7]) (by simp [results,results97,go_sem,Zd dM.out]) rfl (X6.of_eq (by
   have h9:=U.out.2
   rw [← HM.out,List.take_length] at h9
   rw [bB.out,h9];rfl) (Kg Qqj (A.out.thn cT.out) (dH.out.map fun v h1=>h1.move (.refl _ _) (fun c _ hc=>by
   rcases hc with (hc | hc) | hc
   ·exact .inl hc
   ·exact .inr Qqj
   exact .inr (by have h':wr.heap.size≤c:=hc;omega)))))
end Go.Proofs.YtdpibdpbgokmoaaGreatDoor
