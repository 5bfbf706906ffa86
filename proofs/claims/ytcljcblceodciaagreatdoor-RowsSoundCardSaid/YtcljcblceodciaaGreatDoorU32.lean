import Derived.Test.YtcljcblceodciaaGreatDoorU31
set_option maxRecDepth 100000
set_option maxHeartbeats 400000000
namespace Go.Proofs.YtcljcblceodciaaGreatDoor
theorem Gb (a b:Bs):Yc a b=lex (He a) (He b):=by
 have h:=Vl a b [] []
 rw [List.append_nil,List.append_nil,show lex [] []=0 from rfl,Jr] at h
 exact h.symm
theorem O1:∀ {a b:Bs},Yc a b=0->a=b
 | [],[],_=>rfl
 | [],_::_,h=>by simp [Yc] at h
 | _::_,[],h=>by simp [Yc] at h
 | a::s,b::t,h=>by
  unfold Yc thn at h
  split at h
  ·rename_i h0
   have hab:a.toNat=b.toNat:=by
    by_cases e:(a.toNat:Int)=(b.toNat:Int)
    ·exact_mod_cast e
    exact absurd h0 (Gj e)
   rw [UInt8.toNat_inj.1 hab,O1 h]
  rename_i h0
  exact absurd h h0
theorem Pm {a b c:Bs} (h1:Yc a b<0) (h2:Yc b c<0):Yc a c<0:=by
 rw [Gb] at *
 exact Hu h1 h2
theorem Aa {a b:Bs} (h:¬ Yc a b<0) (hne:a≠b):Yc b a<0:=by
 have h0:Yc a b≠0:=fun e=>hne (O1 e)
 have h1:Yc b a=- Yc a b:=by rw [Gb,Gb,Kp]
 omega
abbrev UpB (l:List Bs):Prop:=l.Pairwise (fun a b=>Yc a b<0)
theorem twl_take (p:Bs->Bool) (l:List Bs):l.take (l.takeWhile p).length=l.takeWhile p:=by
 induction l with
 | nil=>rfl
 | cons a l ih=>
  rw [List.takeWhile_cons]
  cases p a
  ·rfl
  simp only [if_true,List.length_cons,List.take_succ_cons,ih]
theorem twl_drop (p:Bs->Bool) (l:List Bs):l.drop (l.takeWhile p).length=l.dropWhile p:=by
 induction l with
 | nil=>rfl
 | cons a l ih=>
  rw [List.takeWhile_cons,List.dropWhile_cons]
  cases p a
  ·rfl
  simp only [if_true,List.length_cons,List.drop_succ_cons,ih]
theorem insAt_up:∀ {l:List Bs} {x:Bs},UpB l->x ∉ l->UpB (Xe l (below l x) x):=by
 intro l x h hx
 unfold Xe below
 rw [twl_take,twl_drop]
 induction l with
 | nil=>simp
 | cons a l ih=>
  obtain ⟨D,h2⟩:=List.pairwise_cons.1 h
  have G:x ∉ l:=fun e=>hx (List.mem_cons_of_mem _ e)
  rw [List.takeWhile_cons,List.dropWhile_cons]
  by_cases hp:Yc a x<0
  ·simp only [hp,decide_true,if_true,List.cons_append]
   refine List.pairwise_cons.2 ⟨fun b hb=>?_,ih h2 G⟩
   rcases Z4.1 hb with hb | hb
   ·exact D b ((List.takeWhile_sublist _).subset hb)
   rcases Z3.1 hb with rfl | hb
   ·exact hp
   exact D b ((List.dropWhile_sublist _).subset hb)
  simp only [hp,decide_false,Bool.false_eq_true,if_false,List.nil_append]
  have A:Yc x a<0:=Aa hp (fun e=>hx (by rw [e];exact List.mem_cons_self))
  refine List.pairwise_cons.2 ⟨fun b hb=>?_,h⟩
  rcases Z3.1 hb with rfl | hb
  ·exact A
  exact Pm A (D b hb)
theorem Hy {T:Type} {l:List T} {i:Nat} {x y:T} (h:y ∈ Xe l i x):y ∈ l\/y=x:=by
 unfold Xe at h
 rcases Z4.1 h with h | h
 ·exact .inl (List.mem_of_mem_take h)
 rcases Z3.1 h with h | h
 ·exact .inr h
 exact .inl (Zw h)
theorem Ob:∀ (k:Nat) (z:List (Bs × Val)),z.length=k->(z.map Prod.fst).Nodup->UpB (Yu z).1/\(∀ y ∈ (Yu z).1,y ∈ z.map Prod.fst)/\∀ y ∈ (Yu z).2,y ∈ z.map Prod.snd
 | 0,z,h,_=>by rw [Zy h];exact ⟨List.Pairwise.nil,fun y hy=>by simp [Yu] at hy,fun y hy=>by simp [Yu] at hy⟩
 | k+1,z,h,hd=>by
  obtain ⟨z',p,rfl⟩:∃ z' p,z=z'++[p]:=⟨z.dropLast,z.getLast (by intro e;subst e;simp at h),(List.dropLast_concat_getLast (by intro e;subst e;simp at h)).symm⟩
  rw [List.map_append,List.nodup_append] at hd
  obtain ⟨h1,h2,h3⟩:=Ob k z' (by simpa using h) hd.1
  rw [Ho]
  unfold Ur
  refine ⟨insAt_up h1 (fun e=>hd.2.2 _ (h2 _ e) p.1 Ca rfl),fun y hy=>?_,fun y hy=>?_⟩
  ·rcases Hy hy with hy | rfl
   ·rw [List.map_append];exact List.mem_append_left _ (h2 y hy)
   simp
  rcases Hy hy with hy | rfl
  ·rw [List.map_append];exact List.mem_append_left _ (h3 y hy)
  simp
theorem Ak {names:List Bs} {vals:List Val} (hl:names.length=vals.length) (hw:∀ x ∈ names,Vy x) (hd:names.Nodup) (hv:∀ v ∈ vals,Y4 v):Y4 (Vw (Yu (names.zip vals)).1 (Yu (names.zip vals)).2)/\(Yu (names.zip vals)).2.length=names.length:=by
 have h1:(names.zip vals).map Prod.fst=names:=List.map_fst_zip (Nat.le_of_eq hl)
 have h2:(names.zip vals).map Prod.snd=vals:=List.map_snd_zip (Nat.le_of_eq hl.symm)
 obtain ⟨a,b,c⟩:=Ob _ (names.zip vals) rfl (by rw [h1];exact hd)
 obtain ⟨l1,l2⟩:=Uq (names.zip vals)
 rw [h1] at b
 rw [h2] at c
 refine ⟨.record _ _ (by rw [l1,l2]) (fun x D=>hw x (b x D)) (fun i x y D hy=>?_) (fun v A=>hv v (c v A)),by rw [l2,List.length_zip,<- hl,Nat.min_self]⟩
 obtain ⟨h3,rfl⟩:=Qj D
 obtain ⟨h4,rfl⟩:=Qj hy
 exact List.pairwise_iff_getElem.1 a i (i+1) h3 h4 C7
open Go.RowKit Go.Shelf Go.Lib Tryz
theorem Gp (p:Addr) (b:Bool) (older:List PanicEntry) (w:World) (hc:w.cell? p=some (.bool b)) (hz:w.frozen? p=false):
  CallsD prog 101 #[.pointer (some p)] (.panicking ({ v:=.iface 128 (.agg #[]),recovered:=false }::older)) w fun e u' w'=>
   e=.returned (.tuple #[])/\u'=.panicking ({ v:=.iface 128 (.agg #[]),recovered:=true }::older)/\∃ o,w'=(w.alloc o).setCell p (.bool false):=by
 refine callsD_of_wpS func101 rfl fun c₀ cs hu=>?_
 apply wpS_seq
 apply wpS_region
 simp [wpOpsS,go_sem,recoverD,hu,ntmps101,Exit.thenS]
 have D:∀ w,(Instr.typeAssert (.iface 128 (.agg #[])) 20 128 true).run prog w=.ok (.tuple #[.agg #[],.bool true]) w:=by
  intro w
  simp [Instr.typeAssert,go_sem]
 refine wpS_of_wp ?_
 rw [show (#[Value.pointer (some p)]++(Array.replicate 9 undef).setIfInBounds 3 (.iface 128 (.agg #[])))=#[.pointer (some p),undef,undef,undef,.iface 128 (.agg #[]),undef,undef,undef,undef,undef] from rfl]
 have hl:=Qv _ _ hc
 have A:(w.alloc (.cells #[] 128)).cell? p=some (.bool b):=((Zg w _).cell hl).trans hc
 have G:(w.alloc (.cells #[] 128)).frozen? p=false:=((Zg w _).frozen hl).trans hz
 go_wp2_with fail
 cases c₀
 simp_all [bodyPostS,results,results101]
 exact ⟨_,rfl⟩
def satR (r:Option Val):Bool:=match r with
 | some u=>decide (u.kind=2)&&(u.n==1)
 | none=>false
theorem Sf (S0 S1:Nat->Prop) (t:Tbl) (v:Val) (ct cr:List Value) (r:Option Val) (w:World) (ht0:Zm.R S0 w ct t) (hr0:Z9 S1 w cr v) (hsi:Uy t.check=true) (hev:EvO t.check (D7 v) r) (hln:v.names.length<=v.kids.length) (hkw:Xh w):
  Calls prog 44 #[ct,cr] w fun e w'=>e=.returned (.bool (satR r))/\Below w w w':=by
 obtain ⟨b,aG⟩:=eX (satR r)
 rw [aG]
 have bY:∀ (fn:Fn) (first cap:Array Value) (w:World),(Instr.makeFunc fn first cap).run prog w=.ok (.func fn first cap) w:=fun _ _ _ _=>rfl
 have ht:Zm.R (fun b=>b<w) w ct t:=Zm.mono ht0 (fun b hb _=>hb)
 have hr:Z9 (fun b=>b<w) w cr v:=hr0.move (.refl _ _) (fun b hb _=>hb)
 obtain ⟨bS,bR,cC,cB,cK,cJ,k9,cL,n9,cM,cG,cD,bO,cH,cE,bP,cI,cF,bQ,a9,z9,G,_,_,_,_,aH⟩:=Zt ht
 simp only [tcs] at G
 subst G
 obtain ⟨p3,k3,p4,k4,G,aI,aR,_⟩:=Z9.cells hr
 simp only [vcs] at G
 subst G
 have aN:=Qq (fun W (hb:Below w w W)=>hsi ▸ My t.check _ _ W (Yx.move aH (.of_below hb) Qje))
 have aL:=Qq (fun p W (hb:Below w w W) (he:Xk (fun _=>True) W p (D7 v))=>hev (fun _=>True) _ _ p W (fun _ _=>trivial) (hkw.below hb) (Yx.move aH (.of_below hb) Qje) he)
 have aM:=Qq aI;have bB:=Qq aR
 obtain ⟨n,hn⟩:=eX (v.names.length)
 have cA:n<=1000000:=by rw [<- hn];obtain ⟨_,_,_,h⟩:=aI.len;exact h
 rw [hn] at aM hln |-
 have HN:=Qq hn;have bC:=Qq hln
 clear ht ht0 hr hr0 aH aI aR hsi hev hn hln hkw
 go_enter_defers func44,ntmps44
 go_wp2_with fail
 refine (aN.out _ (Xm _ _ _ _)).mono ?_
 rintro e w1 ⟨rfl,Y⟩
 have h0:=(Y.block w (by simp;omega)).trans (Zp w _ _ _)
 have h1:=(Y.block (w+1) Ca).trans (Zo w _ _ _)
 have h2:=(Y.block (w+1+1) Ca).trans (Zl w _ _ _)
 have bA:=Qq ((Xm w _ _ _).thn Y)
 obtain ⟨H0,H1,H2⟩:=Qjq h0 h1 h2
 have x3:=rA3 h1;have x4:=rA4 h1
 clear Y h0 h1 h2 aN
 go_wp2_with fail
 go_loopw [5,16] (fun p i wr=>∃ k:Nat,k<=n/\i=.int .i64 k/\Xk (fun _=>True) wr p ((v.names.take k).zip (v.kids.take k)).reverse/\Below w1 w1 wr) (fun _ i _=>n - (intOf i).toNat)
 case atStart=>exact ⟨0,Q8 _,rfl,by simp only [List.take_zero,List.zip_nil_left,List.reverse_nil];exact .nil,Qz _ _⟩
 obtain ⟨k,bX,rfl,hE,M⟩:=hrel
 have aJ:=Qq M
 have J:=Qq (bA.out.thn M)
 have I:=Qq (kB M H0.out)
 have aB:=Qq (kB M H2.out)
 have y4:=rA4 ((kB M H1.out))
 obtain ⟨q,rfl⟩:=hE.ptr
 have HE:=Qq hE
 clear M hE
 by_cases O:k<n
 ·have bT:(0:Int)<=(k:Int):=C7
  have bU:(k:Int)<(n:Int):=C7
  have aT:k<v.kids.length:=C8 bC.out
  have bV:(k:Int)<(v.kids.length:Int):=C7
  obtain ⟨x,hx⟩:∃ x,v.names[k]?=some x:=⟨_,Qx (by rw [HN.out];exact O)⟩
  obtain ⟨u,hu⟩:∃ u,v.kids[k]?=some u:=⟨_,Qx aT⟩
  obtain ⟨nb,bN,rfl,bZ,aV⟩:=(aM.out.below J.out).str hx
  obtain ⟨kb,bM,q3,l3,q4,l4,rfl,bW,aU,d0,d1,d2,d3,d4⟩:=(bB.out.below J.out).val hu
  have HZ:=Qq (Mt v.names v.kids k x u hx hu)
  have bE:=Qq aV;have bD:=Qq aU
  clear hx hu aU aV aT
  go_wp2_with fail
  go_roundw
  case measure=>simp [intOf];omega
  case rel=>
   refine ⟨k+1,C7,by go_num,?_,aJ.out.alloc (C8 aJ.out.size) _⟩
   rw [HZ.out]
   exact .cons _ q x u q3 l3 q4 l4 _ trivial (Qw _ _) bE.out (Z9.move bD.out (.of_below (Zg _ _)) (fun _ _ _=>trivial)) (HE.out.move (.of_below (Zg _ _)) Qje)
 have aS:k=n:=C7
 have hd:decide ((k:Int)<(n:Int))=false:=by simpa using O
 have hz:((v.names.take k).zip (v.kids.take k)).reverse=D7 v:=by
  unfold D7
  rw [aS,<- HN.out,List.take_length,Ff]
 rw [hz] at HE
 have aK:=Qq (aL.out (.pointer q) wr J.out HE.out)
 have z4:=rA4 I.out;have z5:=rA5 I.out;have z6:=rA6 I.out;have z7:=rA7 I.out;have z8:=rA8 I.out;have cQ:=rA9 I.out;have cN:=rA10 I.out;have cO:=rA11 I.out;have cP:=rA12 I.out
 clear hz aS HE aL
 have aD:=Qq aG
 clear aG
 cases r with
 | none=>
  obtain rfl:false=b:=aD.out
  go_wp2_with fail
  refine aK.out.mono ?_
  rintro e U ⟨rfl,D⟩
  have A:=Qq (kB D aB.out)
  have V:=Qq (J.out.thn D)
  clear D
  dsimp only
  refine leaves_cons (f:=101) (args:=#[.pointer (some ⟨w+1+1,0,none⟩)]) Ca (by simp [go_sem]) ?_
  refine (Gp ⟨w+1+1,0,none⟩ false [] _ (by rw [Qk _ _ 0 _ _ _ A.out];rfl) (fA 0 A.out)).mono ?_
  rintro e u' aW ⟨rfl,rfl,o,rfl⟩
  have O:=Z8 A.out
  have aF:=kE (Zg U o) O A.out
  have hc:((U.alloc o).setCell ⟨w+1+1,0,none⟩ (.bool false)).cell? ⟨w+1+1,0,none⟩=some (.bool false):=by
   rw [Qk _ _ 0 _ _ _ (Qi _ _ _ _ _ _ aF)]
   rfl
  have hb:Below w w ((U.alloc o).setCell ⟨w+1+1,0,none⟩ (.bool false)):=(V.out.thn (Zg U o)).setCell (by show w<=w.heap.size+1+1;omega) _
  simp [Leaves,settle,results,results44,go_sem,hc,hb]
 | some u=>
  go_wp2_with fail
  refine aK.out.mono ?_
  rintro e w5 ⟨aO,rfl,T,N⟩
  by_cases hk:u.kind=2
  ·have aP:(u.n==1)=b:=by rw [<- aD.out];show _=(decide (u.kind=2)&&(u.n==1));rw [decide_eq_true hk,Bool.true_and]
   have Z:=Qq (U5 _ u aO w5 T hk)
   rw [aP] at Z
   obtain ⟨q3,l3,q4,l4,G,_⟩:=Z9.cells T
   simp only [vcs] at G
   subst G
   have aC:=Qq (kB N aB.out)
   have aE:=Qq (J.out.thn N)
   clear T N hk aP
   go_wp2_with fail
   refine Z.out.mono ?_
   rintro e U ⟨rfl,D⟩
   have aA:=kB D aC.out
   have V:=Qq (aE.out.thn D)
   have f0:=fA 0 aA;have r0:=rA0 aA
   have A:=Qq aA
   clear D aA
   go_wp2_with fail
   refine leaves_cons (f:=101) (args:=#[.pointer (some ⟨w+1+1,0,none⟩)]) Ca (by simp [go_sem]) ?_
   refine (L4 ⟨w+1+1,0,none⟩ _).mono ?_
   rintro e u' aW ⟨rfl,rfl,rfl⟩
   have hc:(U.setCell ⟨w+1+1,0,none⟩ (.bool b)).cell? ⟨w+1+1,0,none⟩=some (.bool b):=by
    rw [Qk _ _ 0 _ _ _ (Qi _ _ _ _ _ _ A.out)]
    rfl
   have hb:Below w w (U.setCell ⟨w+1+1,0,none⟩ (.bool b)):=V.out.setCell (by show w<=w.heap.size+1+1;omega) _
   refine ⟨.bool b,by simp [results,results44,go_sem,hc],rfl,hb⟩
  obtain rfl:false=b:=by rw [<- aD.out];show _=(decide (u.kind=2)&&(u.n==1));rw [decide_eq_false hk];rfl
  have Z:=Qq (Nf _ u aO w5 T hk)
  obtain ⟨q3,l3,q4,l4,G,_⟩:=Z9.cells T
  simp only [vcs] at G
  subst G
  have aC:=Qq (kB N aB.out)
  have aE:=Qq (J.out.thn N)
  clear T N hk
  go_wp2_with fail
  refine Z.out.mono ?_
  rintro e U ⟨rfl,D⟩
  have A:=Qq (kB D aC.out)
  have V:=Qq (aE.out.thn D)
  clear D
  dsimp only
  refine leaves_cons (f:=101) (args:=#[.pointer (some ⟨w+1+1,0,none⟩)]) Ca (by simp [go_sem]) ?_
  refine (Gp ⟨w+1+1,0,none⟩ false [] _ (by rw [Qk _ _ 0 _ _ _ A.out];rfl) (fA 0 A.out)).mono ?_
  rintro e u' aW ⟨rfl,rfl,o,rfl⟩
  have O:=Z8 A.out
  have aF:=kE (Zg U o) O A.out
  have hc:((U.alloc o).setCell ⟨w+1+1,0,none⟩ (.bool false)).cell? ⟨w+1+1,0,none⟩=some (.bool false):=by
   rw [Qk _ _ 0 _ _ _ (Qi _ _ _ _ _ _ aF)]
   rfl
  have hb:Below w w ((U.alloc o).setCell ⟨w+1+1,0,none⟩ (.bool false)):=(V.out.thn (Zg U o)).setCell (by show w<=w.heap.size+1+1;omega) _
  simp [Leaves,settle,results,results44,go_sem,hc,hb]
theorem gal3 (w:World) (o p q:Obj):Gr w (((w.alloc o).alloc p).alloc q):=(Ve w o p).alloc q
theorem hasLeafG (v:Val) (t:Ty) (hl:Ja t) (S S':Nat->Prop) (cv ct:List Value) (ps:Option Addr) (ns cs:Nat) (w:World) (hv:Z9 S w cv v) (ht:X5 S' w ct t):
  Calls prog 65 #[.slice ps ns cs,cv,ct] w fun e w'=>e=.returned (.bool (v.kind==t.kind))/\Gr w w':=by
 obtain ⟨k,s,n,names,kids⟩:=t
 obtain ⟨p3,k3,p4,k4,A,_⟩:=Z9.cells hv
 simp only [vcs] at A
 subst A
 obtain ⟨q3,l3,q4,l4,rfl,_⟩:=ht.cells'
 clear hv ht
 have hk:k=0\/k=1\/k=2:=hl
 clear hl
 simp only [Ty.kind]
 rcases hk with rfl | rfl | rfl
 all_goals
  go_enter func65,ntmps65
  go_wp2_with fail
  go_ret
  exact ⟨rfl,gal3 _ _ _ _⟩
theorem hasS3 (T:Nat) (S:Nat->Prop) (us:List Sm) (x:Bs) (w:World) (hc:w.cell? ⟨T,1,none⟩=some (.string ⟨x.toArray⟩)):Vo prog 123 #[Ch T] Ug S us (fun u=>decide (u.name=x)) w:=by
 rintro W u cs hb hu ⟨rv,rfl,_,_⟩
 have A:=kD hb (Qv w _ hc) hc
 have D:=Qv W _ A
 have G:T<W.heap.size:=D
 have hq:(u.name==x)=decide (u.name=x):=by rw [Bool.eq_iff_iff,beq_iff_eq,decide_eq_true_eq]
 have HQ:=Qq hq
 clear hq hc hb hu
 show Calls prog 123 #[.agg #[sv u.name,rv],Ch T] W _
 unfold sv
 go_enter func123,ntmps123
 go_wp2_with fail
 go_ret
 exact ⟨by rw [<- HQ.out];rfl,Zg _ _⟩
theorem hasS4 (V:Nat) (S:Nat->Prop) (us:List Ct) (x:Bs) (w:World) (hc:w.cell? ⟨V,2,none⟩=some (.string ⟨x.toArray⟩)):Vo prog 125 #[Ch V] Gk S us (fun u=>decide (u.name=x)) w:=by
 rintro W u cs hb hu ⟨tc,rfl,_,A⟩
 obtain ⟨tk,ts,tn,t3,n3,l3,t4,n4,l4,rfl⟩:=A.cells
 have D:=kD hb (Qv w _ hc) hc
 have G:=Qv W _ D
 have I:V<W.heap.size:=G
 have hq:(u.name==x)=decide (u.name=x):=by rw [Bool.eq_iff_iff,beq_iff_eq,decide_eq_true_eq]
 have HQ:=Qq hq
 clear hq hc hb hu A
 show Calls prog 125 #[.agg #[sv u.name,.bool u.has,tk,.string ts,tn,.slice t3 n3 l3,.slice t4 n4 l4],Ch V] W _
 unfold sv
 go_enter func125,ntmps125
 go_wp2_with fail
 go_ret
 exact ⟨by rw [<- HQ.out];rfl,Zg _ _⟩
theorem hasSum (us:List Sm) (v:Val) (s:Bs) (tn:Int) (names:List Bs) (kids:List Ty) (hl:∀ u ∈ us,∀ c ∈ u.ctors,Ja c.arg):Kf us v (.mk 3 s tn names kids) (B1 us v s):=by
 intro S0 dV dT cv ct ps ns cs w bB cJ cG
 have bM:Sl Ug (fun b=>b<w) w (.slice ps ns cs) us:=bB.mono (fun b hb _=>hb)
 have hv:Z9 (fun b=>b<w) w cv v:=cJ.move (.refl _ _) (fun b hb _=>hb)
 clear cJ bB
 obtain ⟨p3,k3,p4,k4,cD,_,aY,_⟩:=Z9.cells hv
 simp only [vcs] at cD
 subst cD
 obtain ⟨q3,l3,q4,l4,rfl,_⟩:=cG.cells'
 obtain ⟨r,hr⟩:=eX (B1 us v s)
 rw [hr]
 obtain ⟨HR,HU,HV,HL⟩:=Qjz hr bM aY hl
 obtain ⟨up,uc,hue,eI⟩:=bM.len
 cases hue
 clear hv aY bM hl hr cG
 go_enter func65,ntmps65
 go_upto_region 13 with fail
 generalize aL:((w.alloc _).alloc _).alloc _=W1
 have bJ:=eqB aL (Xm _ _ _ _)
 have bG:=eqH (b:=w.heap.size) aL (Zp _ _ _ _)
 have cA:=eqH (b:=w.heap.size+1) aL (Ul _ _ _ _)
 have bZ:=eqH (b:=w.heap.size+2) aL (Zl _ _ _ _)
 clear aL
 obtain ⟨cT,cZ,cX⟩:=Qjq bJ cA bG
 have HI:=Qq (Bg Tryz.ixSum Ug isAgg73 sizeOf73 123 #[Ch (w+2)] (enters_of func123 Cd rfl) _ (.slice ps us.length cs) us W1 (fun u=>decide (u.name=s)) (HU.out.below bJ)
  (hasS3 _ _ us s W1 (by rw [Qk _ _ 1 _ _ _ bZ];rfl)))
 have a0:=rA0 bG
 clear bJ cA bZ bG
 go_upto_region 14 with (refine HI.out.mono ?_;rintro e w2 ⟨rfl,aF⟩;have cU:=Qq aF)
 have aF:=cU.out
 have bH:=kB aF cX.out
 have aK:=kB aF cZ.out
 obtain ⟨dA,cY,aC⟩:=Qjq aK bH (cT.out.thn aF)
 have a0:=rA0 bH;have b0:=rA0 aK;have b2:=rA2 aK;have Y:=rA4 aK
 clear aF bH aK
 by_cases h3:v.kind=3
 ·have dE:(v.kind != 3)=false:=by rw [h3];rfl
  have J:(match atP (fun u=>decide (u.name=s)) us with
   | none=>false
   | some u=>Jw u v)=r:=by rw [<- HR.out];unfold B1;rw [h3];rfl
  have aD:=Qq J
  clear J
  rcases V5 (fun u:Sm=>decide (u.name=s)) us with ⟨hi,hn⟩ | ⟨i,u,hi,bN,cF⟩
  ·obtain rfl:false=r:=by rw [<- aD.out,hn]
   rw [hi]
   go_wp2_with fail
   go_ret
   exact ⟨rfl,aC.out⟩
  have aE:=Qq (show Jw u v=r by rw [<- aD.out,cF])
  rw [hi]
  have eE:=(Qj bN).1
  have eC:(0:Int)<=(i:Int):=C7
  have eD:(i:Int)<(us.length:Int):=C7
  obtain ⟨ub,aP,eJ,rfl,cH,_,_,⟨dX,rfl,_,aX⟩,cI⟩:=(HU.out.below aC.out).elem bN
  obtain ⟨cp,cc,rfl,dZ⟩:=aX.len
  have d1:=cI 1 _ rfl
  rw [show Ug.k=2 from rfl] at d1
  have HC:=Qq aX;have aI:=Qq (HL.out u (Qy bN))
  have cW:=Qq (Bg Tryz.ixCtor Gk isAgg70 sizeOf70 125 #[Ch (w+1)] (enters_of func125 Cd rfl) _ (.slice cp u.ctors.length cc) u.ctors w2 (fun c=>decide (c.name=v.s)) aX
   (hasS4 _ _ u.ctors v.s w2 b2))
  clear cI aX hi cF b2
  go_upto_region 17 with (refine cW.out.mono ?_;rintro e w3 ⟨rfl,Z⟩;have bT:=Qq Z)
  have Z:=bT.out
  have bY:=kB Z cY.out
  have cB:=kB Z dA.out
  have dB:=Qq cB;have aZ:=Qq (aC.out.thn Z)
  have a0:=rA0 bY
  have d1:=kC Z d1
  have cH:=Qa cH Z.size
  clear Z bY cB b0 Y
  rcases V5 (fun c:Ct=>decide (c.name=v.s)) u.ctors with ⟨hk,hn⟩ | ⟨k,c,hk,aW,cE⟩
  ·obtain rfl:false=r:=by rw [<- aE.out];unfold Jw;rw [hn]
   rw [hk]
   go_wp2_with fail
   go_ret
   exact ⟨rfl,aZ.out⟩
  have V:=Qq (show (if c.has then (match v.kids with
   | [x]=>x.kind==c.arg.kind
   | _=>false) else decide (v.kids.length=0))=r by rw [<- aE.out];unfold Jw;rw [cE];rfl)
  rw [hk]
  have eH:=(Qj aW).1
  have eF:(0:Int)<=(k:Int):=C7
  have eG:(k:Int)<(u.ctors.length:Int):=C7
  obtain ⟨cb,dU,dW,rfl,dY,_,_,⟨tc,rfl,eA,aO⟩,aA⟩:=(HC.out.below bT.out).elem aW
  obtain ⟨tk,ts,tm,t3,n3,m3,t4,n4,m4,rfl⟩:=aO.cells
  have e0:=aA 0 _ rfl;have e1:=aA 1 _ rfl;have e2:=aA 2 _ rfl;have e3:=aA 3 _ rfl;have e4:=aA 4 _ rfl;have e5:=aA 5 _ rfl;have e6:=aA 6 _ rfl
  rw [show Gk.k=7 from rfl] at e0 e1 e2 e3 e4 e5 e6
  rw [Nat.add_zero] at e0
  unfold sv at e0
  have aJ:=Qq aO;have aH:=Qq (aI.out c (Qy aW))
  clear aW aA aO hk cE
  go_upto_region 20 with fail
  generalize bI:w3.alloc _=M
  have aM:=eqB bI (Zg _ _)
  have T:=eqH (b:=w3.heap.size) bI (Qw _ _)
  have cC:=kB aM dB.out
  have U:=Qq (aZ.out.thn aM);have cV:=Qq aM
  have a0:=kC aM a0
  have Y:=rA4 cC;have O:=rA1 T;have g2:=rA2 T;have g3:=rA3 T;have g4:=rA4 T;have g5:=rA5 T;have g6:=rA6 T
  clear bI aM cC d1 e0 e1 e2 e3 e4 e5 e6
  cases hhas:c.has with
  | false=>
   rw [hhas] at O
   have J:=V.out
   rw [hhas] at J
   simp only [Bool.false_eq_true,if_false] at J
   by_cases h0:v.kids.length=0
   ·obtain rfl:true=r:=by rw [<- J];simp [h0]
    have bL:((v.kids.length:Int)==0)=true:=by rw [beq_iff_eq];omega
    clear J h0 a0 g2 g3 g4 g5 g6 T V aE aD HR aJ aH HV HC aI HU
    have N:=Qq (show ∀ W,(fun W=>Below M M W) W->Cf W (w+1) 4 (.slice p4 v.kids.length k4)/\Cf W w3 1 (.bool false) from fun W h=>by
     have I:∀ {b j:Nat} {u:Value},M.cell? ⟨b,j,none⟩=some u->W.cell? ⟨b,j,none⟩=some u:=fun hc=>kC h hc
     exact ⟨I Y,I O⟩)
    clear Y O
    refine wp_region_held_drew (S:=fun W=>Below M M W) Cd (Qz _ _).drew (fun G=>?_)
    refine tkD (v:=?_) 0 (fun D A=>?_) ?_;rotate_left
    ·(go_simp;try with_reducible rfl)
    refine tkD (v:=?_) 1 (fun D A=>?_) ?_;rotate_left
    ·(obtain ⟨-,O⟩:=N.out D A;go_simp;try with_reducible rfl)
    refine tkD (v:=?_) 2 (fun D A=>?_) ?_;rotate_left
    ·(go_simp;try with_reducible rfl)
    refine tkN 3 ?_
    refine tkN 4 ?_
    refine tkN 5 ?_
    refine tkN 6 ?_
    refine tkD (v:=?_) 7 (fun D A=>?_) ?_;rotate_left
    ·(go_simp;try with_reducible rfl)
    refine tkD (v:=?_) 8 (fun D A=>?_) ?_;rotate_left
    ·(go_simp;try with_reducible rfl)
    refine tkN 9 ?_
    refine tkN 10 ?_
    refine tkN 11 ?_
    refine tkN 12 ?_
    refine tkN 13 ?_
    refine tkN 14 ?_
    refine tkN 15 ?_
    refine tkN 16 ?_
    refine tkD (v:=?_) 17 (fun D A=>?_) ?_;rotate_left
    ·(go_simp;try with_reducible rfl)
    refine tkD (v:=?_) 18 (fun D A=>?_) ?_;rotate_left
    ·(go_simp;try with_reducible rfl)
    refine tkD (v:=?_) 19 (fun D A=>?_) ?_;rotate_left
    ·(go_simp;try with_reducible rfl)
    refine tkD (v:=?_) 20 (fun D A=>?_) ?_;rotate_left
    ·(obtain ⟨-,O⟩:=N.out D A;go_simp;try with_reducible rfl)
    refine tkD (v:=?_) 21 (fun D A=>?_) ?_;rotate_left
    ·(go_simp;try with_reducible rfl)
    refine tkD (v:=?_) 22 (fun D A=>?_) ?_;rotate_left
    ·(go_simp;try with_reducible rfl)
    refine tkD (v:=?_) 23 (fun D A=>?_) ?_;rotate_left
    ·(go_simp;try with_reducible rfl)
    refine tkD (v:=?_) 24 (fun D A=>?_) ?_;rotate_left
    ·(obtain ⟨Y,-⟩:=N.out D A;go_simp;try with_reducible rfl)
    refine tkD (v:=?_) 25 (fun D A=>?_) ?_;rotate_left
    ·(go_simp;try with_reducible rfl)
    refine tkD (v:=?_) 26 (fun D A=>?_) ?_;rotate_left
    ·(go_simp;try with_reducible rfl)
    refine tkD (v:=?_) 27 (fun D A=>?_) ?_;rotate_left
    ·(go_simp;try with_reducible rfl)
    refine tkD (v:=?_) 28 (fun D A=>?_) ?_;rotate_left
    ·(go_simp;try with_reducible rfl)
    refine tkD (v:=?_) 29 (fun D A=>?_) ?_;rotate_left
    ·(go_simp;try with_reducible rfl)
    refine wpAnyH_done Cd ?_ _
    clear G
    go_wp2_with fail
    go_ret
    exact ⟨rfl,U.out.thn (Qz _ _).drew⟩
   obtain rfl:false=r:=by rw [<- J];simp [h0]
   have bL:((v.kids.length:Int)==0)=false:=by rw [<- Qt,beq_iff_eq];omega
   clear J h0 a0 g2 g3 g4 g5 g6 T V aE aD HR aJ aH HV HC aI HU
   have N:=Qq (show ∀ W,(fun W=>Below M M W) W->Cf W (w+1) 4 (.slice p4 v.kids.length k4)/\Cf W w3 1 (.bool false) from fun W h=>by
    have I:∀ {b j:Nat} {u:Value},M.cell? ⟨b,j,none⟩=some u->W.cell? ⟨b,j,none⟩=some u:=fun hc=>kC h hc
    exact ⟨I Y,I O⟩)
   clear Y O
   refine wp_region_held_drew (S:=fun W=>Below M M W) Cd (Qz _ _).drew (fun G=>?_)
   refine tkD (v:=?_) 0 (fun D A=>?_) ?_;rotate_left
   ·(go_simp;try with_reducible rfl)
   refine tkD (v:=?_) 1 (fun D A=>?_) ?_;rotate_left
   ·(obtain ⟨-,O⟩:=N.out D A;go_simp;try with_reducible rfl)
   refine tkD (v:=?_) 2 (fun D A=>?_) ?_;rotate_left
   ·(go_simp;try with_reducible rfl)
   refine tkN 3 ?_
   refine tkN 4 ?_
   refine tkN 5 ?_
   refine tkN 6 ?_
   refine tkD (v:=?_) 7 (fun D A=>?_) ?_;rotate_left
   ·(go_simp;try with_reducible rfl)
   refine tkD (v:=?_) 8 (fun D A=>?_) ?_;rotate_left
   ·(go_simp;try with_reducible rfl)
   refine tkN 9 ?_
   refine tkN 10 ?_
   refine tkN 11 ?_
   refine tkN 12 ?_
   refine tkN 13 ?_
   refine tkN 14 ?_
   refine tkN 15 ?_
   refine tkN 16 ?_
   refine tkD (v:=?_) 17 (fun D A=>?_) ?_;rotate_left
   ·(go_simp;try with_reducible rfl)
   refine tkD (v:=?_) 18 (fun D A=>?_) ?_;rotate_left
   ·(go_simp;try with_reducible rfl)
   refine tkD (v:=?_) 19 (fun D A=>?_) ?_;rotate_left
   ·(go_simp;try with_reducible rfl)
   refine tkD (v:=?_) 20 (fun D A=>?_) ?_;rotate_left
   ·(obtain ⟨-,O⟩:=N.out D A;go_simp;try with_reducible rfl)
   refine tkD (v:=?_) 21 (fun D A=>?_) ?_;rotate_left
   ·(go_simp;try with_reducible rfl)
   refine tkD (v:=?_) 22 (fun D A=>?_) ?_;rotate_left
   ·(go_simp;try with_reducible rfl)
   refine tkD (v:=?_) 23 (fun D A=>?_) ?_;rotate_left
   ·(go_simp;try with_reducible rfl)
   refine tkD (v:=?_) 24 (fun D A=>?_) ?_;rotate_left
   ·(obtain ⟨Y,-⟩:=N.out D A;go_simp;try with_reducible rfl)
   refine tkD (v:=?_) 25 (fun D A=>?_) ?_;rotate_left
   ·(go_simp;try with_reducible rfl)
   refine tkD (v:=?_) 26 (fun D A=>?_) ?_;rotate_left
   ·(go_simp;try with_reducible rfl)
   refine tkD (v:=?_) 27 (fun D A=>?_) ?_;rotate_left
   ·(go_simp;try with_reducible rfl)
   refine tkD (v:=?_) 28 (fun D A=>?_) ?_;rotate_left
   ·(go_simp;try with_reducible rfl)
   refine tkD (v:=?_) 29 (fun D A=>?_) ?_;rotate_left
   ·(go_simp;try with_reducible rfl)
   refine wpAnyH_done Cd ?_ _
   clear G
   go_wp2_with fail
   go_ret
   exact ⟨rfl,U.out.thn (Qz _ _).drew⟩
  | true=>
   rw [hhas] at O
   have J:=V.out
   rw [hhas] at J
   simp only [if_true] at J
   by_cases h1:v.kids.length=1
   ·obtain ⟨x,hx⟩:=List.length_eq_one_iff.1 h1
    rw [hx] at J
    have cL:v.kids[0]?=some x:=by rw [hx];rfl
    rw [h1] at HV Y
    obtain ⟨ga,oa,x3,bO,x4,bP,rfl,eB,cK,f0,f1,f2,f3,f4⟩:=(HV.out.below U.out).val cL
    simp only [Nat.zero_mul,Nat.add_zero] at f0 f1 f2 f3 f4
    have bA:(x.kind==c.arg.kind)=r:=J
    have bW:=Qq cK;have bV:=Qq (aJ.out.move (.of_below cV.out) Qje)
    have bK:∀ W,Below M M W->Calls prog 65 #[Cg ub aP us.length cs,.agg (vcs x x3 bO x4 bP).toArray,.agg #[tk,.string ts,tm,.slice t3 n3 m3,.slice t4 n4 m4]] W fun e w'=>e=.returned (.bool r)/\Below W W w':=fun W h=>by
     rw [<- bA]
     exact (hasLeafG x c.arg aH.out _ _ _ _ _ _ _ _ (bW.out.move (.of_below h) Qje) (bV.out.move (.of_below h) Qje)).mono (by rintro e w' ⟨rfl,hg⟩;exact ⟨rfl,hg.bl⟩)
    unfold vcs at bK
    have bL:((1:Int)==1)=true:=rfl
    clear J bA h1 hx cL cK T V aE aD HR aJ aH HV HC aI HU bW bV
    cases r with
    | false=>
     have N:=Qq (show ∀ W,(fun W=>Below M M W) W->Cf W w 0 (Cg ub aP us.length cs)/\Cf W (w+1) 4 (Cg ga oa 1 k4)/\Cf W w3 1 (.bool true)/\Cf W w3 2 tk/\Cf W w3 3 (.string ts)/\Cf W w3 4 tm/\Cf W w3 5 (.slice t3 n3 m3)/\Cf W w3 6 (.slice t4 n4 m4)/\Qjr W ga oa x.kind x.n x.s (.slice x3 x.names.length bO) (.slice x4 x.kids.length bP) from fun W h=>by
      have I:∀ {b j:Nat} {u:Value},M.cell? ⟨b,j,none⟩=some u->W.cell? ⟨b,j,none⟩=some u:=fun hc=>kC h hc
      exact ⟨I a0,I Y,I O,I g2,I g3,I g4,I g5,I g6,I f0,I f1,I f2,I f3,I f4⟩)
     clear a0 Y O g2 g3 g4 g5 g6 f0 f1 f2 f3 f4
     refine wp_region_held_drew (S:=fun W=>Below M M W) Cd (Qz _ _).drew (fun G=>?_)
     refine tkD (v:=?_) 0 (fun D A=>?_) ?_;rotate_left
     ·(go_simp;try with_reducible rfl)
     refine tkD (v:=?_) 1 (fun D A=>?_) ?_;rotate_left
     ·(obtain ⟨-,-,O,-,-,-,-,-,-,-,-,-,-⟩:=N.out D A;go_simp;try with_reducible rfl)
     refine tkD (v:=?_) 2 (fun D A=>?_) ?_;rotate_left
     ·(go_simp;try with_reducible rfl)
     refine tkD (v:=?_) 3 (fun D A=>?_) ?_;rotate_left
     ·(go_simp;try with_reducible rfl)
     refine tkD (v:=?_) 4 (fun D A=>?_) ?_;rotate_left
     ·(obtain ⟨-,Y,-,-,-,-,-,-,-,-,-,-,-⟩:=N.out D A;go_simp;try with_reducible rfl)
     refine tkD (v:=?_) 5 (fun D A=>?_) ?_;rotate_left
     ·(go_simp;try with_reducible rfl)
     refine tkD (v:=?_) 6 (fun D A=>?_) ?_;rotate_left
     ·(go_simp;try with_reducible rfl)
     refine tkD (v:=?_) 7 (fun D A=>?_) ?_;rotate_left
     ·(go_simp;try with_reducible rfl)
     refine tkD (v:=?_) 8 (fun D A=>?_) ?_;rotate_left
     ·(go_simp;try with_reducible rfl)
     refine tkD (v:=?_) 9 (fun D A=>?_) ?_;rotate_left
     ·(obtain ⟨a0,-,-,-,-,-,-,-,-,-,-,-,-⟩:=N.out D A;go_simp;try with_reducible rfl)
     refine tkD (v:=?_) 10 (fun D A=>?_) ?_;rotate_left
     ·(go_simp;try with_reducible rfl)
     refine tkD (v:=?_) 11 (fun D A=>?_) ?_;rotate_left
     ·(obtain ⟨-,Y,-,-,-,-,-,-,-,-,-,-,-⟩:=N.out D A;go_simp;try with_reducible rfl)
     refine tkD (v:=?_) 12 (fun D A=>?_) ?_;rotate_left
     ·(go_simp;try with_reducible rfl)
     refine tkD (v:=?_) 13 (fun D A=>?_) ?_;rotate_left
     ·(obtain ⟨-,-,-,-,-,-,-,-,f0,f1,f2,f3,f4⟩:=N.out D A;go_simp;try with_reducible rfl)
     refine tkD (v:=?_) 14 (fun D A=>?_) ?_;rotate_left
     ·(go_simp;try with_reducible rfl)
     refine tkD (v:=?_) 15 (fun D A=>?_) ?_;rotate_left
     ·(obtain ⟨-,-,-,g2,g3,g4,g5,g6,-,-,-,-,-⟩:=N.out D A;go_simp;try with_reducible rfl)
     refine rdD 16 (fun K hK=>?_) Qo
     go_simp
     refine (bK _ (Qz _ _).drew).mono ?_
     rintro e w5 ⟨rfl,aN⟩
     have aG:Hid (Below M M w5):=Qq ((Qz _ _).drew.thn aN)
     clear aN
     try dsimp only
     refine hK.out _ _ aG.out (fun G=>?_)
     clear hK K
     refine tkD (v:=?_) 17 (fun D A=>?_) ?_;rotate_left
     ·(go_simp;try with_reducible rfl)
     refine tkD (v:=?_) 18 (fun D A=>?_) ?_;rotate_left
     ·(go_simp;try with_reducible rfl)
     refine tkD (v:=?_) 19 (fun D A=>?_) ?_;rotate_left
     ·(go_simp;try with_reducible rfl)
     refine tkD (v:=?_) 20 (fun D A=>?_) ?_;rotate_left
     ·(obtain ⟨-,-,O,-,-,-,-,-,-,-,-,-,-⟩:=N.out D A;go_simp;try with_reducible rfl)
     refine tkD (v:=?_) 21 (fun D A=>?_) ?_;rotate_left
     ·(go_simp;try with_reducible rfl)
     refine tkD (v:=?_) 22 (fun D A=>?_) ?_;rotate_left
     ·(go_simp;try with_reducible rfl)
     refine tkN 23 ?_
     refine tkN 24 ?_
     refine tkN 25 ?_
     refine tkN 26 ?_
     refine tkD (v:=?_) 27 (fun D A=>?_) ?_;rotate_left
     ·(go_simp;try with_reducible rfl)
     refine tkD (v:=?_) 28 (fun D A=>?_) ?_;rotate_left
     ·(go_simp;try with_reducible rfl)
     refine tkD (v:=?_) 29 (fun D A=>?_) ?_;rotate_left
     ·(go_simp;try with_reducible rfl)
     refine wpAnyH_done Cd ?_ _
     clear G
     go_wp2_with fail
     go_ret
     exact ⟨rfl,U.out.thn aG.out⟩
    | true=>
     have N:=Qq (show ∀ W,(fun W=>Below M M W) W->Cf W w 0 (Cg ub aP us.length cs)/\Cf W (w+1) 4 (Cg ga oa 1 k4)/\Cf W w3 1 (.bool true)/\Cf W w3 2 tk/\Cf W w3 3 (.string ts)/\Cf W w3 4 tm/\Cf W w3 5 (.slice t3 n3 m3)/\Cf W w3 6 (.slice t4 n4 m4)/\Qjr W ga oa x.kind x.n x.s (.slice x3 x.names.length bO) (.slice x4 x.kids.length bP) from fun W h=>by
      have I:∀ {b j:Nat} {u:Value},M.cell? ⟨b,j,none⟩=some u->W.cell? ⟨b,j,none⟩=some u:=fun hc=>kC h hc
      exact ⟨I a0,I Y,I O,I g2,I g3,I g4,I g5,I g6,I f0,I f1,I f2,I f3,I f4⟩)
     clear a0 Y O g2 g3 g4 g5 g6 f0 f1 f2 f3 f4
     refine wp_region_held_drew (S:=fun W=>Below M M W) Cd (Qz _ _).drew (fun G=>?_)
     refine tkD (v:=?_) 0 (fun D A=>?_) ?_;rotate_left
     ·(go_simp;try with_reducible rfl)
     refine tkD (v:=?_) 1 (fun D A=>?_) ?_;rotate_left
     ·(obtain ⟨-,-,O,-,-,-,-,-,-,-,-,-,-⟩:=N.out D A;go_simp;try with_reducible rfl)
     refine tkD (v:=?_) 2 (fun D A=>?_) ?_;rotate_left
     ·(go_simp;try with_reducible rfl)
     refine tkD (v:=?_) 3 (fun D A=>?_) ?_;rotate_left
     ·(go_simp;try with_reducible rfl)
     refine tkD (v:=?_) 4 (fun D A=>?_) ?_;rotate_left
     ·(obtain ⟨-,Y,-,-,-,-,-,-,-,-,-,-,-⟩:=N.out D A;go_simp;try with_reducible rfl)
     refine tkD (v:=?_) 5 (fun D A=>?_) ?_;rotate_left
     ·(go_simp;try with_reducible rfl)
     refine tkD (v:=?_) 6 (fun D A=>?_) ?_;rotate_left
     ·(go_simp;try with_reducible rfl)
     refine tkD (v:=?_) 7 (fun D A=>?_) ?_;rotate_left
     ·(go_simp;try with_reducible rfl)
     refine tkD (v:=?_) 8 (fun D A=>?_) ?_;rotate_left
     ·(go_simp;try with_reducible rfl)
     refine tkD (v:=?_) 9 (fun D A=>?_) ?_;rotate_left
     ·(obtain ⟨a0,-,-,-,-,-,-,-,-,-,-,-,-⟩:=N.out D A;go_simp;try with_reducible rfl)
     refine tkD (v:=?_) 10 (fun D A=>?_) ?_;rotate_left
     ·(go_simp;try with_reducible rfl)
     refine tkD (v:=?_) 11 (fun D A=>?_) ?_;rotate_left
     ·(obtain ⟨-,Y,-,-,-,-,-,-,-,-,-,-,-⟩:=N.out D A;go_simp;try with_reducible rfl)
     refine tkD (v:=?_) 12 (fun D A=>?_) ?_;rotate_left
     ·(go_simp;try with_reducible rfl)
     refine tkD (v:=?_) 13 (fun D A=>?_) ?_;rotate_left
     ·(obtain ⟨-,-,-,-,-,-,-,-,f0,f1,f2,f3,f4⟩:=N.out D A;go_simp;try with_reducible rfl)
     refine tkD (v:=?_) 14 (fun D A=>?_) ?_;rotate_left
     ·(go_simp;try with_reducible rfl)
     refine tkD (v:=?_) 15 (fun D A=>?_) ?_;rotate_left
     ·(obtain ⟨-,-,-,g2,g3,g4,g5,g6,-,-,-,-,-⟩:=N.out D A;go_simp;try with_reducible rfl)
     refine rdD 16 (fun K hK=>?_) Qo
     go_simp
     refine (bK _ (Qz _ _).drew).mono ?_
     rintro e w5 ⟨rfl,aN⟩
     have aG:Hid (Below M M w5):=Qq ((Qz _ _).drew.thn aN)
     clear aN
     try dsimp only
     refine hK.out _ _ aG.out (fun G=>?_)
     clear hK K
     refine tkD (v:=?_) 17 (fun D A=>?_) ?_;rotate_left
     ·(go_simp;try with_reducible rfl)
     refine tkD (v:=?_) 18 (fun D A=>?_) ?_;rotate_left
     ·(go_simp;try with_reducible rfl)
     refine tkN 19 ?_
     refine tkN 20 ?_
     refine tkN 21 ?_
     refine tkN 22 ?_
     refine tkN 23 ?_
     refine tkN 24 ?_
     refine tkN 25 ?_
     refine tkN 26 ?_
     refine tkN 27 ?_
     refine tkD (v:=?_) 28 (fun D A=>?_) ?_;rotate_left
     ·(go_simp;try with_reducible rfl)
     refine tkD (v:=?_) 29 (fun D A=>?_) ?_;rotate_left
     ·(go_simp;try with_reducible rfl)
     refine wpAnyH_done Cd ?_ _
     clear G
     go_wp2_with fail
     go_ret
     exact ⟨rfl,U.out.thn aG.out⟩
   obtain rfl:false=r:=by
    rw [<- J]
    match aY:v.kids with
    | []=>rfl
    | [x]=>rw [aY] at h1;simp at h1
    | _::_::_=>rfl
   have bL:((v.kids.length:Int)==1)=false:=by rw [<- Qt,beq_iff_eq];omega
   clear J h1 a0 g2 g3 g4 g5 g6 T V aE aD HR aJ aH HV HC aI HU
   have N:=Qq (show ∀ W,(fun W=>Below M M W) W->Cf W (w+1) 4 (.slice p4 v.kids.length k4)/\Cf W w3 1 (.bool true) from fun W h=>by
    have I:∀ {b j:Nat} {u:Value},M.cell? ⟨b,j,none⟩=some u->W.cell? ⟨b,j,none⟩=some u:=fun hc=>kC h hc
    exact ⟨I Y,I O⟩)
   clear Y O
   refine wp_region_held_drew (S:=fun W=>Below M M W) Cd (Qz _ _).drew (fun G=>?_)
   refine tkD (v:=?_) 0 (fun D A=>?_) ?_;rotate_left
   ·(go_simp;try with_reducible rfl)
   refine tkD (v:=?_) 1 (fun D A=>?_) ?_;rotate_left
   ·(obtain ⟨-,O⟩:=N.out D A;go_simp;try with_reducible rfl)
   refine tkD (v:=?_) 2 (fun D A=>?_) ?_;rotate_left
   ·(go_simp;try with_reducible rfl)
   refine tkD (v:=?_) 3 (fun D A=>?_) ?_;rotate_left
   ·(go_simp;try with_reducible rfl)
   refine tkD (v:=?_) 4 (fun D A=>?_) ?_;rotate_left
   ·(obtain ⟨Y,-⟩:=N.out D A;go_simp;try with_reducible rfl)
   refine tkD (v:=?_) 5 (fun D A=>?_) ?_;rotate_left
   ·(go_simp;try with_reducible rfl)
   refine tkD (v:=?_) 6 (fun D A=>?_) ?_;rotate_left
   ·(go_simp;try with_reducible rfl)
   refine tkD (v:=?_) 7 (fun D A=>?_) ?_;rotate_left
   ·(go_simp;try with_reducible rfl)
   refine tkD (v:=?_) 8 (fun D A=>?_) ?_;rotate_left
   ·(go_simp;try with_reducible rfl)
   refine tkN 9 ?_
   refine tkN 10 ?_
   refine tkN 11 ?_
   refine tkN 12 ?_
   refine tkN 13 ?_
   refine tkN 14 ?_
   refine tkN 15 ?_
   refine tkN 16 ?_
   refine tkD (v:=?_) 17 (fun D A=>?_) ?_;rotate_left
   ·(go_simp;try with_reducible rfl)
   refine tkD (v:=?_) 18 (fun D A=>?_) ?_;rotate_left
   ·(go_simp;try with_reducible rfl)
   refine tkD (v:=?_) 19 (fun D A=>?_) ?_;rotate_left
   ·(go_simp;try with_reducible rfl)
   refine tkD (v:=?_) 20 (fun D A=>?_) ?_;rotate_left
   ·(obtain ⟨-,O⟩:=N.out D A;go_simp;try with_reducible rfl)
   refine tkD (v:=?_) 21 (fun D A=>?_) ?_;rotate_left
   ·(go_simp;try with_reducible rfl)
   refine tkD (v:=?_) 22 (fun D A=>?_) ?_;rotate_left
   ·(go_simp;try with_reducible rfl)
   refine tkN 23 ?_
   refine tkN 24 ?_
   refine tkN 25 ?_
   refine tkN 26 ?_
   refine tkD (v:=?_) 27 (fun D A=>?_) ?_;rotate_left
   ·(go_simp;try with_reducible rfl)
   refine tkD (v:=?_) 28 (fun D A=>?_) ?_;rotate_left
   ·(go_simp;try with_reducible rfl)
   refine tkD (v:=?_) 29 (fun D A=>?_) ?_;rotate_left
   ·(go_simp;try with_reducible rfl)
   refine wpAnyH_done Cd ?_ _
   clear G
   go_wp2_with fail
   go_ret
   exact ⟨rfl,U.out.thn (Qz _ _).drew⟩
 have dE:(v.kind != 3)=true:=by rw [bne_iff_ne];exact h3
 obtain rfl:false=r:=by
  have dD:(v.kind==3)=false:=by simpa using h3
  rw [<- HR.out];unfold B1;rw [dD];rfl
 clear h3
 go_wp2_with fail
 go_ret
 exact ⟨rfl,aC.out⟩
theorem Sq (us:List Sm) (hu:Kn us) (v:Val) (t:Ty) (h:Ja t\/t.kind=3):Kf us v t (Hm us v t):=by
 obtain ⟨k,s,n,names,kids⟩:=t
 unfold Hm
 rcases h with h | h
 ·have A:k=0\/k=1\/k=2:=h
  rw [if_neg (show ¬ (Ty.mk k s n names kids).kind=3 from by simp only [Ty.kind];omega)]
  exact Sr us v k A s n names kids
 have A:k=3:=h
 subst A
 exact hasSum us v s n names kids hu
theorem Mb (w:World) (g o:Nat) (vs:List Value) (cur:Array Value) (t:TypeId) (hg:w.heap[g]?=some (.cells cur t (0,0))) (hfit:o+vs.length<=cur.size) (h1:∀ v ∈ vs,v.oneCell'=true):
  w.setCells g o vs=w.setRow g (cur.toList.take o++vs++cur.toList.drop (o+vs.length)).toArray:=by
 have ha:=run_storeCells_at prog g o t vs 0 cur w hg (by simpa using hfit) h1
 have hb:=run_storeCells_cells (P:=prog) g o vs 0 w (fun j hj=>by rw [Qk _ _ _ _ _ _ hg,Array.getElem?_eq_getElem C7];rfl) (fun j hj=>Qn _ _ _ _ _ hg) h1
 rw [ha] at hb
 simp only [Nat.add_zero] at hb
 injection hb with _ h
 exact h.symm
end Go.Proofs.YtcljcblceodciaaGreatDoor
