import Derived.Test.YtdpibdpbgokmoaaGreatDoorA08
set_option maxRecDepth 100000
set_option maxHeartbeats 400000000
namespace Go.Proofs.YtdpibdpbgokmoaaGreatDoor
open Go.RowKit Go.Shelf Go.Lib Tryz
theorem Zt {w:World} {b o:Nat} {v:Value} (hb:b<w) (h:w.cell? ⟨b,o,none⟩=some v):∀ n os,(Sort.grow (w.drewN n) os).cell? ⟨b,o,none⟩=some v:=λn os=>cell_grown hb h n os
theorem Yh (w:World) (n:Nat) (os:Array Obj):Gr w (Sort.grow (w.drewN n) os):=⟨n,os,rfl⟩
def Bv (S:Nat->Prop) (w:World) (v:Val) (e:Ending) (w':World):Prop:=∃ cs',e=.returned (.agg cs'.toArray)/\Z9 S w' cs' v/\Below w w w'
def Vq (b:Bool):Val:=.mk 2 (if b then 1 else 0) [] [] []
theorem N0 (S:Nat->Prop) (w:World) (b:Bool):Z9 S w [.int .i64 2,.int .i64 (if b then 1 else 0),Ig,Ie,Ie] (Vq b):=
 Yb (s:=[]) Ib (Sl.nil _ _ _) (Sl.nil _ _ _)
theorem Xf (w:World):Calls prog 134 #[.bool true] w λe w'=>e=.returned (.tuple #[])/\w=w':=by
 go_enter func134,ntmps134
 go_wp2_with fail
 go_end0
 exact ⟨rfl,rfl⟩
theorem U8 (b:Bool) (S:Nat->Prop) (w:World):Calls prog 135 #[.bool b] w (Bv S w (Vq b)):=by
 cases b
 ·go_enter func135,ntmps135
  go_wp2_with fail
  generalize A:w.alloc _=W
  have hb:=Iq A (Zg _ _)
  have D:=Ik (b:=w.heap.size) A (Qw _ _)
  refine Q7 (v:=.agg #[.int .i64 2,Ic,Ig,Ie,Ie]) (by simp [results,results135,go_sem,Qk _ _ _ _ _ _ D]) rfl ⟨_,rfl,N0 _ _ false,hb⟩
 go_enter func135,ntmps135
 go_wp2_with fail
 generalize A:w.alloc _=W
 have hb:=Iq A (Zg _ _)
 have D:=Ik (b:=w.heap.size) A (Qw _ _)
 refine Q7 (v:=.agg #[.int .i64 2,.int .i64 1,Ig,Ie,Ie]) (by simp [results,results135,go_sem,Qk _ _ _ _ _ _ D]) rfl ⟨_,rfl,N0 _ _ true,hb⟩
theorem Hn (k:Int) (S:Nat->Prop) (v:Val) (cs:List Value) (w:World) (h:Z9 S w cs v) (hk:v.kind=k):Calls prog 131 #[k,cs] w λe w'=>e=.returned (.agg cs.toArray)/\Below w w w':=by
 have HM:=Qq Xf
 obtain ⟨p3,k3,p4,k4,A,_⟩:=Z9.cells h
 simp only [Il] at A
 subst A
 subst hk
 clear h
 go_enter func131,ntmps131
 go_wp2_with (go_at_call 134;refine (HM.o _).mono ?_;rintro e w' ⟨rfl,rfl⟩)
 generalize hW:(w.alloc _).alloc _=W
 have hb:=Iq hW (Zs _ _ _)
 have hR:=Ik (b:=w.heap.size+1) hW (Q6 _ _ _)
 refine Q7 (v:=.agg (Is v p3 k3 p4 k4)) (by simp [results,results131,go_sem,Qk _ _ _ _ _ _ hR]) rfl ⟨rfl,hb⟩
theorem fld1 (a b c d e:Value) (w:World):(Instr.field 36 (.agg #[a,b,c,d,e]) 1).run prog w=.ok b w:=by
 simp [Instr.field,go_sem,part,asAgg]
theorem truth_ok (b:Bool) (S:Nat->Prop) (cs:List Value) (w:World) (h:Z9 S w cs (Vq b)):Calls prog 90 #[cs] w λe w'=>e=.returned (.bool b)/\Below w w w':=by
 have D:=Qq (λW (hb:Below w w W)=>Hn 2 S (Vq b) cs W (Z9.move h (.f hb) Ij) rfl)
 obtain ⟨N,J,O,M,A,_⟩:=Z9.cells h
 simp only [Il] at A
 subst A
 clear h
 have I:(Vq b).kind=2:=rfl
 have hn:((Vq b).n==1)=b:=by cases b <;> rfl
 generalize Vq b=v at I hn D |-
 subst hn
 rw [I] at D |-
 clear I
 have G:Hid (∀ W,Below w w W->Calls prog 131 #[.int .i64 2,.agg #[.int .i64 2,v.n,v.s,.slice N v.names.length J,.slice O v.kids.length M]] W λe w'=>e=.returned (.agg #[.int .i64 2,v.n,v.s,.slice N v.names.length J,.slice O v.kids.length M])/\Below W W w'):=D
 clear D
 have hf:=fld1 (.int .i64 2) (.int .i64 v.n) (.string ⟨v.s.toArray⟩) (.slice N v.names.length J) (.slice O v.kids.length M)
 go_enter func90,ntmps90
 go_wp2_with (go_at_call 131;refine (G.o _ (Zg _ _)).mono ?_;rintro e w' ⟨rfl,hw⟩)
 go_ret
 exact ⟨rfl,(Zg _ _).n hw⟩
inductive Xy (S:Nat->Prop) (w:World):Value->List (Bs × Val)->Prop
 | nil:Xy S w (.pointer none) []
 | cons (b:Nat) (outer:Option Addr) (x:Bs) (v:Val) (p3:Option Addr) (k3:Nat) (p4:Option Addr) (k4:Nat) (env:List (Bs × Val)) (hS:S b) (h0:w.heap[b]?=some (.cells #[.pointer outer,x,v.kind,v.n,v.s,.slice p3 v.names.length k3,.slice p4 v.kids.length k4] 124 (0,0)))
   (hx:x.length<=1000000) (hv:Z9 S w (Il v p3 k3 p4 k4) v) (ho:Xy S w (.pointer outer) env):Xy S w (.pointer (some ⟨b,0,none⟩)) ((x,v)::env)
theorem Xy.move {S S':Nat->Prop} {w w':World} {p:Value} {env:List (Bs × Val)} (h:Xy S w p env) (hA:Jy S w w') (hS:∀ b,b<w.heap.size->S b->S' b):Xy S' w' p env:=by
 induction h with
 | nil=>exact .nil
 | cons b outer x v p3 k3 p4 k4 env hSb h0 hx hv ho ih=>exact .cons b outer x v p3 k3 p4 k4 env (hS b (Z8 h0) hSb) ((hA b hSb (Z8 h0)).trans h0) hx (hv.move hA hS) ih
theorem Xy.ptr {S:Nat->Prop} {w:World} {p:Value} {env:List (Bs × Val)} (h:Xy S w p env):∃ q,p=.pointer q:=by cases h <;> exact ⟨_,rfl⟩
theorem Zo (w:World) (A B C:Obj):(((w.alloc A).alloc B).alloc C).heap[w.heap.size+1]?=some B:=
 ((Zg ((w.alloc A).alloc B) C).block (w+1) Ib).trans (Q6 w A B)
theorem Zp (w:World) (A B C:Obj):(((w.alloc A).alloc B).alloc C).heap[w.heap.size]?=some A:=
 ((Zg ((w.alloc A).alloc B) C).block w (by simp;omega)).trans (Q5 w A B)
def EvV (e:Ex) (env:List (Bs × Val)) (v:Val):Prop:=∀ (S S':Nat->Prop) (cs:List Value) (p:Value) (w:World),Yx S' w cs e->Xy S w p env->Calls prog 91 #[cs,p] w (Bv S w v)
theorem Cz (nm:Bs) (n:Int) (s:Bs) (names binds:List Bs) (kids:List Ex) (a z:Int) (env:List (Bs × Val)):EvV (.mk 2 nm n s names binds kids a z) env (Vq (n==1)):=by
 intro S S' cs p w hx he
 obtain ⟨nv,bv,kv,rfl,_,_,hn,hb,hk⟩:=Yy.1 hx
 obtain ⟨np,nc,rfl,_⟩:=hn.len
 obtain ⟨bp,bc,rfl,_⟩:=hb.len
 obtain ⟨kp,kc,rfl,_⟩:=hk.len
 obtain ⟨q,rfl⟩:=he.ptr
 have HB:=Qq (U8 (n==1) (λb=>S b/\b<w))
 clear hx he hn hb hk
 unfold sv
 go_enter func91,ntmps91
 obtain ⟨v,hv⟩:=eX (Vq (n==1))
 rw [hv] at HB |-
 clear hv
 go_wp2_with fail
 refine (HB.o _).mono ?_
 rintro e w1 ⟨N,rfl,G,D⟩
 obtain ⟨q3,l3,q4,l4,I,_⟩:=Z9.cells G
 simp only [Il] at I
 subst I
 have A:=Qq ((D.block (w+1+1) Ib).trans (Zi w _ _ _))
 have J:=Qq ((Xt w _ _ _).n D);have M:=Qq G
 have fz:=λj=>Qn _ _ j _ _ A.o
 obtain ⟨f0,f1,f2,f3,f4⟩:=Iw fz
 have rr:=λj=>Qk _ _ j _ _ _ A.o
 obtain ⟨r0,r1,r2,r3,r4⟩:=Iw rr
 simp only [Qf,Qg,Qh] at r0 r1 r2 r3 r4
 clear fz rr G D
 go_wp2_with fail
 show bodyPost _ _ _ _ _ (AI w1 (w+1+1) v q3 l3 q4 l4)
 refine Q7 (v:=.agg (Is v q3 l3 q4 l4)) (by simp [results,results91,go_sem,Ze A.o]) rfl ⟨_,rfl,?_,Zd J.o Ia⟩
 exact Z9.move M.o (λb hb _=>Zf (by have:=hb.2;omega)) (λ_ _ h=>h.1)
theorem Wi (nm:Bs) (n:Int) (s:Bs) (names binds:List Bs) (kids:List Ex) (a z:Int) (env:List (Bs × Val)) (v:Val) (hlk:Ld nm env=some v):EvV (.mk 3 nm n s names binds kids a z) env v:=by
 intro S0 S' cs p w hx T
 have he:Xy (λb=>S0 b/\b<w) w p env:=T.move (.refl _ _) (λb hb h=>⟨h,hb⟩)
 obtain ⟨nv,bv,kv,rfl,_,_,hn,hb,hk⟩:=Yy.1 hx
 obtain ⟨np,nc,rfl,_⟩:=hn.len
 obtain ⟨bp,bc,rfl,_⟩:=hb.len
 obtain ⟨kp,kc,rfl,_⟩:=hk.len
 obtain ⟨q,rfl⟩:=he.ptr
 have HE:=Qq he;have aB:=Qq hlk
 clear hx he T hn hb hk hlk
 unfold sv
 go_enter func91,ntmps91
 go_upto_region 3 with fail
 generalize G:((w.alloc _).alloc _).alloc _=w3
 have J:=Iq G (Xt _ _ _ _)
 have h0:=Ik (b:=w.heap.size) G (Zp _ _ _ _)
 have h1:=Ik (b:=w.heap.size+1) G (Zo _ _ _ _)
 have h2:=Ik (b:=w.heap.size+1+1) G (Zi _ _ _ _)
 have c0:=AB h0;have d0:=AB h1
 obtain ⟨H0,H2,Y,Z⟩:=It h0 h2 J (HE.o.move (.f J) Ij)
 clear h0 h1 h2 J G HE
 go_wp2_with fail
 go_loopg [7] env.length (λk p wr=>∃ A,k=A.length/\Xy (λb=>S0 b/\b<w) wr p A/\Aside (Ld nm A=some v)/\Below w3 w3 wr)
 case atStart=>exact ⟨env,rfl,Z.o,aB.o,Qz _ _⟩
 obtain ⟨A,rfl,hE,V,D⟩:=hrel
 cases hE with
 | nil=>cases V.o
 | cons b outer x u p3 k3 p4 k4 rest hS hb0 hxl hu ho=>
  have c1:=AA ((kB D H0.o));have x0:=AB hb0;have x1:=AA hb0;have x2:=AM hb0;have x3:=AH hb0;have x4:=Iz hb0;have x5:=AY hb0;have x6:=AK hb0
  have O:=kB D H2.o
  obtain ⟨HR,HU,HO,M,aG⟩:=AO O hu ho D hS
  have I:=V.o
  by_cases hxn:x=nm
  ·have U:u=v:=by
    have h:(if x=nm then some u else Ld nm rest)=some v:=I
    rw [if_pos hxn] at h;exact Qb h
   have aD:=Qq U
   subst hxn
   have fz:=λj=>Qn _ _ j _ _ O
   obtain ⟨f0,f1,f2,f3,f4⟩:=Iw fz
   have rr:=λj=>Qk _ _ j _ _ _ O
   obtain ⟨r0,r1,r2,r3,r4⟩:=Iw rr
   simp only [Qf,Qg,Qh] at r0 r1 r2 r3 r4
   clear V I D O hu ho hb0 fz rr U hS
   go_wp2_with fail
   go_quiet (fail)
   go_wp2_with fail
   have aC:=Qq (kB (Yz wr nq) HR.o)
   show bodyPost _ _ _ _ _ (AI (wr.drewN nq) (w+1+1) u p3 k3 p4 k4)
   refine Q7 (v:=.agg (Is u p3 k3 p4 k4)) (by simp [results,results91,go_sem,Ze aC.o]) rfl ⟨_,rfl,?_,Zd ((Y.o.n M.o).n (Yz wr nq)) Ia⟩
   rw [<- aD.o]
   exact Z9.move HU.o (λb hb _=>Zf (by have:=hb.2;omega)) (λ_ _ h=>h.1)
  have N:Ld nm rest=some v:=by
   have h:(if x=nm then some u else Ld nm rest)=some v:=I
   rw [if_neg hxn] at h;exact h
  have aA:=Qq N
  have hq:(x==nm)=false:=by simpa using hxn
  clear V I N D O hu ho hb0 hxn hS
  go_wp2_with fail
  go_quiet (fail)
  go_wp2_with fail
  go_roundg rest.length
  case measure=>simp
  case rel=>exact ⟨rest,rfl,HO.o.move (.f (Yz wr nq)) Ij,aA.o,M.o.n (Yz wr nq)⟩
theorem kid_any (E V k:Nat) (S0 S':Nat->Prop) (kp:Option Addr) (kc:Nat) (kids:List Ex) (e:Ex) (p:Value) (env:List (Bs × Val)) (v:Val) (w:World) (h6:w.cell? ⟨E,6,none⟩=some (.slice kp kids.length kc)) (hk:Sl Vz S' w (.slice kp kids.length kc) kids) (hV:w.cell? ⟨V,0,none⟩=some p)
  (he0:Xy S0 w p env) (hx:kids[k]?=some e) (hev:EvV e env v):Calls prog 132 #[k,Iv E,Iv V] w (Bv S0 w v):=by
 have he:Xy (λb=>S0 b/\b<w) w p env:=he0.move (.refl _ _) (λb hb h=>⟨h,hb⟩)
 obtain ⟨q,rfl⟩:=he.ptr
 obtain ⟨N,A,cs,bS,D,_,_,hr,G⟩:=hk.elem hx
 subst bS
 have aH:=Qq (λW (hb:Below w w W)=>hev (λb=>S0 b/\b<w) S' cs (.pointer q) W (Vz.frame hr (.f hb)) (he.move (.f hb) Ij))
 obtain ⟨ek,bP,en,bQ,bM,bJ,bG,bN,bK,bH,bO,bL,bI,ea,ez,aB⟩:=Yx.cells (show Yx S' w cs e from hr)
 subst aB
 have aL:=Qv _ _ h6
 have aN:=Qv _ _ hV
 have bZ:k<kids.length:=(Qj hx).1
 have bX:(0:Int)<=(k:Int):=Ia
 have bY:(k:Int)<(kids.length:Int):=Ia
 have d0:=G 0 _ rfl
 have d1:=G 1 _ rfl
 have d2:=G 2 _ rfl
 have d3:=G 3 _ rfl
 have d4:=G 4 _ rfl
 have d5:=G 5 _ rfl
 have d6:=G 6 _ rfl
 have d7:=G 7 _ rfl
 have d8:=G 8 _ rfl
 simp only [show Vz.k=9 from rfl,Nat.add_zero] at d0 d1 d2 d3 d4 d5 d6 d7 d8
 obtain ⟨w1,aA⟩:=eX (w.alloc (.cells zV 36))
 have aO:=Iq aA (Zg _ _)
 have bV:w1=w.heap.size+1:=by rw [<- aA];simp
 have aM:=Ik (b:=w.heap.size) aA (Qw _ _)
 refine let_mvar% ?Lq1:=λw':World=>Ii w' E 6 (Io N A kids.length kc)/\Ii w' N (A+k*9) ek/\Ii w' N (A+k*9+1) (.string bP)/\Ii w' N (A+k*9+2) en/\Ii w' N (A+k*9+3) (.string bQ)/\Ii w' N (A+k*9+4) (.slice bM bJ bG)/\Ii w' N (A+k*9+5) (.slice bN bK bH)/\Ii w' N (A+k*9+6) (.slice bO bL bI)/\Ii w' N (A+k*9+7) ea/\Ii w' N (A+k*9+8) ez/\Ii w' V 0 (.pointer q)/\(∃ U y1 y2 y3 Y,w'.heap[w.heap.size]?=some (.cells #[U,y1,y2,y3,Y] 36 (0,0)))/\Below w w w';?_
 have HS:∀ w',Below w w w'->(∃ U y1 y2 y3 Y,w'.heap[w.heap.size]?=some (.cells #[U,y1,y2,y3,Y] 36 (0,0)))->?Lq1 w':=by
  intro w' h hy
  have M:∀ {b j:Nat} {u:Value},b<w->w.cell? ⟨b,j,none⟩=some u->w'.cell? ⟨b,j,none⟩=some u:=λbT G=>kD h bT G
  exact ⟨M aL h6,M D d0,M D d1,M D d2,M D d3,M D d4,M D d5,M D d6,M D d7,M D d8,M aN hV,hy,h⟩
 have I:∀ w',?Lq1 w'->Below w w w':=λw' h=>h.2.2.2.2.2.2.2.2.2.2.2.2
 have O:∀ w',?Lq1 w'->(∃ U y1 y2 y3 Y,w'.heap[w.heap.size]?=some (.cells #[U,y1,y2,y3,Y] 36 (0,0))):=λw' h=>h.2.2.2.2.2.2.2.2.2.2.2.1
 have aJ:∀ w' T,?Lq1 w'->Below w' w' T->?Lq1 T:=λw' T h h2=>HS T ((I w' h).n h2) (by
  obtain ⟨U,y1,y2,y3,Y,hy⟩:=O w' h
  exact ⟨U,y1,y2,y3,Y,kB h2 hy⟩)
 have Z:∀ w' a b c d e,?Lq1 w'->?Lq1 (Zl w' w a b c d e):=λw' a b c d e h=>HS _ (Zd (I w' h) (Q9 _)) (by
  obtain ⟨U,y1,y2,y3,Y,hy⟩:=O w' h
  exact ⟨a,b,c,d,e,Yd hy⟩)
 unfold Zl at Z
 have HC:=Qq (λW' (h':?Lq1 W')=>(aH.o W' (I _ h')).mono (R':=λe w2=>∃ q3 l3 q4 l4,e=.returned (.agg (Is v q3 l3 q4 l4))/\Z9 (λb=>S0 b/\b<w) w2 (Il v q3 l3 q4 l4) v/\?Lq1 w2) (by
  rintro e w2 ⟨bW,rfl,h3,h4⟩
  obtain ⟨q3,l3,q4,l4,aB,_⟩:=Z9.cells h3
  subst aB
  exact ⟨q3,l3,q4,l4,rfl,h3,aJ _ _ h' h4⟩))
 obtain ⟨aU,aG,aK,aI⟩:=It (HS w1.drew aO.drew ⟨_,_,_,_,_,aM⟩) I O Z
 clear HS I aJ O Z aH G h6 hk hV he he0 hx hev hr aO d0 d1 d2 d3 d4 d5 d6 d7 d8 aL aN aM bV
 go_enter func132,ntmps132
 go_upto_region 1 with fail
 go_region_held3 ?Lq1 (first | with_reducible exact aU.o | with_reducible exact J | with_reducible exact aI.o _ _ _ _ _ _ J)
  (first
   | (go_at_call 91;refine (HC.o _ AN).mono ?_;rintro e w2 ⟨q3,l3,q4,l4,rfl,aP,J⟩;obtain ⟨g0,g1,g2,g3,g4,r2⟩:=aK.o _ J;obtain ⟨f0,f1,f2,f3,f4⟩:=Ip r2;obtain ⟨U,y1,y2,y3,Y⟩:=If r2;have aV:=Qq r2;clear r2))
 have aT:=Qq (aG.o _ J);have aW:=Qq aP
 clear aP J
 go_wp2_with fail
 show bodyPost _ _ _ _ _ (AI w2 w v q3 l3 q4 l4)
 refine Q7 (v:=.agg (Is v q3 l3 q4 l4)) (by simp [results,results132,go_sem,Ze aV.o]) rfl ⟨_,rfl,?_,Zd aT.o (Q9 _)⟩
 exact Z9.move aW.o (λb hb _=>Zf (by have:=hb.2;omega)) (λ_ _ h=>h.1)
def J2 (f:Ex->Option Val):List Ex->Option (List Val)
 | []=>some []
 | e::es=>match f e,J2 f es with
  | some v,some vs=>some (v::vs)
  | _,_=>none
theorem Bm (f:Ex->Option Val) (e:Ex) (v:Val) (hv:f e=some v):∀ (es:List Ex) (l:List Val),J2 f es=some l->J2 f (es++[e])=some (l++[v])
 | [],l,h=>by simp only [J2,Zv] at h;subst h;simp [J2,hv]
 | x::es,l,h=>by
  simp only [J2] at h
  cases hx:f x with
  | none=>rw [hx] at h;cases h
  | some u=>
   cases hs:J2 f es with
   | none=>rw [hx,hs] at h;cases h
   | some vs=>
    rw [hx,hs] at h
    simp only [Zv] at h
    subst h
    simp [J2,hx,Bm f e v hv es vs hs]
theorem Ba (f:Ex->Option Val) (e:Ex) (hv:f e=none):∀ (es:List Ex),e ∈ es->J2 f es=none
 | [],h=>by cases h
 | x::es,h=>by
  rcases Z3.1 h with rfl | h
  ·simp [J2,hv]
  simp only [J2,Ba f e hv es h];cases f x <;> rfl
mutual
def Vw:Ex->Bool
 | .mk k _ _ _ _ _ kids _ _=>!([4,10,15,16].any λy=>decide (y=k))&&Lk kids
def Lk:List Ex->Bool
 | []=>true
 | e::l=>Vw e&&Lk l
end
theorem Fr (l:List Ex):Lk l=!(l.any λe=>!Vw e):=by
 induction l with
 | nil=>rfl
 | cons e l ih=>simp only [Lk,ih,List.any_cons,Bool.not_or,Bool.not_not]
theorem Gn {T:Type} {l:List T} {k:Nat} {x:T} (h:l[k]?=some x):l.take (k+1)=l.take k++[x]:=by rw [List.take_add_one,h];rfl
def Lf (x:Bs) (ns:List Bs) (vs:List Val):Nat->Option Val
 | 0=>none
 | i+1=>if ns[i]?=some x then vs[i]? else Lf x ns vs i
def opV (f:Ex->Option Val) (nm:Bs):List Ex->Option Val
 | [a]=>if nm=[110,111,116] then (f a).bind λu=>if u.kind=2 then some (V6 (decide (u.n=0))) else none else none
 | [a,b]=>if nm=[110,111,116] then none else (f a).bind λu=>
  if nm=[97,110,100] then (if u.kind=2 then (if u.n=0 then some u else (f b).bind λv=>if v.kind=2 then some v else none) else none)
  else if nm=[111,114] then (if u.kind=2 then (if u.n=1 then some u else (f b).bind λv=>if v.kind=2 then some v else none) else none)
  else (f b).bind λv=>two nm u v
 | _=>none
def Bb (f:Ex->List Bs->List Val->Option Val) (names binds:List Bs) (kids:List Ex) (ns:List Bs) (vs:List Val):Option Val:=
 (kids[0]?.bind λx=>f x ns vs).bind λv=>if v.kind=3 then (match Vh names v.s with
  | some i=>(kids[i+1]?).bind λx=>if binds.getD i []=[] then f x ns vs else (match v.kids with
   | [u]=>f x (ns++[binds.getD i []]) (vs++[u])
   | _=>none)
  | none=>none) else none
theorem S6 {l:List Bs} {x:Bs} {j:Nat} (h:l[j]?=some x) (hb:∀ y ∈ l.take j,y≠x):Vh l x=some j:=by
 obtain ⟨hj,he⟩:=Qj h
 unfold Vh
 rw [List.findIdx?_eq_some_iff_getElem]
 refine ⟨hj,by simpa using he,λi hi=>?_⟩
 have h2:=hb l[i] (List.mem_take_iff_getElem.2 ⟨i,Ia,rfl⟩)
 simpa using h2
theorem R1 {l:List Bs} {x:Bs} (hb:∀ y ∈ l,y≠x):Vh l x=none:=by
 unfold Vh
 rw [List.findIdx?_eq_none_iff]
 intro y hy
 simpa using hb y hy
section
variable {f:Ex->List Bs->List Val->Option Val} {names binds ns:List Bs} {kids:List Ex} {vs:List Val} {x0 x1:Ex} {v u:Val} {j:Nat} {z:Bs}
theorem matV_no (h0:kids[0]?=some x0) (hv:f x0 ns vs=none):Bb f names binds kids ns vs=none:=by
 unfold Bb;rw [h0];show (f x0 ns vs).bind _=none;rw [hv];rfl
theorem Qqm (h0:kids[0]?=some x0) (hv:f x0 ns vs=some v) (hk:v.kind≠3):Bb f names binds kids ns vs=none:=by
 unfold Bb;rw [h0];show (f x0 ns vs).bind _=none;rw [hv];exact if_neg hk
theorem Qqh (h0:kids[0]?=some x0) (hv:f x0 ns vs=some v) (hn:Vh names v.s=none):Bb f names binds kids ns vs=none:=by
 unfold Bb;rw [h0];show (f x0 ns vs).bind _=none;rw [hv]
 show (if v.kind=3 then _ else none)=none
 rw [hn];split <;> rfl
theorem matV_at (h0:kids[0]?=some x0) (hv:f x0 ns vs=some v) (hk:v.kind=3) (hn:Vh names v.s=some j) (h1:kids[j+1]?=some x1) (hz:binds[j]?=some z):Bb f names binds kids ns vs=if z=[] then f x1 ns vs else (match v.kids with | [u]=>f x1 (ns++[z]) (vs++[u]) | _=>none):=by
 unfold Bb;rw [h0];show (f x0 ns vs).bind _=_;rw [hv]
 show (if v.kind=3 then _ else none)=_
 rw [if_pos hk,hn]
 show (kids[j+1]?).bind _=_
 rw [h1]
 have e:binds.getD j []=z:=by rw [Qs,hz];rfl
 rw [e];rfl
end
section
variable {f:Ex->Option Val} {nm:Bs} {kids:List Ex} {x0 x1:Ex} {v u:Val}
theorem B0 (hk:kids.length=2) (h0:kids[0]?=some x0) (h1:kids[1]?=some x1):kids=[x0,x1]:=by
 match kids,hk with
 | [a,b],_=>cases h0;cases h1;rfl
theorem Ck (h:f x0=none):opV f nm [x0,x1]=none:=by
 show (if nm=[110,111,116] then none else (f x0).bind _)=none
 rw [h]
 split <;> rfl
theorem Hb (n0:¬ nm=[97,110,100]) (n1:¬ nm=[111,114]) (n2:¬ nm=[110,111,116]) (h0:f x0=some v):opV f nm [x0,x1]=(f x1).bind λu=>two nm v u:=by
 show (if nm=[110,111,116] then none else (f x0).bind _)=_
 rw [if_neg n2,h0]
 show (if nm=[97,110,100] then _ else _)=_
 rw [if_neg n0,if_neg n1]
theorem opV_not (hk:kids.length=1) (h0:kids[0]?=some x0) (hn:nm=[110,111,116]):opV f nm kids=(f x0).bind λu=>if u.kind=2 then some (V6 (decide (u.n=0))) else none:=by
 match kids,hk with
 | [a],_=>cases h0;exact if_pos hn
theorem opV_and (hk:kids.length=2) (h0:kids[0]?=some x0) (h1:kids[1]?=some x1) (hn:nm=[97,110,100]):opV f nm kids=(f x0).bind λu=>if u.kind=2 then (if u.n=0 then some u else (f x1).bind λv=>if v.kind=2 then some v else none) else none:=by
 rw [B0 hk h0 h1]
 subst hn
 show (if ([97,110,100]:Bs)=[110,111,116] then none else (f x0).bind _)=_
 rw [if_neg Ih]
 congr 1
theorem opV_or (hk:kids.length=2) (h0:kids[0]?=some x0) (h1:kids[1]?=some x1) (hn:nm=[111,114]):opV f nm kids=(f x0).bind λu=>if u.kind=2 then (if u.n=1 then some u else (f x1).bind λv=>if v.kind=2 then some v else none) else none:=by
 rw [B0 hk h0 h1]
 subst hn
 show (if ([111,114]:Bs)=[110,111,116] then none else (f x0).bind _)=_
 rw [if_neg Ih]
 congr 1
end
theorem Sl.int {S:Nat->Prop} {w:World} {p:Option Addr} {n cap:Nat} {xs:List Int} (h:Sl Ff S w (.slice p n cap) xs) {i:Nat} {x:Int} (hx:xs[i]?=some x):
  ∃ b off,p=some ⟨b,off,none⟩/\Ii w b (off+i) x/\True:=by
 obtain ⟨p',c',h1,_,h3⟩:=h
 simp only [Qr] at h1
 obtain ⟨rfl,_,_⟩:=h1
 obtain ⟨b,off,e,_,_,hc⟩:=h3 (by intro e;subst e;simp at hx)
 obtain ⟨cs,h4,h5⟩:=hc i x hx
 refine ⟨b,off,e,?_,trivial⟩
 have:=h4 0 (.int .i64 x) (by rw [h5];rfl)
 rwa [Nat.add_zero,show Ff.k=1 from rfl,Nat.mul_one] at this
theorem Ws (S:Nat->Prop) (v:Value) (l:List Int) (x:Int) (w:World) (hs:Sl Ff S w v l):
  Calls prog 166 #[v,x] w λe w'=>e=.returned (.int .i64 (X8 (λy=>decide (y=x)) l))/\w=w':=by
 obtain ⟨p,cap,rfl,hl⟩:=hs.len
 have HS:=Qq hs
 clear hs
 obtain ⟨n,G⟩:=eX (l.length)
 rw [G] at HS hl;rw [G]
 have HN:=Qq G
 clear G
 go_enter func166,ntmps166
 go_wp2_with fail
 go_loop [8] (λi=>∃ k:Nat,k<=n/\i=.int .i64 k/\Aside (∀ (j:Nat) (y:Int),j<k->l[j]?=some y->decide (y=x)=false)) (λi=>n - (intOf i).toNat)
 case atStart=>exact ⟨0,Q8 _,rfl,λj _ hj=>absurd hj (Z6 _)⟩
 obtain ⟨k,hk,rfl,A⟩:=hrel
 by_cases hlt:k<n
 ·have O:(0:Int)<=(k:Int):=Ia
  have T:(k:Int)<(n:Int):=Ia
  obtain ⟨y,D⟩:∃ y,l[k]?=some y:=⟨_,Qx (by rw [HN.o];exact hlt)⟩
  obtain ⟨b,U,rfl,hc,-⟩:=HS.o.int D
  have HY:=Qq D
  clear D
  by_cases he:y=x
  ·have hq:(x==y)=true:=by rw [he];simp
   have J:decide (x=y)=true:=by rw [he];simp
   have I:=Qq he
   clear he
   go_wp2_with fail
   go_ret
   refine ⟨?_,rfl⟩
   rw [Jk HY.o (by rw [I.o];simp) A.o]
   rfl
  have hq:(x==y)=false:=by rw [<- Qt,beq_iff_eq];exact λe=>he e.symm
  have J:decide (x=y)=false:=by simpa using λe=>he e.symm
  have I:=Qq he
  clear he
  go_wp2_with fail
  go_round
  case measure=>simp [intOf];omega
  case rel=>
   refine ⟨k+1,Ia,by go_num,(show Aside _ from λj z hj M=>?_)⟩
   by_cases e:j=k
   ·subst e
    have:=HY.o
    rw [this] at M
    cases M
    simpa using I.o
   exact A.o j z Ia M
 have N:¬ (k:Int)<(n:Int):=Ia
 have:k=n:=Ia
 subst this
 go_wp2_with fail
 go_ret
 refine ⟨?_,rfl⟩
 rw [U9 (λj y D=>A.o j y (by have:=(Qj D).1;have:=HN.o;omega) D)]
 rfl
theorem T7 (S:Nat->Prop) (v:Value) (l:List Int) (x:Int) (w:World) (hs:Sl Ff S w v l):
  Calls prog 128 #[v,x] w λe w'=>e=.returned (.bool (l.any λy=>decide (y=x)))/\w=w':=by
 rw [<- Dl]
 have HI:=Qq (λW=>Ws S v l x W)
 have HS:=Qq hs
 clear hs
 generalize X8 _ l=i at HI |-
 go_enter func128,ntmps128
 go_wp2_with (go_at_call 166;refine (HI.o _ HS.o).mono ?_;rintro e w' ⟨rfl,rfl⟩)
 go_ret
 exact ⟨rfl,rfl⟩
def Og (e:Ex):Prop:=∀ (S:Nat->Prop) (cs:List Value) (w:World),Yx S w cs e ->
 Calls prog 88 #[cs] w λr w'=>r=.returned (.bool (Vw e))/\Below w w w'
theorem Qqq (S:Nat->Prop) (kids:List Ex) (ih:∀ x ∈ kids,Og x) (w:World):Uv prog 130 #[] Vz S kids (λe=>!Vw e) w:=by
 intro W x cs hb hx D
 have HI:=Qq (λW' (h':Below W W W')=>ih x hx S cs W' (Vz.frame D (.f h')))
 obtain ⟨k,s1,n,s2,p1,n1,c1,p2,n2,c2,p3,n3,c3,a,z,A⟩:=Yx.cells (show Yx S W cs x from D)
 subst A
 show Calls prog 130 #[.agg (AW k s1 n s2 p1 n1 c1 p2 n2 c2 p3 n3 c3 a z)] W (λe w'=>e=.returned (.bool (!Vw x))/\Below W W w')
 generalize Vw x=b at HI |-
 clear hb hx D ih
 go_enter func130,ntmps130
 go_wp2_with (go_at_call 88;refine (HI.o _ (Zg _ _)).mono ?_;rintro e w' ⟨rfl,hw⟩)
 go_ret
 exact ⟨rfl,(Zg _ _).n hw⟩
theorem sl_ints4 (w:World) (a b c d:Int) (g:Nat) (E:TypeId) (h:w.heap[g]?=some (.cells #[a,b,c,d] E (0,0))):Sl Ff (λ_=>True) w (.slice (some ⟨g,0,none⟩) 4 4) [a,b,c,d]:=by
 refine Sl.of_css (r:=Ff) (xs:=[a,b,c,d]) (css:=[[.int .i64 a],[b],[c],[d]]) Ib ?_ trivial (Z8 h) (λj u hu=>?_)
 ·exact (Cs.one (r:=Ff) rfl).app ((Cs.one (r:=Ff) rfl).app ((Cs.one (r:=Ff) rfl).app (Cs.one (r:=Ff) rfl)))
 rw [Nat.zero_add,Qk _ _ _ _ _ _ h]
 simpa using hu
theorem Cd (k:Int) (nm:Bs) (n:Int) (s:Bs) (names binds:List Bs) (kids:List Ex) (a z:Int) (ih:∀ x ∈ kids,Og x):Og (.mk k nm n s names binds kids a z):=by
 intro S cs w h
 obtain ⟨nv,bv,kv,rfl,hm,hs,hn,hb,G⟩:=Yy.1 h
 obtain ⟨np,nc,rfl,_⟩:=hn.len
 obtain ⟨bp,bc,rfl,_⟩:=hb.len
 obtain ⟨kp,kc,rfl,J⟩:=G.len
 have HC:=Qq (λW (hb:Below w w W)=>Ph Tryz.cfExpr Vz isAgg46 sizeOf46 130 #[] (enters_of func130 Ir rfl) S (.slice kp kids.length kc) kids W (λe=>!Vw e) (G.below hb) (Qqq S kids ih W))
 have D:=Qq (λW g (h:W.heap[g]?=some (.cells #[.int .i64 4,.int .i64 10,.int .i64 15,.int .i64 16] 3 (0,0)))=>T7 _ (.slice (some ⟨g,0,none⟩) 4 4) [4,10,15,16] k W (sl_ints4 W 4 10 15 16 g _ h))
 have hF:Vw (.mk k nm n s names binds kids a z)=(!([4,10,15,16].any λy=>decide (y=k))&&!(kids.any λe=>!Vw e)):=by rw [Vw,Fr]
 rw [hF]
 obtain ⟨q,I⟩:=eX (([4,10,15,16].any λy=>decide (y=k)))
 obtain ⟨q2,A⟩:=eX ((kids.any λe=>!Vw e))
 rw [I] at D
 rw [A] at HC
 rw [I,A]
 clear hF I A h hn hb G ih
 unfold sv
 cases q
 ·rw [Bool.not_false,Bool.true_and]
  go_enter func88,ntmps88
  go_wp2_with fail
  refine (D.o _ (w+1) (Q6 _ _ _)).mono ?_
  rintro e w1 ⟨rfl,rfl⟩
  go_wp2_with (go_at_call 129;refine (HC.o _ (Zs _ _ _)).mono ?_;rintro e w' ⟨rfl,hw⟩)
  go_ret
  exact ⟨rfl,(Zs _ _ _).n hw⟩
 go_enter func88,ntmps88
 go_wp2_with fail
 refine (D.o _ (w+1) (Q6 _ _ _)).mono ?_
 rintro e w1 ⟨rfl,rfl⟩
 go_wp2_with fail
 go_ret
 exact ⟨rfl,Zs _ _ _⟩
theorem Ot:∀ x:Ex,Og x
 | .mk k nm n s names binds kids a z=>Cd k nm n s names binds kids a z λx _=>Ot x
termination_by x=>SizeOf.sizeOf x
decreasing_by
 have:=List.sizeOf_lt_of_mem ‹_ ∈ kids›
 simp only [Ex.mk.sizeOf_spec]
 omega
end Go.Proofs.YtdpibdpbgokmoaaGreatDoor
