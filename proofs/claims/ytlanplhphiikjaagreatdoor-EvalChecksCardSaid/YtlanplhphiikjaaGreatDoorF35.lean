import Derived.Test.YtlanplhphiikjaaGreatDoorF33
import Derived.Test.YtlanplhphiikjaaGreatDoorF22
import Derived.Test.YtlanplhphiikjaaGreatDoorF28
set_option maxRecDepth 100000
set_option maxHeartbeats 400000000
namespace Go.Proofs.YtlanplhphiikjaaGreatDoor
open Go.RowKit Go.Shelf Go.Lib Tryz
theorem Nt (S:Nat->Prop) (g l k:Nat) (c:Int) (v:Val) (cs:List Value) (w:World) (hl:l<=1048576) (hM:Xw g w k c) (hv:Z5 S w cs v) (r:Except Int (Val × Nat)) (hr:(c=0/\r=.ok (v,k))\/(c≠0/\r=.error c)):
  Calls prog 110 #[Om g,cs,(l:Int)] w fun e w'=>∃ cs',e=.returned (.tuple #[.agg cs'.toArray,(Dv l r),(Kc r)])/\Z5 (fun b=>S b/\b<w) w' cs' (Uo r)/\Below w w w':=by
 have U:Z5 (fun b=>S b/\b<w) w cs v:=hv.move (.refl _ _) (fun b hb h=>⟨h,hb⟩)
 obtain ⟨q3,l3,q4,l4,V,_⟩:=Z5.cells U
 simp only [vcs] at V
 subst V
 have aG:=hM.lt
 obtain ⟨li,M⟩:∃ li:Int,(l:Int)=li:=⟨_,rfl⟩
 obtain ⟨Z,Y⟩:∃ Z:Int,(k:Int)=Z:=⟨_,rfl⟩
 have i1:0<=li:=Oa
 have i2:0<=Z:=Oa
 have i3:Z<=1048576:=by have:=hM.2;omega
 have i4:li<=1048576:=Oa
 obtain ⟨HV,HM,HR,HL,HK⟩:=Pw U hM hr M Y
 rw [M]
 obtain ⟨ru,O⟩:=eX (Dv l r)
 obtain ⟨re,N⟩:=eX (Kc r)
 obtain ⟨rv,T⟩:=eX (Uo r)
 rw [O,N,T]
 obtain ⟨G,D,I⟩:=Px O N T
 clear hv U hM hr M Y O N T
 go_enter func110,ntmps110
 go_upto_region 1 with fail
 generalize J:(w.alloc _).alloc _=w2
 have L:=eqB J (Zl _ _ _)
 have h0:=eqH (b:=w.heap.size) J (Q0 _ _ _)
 have h1:=eqH (b:=w.heap.size+1) J (Q1 _ _ _)
 have hg:=(HM.out.below L).1
 obtain ⟨a0,a1,a2,a3,a4⟩:=row5 h0
 obtain ⟨b0,b1,b2,b3,b4⟩:=row5 h1
 obtain ⟨f0,f1,f2,f3,f4⟩:=frz5 h1
 have m2:=rA2 hg;have m4:=rA4 hg
 rw [HK.out] at m2
 have H1:=Qq h1;have HB:=Qq L
 have n1:w.heap.size+1≠g:=Oa
 have n2:g≠w.heap.size+1:=Oa
 have n3:w≠w.heap.size+1:=Oa
 clear h0 h1 L J hg
 rcases HR.out with ⟨rfl,rfl⟩ | ⟨hc,rfl⟩
 ·obtain rfl:v=rv:=I.out
  obtain rfl:(0:Int)=re:=D.out
  have hu:li - Z=ru:=by rw [<- G.out,<- HL.out,<- HK.out];rfl
  clear HR I D G
  go_wp2_with fail
  go_region
  go_wp2_with fail
  show bodyPost _ _ _ _ _ (Zn w2 (w+1) v.kind v.n v.s (.slice q3 v.names.length l3) (.slice q4 v.kids.length l4)).drew
  refine Q2 (v:=.tuple #[.agg (Ou v q3 l3 q4 l4),ru,On]) (by simp [results,results110,go_sem,Z8 H1.out]) rfl ⟨_,rfl,?_,(Z7 HB.out Oa).drew⟩
  exact HV.out.move (fun b hb _=>(Za (by have:=hb.2;omega)).trans (HB.out.block b hb.2)) (fun b _ h=>h)
 obtain rfl:Val.zero=rv:=I.out
 obtain rfl:c=re:=D.out
 obtain rfl:(0:Int)=ru:=G.out
 have hq:(c != 0)=true:=by simpa using hc
 clear HR I D G
 go_wp2_with fail
 go_region
 go_wp2_with fail
 show bodyPost _ _ _ _ _ (Zn w2 (w+1) On On Oo Ot Ot).drew
 exact Q2 (v:=.tuple #[Pn,On,c]) (by simp [results,results110,go_sem,Z8 H1.out]) rfl ⟨[On,On,Oo,Ot,Ot],rfl,Zu (s:=[]) Od (Sl.nil _ _ _) (Sl.nil _ _ _),(Z7 HB.out Oa).drew⟩
theorem Mw (S0 S1:Nat->Prop) (ms:ByteArray) (ev:Value) (cs:List Value) (e:Ex) (env:List (Bs × Val)) (l:Nat) (r:Except Int (Val × Nat)) (w:World) (hl:l<=1048576) (hx0:Yj S0 w cs e) (he0:Sl Zs S1 w ev env) (hev:Un e env l r):
  Calls prog 57 #[Ot,Ot,.string ms,ev,.agg cs.toArray,(l:Int)] w (fun e w'=>∃ cs,e=.returned (.tuple #[.agg cs.toArray,(Dv l r),(Kc r)])/\Z5 (fun _=>True) w' cs (Uo r)/\Below w w w'):=by
 have hx:Yj (fun b=>b<w) w cs e:=hx0.move (.refl _ _) (fun b hb _=>hb)
 have he:Sl Zs (fun b=>b<w) w ev env:=he0.mono (fun b hb _=>hb)
 obtain ⟨HX,HE,bA⟩:=Px hx he hev
 obtain ⟨li,aE⟩:∃ li:Int,(l:Int)=li:=⟨_,rfl⟩
 have bX:0<=li:=Oa
 have bY:li<=1048576:=Oa
 have aQ:min li 1048576=li:=Oa
 obtain ⟨ek,bU,en,bV,bR,bO,bL,bS,bP,bM,bT,bQ,bN,ea,ez,rfl⟩:=Yj.cells hx
 obtain ⟨p,cap,rfl,_⟩:=he.len
 rw [aE]
 have bB:=Qq aE
 have aC:=Qq (fun S g k c v cs W (hM:Xw g W k c) (hv:Z5 S W cs v) (hr:(c=0/\r=.ok (v,k))\/(c≠0/\r=.error c))=>Nt S g l k c v cs W hl hM hv r hr)
 rw [aE] at aC
 obtain ⟨ru,aS⟩:=eX (Dv l r)
 obtain ⟨re,aR⟩:=eX (Kc r)
 obtain ⟨rv,aT⟩:=eX (Uo r)
 rw [aS,aR,aT] at aC |-
 clear aS aR aT
 clear hx he hx0 he0 hev aE
 go_enter func57,ntmps57
 go_upto_region 3 with fail
 generalize Y:((w.alloc _).alloc _).alloc _=w3
 have aD:=eqB Y (Yr _ _ _ _)
 have h0:=eqH (b:=w.heap.size) Y (Ze _ _ _ _)
 have h1:=eqH (b:=w.heap.size+1) Y (Zf _ _ _ _)
 have hg:w3.heap[w.heap.size+1+1]?=some (.cells #[Ot,Ot,li,On,On] 166 (0,0)):=by rw [<- Y,<- aQ];exact Z9 _ _ _ _
 obtain ⟨c0,c1,c2,c3,c4,c5,c6,c7,c8⟩:=row9 h0
 have hM:Xw (w+1+1) w3 l 0:=⟨by rw [bB.out];exact hg,hl⟩
 have L:=Qq (bA.out _ _ (w+1+1) ms _ _ w3 (HX.out.move (.of_below aD) P8) (HE.out.below aD) (fun b h=>Oa) (fun b h=>Oa) hM)
 have H1:=Qq h1;have HB:=Qq aD
 have T:=Z3 h1
 obtain ⟨g,aP⟩:=eX (w.heap.size+1+1)
 rw [aP] at L |-
 have bW:w.heap.size+1<g:=Oa
 have aF:w.heap.size<=g:=Oa
 clear h0 h1 aD Y hg hM aP
 cases r with
 | error c=>
  go_upto_region 4 with (go_at_call 109;refine L.out.mono ?_;rintro e w4 ⟨rfl,⟨k,Z⟩,aO,aA⟩;obtain ⟨aH,G,aZ⟩:=Px Z aA aO;clear Z aA aO)
  generalize M:World.alloc w4 _=w5
  have D:=eqB M (Zb _ _)
  have aB:=eqH (b:=w4.heap.size) M (Qw _ _)
  have aK:=Qq (aC.out (fun b=>b≠w+1) g k c Val.zero [On,On,Oo,Ot,Ot] w5 (aH.out.below D) (Yk _ _) (.inr ⟨aZ.out,rfl⟩))
  have V:=kE D (Q5 T G.out.size) ((G.out.keep _ T (by show w+1≠g;omega)).trans H1.out)
  have aI:=Qq V
  have U:=Qq (HB.out.trans (G.out.below.mono aF) |>.trans (D.mono (Ob G.out.size)))
  obtain ⟨x0,x1,x2,x3,x4⟩:=row5 aB
  clear D aB M V
  go_wp2_with fail
  refine aK.out.mono ?_
  rintro e w6 ⟨bD,rfl,O,N⟩
  obtain ⟨s3,t3,s4,t4,J,_⟩:=Z5.cells O
  simp only [vcs] at J
  subst J
  have I:=kB N aI.out
  obtain ⟨aJ,aL,aG⟩:=Px I O N
  obtain ⟨r0,r1,r2,r3,r4⟩:=row5 I
  obtain ⟨f0,f1,f2,f3,f4⟩:=frz5 I
  clear O N I
  go_wp2_with fail
  show bodyPost _ _ _ _ _ (Pk w6 (w+1) rv s3 t3 s4 t4)
  refine Q2 (v:=.tuple #[.agg (Ou rv s3 t3 s4 t4),ru,re]) (by simp [results,results57,go_sem,Z8 aJ.out]) rfl ⟨_,rfl,?_,Z7 (U.out.trans (aG.out.mono (Ob U.out.size))) Oa⟩
  exact aL.out.move (fun b hb _=>Za (by have h:=hb.1;omega)) (fun _ _ _=>trivial)
 | ok o=>
  obtain ⟨v,k⟩:=o
  go_upto_region 4 with (go_at_call 109;refine L.out.mono ?_;rintro e w4 ⟨bK,rfl,aM,Z,aA⟩;obtain ⟨q3,l3,q4,l4,J,_⟩:=Z5.cells aM;simp only [vcs] at J;subst J;obtain ⟨bC,aH,G⟩:=Px aM Z aA;clear aM Z aA)
  generalize M:World.alloc w4 _=w5
  have D:=eqB M (Zb _ _)
  have aB:=eqH (b:=w4.heap.size) M (Qw _ _)
  have aK:=Qq (aC.out _ g k 0 v _ w5 (aH.out.below D) ((bC.out.move (.of_below D) (fun b hb h=>h)).move (S':=fun b=>b≠w+1) (.refl _ _) (fun b _ h=>by have h2:=h.2;rcases h2 with h3 | h3;omega;omega)) (.inl ⟨rfl,rfl⟩))
  have V:=kE D (Q5 T G.out.size) ((G.out.keep _ T (by show w+1≠g;omega)).trans H1.out)
  have aI:=Qq V
  have U:=Qq (HB.out.trans (G.out.below.mono aF) |>.trans (D.mono (Ob G.out.size)))
  obtain ⟨x0,x1,x2,x3,x4⟩:=row5 aB
  clear D aB M V
  go_wp2_with fail
  refine aK.out.mono ?_
  rintro e w6 ⟨bD,rfl,O,N⟩
  obtain ⟨s3,t3,s4,t4,J,_⟩:=Z5.cells O
  simp only [vcs] at J
  subst J
  have I:=kB N aI.out
  obtain ⟨aJ,aL,aG⟩:=Px I O N
  obtain ⟨r0,r1,r2,r3,r4⟩:=row5 I
  obtain ⟨f0,f1,f2,f3,f4⟩:=frz5 I
  clear O N I
  go_wp2_with fail
  show bodyPost _ _ _ _ _ (Pk w6 (w+1) rv s3 t3 s4 t4)
  refine Q2 (v:=.tuple #[.agg (Ou rv s3 t3 s4 t4),ru,re]) (by simp [results,results57,go_sem,Z8 aJ.out]) rfl ⟨_,rfl,?_,Z7 (U.out.trans (aG.out.mono (Ob U.out.size))) Oa⟩
  exact aL.out.move (fun b hb _=>Za (by have h:=hb.1;omega)) (fun _ _ _=>trivial)
theorem Sl.ty {S:Nat->Prop} {w:World} {p:Option Addr} {n cap:Nat} {xs:List Ty} (h:Sl Vf S w (.slice p n cap) xs) {i:Nat} {x:Ty} (hx:xs[i]?=some x):
  ∃ b off tk ts tn t3 n3 l3 t4 n4 l4,p=some ⟨b,off,none⟩/\b<w.heap.size/\Y6 S w [.int .i64 tk,.string ts,.int .i64 tn,.slice t3 n3 l3,.slice t4 n4 l4] x/\Pi w b (off+i*5) (.int .i64 tk) (.string ts) (.int .i64 tn) (.slice t3 n3 l3) (.slice t4 n4 l4):=by
 obtain ⟨q,J,e,hl,hh⟩:=h
 have I:xs≠[]:=by intro h0;subst h0;simp at hx
 obtain ⟨b,off,hq,hS,hb,hc⟩:=hh I
 obtain ⟨cs,D,hr⟩:=hc i x hx
 have G:Y6 S w cs x:=hr
 obtain ⟨tk,ts,tn,t3,n3,l3,t4,n4,l4,rfl⟩:=G.cells
 cases e
 exact ⟨b,off,tk,ts,tn,t3,n3,l3,t4,n4,l4,hq,hb,G,D 0 _ rfl,D 1 _ rfl,D 2 _ rfl,D 3 _ rfl,D 4 _ rfl⟩
theorem veil136 {P:Program} {id:Nat} {b:Bool} {Q:Exit->Act->World->Prop} {a:Act} {w:World} {o0 o1 o2 o3 o4 o5 o6:Oper} {l:List Oper} (h:(Code.region id (List.toArray (o0::Bx o1::o2::Bx o3::o4::o5::Bx o6::l)) b).wp P Q a w):(Code.region id (List.toArray (o0::o1::o2::o3::o4::o5::o6::l)) b).wp P Q a w:=h
theorem Fp (t e:TypeId) (size:Nat) (hu:prog.underlying t=some (.slice e)) (hz:∀ w,(Go.sizeOf e).run prog w=.ok size w) (w:World):
  (Instr.slice t (.slice none 0 0) none (some (.int .i64 0)) (some (.int .i64 0))).run prog w=.ok (.slice none 0 0) w:=by
 simp [Instr.slice,Instr.sliceBounds,Instr.sliceBound,asIntOf,run_underlying hu,hz,go_sem]
theorem ebnd_one:∀ S w cs x,Zs.R S w cs x->∀ u ∈ cs,u.oneCell'=true:=by
 rintro S w cs x ⟨vs,rfl,_,h⟩ u hu
 obtain ⟨p3,k3,p4,k4,rfl,_⟩:=Z5.cells h
 simp only [vcs,Zy,Zx,or_false] at hu
 rcases hu with rfl | rfl | rfl | rfl | rfl | rfl <;> rfl
theorem esl_bnd1 {S:Nat->Prop} {w:World} {b:Nat} {x:Bs} {v:Val} {p3 p4:Option Addr} {k3 k4:Nat} (hb:w.heap[b]?=some (.cells #[x,v.kind,v.n,v.s,.slice p3 v.names.length k3,.slice p4 v.kids.length k4] 116 (0,0))) (hS:S b) (hl:x.length<=1000000)
  (hv:Z5 S w (vcs v p3 k3 p4 k4) v):Sl Zs S w (.slice (some ⟨b,0,none⟩) 1 1) [(x,v)]:=
 Y2 hb hS (Cs.one (r:=Zs) (show Zs.R S w _ (x,v) from ⟨_,rfl,hl,hv⟩)) rfl rfl Od
def EMid (S:Nat->Prop) (w:World) (ms:ByteArray) (env:List (Bs × Val)) (wx:World):Prop:=∃ p c,wx.heap[w.heap.size]?=some (.cells #[.string ms,.slice p 1 c] 160 (0,0))/\wx.heap[w.heap.size+1+1]?=some (.cells #[Oo,Ot] 160 (0,0))/\Sl Zs (fun b=>(S b/\b<w)\/w+3<=b) wx (.slice p 1 c) env/\Below w w wx
theorem ewSl {S0:Nat->Prop} {W w:World} {p:Option Addr} {c B:Nat} {xs:List (Bs × Val)} (h:Mk Zs 116 (fun b=>S0 b\/B<=b) W w (.slice p 1 c) 1 xs) (hB:B<=W):Sl Zs (fun b=>S0 b\/B<=b) w (.slice p 1 c) xs:=by
 obtain ⟨css,hO,hl,_⟩:=h
 exact hO.sl Oa (fun b hb=>.inr Oa) (fun b _ h=>h)
def EWithIs (S:Nat->Prop) (w:World) (ms:ByteArray) (env:List (Bs × Val)) (e:Ending) (w':World):Prop:=∃ p cap,e=.returned (.agg #[.string ms,.slice p 1 cap])/\Sl Zs (fun b=>S b\/w<=b) w' (.slice p 1 cap) env/\Below w w w'
theorem Mu (S:Nat->Prop) (ms:ByteArray) (nm:Bs) (v:Val) (cs:List Value) (w:World) (hv:Z5 S w cs v) (hnm:nm.length<=1000000):
  Calls prog 158 #[.agg #[.string ms,Ot],nm,cs] w (EWithIs S w ms [(nm,v)]):=by
 have V:Z5 (fun b=>S b/\b<w) w cs v:=hv.move (.refl _ _) (fun b hb h=>⟨h,hb⟩)
 obtain ⟨q3,Y,q4,Z,aF,_⟩:=Z5.cells V
 simp only [vcs] at aF
 subst aF
 have HV:=Qq V
 clear hv V
 go_enter func158,ntmps158
 go_upto_region 1 with fail
 generalize I:((w.alloc _).alloc _).alloc _=D
 have aE:=eqB I (Yr _ _ _ _)
 have U:=eqH (b:=w.heap.size) I (Ze _ _ _ _)
 have h1:=eqH (b:=w.heap.size+1) I (Zf _ _ _ _)
 have O:=eqH (b:=w.heap.size+1+1) I (Z9 _ _ _ _)
 have bC:w.heap.size+3<=D.heap.size:=by rw [<- I];simp
 have bB:=Fp 112 116 _ underlying112 sizeOf116
 obtain ⟨i0,j1,j2,j3,j4⟩:=Y3 (P:=prog) (t:=116) (z:=.agg #[Oo,On,On,Oo,Ot,Ot]) (n:=6) (b:=96) Og
 obtain ⟨HJ,aJ,aK,aL⟩:=Py j1 j2 j3 j4
 obtain ⟨H0,H1,H2,HB⟩:=Py U h1 O aE
 obtain ⟨d0,d1⟩:=row2 U
 obtain ⟨x0,x1,x2,x3,x4⟩:=row5 h1
 have f1:=fA 1 U
 clear j1 j2 j3 j4 U h1 O aE I
 have HY:=Qq (esl_bnd1 (S:=But (fun b=>(S b/\b<w)\/w+3<=b) (.slice none 0 0)) (w:=(D.alloc (.cells #[nm,v.kind,v.n,v.s,.slice q3 v.names.length Y,.slice q4 v.kids.length Z] 116 (0,0))).drew) (Qw D _) ⟨.inr Oa,fun e=>by cases e⟩ hnm (HV.out.move (.of_below (HB.out.thn (Zb D _).drew)) (fun b hb h=>⟨.inl h,fun e=>by cases e⟩)))
 have aI:=Qq (show Below D D (D.alloc (.cells #[nm,v.kind,v.n,v.s,.slice q3 v.names.length Y,.slice q4 v.kids.length Z] 116 (0,0))).drew from (Zb _ _).drew)
 refine let_mvar% ?Lq1:=fun w':World=>(Pa w' (w+1) v.kind v.n v.s (.slice q3 v.names.length Y) (.slice q4 v.kids.length Z) (Below w w w'):Prop);?_
 have L:=Qq (fun w' (h:w'.heap[w.heap.size+1]?=D.heap[w.heap.size+1]?) (hb:Below w w w')=>(show ?Lq1 w' from ⟨(Qk _ _ 0 _ _ _ (h.trans H1.out)).trans rfl,(Qk _ _ 1 _ _ _ (h.trans H1.out)).trans rfl,(Qk _ _ 2 _ _ _ (h.trans H1.out)).trans rfl,(Qk _ _ 3 _ _ _ (h.trans H1.out)).trans rfl,(Qk _ _ 4 _ _ _ (h.trans H1.out)).trans rfl,hb⟩))
 have J:=Z3 H1.out
 have aP:=Qq (L.out D.drew rfl HB.out.drew)
 have aR:=Qq (L.out (D.alloc (.cells #[nm,v.kind,v.n,v.s,.slice q3 v.names.length Y,.slice q4 v.kids.length Z] 116 (0,0))).drew ((Zb D _).block _ J) (HB.out.thn (Zb D _)).drew)
 have aM:=Qq (show Mk Zs 116 (fun b=>(S b/\b<w)\/w+3<=b) D _ (.slice none 0 0) 0 [] from Mk.nil aI.out)
 have e1:(D.alloc (.cells #[nm,v.kind,v.n,v.s,.slice q3 v.names.length Y,.slice q4 v.kids.length Z] 116 (0,0))).cell? ⟨w,1,none⟩=some (.slice none 0 0):=kD (Zb D _) (Z3 H0.out) d1
 have e2:(D.alloc (.cells #[nm,v.kind,v.n,v.s,.slice q3 v.names.length Y,.slice q4 v.kids.length Z] 116 (0,0))).drew.cell? ⟨w,1,none⟩=some (.slice none 0 0):=e1
 have e3:D.drew.cell? ⟨w,1,none⟩=some (.slice none 0 0):=d1
 clear x0 x1 x2 x3 x4
 go_cut [] (fun wx=>EMid S w ms [(nm,v)] wx)
 case first=>
  refine veil136 ?_
  have bA:∀ o,Bx o=o:=fun _=>rfl
  go_region_held3 ?Lq1 (first | with_reducible exact aP.out | with_reducible exact aW | with_reducible exact aX | with_reducible exact aR.out)
   (first | (refine Xj (r:=Zs) Of ebnd_one Oe (.tmp 15) (.tmp 19) 112 Oe 116 i0 (.agg #[Oo,On,On,Oo,Ot,Ot]) 96 underlying112 HJ.out aJ.out aK.out aL.out rfl Oa (fun b=>(S b/\b<w)\/w+3<=b) D (D.alloc (.cells #[nm,v.kind,v.n,v.s,.slice q3 v.names.length Y,.slice q4 v.kids.length Z] 116 (0,0))).drew (.slice none 0 0) 0 [] Oe aM.out (.slice (some ⟨D,0,none⟩) 1 1) [(nm,v)] Oe HY.out 1 rfl Oa ?_;intro N M w5 G aV;have aW:=L.out w5 (G.below.block _ J) (HB.out.trans (G.below.mono Oa));have aX:=L.out (w5.setCell ⟨w,1,none⟩ (.slice N 1 M)) ((Z4 (show w+1≠w.heap.size by omega)).trans (G.below.block _ J)) ((HB.out.trans (G.below.mono Oa)).setCell (p:=⟨w,1,none⟩) (Q4 _) _);have r5:=kB G.below H0.out;have s0:=Qk _ _ 0 _ _ _ r5;have s1:=Qk _ _ 1 _ _ _ r5;have g1:=fA 1 r5;simp only [Qa,Qb,Qc] at s0 s1;have aN:=Qq r5;clear r5;have T:=Qq G;clear G aV))
  all_goals
   go_wp2_with fail
   go_meet
   have aZ:=Qd _ _ 1 _ _ (.slice N 1 M) aN.out
   have aU:=(Z4 (u:=.slice N 1 M) (show w.heap.size+1+1≠(⟨w,1,none⟩:Addr).block by show w+1+1≠w.heap.size;omega)).trans (kB T.out.below H2.out)
   exact ⟨N,M,aZ,aU,(ewSl T.out Oa).frame (fun b hb _=>Z4 (by show b≠w;omega)),(HB.out.trans (T.out.below.mono Oa)).setCell (p:=⟨w,1,none⟩) (Q4 _) _⟩
 obtain ⟨N,M,U,O,hs,hb⟩:=hcut
 obtain ⟨w6,rfl⟩:∃ w6,w6=wc:=⟨_,rfl⟩
 obtain ⟨aO,aQ,aH⟩:=Px O hs hb
 obtain ⟨d0,d1⟩:=row2 U
 obtain ⟨r0,r1⟩:=row2 O
 have f0:=fA 0 O;have f1:=fA 1 O
 clear U O hs hb
 go_wp2_with fail
 have hF:=Qd _ _ 1 _ _ (.slice N 1 M) (Qd _ _ 0 _ _ (.string ms) aO.out)
 have aY:=(aH.out.setCell (p:=⟨w+1+1,0,none⟩) (by show w<=w.heap.size+1+1;omega) (.string ms)).setCell (p:=⟨w+1+1,1,none⟩) (by show w<=w.heap.size+1+1;omega) (.slice N 1 M)
 have q0:=Qk _ _ 0 _ _ _ hF;have q1:=Qk _ _ 1 _ _ _ hF
 simp only [List.setIfInBounds_toArray,List.set_cons_zero,List.set_cons_succ,Qa,Qb,Qc] at q0 q1
 exact Q2 (v:=.agg #[.string ms,.slice N 1 M]) (by simp [results,results158,go_sem,q0,q1]) rfl ⟨N,M,rfl,(aQ.out.frame (fun b hb _=>by rw [Z4 (show b≠w+1+1 by omega),Z4 (show b≠w+1+1 by omega)])).mono (fun b _ h=>h.imp And.left (fun h=>Oa)),aY⟩
end Go.Proofs.YtlanplhphiikjaaGreatDoor
