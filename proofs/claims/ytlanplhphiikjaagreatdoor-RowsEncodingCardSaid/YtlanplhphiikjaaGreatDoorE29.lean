import Derived.Test.YtlanplhphiikjaaGreatDoorE21
import Derived.Test.YtlanplhphiikjaaGreatDoorE26
set_option maxRecDepth 100000
set_option maxHeartbeats 400000000
namespace Go.Proofs.YtlanplhphiikjaaGreatDoor
open Go.RowKit Go.Shelf Go.Lib Tryz
theorem kid_any (E V k:Nat) (S0 S':Nat->Prop) (kp:Option Addr) (kc:Nat) (kids:List Ex) (e:Ex) (p:Value) (env:List (Bs × Val)) (v:Val) (w:World) (h6:w.cell? ⟨E,6,none⟩=some (.slice kp kids.length kc)) (hk:Sl Vw S' w (.slice kp kids.length kc) kids) (hV:w.cell? ⟨V,0,none⟩=some p)
  (he0:J9 S0 w p env) (hx:kids[k]?=some e) (hev:EvV e env v):Calls prog 189 #[k,Qxb E,Qxb V] w (L0 S0 w v):=by
 have he:J9 (fun b=>S0 b/\b<w) w p env:=he0.move (.refl _ _) (fun b hb h=>⟨h,hb⟩)
 obtain ⟨q,rfl⟩:=he.ptr
 obtain ⟨O,A,cs,bT,D,_,_,hr,I⟩:=hk.elem hx
 subst bT
 have aI:=Qq (fun W (hb:Below w w W)=>hev (fun b=>S0 b/\b<w) S' cs (.pointer q) W (Vw.frame hr (.of_below hb)) (he.move (.of_below hb) Qyv))
 obtain ⟨ek,bQ,en,bR,bN,bK,bH,bO,bL,bI,bP,bM,bJ,ea,ez,aC⟩:=Y1.cells (show Y1 S' w cs e from hr)
 subst aC
 have aM:=Qv _ _ h6
 have aO:=Qv _ _ hV
 have cA:k<kids.length:=(Qj hx).1
 have bY:(0:Int)<=(k:Int):=Qvu
 have bZ:(k:Int)<(kids.length:Int):=Qvu
 have d0:=I 0 _ rfl
 have d1:=I 1 _ rfl
 have d2:=I 2 _ rfl
 have d3:=I 3 _ rfl
 have d4:=I 4 _ rfl
 have d5:=I 5 _ rfl
 have d6:=I 6 _ rfl
 have d7:=I 7 _ rfl
 have d8:=I 8 _ rfl
 simp only [show Vw.k=9 from rfl,Nat.add_zero] at d0 d1 d2 d3 d4 d5 d6 d7 d8
 obtain ⟨w1,aB⟩:=eX (w.alloc (.cells zV 48))
 have aP:=eqB aB (Ze _ _)
 have bW:w1=w.heap.size+1:=by rw [<- aB];simp
 have aN:=eqH (b:=w.heap.size) aB (Qw _ _)
 refine let_mvar% ?Lq1:=fun w':World=>Qxw w' E 6 (Qxa O A kids.length kc)/\Qxw w' O (A+k*9) ek/\Qxw w' O (A+k*9+1) (.string bQ)/\Qxw w' O (A+k*9+2) en/\Qxw w' O (A+k*9+3) (.string bR)/\Qxw w' O (A+k*9+4) (.slice bN bK bH)/\Qxw w' O (A+k*9+5) (.slice bO bL bI)/\Qxw w' O (A+k*9+6) (.slice bP bM bJ)/\Qxw w' O (A+k*9+7) ea/\Qxw w' O (A+k*9+8) ez/\Qxw w' V 0 (.pointer q)/\(∃ Y y1 y2 y3 Z,w'.heap[w.heap.size]?=some (.cells #[Y,y1,y2,y3,Z] 48 (0,0)))/\Below w w w';?_
 have HS:∀ w',Below w w w'->(∃ Y y1 y2 y3 Z,w'.heap[w.heap.size]?=some (.cells #[Y,y1,y2,y3,Z] 48 (0,0)))->?Lq1 w':=by
  intro w' h hy
  have N:∀ {b j:Nat} {u:Value},b<w->w.cell? ⟨b,j,none⟩=some u->w'.cell? ⟨b,j,none⟩=some u:=fun bU I=>kD h bU I
  exact ⟨N aM h6,N D d0,N D d1,N D d2,N D d3,N D d4,N D d5,N D d6,N D d7,N D d8,N aO hV,hy,h⟩
 have J:∀ w',?Lq1 w'->Below w w w':=fun w' h=>h.2.2.2.2.2.2.2.2.2.2.2.2
 have T:∀ w',?Lq1 w'->(∃ Y y1 y2 y3 Z,w'.heap[w.heap.size]?=some (.cells #[Y,y1,y2,y3,Z] 48 (0,0))):=fun w' h=>h.2.2.2.2.2.2.2.2.2.2.2.1
 have aK:∀ w' U,?Lq1 w'->Below w' w' U->?Lq1 U:=fun w' U h h2=>HS U ((J w' h).thn h2) (by
  obtain ⟨Y,y1,y2,y3,Z,hy⟩:=T w' h
  exact ⟨Y,y1,y2,y3,Z,kB h2 hy⟩)
 have aA:∀ w' a b c d e,?Lq1 w'->?Lq1 (Zp w' w a b c d e):=fun w' a b c d e h=>HS _ (Zf (J w' h) (Q9 _)) (by
  obtain ⟨Y,y1,y2,y3,Z,hy⟩:=T w' h
  exact ⟨a,b,c,d,e,Vx hy⟩)
 unfold Zp at aA
 have HC:=Qq (fun W' (h':?Lq1 W')=>(aI.out W' (J _ h')).mono (R':=fun e w2=>∃ q3 l3 q4 l4,e=.returned (.agg (Qxf v q3 l3 q4 l4))/\Za (fun b=>S0 b/\b<w) w2 (vcs v q3 l3 q4 l4) v/\?Lq1 w2) (by
  rintro e w2 ⟨bX,rfl,h3,h4⟩
  obtain ⟨q3,l3,q4,l4,aC,_⟩:=Za.cells h3
  subst aC
  exact ⟨q3,l3,q4,l4,rfl,h3,aK _ _ h' h4⟩))
 obtain ⟨aV,aH,aL,aJ⟩:=Qxo (HS w1.drew aP.drew ⟨_,_,_,_,_,aN⟩) J T aA
 clear HS J aK T aA aI I h6 hk hV he he0 hx hev hr aP d0 d1 d2 d3 d4 d5 d6 d7 d8 aM aO aN bW
 go_enter func189,ntmps189
 go_upto_region 1 with fail
 go_region_held3 ?Lq1 (first | with_reducible exact aV.out | with_reducible exact M | with_reducible exact aJ.out _ _ _ _ _ _ M)
  (first
   | (go_at_call 125;refine (HC.out _ Qxy).mono ?_;rintro e w2 ⟨q3,l3,q4,l4,rfl,aQ,M⟩;obtain ⟨g0,g1,g2,g3,g4,r2⟩:=aL.out _ M;obtain ⟨f0,f1,f2,f3,f4⟩:=frz5 r2;obtain ⟨Y,y1,y2,y3,Z⟩:=row5 r2;have aW:=Qq r2;clear r2))
 have aU:=Qq (aH.out _ M);have aX:=Qq aQ
 clear aQ M
 go_wp2_with fail
 show bodyPost _ _ _ _ _ (Qxl w2 w v q3 l3 q4 l4)
 refine Q7 (v:=.agg (Qxf v q3 l3 q4 l4)) (by simp [results,results189,go_sem,Zd aW.out]) rfl ⟨_,rfl,?_,Zf aU.out (Q9 _)⟩
 exact Za.move aX.out (fun b hb _=>Zi (by have:=hb.2;omega)) (fun _ _ h=>h.1)
theorem T5 (us:List Sm) (B Y:Nat) (S:Nat->Prop) (ps:Option Addr) (ns nc:Nat) (T:Ty) (cty:List Value) (rows:List Val) (p:Val->Bool) (w:World) (hB0:w.cell? ⟨B,0,none⟩=some (.slice ps ns nc)) (hct:∀ j u,cty[j]?=some u->w.cell? ⟨Y,j,none⟩=some u) (hYl:Y<w)
  (hsm:Sl Ka S w (.slice ps ns nc) us) (hty:Xc S w cty T) (hp:∀ x ∈ rows,X6 x/\Bb us x T (p x)) (hK:Vp w):Ui prog 63 #[Qxb B,Qxb Y] Zc S rows p w:=by
 intro W x cs hb J I
 have A:=hty.move (.of_below hb) Qyv
 have HC:=Qq (fun W' (h':Below W W W')=>hasGood us x T (p x) (hp x J).1 (hp x J).2 S S S cs cty ps ns nc W' ((hsm.below hb).below h') (Za.move (show Za S W cs x from I) (.of_below h') Qyv) (A.move (.of_below h') Qyv) ((hK.below hb).below h'))
 obtain ⟨k,s,n,names,kids⟩:=T
 obtain ⟨y3,m3,y4,m4,rfl,_⟩:=A.cells'
 obtain ⟨p3,k3,p4,k4,D,_⟩:=Za.cells (show Za S W cs x from I)
 simp only [vcs] at D
 subst D
 have b0:=kC hb hB0
 have d:=fun j u hj=>(hb.cell (p:=⟨Y,j,none⟩) hYl).trans (hct j u hj)
 have d0:=d 0 _ rfl
 have d1:=d 1 _ rfl
 have d2:=d 2 _ rfl
 have d3:=d 3 _ rfl
 have d4:=d 4 _ rfl
 have N:Y<W.heap.size:=Qv W _ d0
 have M:B<W.heap.size:=Qv W _ b0
 show Calls prog 63 #[.agg (Qxf x p3 k3 p4 k4),Qxb B,Qxb Y] W (fun e w'=>e=.returned (.bool (p x))/\Below W W w')
 generalize p x=b at HC |-
 clear d hct hty hb J I A hp hB0 hK hsm
 go_enter func63,ntmps63
 go_wp2_with (go_at_call 64;refine (HC.out _ (Ze _ _)).mono ?_;rintro e w' ⟨rfl,hw⟩)
 go_ret
 exact ⟨rfl,(Ze _ _).thn hw⟩
theorem con2_any (us:List Sm) (B:Nat) (S0 S3:Nat->Prop) (ps:Option Addr) (ns nc:Nat) (t:Tbl) (ct:List Value) (rv:Value) (rows:List Val) (p:Val->Bool) (w:World) (hB0:w.cell? ⟨B,0,none⟩=some (.slice ps ns nc)) (ht:Zl.R S0 w ct t) (hr:Sl Zc S3 w rv rows)
  (hsm:Sl Ka (fun b=>b<w) w (.slice ps ns nc) us) (ho:Srt Fq t.columns) (hl:t.columns.length<=19) (hne:t.columns≠[]) (hp:∀ x ∈ rows,X6 x/\Bb us x (Nm t) (p x)) (hK:Vp w):
  Calls prog 60 #[ct,rv,Qxb B] w (Gx S3 w (Xp 9 p rows)):=by
 have aI:=Qq (fun W (hb:Below w w W)=>row_any S0 t ct W (Zl.frame ht (.of_below hb)) ho hl hne)
 have bL:=Qv _ _ hB0
 have HU:=Qq (fun W Y N (hb:Below w w W) (hct:∀ j u,N[j]?=some u->W.cell? ⟨Y,j,none⟩=some u) (hY:Y<W) (D:Xc (fun _=>True) W N (Nm t))=>Px 9 63 #[Qxb B,Qxb Y] (enters_of func63 Qxx rfl) (fun b=>S3 b/\b<w) rv rows p W ((hr.mono (fun b hb h=>⟨h,hb⟩)).below hb)
  (fun W' x cs h1 h2 h3=>T5 us B Y (fun _=>True) ps ns nc (Nm t) N rows p W (kD hb bL hB0) hct hY ((hsm.mono (fun _ _ _=>trivial)).below hb) D hp (hK.below hb) W' x cs h1 h2 (Za.move h3 (.refl _ _) (fun _ _ _=>trivial))))
 obtain ⟨bU,bT,bZ,bY,cH,cG,k9,cI,n9,cJ,cD,cA,bQ,cE,cB,bR,cF,cC,bS,a9,z9,I,_⟩:=Yj ht
 simp only [tcs] at I
 subst I
 obtain ⟨rp,rc,rfl,_⟩:=hr.len
 obtain ⟨f,hf⟩:=eX (Xp 9 p rows)
 rw [hf] at HU |-
 clear ht hr hf hp hK ho hl hne hB0 hsm
 go_enter func60,ntmps60
 go_wp2_with fail
 refine (aI.out _ (Zu _ _ _)).mono ?_
 rintro e w1 ⟨N,rfl,D,U⟩
 have J:=D
 generalize hT:Nm t=T at D J HU
 obtain ⟨tk,ts,tn,A,M⟩:=T
 obtain ⟨y3,m3,y4,m4,bM,_⟩:=J.cells'
 subst bM
 have bI:=Qq D;have bC:=Qq ((Zu w _ _).thn U)
 have bH:=Qq ((U.block (w+1) Qxz).trans (Q6 w _ _))
 have bK:=Qq (show w+2<=w1.heap.size by have:=U.size;simp at this;omega)
 clear D J U hT
 go_upto_region 2 with fail
 obtain ⟨W2,O⟩:=eX (w1.alloc (.cells #[tk,ts,tn,.slice y3 A.length m3,.slice y4 M.length m4] 65))
 rw [O]
 have V:=eqB O (Ze _ _)
 have aE:=eqH (b:=w1.heap.size) O (Qw _ _)
 have aF:=Qq (bC.out.thn V)
 have aH:=Qq ((V.block (w+1) (Qxj bK.out)).trans bH.out)
 have bJ:=Qq (HU.out W2 w1 [tk,ts,tn,.slice y3 A.length m3,.slice y4 M.length m4] aF.out (fun j u hj=>by rw [Qk _ _ j _ _ _ aE];simpa using hj) (Z8 aE) (bI.out.move (.of_below V) (fun _ _ _=>trivial)))
 clear O V aE HU
 go_wp2_with fail
 refine bJ.out.mono ?_
 rintro e w5 ⟨bV,rfl,aK,aD⟩
 obtain ⟨p3,k3,p4,k4,q3,l3,q4,l4,I,aL,aN,aM⟩:=Uu aK
 simp only [fcs] at I
 subst I
 have aC:=Qq ((aD.block (w+1) (Z8 aH.out)).trans aH.out)
 have bD:=Qq (aF.out.thn aD)
 obtain ⟨bG,bF,bE⟩:=Qxn aN aM aL
 have fz:=fun j=>Qn _ _ j _ _ aC.out
 have rr:=fun j=>Qk _ _ j _ _ _ aC.out
 obtain ⟨f0,f1,f2,f3,f4,f5,f6,f7,f8,f9,bW,bX⟩:=Qyq fz
 obtain ⟨r0,r1,r2,r3,r4,r5,r6,r7,r8,r9,bN,bO⟩:=Qyq rr
 simp only [Qf,Qg,Qh] at r0 r1 r2 r3 r4 r5 r6 r7 r8 r9 bN bO
 clear fz rr aK aD aN aM aL
 go_wp2_with fail
 obtain ⟨W,hW⟩:=eX (Y9 w5 (w+1) f.code f.table f.row.kind f.row.n f.row.s (.slice p3 f.row.names.length k3) (.slice p4 f.row.kids.length k4) f.other.kind f.other.n f.other.s (.slice q3 f.other.names.length l3) (.slice q4 f.other.kids.length l4))
 have q:∀ j,W.cell? ⟨w+1,j,none⟩=#[.int .i64 f.code,.string ⟨f.table.toArray⟩,.int .i64 f.row.kind,.int .i64 f.row.n,.string ⟨f.row.s.toArray⟩,.slice p3 f.row.names.length k3,.slice p4 f.row.kids.length k4,.int .i64 f.other.kind,.int .i64 f.other.n,.string ⟨f.other.s.toArray⟩,.slice q3 f.other.names.length l3,.slice q4 f.other.kids.length l4][j]?:=fun j=>by rw [<- hW];exact Ya aC.out j
 have aB:∀ b,b≠w.heap.size+1->W.heap[b]?=w5.heap[b]?:=fun b hb=>by rw [<- hW];exact Xz hb
 have aA:Below w w W:=by rw [<- hW];exact Yv bD.out Qvu
 show bodyPost _ _ _ _ _ (Y9 w5 (w+1) f.code f.table f.row.kind f.row.n f.row.s (.slice p3 f.row.names.length k3) (.slice p4 f.row.kids.length k4) f.other.kind f.other.n f.other.s (.slice q3 f.other.names.length l3) (.slice q4 f.other.kids.length l4))
 rw [hW]
 have aG:=Qq aA;have Z:=Qq aB
 obtain ⟨q0,q1,q2,aQ,aR,q5,q6,q7,q8,q9,aO,aP⟩:=Qyq q
 simp only [Qf,Qg,Qh] at q0 q1 q2 aQ aR q5 q6 q7 q8 q9 aO aP
 clear hW aA q aB
 refine Q7 (v:=.agg (Qxi f.code f.table f.row p3 k3 p4 k4 f.other q3 l3 q4 l4)) (by simp [results,results60,go_sem,q0,q1,q2,aQ,aR,q5,q6,q7,q8,q9,aO,aP]) rfl ⟨_,rfl,?_,aG.out⟩
 exact ⟨_,_,rfl,bE.out,Za.move bG.out (fun b hb _=>Z.out b (by have:b<w.heap.size:=hb.2;omega)) (fun _ _ h=>h.1),Za.move bF.out (fun b hb _=>Z.out b (by have:b<w.heap.size:=hb.2;omega)) (fun _ _ h=>h.1)⟩
theorem Mu (S0 S1:Nat->Prop) (s:Sc) (cs:List Value) (lv:Value) (l:List Rel) (w:World) (hs:Vj S0 w cs s) (hl0:Sl Yx S1 w lv l) (hlen:l.length=s.tables.length):
  Calls prog 130 #[cs,lv] w fun e w'=>e=.returned (.bool (Uc s l))/\Below w w w':=by
 obtain ⟨uv,tv,rfl,hu,ht⟩:=hs
 obtain ⟨up,uc,rfl,_⟩:=hu.len
 obtain ⟨tp,tc,rfl,cE⟩:=ht.len
 obtain ⟨lp,lc,rfl,_⟩:=hl0.len
 have HT:=Qq ht;have HL:=Qq hl0
 have mixed:prog.follows .mixedOrders=true:=Qxx
 obtain ⟨n,hn⟩:=eX (s.tables.length)
 rw [hn] at HT cE |-
 have hm:l.length=n:=Qvu
 rw [hm] at HL |-
 have HN:=Qq hn;have HM:=Qq hm
 clear hu ht hl0 hn hm hlen
 obtain ⟨B9,aC⟩:=eX (Uc s l)
 rw [aC]
 have bX:=Qq aC
 clear aC
 have cH:((n:Int) != (n:Int))=false:=Qxz
 go_enter func130,ntmps130
 go_wp2_with fail
 clear cH
 generalize aD:w.alloc _=W1
 have aZ:=eqB aD (Ze _ _)
 have aY:=eqH (b:=w.heap.size) aD (Qw _ _)
 have bV:=Qq aZ;have cB:=Qq aY
 clear aD aZ aY
 go_loopw [5,6] (fun i _ wr=>∃ k:Nat,k<=n/\i=.int .i64 k/\Aside (B9=eqL (fun (t:Tbl) (r:Rel)=>Ul r.rows&&decide (t.name=r.table)) (s.tables.drop k) (l.drop k))/\Aside (Below W1 W1 wr)) (fun i _ _=>n - (intOf i).toNat)
 case atStart=>exact ⟨0,Q8 _,rfl,bX.out.symm,Qz _ _⟩
 obtain ⟨k,hk,rfl,bE,aX⟩:=hrel
 have aT:=Qq (show B9=eqL (fun (t:Tbl) (r:Rel)=>Ul r.rows&&decide (t.name=r.table)) (s.tables.drop k) (l.drop k) from bE)
 clear bE
 have Y:=Qq (show Below W1 W1 wr from aX)
 have J:=Qq (bV.out.thn Y.out)
 have aE:=kB Y.out cB.out
 have cW:=Z8 aE
 obtain ⟨c0,c1⟩:=row2 aE
 clear aX aE c0
 by_cases hlt:k<n
 ·have cX:(0:Int)<=(k:Int):=Qvu
  have cY:(k:Int)<(n:Int):=Qvu
  obtain ⟨r,hr⟩:∃ r,l[k]?=some r:=⟨_,Qx (by rw [HM.out];exact hlt)⟩
  obtain ⟨t,ht⟩:∃ t,s.tables[k]?=some t:=⟨_,Qx (by rw [HN.out];exact hlt)⟩
  obtain ⟨rb,cM,dN,rfl,cJ,_,_,⟨rv,rfl,_,T⟩,aI⟩:=(HL.out.below J.out).elem hr
  obtain ⟨tb,cO,cN,rfl,dD,_,_,hR,bK⟩:=(HT.out.below J.out).elem ht
  obtain ⟨cV,cU,dF,dE,dO,dM,k9,dP,n9,dQ,dJ,dG,cR,dK,dH,cS,dL,dI,cT,a9,z9,bB,_⟩:=Yj hR
  simp only [tcs] at bB
  subst bB
  have d0:=bK 0 _ rfl
  have e0:=aI 0 _ rfl;have e1:=aI 1 _ rfl
  rw [show Zl.k=13 from rfl,Nat.add_zero] at d0
  rw [show Yx.k=2 from rfl] at e0 e1
  rw [Nat.add_zero] at e0
  unfold sv at e0
  obtain ⟨q,m,qc,bJ,bD⟩:∃ q m qc,rv=.slice q m qc/\r.rows.length=m:=by obtain ⟨q,qc,h,_⟩:=T.len;exact ⟨q,_,qc,h,rfl⟩
  subst bJ
  have bZ:=Qq T;have Z:=Qq bD
  have cL:m<=1000000:=by obtain ⟨_,_,_,h⟩:=T.len;omega
  have aB:Hid (B9=((Ul r.rows&&decide (t.name=r.table))&&eqL (fun (t:Tbl) (r:Rel)=>Ul r.rows&&decide (t.name=r.table)) (s.tables.drop (k+1)) (l.drop (k+1)))):=Qq (aT.out.trans (Hs (fun (t:Tbl) (r:Rel)=>Ul r.rows&&decide (t.name=r.table)) ht hr))
  clear hr ht hR bK aI T bD
  by_cases N:r.table=t.name
  ·have bF:(r.table==t.name)=true:=by rw [N];simp
   have bG:(r.table != t.name)=false:=by rw [N];simp
   have cA:=Qq N
   clear N
   go_wp2_with fail
   go_quiet (fail)
   go_wp2_with fail
   obtain ⟨wo,aK⟩:=eX (wr.drewN nq)
   have M:Below wr wr wo:=by rw [<- aK];exact Zn _ _
   rw [aK]
   have aQ:=Qq M
   have E1:=Qq (kD M cJ e1)
   have aU:=Qq (bZ.out.below M)
   have bI:rb<wo.heap.size:=Qxj M.size
   clear aK M e0 e1 d0 c1 bF bG
   go_loopw [6] (fun i wi=>∃ j:Nat,j<=m/\i=.int .i64 ((j:Int)+1)/\Aside (∀ (D:Nat) (x y:Val),D<j->r.rows[D]?=some x->r.rows[D+1]?=some y->Yk x y<0)/\Aside (Below wo wo wi)) (fun i _=>m - (intOf i).toNat)
   case atStart=>exact ⟨0,Q8 _,Qxz,(by intro D _ _ h9;omega),Qz _ _⟩
   obtain ⟨j,hj,rfl,V,aW⟩:=hrel
   have U:=Qq (show ∀ (D:Nat) (x y:Val),D<j->r.rows[D]?=some x->r.rows[D+1]?=some y->Yk x y<0 from V)
   clear V
   have I:=Qq (show Below wo wo wr from aW)
   have e1:=kD I.out bI E1.out
   clear aW
   by_cases hlt2:j+1<m
   ·obtain ⟨x,hx⟩:∃ x,r.rows[j]?=some x:=⟨_,Qx (by rw [Z.out];omega)⟩
    obtain ⟨y,hy⟩:∃ y,r.rows[j+1]?=some y:=⟨_,Qx (by rw [Z.out];omega)⟩
    obtain ⟨xb,bQ,p3,k3,p4,k4,rfl,A,bL,d0,d1,d2,d3,d4⟩:=(aU.out.below I.out).val hx
    obtain ⟨yb,bR,q3,l3,q4,l4,N,cK,bM,f0,f1,f2,f3,f4⟩:=(aU.out.below I.out).val hy
    obtain ⟨rfl,rfl,-⟩:xb=yb/\bQ=bR/\True:=by simpa using N
    have aF:=Jt bL bM
    have bH:rb<wr.heap.size:=Qv _ _ e1
    have D0:=Zm A d0;have D1:=Zm A d1;have D2:=Zm A d2;have D3:=Zm A d3;have D4:=Zm A d4
    have F0:=Zm A f0;have F1:=Zm A f1;have F2:=Zm A f2;have F3:=Zm A f3;have F4:=Zm A f4
    have E2:=Zm bH e1
    have aG:IntKind.i64.wrap (j:Int)=(j:Int):=by rw [IntKind.wrap_i64];omega
    have cZ:(j:Int)<(m:Int):=Qvu
    have dA:(0:Int)<(j:Int)+1:=Qvu
    have dB:(0:Int)<=(j:Int)+1:=Qvu
    have cD:(j:Int)+1<(m:Int):=Qvu
    have dC:(0:Int)<=(j:Int):=Qvu
    have aH:((j:Int)+1).toNat=j+1:=Qvu
    generalize bA:Yk x y=c at aF
    have aR:=Qq bA;have O:=Qq (Qe hx hy)
    clear bA
    have cP:=Qq aG;have cQ:=Qq aH
    clear hx hy N bL bM cK d0 d1 d2 d3 d4 f0 f1 f2 f3 f4
    by_cases hneg:c<0
    ·have aS:Hid (∀ (D:Nat) (x y:Val),D<j+1->r.rows[D]?=some x->r.rows[D+1]?=some y->Yk x y<0):=Qq (by
      intro D x' y' cC bO bP
      rcases Nat.lt_succ_iff_lt_or_eq.1 cC with h9 | rfl
      ·exact U.out D x' y' h9 bO bP
      cases bO.symm.trans O.out.1;cases bP.symm.trans O.out.2
      rw [aR.out];exact hneg)
     have hq:decide (0<=c)=false:=by simpa using hneg
     go_wp2_with fail
     go_quiet_grown (first | (go_at_call 74;refine Calls.grown_of (aF _ _)))
     clear aG aH
     go_wp2_with fail
     go_roundw
     case measure=>simp [intOf];omega
     case rel=>exact ⟨j+1,Qvu,by go_num,aS.out,I.out.thn (Y7 _ _ _).bl⟩
    have aA:Hid (B9=false):=Qq (by
     rw [aB.out,Rk O.out.1 O.out.2 (by rw [aR.out];exact hneg)];rfl)
    have hq:decide (0<=c)=true:=by simp;omega
    go_wp2_with fail
    go_quiet_grown (first | (go_at_call 74;refine Calls.grown_of (aF _ _)))
    clear aG aH
    go_wp2_with fail
    go_ret
    exact ⟨by rw [aA.out];rfl,((J.out.thn aQ.out).thn I.out).thn (Y7 _ _ _).bl⟩
   have bY:Hid (B9=eqL (fun (t:Tbl) (r:Rel)=>Ul r.rows&&decide (t.name=r.table)) (s.tables.drop (k+1)) (l.drop (k+1))):=Qq (by
    have h9:Ul r.rows=true:=(Ba _).2 fun D x y hx hy=>U.out D x y (by
     have:=(Qj hy).1
     have:=Z.out
     omega) hx hy
    rw [aB.out,h9,decide_eq_true cA.out.symm];rfl)
   have cD:¬ (j:Int)+1<(m:Int):=Qvu
   go_wp2_with fail
   go_roundw
   case measure=>simp [intOf];omega
   case rel=>exact ⟨k+1,Qvu,by go_num,bY.out,(Y.out.thn aQ.out).thn I.out⟩
  have bF:(r.table==t.name)=false:=by rw [<- Qt,beq_iff_eq];exact N
  have bG:(r.table != t.name)=true:=by rw [bne_iff_ne];exact N
  have aA:Hid (B9=false):=Qq (by
   rw [aB.out,decide_eq_false (fun h9=>N h9.symm),Bool.and_false,Bool.false_and])
  clear N
  go_wp2_with fail
  go_quiet (fail)
  go_wp2_with fail
  go_ret
  exact ⟨by rw [aA.out];rfl,J.out.thn (Zn _ _)⟩
 have bC:k=n:=Qvu
 subst bC
 go_wp2_with fail
 go_ret
 refine ⟨?_,J.out⟩
 rw [aT.out,<- HN.out,List.drop_length,List.drop_of_length_le (by rw [HM.out,HN.out];exact Q9 _)];rfl
def V6 (v:Val) (b:Bool):Prop:=∀ (S:Nat->Prop) (cs:List Value) (w:World),Za S w cs v->J7 w->Calls prog 88 #[cs] w fun e w'=>e=.returned (.bool b)/\Below w w w'
theorem Qji (v:Val) (b:Bool) (hv:V6 v b) (S:Nat->Prop) (cs:List Value) (w:World) (h:Za S w cs v) (hT:J7 w):
  Calls prog 139 #[cs] w fun e w'=>e=.returned (.bool (!b))/\Below w w w':=by
 have HV:=Qq (fun W (hb:Below w w W)=>hv S cs W (h.move (.of_below hb) Qyv) (hT.of_below hb))
 obtain ⟨p3,k3,p4,k4,A,_⟩:=Za.cells h
 simp only [vcs] at A
 subst A
 clear h hv hT
 go_enter func139,ntmps139
 go_wp2_with (go_at_call 88;refine (HV.out _ (Ze _ _)).mono ?_;rintro e w' ⟨rfl,hw⟩)
 go_ret
 exact ⟨rfl,(Ze _ _).thn hw⟩
def Pb (kids:List Val) (c:Bool):Prop:=∀ (S:Nat->Prop) (v:Value) (w:World),Sl Zc S w v kids->J7 w->Calls prog 94 #[v,.func (.func 139) #[] #[]] w fun e w'=>e=.returned (.bool c)/\Below w w w'
open Classical in
theorem kids_is (kids:List Val) (hk:∀ k ∈ kids,∃ b,V6 k b):∃ c,Pb kids c:=by
 have A:∃ p:Val->Bool,∀ k ∈ kids,V6 k (!(p k)):=by
  refine ⟨fun k=>if h:∃ b,V6 k b then !(Classical.choose h) else false,fun k hm=>?_⟩
  have h:=hk k hm
  simp only [dif_pos h,Bool.not_not]
  exact Classical.choose_spec h
 obtain ⟨p,A⟩:=A
 refine ⟨kids.any p,fun S v w h hT=>?_⟩
 exact Co Tryz.cfVal Zc isAgg48 sizeOf48 139 #[] (enters_of func139 Qxx rfl) S v kids w p h
  (fun W x cs hb hx hr=>by have:=Qji x _ (A x hx) S cs W hr (hT.of_below hb);rwa [Bool.not_not] at this)
theorem Lm {x:Bs} (h:x≠[]):(⟨x.toArray⟩:ByteArray).toList.isEmpty=false:=by
 rw [Lib.toList_data]
 show (bl ⟨x.toArray⟩).isEmpty=false
 rw [B5]
 cases x with
 | nil=>exact absurd rfl h
 | cons=>rfl
theorem J2 {T:Type} {x:List T} (h:x≠[]):(0:Int)<(x.length:Int):=by
 cases x with
 | nil=>exact absurd rfl h
 | cons=>simp only [List.length_cons];omega
def VAt (k n:Int) (sb:ByteArray) (m q:Nat) (c cap b:Bool):Prop:=∀ (p3:Option Addr) (k3:Nat) (p4:Option Addr) (k4:Nat) (w:World),
 (∀ W,Below w w W->Calls prog 94 #[.slice p4 q k4,.func (.func 139) #[] #[]] W fun e w'=>e=.returned (.bool c)/\Below W W w') ->
 (∀ W,Below w w W->Calls prog 137 #[.string sb] W fun e w'=>e=.returned (.bool cap)/\Below W W w') ->
 Calls prog 88 #[.agg #[k,n,.string sb,.slice p3 m k3,.slice p4 q k4]] w fun e w'=>e=.returned (.bool b)/\Below w w w'
theorem vat_a (k:Int) (n:Int) (sb:ByteArray) (m:Nat) (q:Nat) (c:Bool) (cap:Bool) (h0:¬ k=0) (h2:¬ k=2) (hn:¬ n=0):VAt k n sb m q c cap false:=by
 intro p3 k3 p4 k4 w A HC
 replace A:=Qq A;replace HC:=Qq HC
 have e0:(k==0)=false:=by simpa using h0
 have e2:(k==2)=false:=by simpa using h2
 have en:(n==0)=false:=by simpa using hn
 go_enter func88,ntmps88
 go_wp2_with (go_at_call 94;refine (A.out _ (Ze _ _)).mono ?_;rintro e w' ⟨rfl,hw⟩)
 go_ret
 exact ⟨rfl,Ze _ _⟩
theorem vat_b0 (n:Int) (sb:ByteArray) (m:Nat) (q:Nat) (c:Bool) (cap:Bool) (hs:sb.toList.isEmpty=false):VAt 0 n sb m q c cap false:=by
 intro p3 k3 p4 k4 w A HC
 replace A:=Qq A;replace HC:=Qq HC
 go_enter func88,ntmps88
 go_wp2_with (go_at_call 94;refine (A.out _ (Ze _ _)).mono ?_;rintro e w' ⟨rfl,hw⟩)
 go_ret
 exact ⟨rfl,Ze _ _⟩
theorem vat_b2 (n:Int) (sb:ByteArray) (m:Nat) (q:Nat) (c:Bool) (cap:Bool) (hs:sb.toList.isEmpty=false):VAt 2 n sb m q c cap false:=by
 intro p3 k3 p4 k4 w A HC
 replace A:=Qq A;replace HC:=Qq HC
 go_enter func88,ntmps88
 go_wp2_with (go_at_call 94;refine (A.out _ (Ze _ _)).mono ?_;rintro e w' ⟨rfl,hw⟩)
 go_ret
 exact ⟨rfl,Ze _ _⟩
theorem vat_b (k:Int) (sb:ByteArray) (m:Nat) (q:Nat) (c:Bool) (cap:Bool) (h0:¬ k=0) (h1:¬ k=1) (h2:¬ k=2) (h3:¬ k=3) (hs:sb.toList.isEmpty=false):VAt k 0 sb m q c cap false:=by
 intro p3 k3 p4 k4 w A HC
 replace A:=Qq A;replace HC:=Qq HC
 have e0:(k==0)=false:=by simpa using h0
 have e1:(k==1)=false:=by simpa using h1
 have e2:(k==2)=false:=by simpa using h2
 have e3:(k==3)=false:=by simpa using h3
 go_enter func88,ntmps88
 go_wp2_with (go_at_call 94;refine (A.out _ (Ze _ _)).mono ?_;rintro e w' ⟨rfl,hw⟩)
 go_ret
 exact ⟨rfl,Ze _ _⟩
theorem vat_c0 (n:Int) (m:Nat) (q:Nat) (c:Bool) (cap:Bool) (hm:0<m):VAt 0 n ⟨#[]⟩ m q c cap false:=by
 intro p3 k3 p4 k4 w A HC
 replace A:=Qq A;replace HC:=Qq HC
 have em:(0:Int)<(m:Int):=Qvu
 go_enter func88,ntmps88
 go_wp2_with (go_at_call 94;refine (A.out _ (Ze _ _)).mono ?_;rintro e w' ⟨rfl,hw⟩)
 go_ret
 exact ⟨rfl,Ze _ _⟩
theorem vat_c2 (n:Int) (m:Nat) (q:Nat) (c:Bool) (cap:Bool) (hm:0<m):VAt 2 n ⟨#[]⟩ m q c cap false:=by
 intro p3 k3 p4 k4 w A HC
 replace A:=Qq A;replace HC:=Qq HC
 have em:(0:Int)<(m:Int):=Qvu
 go_enter func88,ntmps88
 go_wp2_with (go_at_call 94;refine (A.out _ (Ze _ _)).mono ?_;rintro e w' ⟨rfl,hw⟩)
 go_ret
 exact ⟨rfl,Ze _ _⟩
theorem vat_c1 (sb:ByteArray) (m:Nat) (q:Nat) (c:Bool) (cap:Bool) (hm:0<m):VAt 1 0 sb m q c cap false:=by
 intro p3 k3 p4 k4 w A HC
 replace A:=Qq A;replace HC:=Qq HC
 have em:(0:Int)<(m:Int):=Qvu
 go_enter func88,ntmps88
 go_wp2_with (go_at_call 94;refine (A.out _ (Ze _ _)).mono ?_;rintro e w' ⟨rfl,hw⟩)
 go_ret
 exact ⟨rfl,Ze _ _⟩
theorem vat_c3 (sb:ByteArray) (m:Nat) (q:Nat) (c:Bool) (cap:Bool) (hm:0<m):VAt 3 0 sb m q c cap false:=by
 intro p3 k3 p4 k4 w A HC
 replace A:=Qq A;replace HC:=Qq HC
 have em:(0:Int)<(m:Int):=Qvu
 go_enter func88,ntmps88
 go_wp2_with (go_at_call 94;refine (A.out _ (Ze _ _)).mono ?_;rintro e w' ⟨rfl,hw⟩)
 go_ret
 exact ⟨rfl,Ze _ _⟩
theorem vat_c (k:Int) (m:Nat) (q:Nat) (c:Bool) (cap:Bool) (h0:¬ k=0) (h1:¬ k=1) (h2:¬ k=2) (h3:¬ k=3) (h4:¬ k=4) (hm:0<m):VAt k 0 ⟨#[]⟩ m q c cap false:=by
 intro p3 k3 p4 k4 w A HC
 replace A:=Qq A;replace HC:=Qq HC
 have e0:(k==0)=false:=by simpa using h0
 have e1:(k==1)=false:=by simpa using h1
 have e2:(k==2)=false:=by simpa using h2
 have e3:(k==3)=false:=by simpa using h3
 have e4:(k==4)=false:=by simpa using h4
 have em:(0:Int)<(m:Int):=Qvu
 go_enter func88,ntmps88
 go_wp2_with (go_at_call 94;refine (A.out _ (Ze _ _)).mono ?_;rintro e w' ⟨rfl,hw⟩)
 go_ret
 exact ⟨rfl,Ze _ _⟩
theorem vat_g0 (n:Int) (c:Bool) (cap:Bool) :VAt 0 n ⟨#[]⟩ 0 0 c cap (!c):=by
 intro p3 k3 p4 k4 w A HC
 replace A:=Qq A;replace HC:=Qq HC
 go_enter func88,ntmps88
 go_wp2_with (go_at_call 94;refine (A.out _ (Ze _ _)).mono ?_;rintro e w' ⟨rfl,hw⟩)
 go_ret
 exact ⟨rfl,(Ze _ _).thn hw⟩
theorem vat_g0n (n:Int) (q:Nat) (c:Bool) (cap:Bool) (hq:((q:Int)==0)=false):VAt 0 n ⟨#[]⟩ 0 q c cap false:=by
 intro p3 k3 p4 k4 w A HC
 replace A:=Qq A;replace HC:=Qq HC
 go_enter func88,ntmps88
 go_wp2_with (go_at_call 94;refine (A.out _ (Ze _ _)).mono ?_;rintro e w' ⟨rfl,hw⟩)
 go_ret
 exact ⟨rfl,Ze _ _⟩
theorem vat_g1 (sb:ByteArray) (c:Bool) (cap:Bool) :VAt 1 0 sb 0 0 c cap (!c):=by
 intro p3 k3 p4 k4 w A HC
 replace A:=Qq A;replace HC:=Qq HC
 go_enter func88,ntmps88
 go_wp2_with (go_at_call 94;refine (A.out _ (Ze _ _)).mono ?_;rintro e w' ⟨rfl,hw⟩)
 go_ret
 exact ⟨rfl,(Ze _ _).thn hw⟩
theorem vat_g1n (sb:ByteArray) (q:Nat) (c:Bool) (cap:Bool) (hq:((q:Int)==0)=false):VAt 1 0 sb 0 q c cap false:=by
 intro p3 k3 p4 k4 w A HC
 replace A:=Qq A;replace HC:=Qq HC
 go_enter func88,ntmps88
 go_wp2_with (go_at_call 94;refine (A.out _ (Ze _ _)).mono ?_;rintro e w' ⟨rfl,hw⟩)
 go_ret
 exact ⟨rfl,Ze _ _⟩
theorem vat_g20 (c:Bool) (cap:Bool) :VAt 2 0 ⟨#[]⟩ 0 0 c cap (!c):=by
 intro p3 k3 p4 k4 w A HC
 replace A:=Qq A;replace HC:=Qq HC
 go_enter func88,ntmps88
 go_wp2_with (go_at_call 94;refine (A.out _ (Ze _ _)).mono ?_;rintro e w' ⟨rfl,hw⟩)
 go_ret
 exact ⟨rfl,(Ze _ _).thn hw⟩
theorem vat_g21 (c:Bool) (cap:Bool) :VAt 2 1 ⟨#[]⟩ 0 0 c cap (!c):=by
 intro p3 k3 p4 k4 w A HC
 replace A:=Qq A;replace HC:=Qq HC
 go_enter func88,ntmps88
 go_wp2_with (go_at_call 94;refine (A.out _ (Ze _ _)).mono ?_;rintro e w' ⟨rfl,hw⟩)
 go_ret
 exact ⟨rfl,(Ze _ _).thn hw⟩
theorem vat_g2g (n:Int) (c:Bool) (cap:Bool) (hn:¬ n=0) (hn1:¬ n=1):VAt 2 n ⟨#[]⟩ 0 0 c cap false:=by
 intro p3 k3 p4 k4 w A HC
 replace A:=Qq A;replace HC:=Qq HC
 have en:(n==0)=false:=by simpa using hn
 have D:(n==1)=false:=by simpa using hn1
 go_enter func88,ntmps88
 go_wp2_with (go_at_call 94;refine (A.out _ (Ze _ _)).mono ?_;rintro e w' ⟨rfl,hw⟩)
 go_ret
 exact ⟨rfl,Ze _ _⟩
theorem vat_g2n (n:Int) (q:Nat) (c:Bool) (cap:Bool) (hq:((q:Int)==0)=false):VAt 2 n ⟨#[]⟩ 0 q c cap false:=by
 intro p3 k3 p4 k4 w A HC
 replace A:=Qq A;replace HC:=Qq HC
 go_enter func88,ntmps88
 go_wp2_with (go_at_call 94;refine (A.out _ (Ze _ _)).mono ?_;rintro e w' ⟨rfl,hw⟩)
 go_ret
 exact ⟨rfl,Ze _ _⟩
theorem vat_g3t (sb:ByteArray) (q:Nat) (c:Bool) (hq:(q:Int)<=1):VAt 3 0 sb 0 q c true (!c):=by
 intro p3 k3 p4 k4 w I D
 replace I:=Qq I;replace D:=Qq D
 go_enter func88,ntmps88
 go_wp2_with fail
 refine (D.out _ (Ze _ _)).mono ?_
 rintro e w1 ⟨rfl,A⟩
 have c4:=(A.cell (p:=⟨w,4,none⟩) Qxz).trans (Qk _ _ 4 _ _ _ (Qw w _))
 simp only [Qf,Qg,Qh] at c4
 have HW:=Qq ((Ze w _).thn A)
 clear A
 go_wp2_with (go_at_call 94;refine (I.out _ HW.out).mono ?_;rintro e w' ⟨rfl,A⟩)
 go_ret
 exact ⟨rfl,HW.out.thn A⟩
theorem vat_g3f (sb:ByteArray) (q:Nat) (c:Bool) (hq:(q:Int)<=1):VAt 3 0 sb 0 q c false false:=by
 intro p3 k3 p4 k4 w HK A
 replace HK:=Qq HK;replace A:=Qq A
 go_enter func88,ntmps88
 go_wp2_with fail
 refine (A.out _ (Ze _ _)).mono ?_
 rintro e w1 ⟨rfl,hw⟩
 have HW:=Qq ((Ze w _).thn hw)
 clear hw
 go_wp2_with fail
 go_ret
 exact ⟨rfl,HW.out⟩
theorem vat_g3n (sb:ByteArray) (q:Nat) (c:Bool) (cap:Bool) (hq:¬ (q:Int)<=1):VAt 3 0 sb 0 q c cap false:=by
 intro p3 k3 p4 k4 w A HC
 replace A:=Qq A;replace HC:=Qq HC
 go_enter func88,ntmps88
 go_wp2_with (go_at_call 94;refine (A.out _ (Ze _ _)).mono ?_;rintro e w' ⟨rfl,hw⟩)
 go_ret
 exact ⟨rfl,Ze _ _⟩
theorem vat_g5 (q:Nat) (c:Bool) (cap:Bool) :VAt 5 0 ⟨#[]⟩ 0 q c cap (!c):=by
 intro p3 k3 p4 k4 w A HC
 replace A:=Qq A;replace HC:=Qq HC
 go_enter func88,ntmps88
 go_wp2_with (go_at_call 94;refine (A.out _ (Ze _ _)).mono ?_;rintro e w' ⟨rfl,hw⟩)
 go_ret
 exact ⟨rfl,(Ze _ _).thn hw⟩
theorem vat_gx (k:Int) (q:Nat) (c:Bool) (cap:Bool) (h0:¬ k=0) (h1:¬ k=1) (h2:¬ k=2) (h3:¬ k=3) (h4:¬ k=4) (h5:¬ k=5):VAt k 0 ⟨#[]⟩ 0 q c cap false:=by
 intro p3 k3 p4 k4 w A HC
 replace A:=Qq A;replace HC:=Qq HC
 have e0:(k==0)=false:=by simpa using h0
 have e1:(k==1)=false:=by simpa using h1
 have e2:(k==2)=false:=by simpa using h2
 have e3:(k==3)=false:=by simpa using h3
 have e4:(k==4)=false:=by simpa using h4
 have e5:(k==5)=false:=by simpa using h5
 go_enter func88,ntmps88
 go_wp2_with (go_at_call 94;refine (A.out _ (Ze _ _)).mono ?_;rintro e w' ⟨rfl,hw⟩)
 go_ret
 exact ⟨rfl,Ze _ _⟩
def Sb (w:World) (l:List Rel) (e:Ending) (w':World):Prop:=∃ p cap rvs,e=.returned (.slice p l.length cap)/\U3 w w' (.slice p l.length cap) l rvs/\Below w w w'
structure Ez (w:World) (g n cap:Nat) (l:List Rel) (css0:List (List Value)) (k:Nat) (rvs:List Value) (wx:World):Prop where
 below:Below w w wx
 len:rvs.length=k
 row:wx.ownsRow w 42 2 (.slice (some ⟨g,0,none⟩) n cap) n (Yb (l.take k) rvs++css0.drop k).flatten
 rows:∀ (i:Nat) (r:Rel) (rv:Value),i<k->l[i]?=some r->rvs[i]?=some rv->∃ css,Own Zc 48 (fun b=>b<w) w wx rv r.rows css
 apart:∀ (i j:Nat) (a b:Value) (h:Nat),rvs[i]?=some a->rvs[j]?=some b->a.ownBlock=some h->b.ownBlock=some h->i=j
theorem Ez.next {w wr w4:World} {g n cap:Nat} {l:List Rel} {css0:List (List Value)} {k:Nat} {rvs:List Value} {r:Rel} {rv0 rv':Value} {css:List (List Value)} (hM:Ez w g n cap l css0 k rvs wr) (hn:l.length=n) (hc0:css0.length=n) (hc2:∀ c ∈ css0,c.length=2)
  (hr:l[k]?=some r) (hc:css0[k]?=some [sv r.table,rv0]) (hb:Below wr wr w4) (ho:Own Zc 48 (fun b=>b<w) wr w4 rv' r.rows css):
  Ez w g n cap l css0 (k+1) (rvs++[rv']) (w4.setCell ⟨g,k*2+1,none⟩ rv'):=by
 subst hn
 have hk:=(Qj hr).1
 have hg:=hM.row.lt g rfl
 have aI:=hM.below.size
 have J:(l.take k).length=k:=by rw [Qm];omega
 have Y:(Yb (l.take k) rvs).length=k:=by rw [Jz (by rw [J];exact hM.len),J]
 have U:∀ c ∈ Yb (l.take k) rvs++css0.drop k,c.length=2:=by
  intro c aF
  rcases Z4.1 aF with h | h
  ·exact Kk c h
  exact hc2 c (Zw h)
 have aE:(Yb (l.take k) rvs++css0.drop k)[k]?=some [sv r.table,rv0]:=by
  rw [Zx Qvu,Y,Nat.sub_self,List.getElem?_drop,Nat.add_zero];exact hc
 have V:(Yb (l.take k) rvs++css0.drop k).set k [sv r.table,rv']=Yb (l.take (k+1)) (rvs++[rv'])++css0.drop (k+1):=by
  have hd:css0.drop k=css0[k]'Qvu::css0.drop (k+1):=Qp Qvu
  have hs:Yb (l.take (k+1)) (rvs++[rv'])=Yb (l.take k) rvs++[[sv r.table,rv']]:=by
   unfold Yb
   rw [Zz hk,List.zipWith_append (by rw [J,hM.len])]
   rw [Qx hk] at hr
   rw [Qb hr];rfl
  rw [hd,List.set_append_right _ _ Qvu,Y,Nat.sub_self,List.set_cons_zero,hs,List.append_assoc];rfl
 have aG:∀ h,rv'.ownBlock=some h->h≠g:=fun h e=>by have:=(ho.row.lt h e).1;omega
 refine ⟨(hM.below.thn hb).setCell (p:=⟨g,k*2+1,none⟩) hg.1 _,by rw [Ql,hM.len];rfl,?_,?_,?_⟩
 ·rw [<- V,<- N8 _ k _ rv0 rv' U aE]
  exact ((Vl hM.row (Q9 _) (fun b _ J=>hb.block b J)).stored (k*2+1) rv').1
 ·intro i x u T hx Z
  by_cases e:i=k
  ·subst e
   rw [Zx (by rw [hM.len];exact Q9 _),hM.len,Nat.sub_self] at Z
   simp at Z;subst Z
   rw [hr] at hx;cases hx
   refine ⟨css,ho.move Qvu (fun b A h=>Z9 (fun e=>?_))⟩
   have e':b=g:=e
   rcases h with h | h
   ·have h':b<w.heap.size:=h;omega
   exact aG b h e'
  rw [List.getElem?_append_left (by rw [hM.len];omega)] at Z
  obtain ⟨cs,I⟩:=hM.rows i x u Qvu hx Z
  have aH:u.ownBlock≠some g:=Yp hM.row I.row Qxv rfl
  refine ⟨cs,I.move (Q9 _) (fun b A h=>?_)⟩
  have:b≠g:=by
   intro e'
   rcases h with h | h
   ·have h':b<w.heap.size:=h;omega
   exact aH (e' ▸ h)
  rw [Z9 (fun e2=>this e2),hb.block b A]
 intro i j a b h M A h1 h2
 have N:∀ (i:Nat) (a:Value),i<k->rvs[i]?=some a->a.ownBlock=some h->h<wr.heap.size:=by
  intro i a T M hh
  obtain ⟨x,hx⟩:∃ x,l[i]?=some x:=⟨_,Qx Qvu⟩
  obtain ⟨cs,I⟩:=hM.rows i x a T hx M
  exact (I.row.lt h hh).2
 have D:∀ (i:Nat) (a:Value),¬ i<k->(rvs++[rv'])[i]?=some a->i=k/\a=rv':=by
  intro i a T M
  rw [Zx (by rw [hM.len];omega),hM.len] at M
  have h0:=(Qj M).1
  simp at h0
  have:i=k:=Qvu
  subst this
  simp at M
  exact ⟨rfl,M.symm⟩
 by_cases T:i<k
 ·have O:=M
  rw [List.getElem?_append_left (by rw [hM.len];exact T)] at O
  by_cases I:j<k
  ·rw [List.getElem?_append_left (by rw [hM.len];exact I)] at A
   exact hM.apart i j a b h O A h1 h2
  obtain ⟨rfl,rfl⟩:=D j b I A
  have:=N i a T O h1
  have:=(ho.row.lt h h2).1
  omega
 obtain ⟨rfl,rfl⟩:=D i a T M
 by_cases I:j<i
 ·rw [List.getElem?_append_left (by rw [hM.len];exact I)] at A
  have:=N j b I A h2
  have:=(ho.row.lt h h1).1
  omega
 obtain ⟨rfl,_⟩:=D j b I A
 rfl
theorem Ez.done {w wr:World} {g n cap:Nat} {l:List Rel} {css0:List (List Value)} {rvs:List Value} (hM:Ez w g n cap l css0 n rvs wr) (hn:l.length=n) (hc0:css0.length=n) (htl:∀ r ∈ l,r.table.length<=1000000):U3 w wr (.slice (some ⟨g,0,none⟩) n cap) l rvs:=by
 subst hn
 have A:=hM.row
 rw [Zj (Q9 _),Qu Qvu,List.append_nil] at A
 refine ⟨hM.len,A,htl,fun i r rv hr N=>?_,hM.apart⟩
 obtain ⟨cs,hj⟩:=hM.rows i r rv (Qj hr).1 hr N
 refine ⟨cs,⟨hj.row,hj.cs.move (.refl _ _) (fun b hb J=>⟨⟨fun e=>?_,fun u hu e=>?_⟩,J.2⟩)⟩⟩
 ·have h':b<w.heap.size:=J.1
  have:=(A.lt b e).1
  omega
 have h':b<w.heap.size:=J.1
 obtain ⟨j,I⟩:=Zk hu
 have D:j<l.length:=by rw [<- hM.len];exact (Qj I).1
 obtain ⟨O,M⟩:=hM.rows j _ u D (Qx D) I
 have:=(M.row.lt b e).1
 omega
theorem Aw (S0:Nat->Prop) (lv:Value) (l:List Rel) (w:World) (hl0:Sl Yx S0 w lv l):
  Calls prog 92 #[lv] w (Sb w l):=by
 have hl:Sl Yx (fun b=>b<w) w lv l:=hl0.mono (fun b hb _=>hb)
 have N:=Qq (cloneRel _ lv l w hl)
 obtain ⟨lp,lc,rfl,aY⟩:=hl.len
 clear hl0 hl
 obtain ⟨n,hn⟩:=eX (l.length)
 unfold Uv at N
 rw [hn] at N aY |-
 have I:=Qq hn
 clear hn
 go_enter func92,ntmps92
 go_wp2_with fail
 refine N.out.mono ?_
 rintro e w1 ⟨p,cap,A,rfl,hO,aG⟩
 have J:=Qq hO;have V:=Qq aG
 clear hO aG N
 by_cases hn0:n=0
 ·subst hn0
  go_wp2_with fail
  go_loopw [10] (fun i wr=>i=.int .i64 0/\w1=wr) (fun _ _=>0)
  case atStart=>exact ⟨rfl,rfl⟩
  obtain ⟨rfl,rfl⟩:=hrel
  go_wp2_with fail
  go_ret
  have hl0:l=[]:=Zy I.out
  subst hl0
  refine ⟨p,cap,[],rfl,⟨rfl,?_,Qxz,fun i r rv h=>by simp at h,fun i j a b g h=>by simp at h⟩,V.out⟩
  have h1:w1.ownsRow w 42 2 (.slice p 0 cap) 0 A.flatten:=J.out.row
  have h2:A=[]:=Zy J.out.cs.len
  rw [h2] at h1
  exact h1
 obtain ⟨g,bC,hv,bE,bF⟩:=J.out.row.form (by rw [I.out];omega)
 simp only [Qr] at hv
 obtain ⟨rfl,-,rfl⟩:=hv
 go_wp2_with fail
 go_loopw [10] (fun i wr=>∃ (k:Nat) (rvs:List Value),k<=n/\i=.int .i64 k/\Ez w g n cap l A k rvs wr) (fun i _=>n - (intOf i).toNat)
 case atStart=>
  refine ⟨0,[],Q8 _,rfl,V.out,rfl,?_,fun i r rv h=>absurd h (Z6 _),fun i j a b h ha=>by simp at ha⟩
  have h1:w1.ownsRow w 42 2 (.slice (some ⟨g,0,none⟩) n cap) l.length A.flatten:=J.out.row
  rw [I.out] at h1
  exact h1
 obtain ⟨k,rvs,bH,rfl,hM⟩:=hrel
 have O:=Qq hM
 clear hM
 by_cases U:k<n
 ·have bG:(0:Int)<=(k:Int):=Qvu
  have aV:(k:Int)<(n:Int):=Qvu
  obtain ⟨r,hr⟩:∃ r,l[k]?=some r:=⟨_,Qx (by rw [I.out];exact U)⟩
  obtain ⟨c,hc⟩:∃ c,A[k]?=some c:=⟨_,Qx (by rw [J.out.cs.len,I.out];exact U)⟩
  obtain ⟨rv,rfl,aM,aB⟩:=J.out.cs.R k c r hc hr
  obtain ⟨rp,rc,rfl,_⟩:=aB.len
  have aL:(Yb (l.take k) rvs).length=k:=by rw [Jz (by rw [Qm,O.out.len,I.out];omega),Qm,I.out];omega
  have M:∀ c ∈ Yb (l.take k) rvs++A.drop k,c.length=2:=by
   intro c aU
   rcases Z4.1 aU with h | h
   ·exact Kk c h
   exact J.out.cs.all c (Zw h)
  have Z:(Yb (l.take k) rvs++A.drop k)[k]?=some [sv r.table,.slice rp r.rows.length rc]:=by
   rw [Zx Qvu,aL,Nat.sub_self,List.getElem?_drop,Nat.add_zero];exact hc
  have l0:=O.out.row.cellAt (k*2) Qvu
  have l1:=O.out.row.cellAt (k*2+1) Qvu
  rw [show (Yb (l.take k) rvs++A.drop k).flatten[k*2]?=some (sv r.table) from V9 (k:=2) M Z (j:=0) rfl] at l0
  rw [show (Yb (l.take k) rvs++A.drop k).flatten[k*2+1]?=some (.slice rp r.rows.length rc) from V9 (k:=2) M Z (j:=1) rfl] at l1
  unfold sv at l0
  have aK:Sl Zc (fun b=>b<w) w (.slice rp r.rows.length rc) r.rows:=(aB.mono (S':=fun b=>b<w) (fun b _ hb=>hb.1)).frame (fun b hb _=>(V.out.block b hb).symm)
  obtain ⟨aT,HR,HC⟩:=Qxn aK hr hc
  have f1:=O.out.row.frozenAt (k*2+1)
  clear hr hc aB aL M Z aK f1
  go_upto_region 5 with fail
  obtain ⟨W5,T⟩:=eX (wr.alloc (.cells #[r.table,.slice rp r.rows.length rc] 42))
  rw [T]
  have aA:=eqB T (Ze _ _)
  have aF:=eqH (b:=wr.heap.size) T (Qw _ _)
  have x1:=rA1 aF
  have aC:=Qq aA
  have aD:=Qq (T1 _ _ _ W5 (aT.out.below (O.out.below.thn aA)))
  clear T aA aF l0 l1
  go_wp2_with fail
  refine aD.out.mono ?_
  rintro e w6 ⟨p6,c6,bD,rfl,aI,aH⟩
  have Y:=aC.out.thn aH
  have D:=Vl O.out.row (Q9 _) (fun b _ U=>Y.block b U)
  have f7:=D.frozenAt (k*2+1)
  have k7:=D.cellAt (k*2+1) Qvu
  have aS:=Qq (aI.move (B':=wr.heap.size) aC.out.size (fun _ _ _=>rfl));have aR:=Qq Y
  obtain ⟨u7,aN⟩:∃ u,(Yb (l.take k) rvs++A.drop k).flatten[k*2+1]?=some u:=by
   cases h:(Yb (l.take k) rvs++A.drop k).flatten[k*2+1]? with
   | some u=>exact ⟨u,rfl⟩
   | none=>
    have h2:=List.getElem?_eq_none_iff.1 h
    have:=D.1
    omega
  rw [aN] at k7
  clear aI aH Y D aN x1 aD
  go_wp2_with fail
  go_roundw
  case measure=>simp [intOf];omega
  case rel=>exact ⟨k+1,rvs++[.slice p6 r.rows.length c6],Qvu,by go_num,O.out.next I.out (by rw [J.out.cs.len];exact I.out) J.out.cs.all HR.out HC.out aR.out aS.out⟩
 obtain rfl:k=n:=Qvu
 have aV:¬ (k:Int)<(k:Int):=Qvu
 go_wp2_with fail
 go_ret
 have aM:∀ r ∈ l,r.table.length<=1000000:=by
  intro r hr
  obtain ⟨i,hi⟩:=Zk hr
  have aW:=(Qj hi).1
  obtain ⟨_,_,h,_⟩:=J.out.cs.R i _ r (Qx (by rw [J.out.cs.len];exact aW)) hi
  exact h
 have hd:=O.out.done I.out (by rw [J.out.cs.len];exact I.out) aM
 refine ⟨some ⟨g,0,none⟩,cap,rvs,by rw [I.out];rfl,by rw [I.out];exact hd,O.out.below⟩
def Fs (r s:Rel):Bool:=eqL eqv r.rows s.rows&&decide (r.table=s.table)
theorem Se {S S':Nat->Prop} {av bv:Value} {a b:List Val} {wr:World} (ha:Sl Zc S wr av a) (hb:Sl Zc S' wr bv b):∀ n os,Calls prog 40 #[av,bv] (Sort.grow (wr.drewN n) os) fun e w'=>e=.returned (.bool (eqL eqv a b))/\Gr (Sort.grow (wr.drewN n) os) w':=
 fun _ _=>Bh S S' av bv a b _ (ha.below (Y7 _ _ _).bl) (hb.below (Y7 _ _ _).bl)
theorem Cj (S S':Nat->Prop) (av bv:Value) (a b:List Rel) (w:World) (ha:Sl Yx S w av a) (hb:Sl Yx S' w bv b):
  Calls prog 10 #[av,bv] w fun e w'=>e=.returned (.bool (eqL Fs a b))/\Gr w w':=by
 obtain ⟨pa,ca,rfl,aG⟩:=ha.len
 obtain ⟨pb,cb,rfl,aH⟩:=hb.len
 have HA:=Qq ha;have HB:=Qq hb
 have mixed:prog.follows .mixedOrders=true:=Qxx
 obtain ⟨r,hr⟩:=eX (eqL Fs a b)
 rw [hr]
 have HR:=Qq hr
 clear ha hb hr
 by_cases hlen:a.length=b.length
 ·obtain ⟨n,hn⟩:=eX (a.length)
  have hm:b.length=n:=Qvu
  have HN:=Qq hn;have HM:=Qq hm
  rw [hn] at HA aG |-
  rw [hm] at HB aH |-
  have hq:((n:Int) != (n:Int))=false:=Qxz
  clear hn hm hlen
  go_enter func10,ntmps10
  go_wp2_with fail
  go_loopw [5,6] (fun i _ wr=>∃ k:Nat,k<=n/\i=.int .i64 k/\Aside (eqL Fs (a.drop k) (b.drop k)=r)/\Aside (Gr w wr)) (fun i _ _=>n - (intOf i).toNat)
  case atStart=>exact ⟨0,Q8 _,rfl,HR.out,Gr.refl _⟩
  obtain ⟨k,hk,rfl,A,hG⟩:=hrel
  have V:=Qq (show Gr w wr from hG);have HE:=Qq (show eqL Fs (a.drop k) (b.drop k)=r from A)
  clear hG A
  by_cases hlt:k<n
  ·have aP:(0:Int)<=(k:Int):=Qvu
   have aQ:(k:Int)<(n:Int):=Qvu
   obtain ⟨x,hx⟩:∃ x,a[k]?=some x:=⟨_,Qx (by rw [HN.out];exact hlt)⟩
   obtain ⟨y,hy⟩:∃ y,b[k]?=some y:=⟨_,Qx (by rw [HM.out];exact hlt)⟩
   obtain ⟨ga,oa,_,rfl,aC,_,_,⟨va,rfl,_,T⟩,N⟩:=(HA.out.below V.out.bl).elem hx
   obtain ⟨gb,ob,_,rfl,aD,_,_,⟨vb,rfl,_,U⟩,O⟩:=(HB.out.below V.out.bl).elem hy
   have aB:=Se T U
   have Z:=N 0 _ rfl;have d1:=N 1 _ rfl;have e0:=O 0 _ rfl;have e1:=O 1 _ rfl
   rw [show Yx.k=2 from rfl] at Z d1 e0 e1
   rw [Nat.add_zero] at Z e0
   obtain ⟨qa,aR,rfl,_⟩:=T.len
   obtain ⟨qb,aS,rfl,_⟩:=U.len
   have D1:=Zm aC d1;have E1:=Zm aD e1
   have D0:=Zm aC Z;have E0:=Zm aD e0
   have I:=Hs Fs hx hy
   rw [HE.out] at I
   rw [show Fs x y=(eqL eqv x.rows y.rows&&decide (x.table=y.table)) from rfl] at I
   generalize eqL eqv x.rows y.rows=c at aB I
   unfold sv at Z e0 D0 E0
   have M:=Qq I
   clear hx hy T U Z d1 e0 e1 I N O
   go_wp2_with fail
   go_quiet_grown (first | (go_at_call 40;refine Calls.grown_of (aB _ _)))
   cases c
   ·have D:r=false:=by rw [M.out];simp
    subst D
    go_wp2_with fail
    go_quiet (fail)
    go_wp2_with fail
    go_ret
    exact ⟨rfl,(V.out.thn (Y7 _ _ _)).thn ⟨_,#[],by rw [Sort.grow_empty]⟩⟩
   by_cases he:x.table=y.table
   ·have hq:(x.table==y.table)=true:=by rw [beq_iff_eq];exact he
    have J:eqL Fs (a.drop (k+1)) (b.drop (k+1))=r:=by rw [M.out];simp [he]
    have Y:=Qq J
    clear J he
    go_wp2_with fail
    go_quiet (fail)
    go_wp2_with fail
    go_roundw
    case measure=>simp [intOf];omega
    case rel=>exact ⟨k+1,Qvu,by go_num,Y.out,(V.out.thn (Y7 _ _ _)).thn ⟨_,#[],by rw [Sort.grow_empty]⟩⟩
   have hq:(x.table==y.table)=false:=by rw [<- Qt,beq_iff_eq];exact he
   have D:r=false:=by rw [M.out];simp [he]
   subst D
   clear he
   go_wp2_with fail
   go_quiet (fail)
   go_wp2_with fail
   go_ret
   exact ⟨rfl,(V.out.thn (Y7 _ _ _)).thn ⟨_,#[],by rw [Sort.grow_empty]⟩⟩
  have aO:¬ (k:Int)<(n:Int):=Qvu
  have:k=n:=Qvu
  subst this
  have D:r=true:=by
   rw [<- HE.out,Qu (by rw [HN.out];exact Q9 _),Qu (by rw [HM.out];exact Q9 _)];rfl
  subst D
  go_wp2_with fail
  go_ret
  exact ⟨rfl,V.out⟩
 have D:r=false:=by rw [<- HR.out];exact Ut Fs a b hlen
 subst D
 have hq:((a.length:Int) != (b.length:Int))=true:=by rw [bne_iff_ne];omega
 clear hlen
 go_enter func10,ntmps10
 go_wp2_with fail
 go_ret
 exact ⟨rfl,Gr.refl _⟩
theorem Qvd (nm:Bs) (n:Int) (s:Bs) (names binds:List Bs) (kids:List Ex) (a z:Int) (d:Nat) (ih:∀ x ∈ kids,Xi d x) (h2:kids.length=2):∀ (S:Nat->Prop) (ce:List Value) (nv vv:Value) (ns:List Bs) (vs:List Val) (w:World),Y1 S w ce (.mk 11 nm n s names binds kids a z)->Sl Zg S w nv ns->Sl Zc S w vv vs->ns.length<=vs.length->vs.length+(d+1)<=1000->(∀ v ∈ vs,Y0 v) ->
  Calls prog 200 #[ce,nv,vv] w (Xy S w (Y5 (d+1) (.mk 11 nm n s names binds kids a z) ns vs)):=by
 intro S ce nv vv ns vs w O cK cM bJ hd hb
 obtain ⟨r,hr⟩:=eX (Y5 (d+1) (.mk 11 nm n s names binds kids a z) ns vs)
 rw [hr]
 have HR:=Qq hr
 clear hr
 have hx:Y1 (fun b=>S b/\b<w) w ce (.mk 11 nm n s names binds kids a z):=O.move (.refl _ _) (fun b hb h=>⟨h,hb⟩)
 have hn:=cK.up
 have hv:=cM.up
 obtain ⟨np,nc,rfl,_⟩:=hn.len
 obtain ⟨vp,vc,rfl,gA⟩:=hv.len
 have fI:=Qq hx
 obtain ⟨gD,bv,kv,rfl,eV,fZ,bS,bQ,hk⟩:=Yd.1 hx
 obtain ⟨p1,c1,rfl,_⟩:=bS.len
 obtain ⟨p2,c2,rfl,_⟩:=bQ.len
 obtain ⟨p3,c3,rfl,fY⟩:=hk.len
 obtain ⟨HN,HV,bL,fH,fE,HK,HI,aG⟩:=Qxt hn hv hb bS bQ hk ih bJ
 clear O cK cM hx hn hv bS bQ hk hb ih bJ
 unfold sv at *
 rw [h2] at HK |-
 obtain ⟨x0,O⟩:∃ x,kids[0]?=some x:=⟨_,Qx Qvu⟩
 obtain ⟨I,M,fN,fP,fO,fQ,fJ,fS,fV,fK,fT,fW,fL,fU,fX,fM,fR,cL,bH,aK,aO,aP,aQ,aR,aS,aT,aU,aV,aW⟩:=HK.out.ex O
 subst cL
 simp only [Nat.zero_mul,Nat.add_zero] at aO aP aQ aR aS aT aU aV aW
 have dO:=Qq (fun W (hW:Below w w W)=>HI.out x0 (Qy O) (fun b=>S b/\b<w) _ _ _ ns vs W (aK.move (.of_below hW) Qyv) (HN.out.below hW) (HV.out.below hW) aG.out Qvu bL.out)
 obtain ⟨fC,dP,fG⟩:=Qxn aK O (Qy O)
 have dM:=Qq (Qe bH (Qe aO (Qe aP (Qe aQ (Qe aR (Qe aS (Qe aT (Qe aU (Qe aV aW)))))))))
 clear aK O bH aO aP aQ aR aS aT aU aV aW
 obtain ⟨x1,aM⟩:∃ x,kids[1]?=some x:=⟨_,Qx Qvu⟩
 obtain ⟨gB,gC,eI,eK,eJ,eL,eE,eN,eQ,eF,eO,eR,eG,eP,eS,eH,eM,bK,bI,aL,U,V,Y,Z,aA,aB,aC,aD,aE⟩:=HK.out.ex aM
 simp only [Zv,Addr.mk.injEq,and_true] at bK
 obtain ⟨rfl,rfl⟩:=bK
 simp only [Nat.one_mul] at U V Y Z aA aB aC aD aE
 have fF:=Qq (fun W (hW:Below w w W)=>HI.out x1 (Qy aM) (fun b=>S b/\b<w) _ _ _ ns vs W (aL.move (.of_below hW) Qyv) (HN.out.below hW) (HV.out.below hW) aG.out Qvu bL.out)
 obtain ⟨cA,dQ,dT⟩:=Qxn aL aM (Qy aM)
 have bU:=Qq (Qe bI (Qe U (Qe V (Qe Y (Qe Z (Qe aA (Qe aB (Qe aC (Qe aD aE)))))))))
 clear aL aM bI U V Y Z aA aB aC aD aE
 have bW:=Qq (HR.out.symm.trans (revF_let dP.out dQ.out))
 go_enter func200,ntmps200
 go_upto_region 16 with fail
 generalize aX:(w.alloc _).alloc _=W1
 have cG:=eqB aX (Zu _ _ _)
 have cF:=eqH (b:=w.heap.size) aX (Q5 _ _ _)
 have bO:=eqH (b:=w.heap.size+1) aX (Q6 _ _ _)
 obtain ⟨A,bM,cB⟩:=Qxn cG cF bO
 have bR:=Z8 bO
 clear aX cG cF bO
 have bG:=((Qq (Qz W1 W1)).out.block _ (Z8 bM.out)).trans bM.out
 have c6:=rA6 bG
 clear bG
 obtain ⟨N,q0,q1,q2,q3,q4,q5,q6,q7,q8⟩:=dM.out
 have aO:=kD A.out N q0;have aP:=kD A.out N q1;have aQ:=kD A.out N q2;have aR:=kD A.out N q3;have aS:=kD A.out N q4;have aT:=kD A.out N q5;have aU:=kD A.out N q6;have aV:=kD A.out N q7;have aW:=kD A.out N q8
 clear N q0 q1 q2 q3 q4 q5 q6 q7 q8
 go_upto_region 17 with (go_at_call 200;refine (dO.out _ A.out).mono ?_;rintro e w5 ⟨k5,n5,s5,bD,bB,aZ,bE,bC,bA,b5,rfl,cN,cH⟩;have bY:=Qq cN;have bV:=Qq cH;clear cN cH)
 generalize bN:w5.alloc _=W6
 have bP:=eqB bN (Ze _ _)
 have cE:=eqH (b:=w5.heap.size) bN (Qw _ _)
 obtain ⟨D,bF,bZ⟩:=Qxn (bV.out.thn bP) cE bP
 clear bN bP cE
 have fD:w.heap.size+1<W6.heap.size:=Qxj D.out.size
 cases b5 with
 | false=>
  obtain ⟨v0,v1,v2,v3,v4⟩:=row5 bF.out
  have T:=kE D.out bR cB.out
  obtain ⟨y0,y1,y2,y3,y4⟩:=row5 T
  obtain ⟨f0,f1,f2,f3,f4⟩:=frz5 T
  have cC:=Qq T
  clear T
  go_wp2_with fail
  show bodyPost _ _ _ _ _ (Zp W6 (w+1) k5 n5 (.string s5) (.slice bD bB aZ) (.slice bE bC bA))
  refine Q7 (v:=.tuple #[.agg #[k5,n5,.string s5,.slice bD bB aZ,.slice bE bC bA],.bool false]) (by simp [results,results200,go_sem,Zd cC.out]) rfl (Xs Qvu (A.out.thn D.out) (by rw [bW.out,bY.out.2 rfl];rfl))
 | true=>
  obtain ⟨v,cR,cP,cQ⟩:=bY.out.1 rfl
  have dX:Hid (r=Y5 d x1 (ns++[nm]) (vs++[v])):=Qq (by rw [bW.out,cQ];rfl)
  clear cQ
  have hE:=Qq (fun W (hW:Below W6 W6 W)=>Lf d x1 (HI.out x1 dT.out) (fun c=>(S c/\c<w)\/W1<=c) _ _ _ ns vs nm v [k5,n5,.string s5,.slice bD bB aZ,.slice bE bC bA] W (cA.out.move (.of_below (A.out.thn (D.out.thn hW))) (fun _ _ h=>.inl h)) ((HN.out.below (A.out.thn (D.out.thn hW))).mono (fun _ _ h=>.inl h)) ((HV.out.below (A.out.thn (D.out.thn hW))).mono (fun _ _ h=>.inl h)) aG.out Qvu bL.out eV (cR.move (.of_below (bZ.out.thn hW)) Qyv) cP)
  unfold sv at hE
  clear cR cP
  go_upto_region 19 with fail
  have aH:=kB D.out bM.out
  have c1:=rA1 aH;have c6:=rA6 aH
  clear aH
  obtain ⟨v0,v1,v2,v3,v4⟩:=row5 bF.out
  obtain ⟨N,q0,q1,q2,q3,q4,q5,q6,q7,q8⟩:=bU.out
  have U:=kD (A.out.thn D.out) N q0;have V:=kD (A.out.thn D.out) N q1;have Y:=kD (A.out.thn D.out) N q2;have Z:=kD (A.out.thn D.out) N q3;have aA:=kD (A.out.thn D.out) N q4;have aB:=kD (A.out.thn D.out) N q5;have aC:=kD (A.out.thn D.out) N q6;have aD:=kD (A.out.thn D.out) N q7;have aE:=kD (A.out.thn D.out) N q8
  clear N q0 q1 q2 q3 q4 q5 q6 q7 q8
  have J:I≠w.heap.size+1:=by have:=bU.out.1;omega
  have aF:w5≠w.heap.size+1:=Qxj bV.out.size
  refine let_mvar% ?Lq1:=fun w':World=>Qxw w' w 1 nm/\Qxw w' w 6 (Qxa I M 2 c3)/\Qxw w' I (M+9) eI/\Qxw w' I (M+9+1) (.string eK)/\Qxw w' I (M+9+2) eJ/\Qxw w' I (M+9+3) (.string eL)/\Qxw w' I (M+9+4) (.slice eE eN eQ)/\Qxw w' I (M+9+5) (.slice eF eO eR)/\Qxw w' I (M+9+6) (.slice eG eP eS)/\Qxw w' I (M+9+7) eH/\Qxw w' I (M+9+8) eM/\Qyd w' w5 k5 n5 (.string s5) (.slice bD bB aZ) (.slice bE bC bA);?_
  have bX:=Qq (fun (w':World) (h:Below W6 W6 w')=>(show ?Lq1 w' from ⟨kC h c1,kC h c6,kC h U,kC h V,kC h Y,kC h Z,kC h aA,kC h aB,kC h aC,kC h aD,kC h aE,kC h v0,kC h v1,kC h v2,kC h v3,kC h v4⟩))
  have HP:∀ w' x0 x1 x2 x3 x4,?Lq1 w'->?Lq1 (Zp w' (w+1) x0 x1 x2 x3 x4):=fun w' x0 x1 x2 x3 x4 h=>⟨Zh Qvu h.1,Zh Qvu h.2.1,Zh J h.2.2.1,Zh J h.2.2.2.1,Zh J h.2.2.2.2.1,Zh J h.2.2.2.2.2.1,Zh J h.2.2.2.2.2.2.1,Zh J h.2.2.2.2.2.2.2.1,Zh J h.2.2.2.2.2.2.2.2.1,Zh J h.2.2.2.2.2.2.2.2.2.1,Zh J h.2.2.2.2.2.2.2.2.2.2.1,Zh aF h.2.2.2.2.2.2.2.2.2.2.2.1,Zh aF h.2.2.2.2.2.2.2.2.2.2.2.2.1,Zh aF h.2.2.2.2.2.2.2.2.2.2.2.2.2.1,Zh aF h.2.2.2.2.2.2.2.2.2.2.2.2.2.2.1,Zh aF h.2.2.2.2.2.2.2.2.2.2.2.2.2.2.2⟩
  unfold Zp at HP
  have dY:=Qq (bX.out W6.drew (Qz _ _).drew);have dW:=Qq HP
  clear HP J aF c1 c6 U V Y Z aA aB aC aD aE v0 v1 v2 v3 v4
  go_region_held3 ?Lq1 (first | with_reducible exact dY.out | with_reducible exact cD | with_reducible exact dW.out _ _ _ _ _ _ cD)
   (first
    | (go_at_call 245;refine (hE.out _ (Qz _ _).drew).mono ?_;rintro e w7 ⟨k7,n7,s7,dA,cU,cS,dC,cV,cT,b7,rfl,cO,cI⟩;have aJ:=(Qz _ W6).drew.thn cI;have cD:=bX.out w7 aJ;have aI:=D.out.thn aJ;have aY:=kE (aI) bR cB.out;obtain ⟨y0,y1,y2,y3,y4⟩:=row5 aY;obtain ⟨f0,f1,f2,f3,f4⟩:=frz5 aY;have eB:=Qq aY;clear aY;have eA:=Qq cO;have dN:=Qq aI;clear cO cI aI aJ))
  all_goals
   go_wp2_with fail
   show bodyPost _ _ _ _ _ (Zp w7 (w+1) k7 n7 (.string s7) (.slice dA cU cS) (.slice dC cV cT))
   refine Q7 (v:=.tuple #[.agg #[k7,n7,.string s7,.slice dA cU cS,.slice dC cV cT],.bool b7]) (by simp [results,results200,go_sem,Zd eB.out]) rfl (Xy.of_eq dX.out (J5 A.out Qvu bR (eA.out.map fun v h1=>h1.move (.refl _ _) (fun c _ hc=>by
     rcases hc with hc | hc
     ·exact hc
     exact .inr (by have:=D.out.size;have h':W6.heap.size<=c:=hc;omega))) dN.out))
theorem reval_if (nm:Bs) (n:Int) (s:Bs) (names binds:List Bs) (kids:List Ex) (a z:Int) (d:Nat) (ih:∀ x ∈ kids,Xi d x) (h2:kids.length=3):∀ (S:Nat->Prop) (ce:List Value) (nv vv:Value) (ns:List Bs) (vs:List Val) (w:World),Y1 S w ce (.mk 12 nm n s names binds kids a z)->Sl Zg S w nv ns->Sl Zc S w vv vs->ns.length<=vs.length->vs.length+(d+1)<=1000->(∀ v ∈ vs,Y0 v) ->
  Calls prog 200 #[ce,nv,vv] w (Xy S w (Y5 (d+1) (.mk 12 nm n s names binds kids a z) ns vs)):=by
 intro S ce nv vv ns vs w O dI dK cC hd hb
 obtain ⟨r,hr⟩:=eX (Y5 (d+1) (.mk 12 nm n s names binds kids a z) ns vs)
 rw [hr]
 have HR:=Qq hr
 clear hr
 have hx:Y1 (fun b=>S b/\b<w) w ce (.mk 12 nm n s names binds kids a z):=O.move (.refl _ _) (fun b hb h=>⟨h,hb⟩)
 have hn:=dI.up
 have hv:=dK.up
 obtain ⟨np,nc,rfl,_⟩:=hn.len
 obtain ⟨vp,vc,rfl,hE⟩:=hv.len
 have fH:=Qq hx
 obtain ⟨hM,bv,kv,rfl,hC,hD,cZ,cY,hk⟩:=Yd.1 hx
 obtain ⟨p1,c1,rfl,_⟩:=cZ.len
 obtain ⟨p2,c2,rfl,_⟩:=cY.len
 obtain ⟨p3,c3,rfl,hB⟩:=hk.len
 obtain ⟨HN,HV,cQ,fG,fC,HK,HI,V⟩:=Qxt hn hv hb cZ cY hk ih cC
 clear O dI dK hx hn hv cZ cY hk hb ih cC
 unfold sv at *
 rw [h2] at HK |-
 obtain ⟨x0,O⟩:∃ x,kids[0]?=some x:=⟨_,Qx Qvu⟩
 obtain ⟨hF,hJ,fU,gA,fX,gD,fI,gJ,gS,fL,gM,gV,fO,gP,gY,fR,gG,dJ,bZ,aJ,Z,aA,aB,aC,aD,aE,aF,aG,aH⟩:=HK.out.ex O
 subst dJ
 simp only [Nat.zero_mul,Nat.add_zero] at Z aA aB aC aD aE aF aG aH
 have dW:=Qq (fun W (hW:Below w w W)=>HI.out x0 (Qy O) (fun b=>S b/\b<w) _ _ _ ns vs W (aJ.move (.of_below hW) Qyv) (HN.out.below hW) (HV.out.below hW) V.out Qvu cQ.out)
 obtain ⟨eZ,dZ,fD⟩:=Qxn aJ O (Qy O)
 have dS:=Qq (Qe bZ (Qe Z (Qe aA (Qe aB (Qe aC (Qe aD (Qe aE (Qe aF (Qe aG aH)))))))))
 clear aJ O bZ Z aA aB aC aD aE aF aG aH
 obtain ⟨x1,aM⟩:∃ x,kids[1]?=some x:=⟨_,Qx Qvu⟩
 obtain ⟨hH,hK,fV,gB,fY,gE,fJ,gK,gT,fM,gN,gW,fP,gQ,gZ,fS,gH,cE,cA,aK,aW,aY,bA,bC,bE,bG,bI,bK,bM⟩:=HK.out.ex aM
 simp only [Zv,Addr.mk.injEq,and_true] at cE
 obtain ⟨rfl,rfl⟩:=cE
 simp only [Nat.one_mul] at aW aY bA bC bE bG bI bK bM
 have dX:=Qq (fun W (hW:Below w w W)=>HI.out x1 (Qy aM) (fun b=>S b/\b<w) _ _ _ ns vs W (aK.move (.of_below hW) Qyv) (HN.out.below hW) (HV.out.below hW) V.out Qvu cQ.out)
 obtain ⟨fA,eA,fE⟩:=Qxn aK aM (Qy aM)
 have dT:=Qq (Qe cA (Qe aW (Qe aY (Qe bA (Qe bC (Qe bE (Qe bG (Qe bI (Qe bK bM)))))))))
 clear aK aM cA aW aY bA bC bE bG bI bK bM
 obtain ⟨x2,aN⟩:∃ x,kids[2]?=some x:=⟨_,Qx Qvu⟩
 obtain ⟨hI,hL,fW,gC,fZ,gF,fK,gL,gU,fN,gO,gX,fQ,gR,hA,fT,gI,cF,cB,aL,aX,aZ,bB,bD,bF,bH,bJ,bL,bN⟩:=HK.out.ex aN
 simp only [Zv,Addr.mk.injEq,and_true] at cF
 obtain ⟨rfl,rfl⟩:=cF
 simp only [Nat.reduceMul] at aX aZ bB bD bF bH bJ bL bN
 have dY:=Qq (fun W (hW:Below w w W)=>HI.out x2 (Qy aN) (fun b=>S b/\b<w) _ _ _ ns vs W (aL.move (.of_below hW) Qyv) (HN.out.below hW) (HV.out.below hW) V.out Qvu cQ.out)
 obtain ⟨fB,eB,fF⟩:=Qxn aL aN (Qy aN)
 have dU:=Qq (Qe cB (Qe aX (Qe aZ (Qe bB (Qe bD (Qe bF (Qe bH (Qe bJ (Qe bL bN)))))))))
 clear aL aN cB aX aZ bB bD bF bH bJ bL bN
 have cR:=Qq (HR.out.symm.trans (revF_if dZ.out eA.out eB.out))
 go_enter func200,ntmps200
 go_upto_region 21 with fail
 generalize bO:(w.alloc _).alloc _=W1
 have dG:=eqB bO (Zu _ _ _)
 have dF:=eqH (b:=w.heap.size) bO (Q5 _ _ _)
 have cW:=eqH (b:=w.heap.size+1) bO (Q6 _ _ _)
 obtain ⟨A,aU,aV⟩:=Qxn dG dF cW
 have bP:=Z8 cW
 clear bO dG dF cW
 have bY:=((Qq (Qz W1 W1)).out.block _ (Z8 aU.out)).trans aU.out
 have c6:=rA6 bY
 clear bY
 obtain ⟨I,q0,q1,q2,q3,q4,q5,q6,q7,q8⟩:=dS.out
 have Z:=kD A.out I q0;have aA:=kD A.out I q1;have aB:=kD A.out I q2;have aC:=kD A.out I q3;have aD:=kD A.out I q4;have aE:=kD A.out I q5;have aF:=kD A.out I q6;have aG:=kD A.out I q7;have aH:=kD A.out I q8
 clear I q0 q1 q2 q3 q4 q5 q6 q7 q8
 go_upto_region 22 with (go_at_call 200;refine (dW.out _ A.out).mono ?_;rintro e w5 ⟨k5,n5,s5,bV,bT,bR,bW,bU,bS,b5,rfl,dL,dH⟩;have cS:=Qq dL;have dV:=Qq dH;clear dL dH)
 generalize cV:w5.alloc _=W6
 have cX:=eqB cV (Ze _ _)
 have dE:=eqH (b:=w5.heap.size) cV (Qw _ _)
 obtain ⟨D,bX,eY⟩:=Qxn (dV.out.thn cX) dE cX
 clear cV cX dE
 have cD:w.heap.size+1<W6.heap.size:=Qxj D.out.size
 clear c6 Z aA aB aC aD aE aF aG aH
 obtain ⟨v0,v1,v2,v3,v4⟩:=row5 bX.out
 have eR:b5=false\/(b5=true/\(k5 != 2)=true)\/(b5=true/\k5=2):=by
  cases b5 with
  | false=>exact .inl rfl
  | true=>
   by_cases h:k5=2
   ·exact .inr (.inr ⟨rfl,h⟩)
   exact .inr (.inl ⟨rfl,by simpa using h⟩)
 rcases eR with rfl | ⟨rfl,hq⟩ | ⟨rfl,rfl⟩
 ·clear v0 v1 v2 v3 v4
  obtain ⟨v0,v1,v2,v3,v4⟩:=row5 bX.out
  have J:=kE D.out bP aV.out
  obtain ⟨y0,y1,y2,y3,y4⟩:=row5 J
  obtain ⟨f0,f1,f2,f3,f4⟩:=frz5 J
  have Y:=Qq J
  clear J
  go_wp2_with fail
  show bodyPost _ _ _ _ _ (Zp W6 (w+1) k5 n5 (.string s5) (.slice bV bT bR) (.slice bW bU bS))
  refine Q7 (v:=.tuple #[.agg #[k5,n5,.string s5,.slice bV bT bR,.slice bW bU bS],.bool false]) (by simp [results,results200,go_sem,Zd Y.out]) rfl (Xs Qvu (A.out.thn D.out) (by rw [cR.out,cS.out.2 rfl];rfl))
 ·have eE:Hid (r=none):=Qq (by
   obtain ⟨v,U,dA,bQ⟩:=cS.out.1 rfl
   rw [cR.out,bQ]
   show (if v.kind=2 then _ else none)=none
   rw [if_neg (by rw [U.head.1];simpa using hq)])
  have J:=kE D.out bP aV.out
  obtain ⟨y0,y1,y2,y3,y4⟩:=row5 J
  obtain ⟨f0,f1,f2,f3,f4⟩:=frz5 J
  have Y:=Qq J
  clear J
  go_wp2_with fail
  show bodyPost _ _ _ _ _ (Zp W6 (w+1) k5 n5 (.string s5) (.slice bV bT bR) (.slice bW bU bS))
  refine Q7 (v:=.tuple #[.agg #[k5,n5,.string s5,.slice bV bT bR,.slice bW bU bS],.bool false]) (by simp [results,results200,go_sem,Zd Y.out]) rfl (Xs Qvu (A.out.thn D.out) eE.out)
 obtain ⟨v,U,dA,bQ⟩:=cS.out.1 rfl
 have dD:Hid (r=if n5=1 then Y5 d x1 ns vs else Y5 d x2 ns vs):=Qq (by
  rw [cR.out,bQ]
  show (if v.kind=2 then (if v.n=1 then _ else _) else none)=_
  rw [if_pos U.head.1,U.head.2.1])
 clear bQ
 have eP:n5=0\/n5=1:=by
  obtain ⟨h1,h2,_⟩:=U.head
  rw [<- h2];exact dA.bool h1
 clear U dA
 have hq:((2:Int) != 2)=false:=rfl
 rcases eP with rfl | rfl
 focus
  have N:=kB D.out aU.out
  have c6:=rA6 N
  clear N
  obtain ⟨I,q0,q1,q2,q3,q4,q5,q6,q7,q8⟩:=dU.out
  have aX:=kD (A.out.thn D.out) I q0;have aZ:=kD (A.out.thn D.out) I q1;have bB:=kD (A.out.thn D.out) I q2;have bD:=kD (A.out.thn D.out) I q3;have bF:=kD (A.out.thn D.out) I q4;have bH:=kD (A.out.thn D.out) I q5;have bJ:=kD (A.out.thn D.out) I q6;have bL:=kD (A.out.thn D.out) I q7;have bN:=kD (A.out.thn D.out) I q8
  clear I q0 q1 q2 q3 q4 q5 q6 q7 q8
  go_wp2_with (go_at_call 200;refine (dY.out _ (A.out.thn D.out)).mono ?_;rintro e w7 ⟨k7,n7,s7,aS,aQ,aO,aT,aR,aP,b7,rfl,aI,T⟩;have M:=kE (D.out.thn T) bP aV.out;obtain ⟨y0,y1,y2,y3,y4⟩:=row5 M;obtain ⟨f0,f1,f2,f3,f4⟩:=frz5 M;have cU:=Qq M;clear M;have cT:=Qq aI;have cP:=Qq T;clear aI T)
  show bodyPost _ _ _ _ _ (Zp w7 (w+1) k7 n7 (.string s7) (.slice aS aQ aO) (.slice aT aR aP))
  refine Q7 (v:=.tuple #[.agg #[k7,n7,.string s7,.slice aS aQ aO,.slice aT aR aP],.bool b7]) (by simp [results,results200,go_sem,Zd cU.out]) rfl (Xy.of_eq (dD.out.trans (if_neg Qxv)) (J5 (A.out.thn D.out) Qvu cD cT.out cP.out))
 focus
  have N:=kB D.out aU.out
  have c6:=rA6 N
  clear N
  obtain ⟨I,q0,q1,q2,q3,q4,q5,q6,q7,q8⟩:=dT.out
  have aW:=kD (A.out.thn D.out) I q0;have aY:=kD (A.out.thn D.out) I q1;have bA:=kD (A.out.thn D.out) I q2;have bC:=kD (A.out.thn D.out) I q3;have bE:=kD (A.out.thn D.out) I q4;have bG:=kD (A.out.thn D.out) I q5;have bI:=kD (A.out.thn D.out) I q6;have bK:=kD (A.out.thn D.out) I q7;have bM:=kD (A.out.thn D.out) I q8
  clear I q0 q1 q2 q3 q4 q5 q6 q7 q8
  go_wp2_with (go_at_call 200;refine (dX.out _ (A.out.thn D.out)).mono ?_;rintro e w7 ⟨k7,n7,s7,aS,aQ,aO,aT,aR,aP,b7,rfl,aI,T⟩;have M:=kE (D.out.thn T) bP aV.out;obtain ⟨y0,y1,y2,y3,y4⟩:=row5 M;obtain ⟨f0,f1,f2,f3,f4⟩:=frz5 M;have cU:=Qq M;clear M;have cT:=Qq aI;have cP:=Qq T;clear aI T)
  show bodyPost _ _ _ _ _ (Zp w7 (w+1) k7 n7 (.string s7) (.slice aS aQ aO) (.slice aT aR aP))
  refine Q7 (v:=.tuple #[.agg #[k7,n7,.string s7,.slice aS aQ aO,.slice aT aR aP],.bool b7]) (by simp [results,results200,go_sem,Zd cU.out]) rfl (Xy.of_eq (dD.out.trans (if_pos Qxv)) (J5 (A.out.thn D.out) Qvu cD cT.out cP.out))
end Go.Proofs.YtlanplhphiikjaaGreatDoor
