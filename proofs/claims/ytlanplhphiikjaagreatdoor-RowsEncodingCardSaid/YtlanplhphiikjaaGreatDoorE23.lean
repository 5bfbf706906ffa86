import Derived.Test.YtlanplhphiikjaaGreatDoorE22
set_option maxRecDepth 100000
set_option maxHeartbeats 400000000
namespace Go.Proofs.YtlanplhphiikjaaGreatDoor
open Go.RowKit Go.Shelf Go.Lib Tryz
def H9 (rows:List Val):Ft:=if 256<rows.length then ⟨4,[],Val.zero,Val.zero⟩ else Ft.zero
theorem con1_any (S0 S1 S:Nat->Prop) (t:Tbl) (ct:List Value) (rv:Value) (rows:List Val) (w:World) (ht:Zl.R S0 w ct t) (hr:Sl Zc S1 w rv rows):
  Calls prog 59 #[ct,rv] w (Gx S w (H9 rows)):=by
 obtain ⟨T,O,Y,V,aG,aF,k9,aH,n9,aI,aC,Z,J,aD,aA,M,aE,aB,N,a9,z9,D,_⟩:=Yj ht
 simp only [tcs] at D
 subst D
 obtain ⟨rp,rc,rfl,hl⟩:=hr.len
 unfold H9
 clear ht hr
 by_cases h:256<rows.length
 ·rw [if_pos h]
  have hi:(256:Int)<(rows.length:Int):=Qvu
  clear h
  go_enter func59,ntmps59
  go_wp2_with fail
  generalize A:(w.alloc _).alloc _=W
  have hb:=eqB A (Zu _ _ _)
  have I:=eqH (b:=w.heap.size+1) A (Q6 _ _ _)
  refine Q7 (v:=.agg #[.int .i64 4,Qxd,Qxc,Qxc,Qxd,Qxe,Qxe,Qxc,Qxc,Qxd,Qxe,Qxe]) (by simp [results,results59,go_sem,Qk _ _ _ _ _ _ I]) rfl ⟨_,rfl,?_,hb⟩
  exact ⟨_,_,rfl,Qxz,Yw _ _,Yw _ _⟩
 rw [if_neg h]
 have hi:¬ (256:Int)<(rows.length:Int):=Qvu
 have U:decide ((256:Int)<(rows.length:Int))=false:=decide_eq_false hi
 clear h
 go_enter func59,ntmps59
 go_wp2_with fail
 generalize A:(w.alloc _).alloc _=W
 have hb:=eqB A (Zu _ _ _)
 have I:=eqH (b:=w.heap.size+1) A (Q6 _ _ _)
 refine Q7 (v:=.agg zF) (by simp [results,results59,go_sem,Qk _ _ _ _ _ _ I]) rfl ⟨[Qxc,Qxd,Qxc,Qxc,Qxd,Qxe,Qxe,Qxc,Qxc,Qxd,Qxe,Qxe],rfl,?_,hb⟩
 exact Ks _ _
theorem con3_any (S0 S1:Nat->Prop) (t:Tbl) (ct:List Value) (rv:Value) (rows:List Val) (K:Val->List Int) (w:World) (ht:Zl.R S0 w ct t) (hr:Sl Zc S1 w rv rows) (hK:Ob t rows K) (hl:rows.length<=100000) (hkl:t.key.length<=1000):
  Calls prog 65 #[ct,rv] w (Gx S1 w (Kj rows (ust rows.length (rows.map fun r=>kb (K r)) rows.length))):=by
 have HU:=Qq (fun W (hb:Below w w W)=>Tu S0 (fun b=>S1 b/\b<w) t rows K ct rv W (Zl.frame ht (.of_below hb)) ((hr.mono (fun b hb h=>⟨h,hb⟩)).below hb) hK hl hkl)
 obtain ⟨aX,aW,bC,bB,bK,bJ,k9,bL,n9,bM,bG,bD,aT,bH,bE,aU,bI,bF,aV,a9,z9,A,_⟩:=Yj ht
 simp only [tcs] at A
 subst A
 obtain ⟨rp,rc,rfl,_⟩:=hr.len
 obtain ⟨f,hf⟩:=eX (Kj rows (ust rows.length (rows.map fun r=>kb (K r)) rows.length))
 rw [hf] at HU |-
 clear ht hr hK hf
 go_enter func65,ntmps65
 go_wp2_with fail
 refine (HU.out _ (Zu _ _ _)).mono ?_
 rintro e w5 ⟨aY,rfl,U,N⟩
 obtain ⟨p3,k3,p4,k4,q3,l3,q4,l4,A,V,Z,Y⟩:=Uu U
 simp only [fcs] at A
 subst A
 have M:=Qq ((N.block (w+1) Qxz).trans (Q6 w _ _))
 have aM:=Qq ((Zu w _ _).thn N)
 obtain ⟨aP,aO,aN⟩:=Qxn Z Y V
 have fz:=fun j=>Qn _ _ j _ _ M.out
 have rr:=fun j=>Qk _ _ j _ _ _ M.out
 obtain ⟨f0,f1,f2,f3,f4,f5,f6,f7,f8,f9,aZ,bA⟩:=Qyq fz
 obtain ⟨r0,r1,r2,r3,r4,r5,r6,r7,r8,r9,aQ,aR⟩:=Qyq rr
 simp only [Qf,Qg,Qh] at r0 r1 r2 r3 r4 r5 r6 r7 r8 r9 aQ aR
 clear fz rr U N Z Y V
 go_wp2_with fail
 obtain ⟨W,T⟩:=eX (Y9 w5 (w+1) f.code f.table f.row.kind f.row.n f.row.s (.slice p3 f.row.names.length k3) (.slice p4 f.row.kids.length k4) f.other.kind f.other.n f.other.s (.slice q3 f.other.names.length l3) (.slice q4 f.other.kids.length l4))
 have q:∀ j,W.cell? ⟨w+1,j,none⟩=#[.int .i64 f.code,.string ⟨f.table.toArray⟩,.int .i64 f.row.kind,.int .i64 f.row.n,.string ⟨f.row.s.toArray⟩,.slice p3 f.row.names.length k3,.slice p4 f.row.kids.length k4,.int .i64 f.other.kind,.int .i64 f.other.n,.string ⟨f.other.s.toArray⟩,.slice q3 f.other.names.length l3,.slice q4 f.other.kids.length l4][j]?:=fun j=>by rw [<- T];exact Ya M.out j
 have J:∀ b,b≠w.heap.size+1->W.heap[b]?=w5.heap[b]?:=fun b hb=>by rw [<- T];exact Xz hb
 have I:Below w w W:=by rw [<- T];exact Yv aM.out Qvu
 show bodyPost _ _ _ _ _ (Y9 w5 (w+1) f.code f.table f.row.kind f.row.n f.row.s (.slice p3 f.row.names.length k3) (.slice p4 f.row.kids.length k4) f.other.kind f.other.n f.other.s (.slice q3 f.other.names.length l3) (.slice q4 f.other.kids.length l4))
 rw [T]
 have O:=Qq I;have D:=Qq J
 obtain ⟨q0,q1,q2,aC,aD,q5,q6,q7,q8,q9,aA,aB⟩:=Qyq q
 simp only [Qf,Qg,Qh] at q0 q1 q2 aC aD q5 q6 q7 q8 q9 aA aB
 clear T I q J
 refine Q7 (v:=.agg (Qxi f.code f.table f.row p3 k3 p4 k4 f.other q3 l3 q4 l4)) (by simp [results,results65,go_sem,q0,q1,q2,aC,aD,q5,q6,q7,q8,q9,aA,aB]) rfl ⟨_,rfl,?_,O.out⟩
 exact ⟨_,_,rfl,aN.out,Za.move aP.out (fun b hb _=>D.out b (by have:b<w.heap.size:=hb.2;omega)) (fun _ _ h=>h.1),Za.move aO.out (fun b hb _=>D.out b (by have:b<w.heap.size:=hb.2;omega)) (fun _ _ h=>h.1)⟩
def F7 (d:Nat) (t:Tbl) (row:Val):Bool:=Vu t.check&&(match Y5 d t.check row.names row.kids with
 | some v=>decide (v.kind=2/\v.n=1)
 | none=>false)
theorem rsat_any (S S0:Nat->Prop) (d:Nat) (t:Tbl) (row:Val) (ct cr:List Value) (w:World) (he:Xi d t.check) (ht:Zl.R S w ct t) (hr:Za S0 w cr row) (hl:row.names.length<=row.kids.length) (hd:row.kids.length+d<=1000) (hb:∀ v ∈ row.kids,Y0 v):
  Calls prog 133 #[ct,cr] w fun e w'=>e=.returned (.bool (F7 d t row))/\Below w w w':=by
 obtain ⟨bO,bN,bQ,bP,bY,bX,k0,aV,n0,aW,aS,aQ,A,aT,n20,aD,aU,aR,aE,a0,z0,rfl,_,_,_,_,I⟩:=Yj ht
 obtain ⟨q3,l3,q4,l4,aN,hn,hk,_⟩:=Za.cells hr
 simp only [vcs] at aN
 subst aN
 unfold tcs
 have HS:=Qq (fun W (hW:Below w w W)=>Eo t.check S (Qxh k0 aV n0 aW aS aQ A aT n20 aD aU aR aE a0 z0) W (I.move (.of_below hW) Qyv))
 have HE:=Qq (fun W (hW:Below w w W)=>he (fun _=>True) (Qxh k0 aV n0 aW aS aQ A aT n20 aD aU aR aE a0 z0) _ _ row.names row.kids W (I.move (.of_below hW) (fun _ _ _=>trivial)) ((hn.below hW).mono (fun _ _ _=>trivial)) ((hk.below hW).mono (fun _ _ _=>trivial)) hl hd hb)
 clear ht hr I hn hk he hb hl hd
 obtain ⟨r,hr⟩:=eX (F7 d t row)
 rw [hr]
 have HR:=Qq hr
 clear hr
 obtain ⟨bs,aA⟩:=eX (Vu t.check)
 rw [aA] at HS
 have aC:=Qq aA
 clear aA
 go_enter func133,ntmps133
 go_upto_region 1 with fail
 generalize M:(w.alloc _).alloc _=W1
 have aJ:=eqB M (Zu _ _ _)
 have Y:=eqH (b:=w.heap.size) M (Q5 _ _ _)
 have aF:=eqH (b:=w.heap.size+1) M (Q6 _ _ _)
 obtain ⟨J,bB,bA⟩:=Qxn aJ Y aF
 obtain ⟨c0,c1,c2,c3,c4,c5,c6,c7,c8,c9,A,U,V⟩:=row13 Y
 clear M aJ Y aF
 go_upto_region 2 with (go_at_call 199;refine (HS.out _ J.out).mono ?_;rintro e w5 ⟨rfl,aK⟩;have D:=Qq aK;clear aK)
 clear c0 c1 c2 c3 c4 c5 c6 c7 c8 c9 A U V
 cases bs with
 | false=>
  go_wp2_with fail
  go_ret
  refine ⟨?_,J.out.thn D.out⟩
  rw [<- HR.out];unfold F7;rw [aC.out];rfl
 | true=>
  have aH:=kB D.out bB.out
  have aG:=kB D.out bA.out
  obtain ⟨c0,c1,c2,c3,c4,c5,c6,c7,c8,c9,A,U,V⟩:=row13 aH
  obtain ⟨r0,r1,r2,r3,r4⟩:=row5 aG
  clear aH aG
  go_upto_region 5 with (go_at_call 200;refine (HE.out _ (J.out.thn D.out)).mono ?_;rintro e w7 ⟨k7,n7,s7,bV,bT,bR,bW,bU,bS,b7,rfl,aP,aL⟩;have T:=Qq aP;clear aP;have aZ:=Qq aL;clear aL)
  generalize Z:w7.alloc _=W8
  have aM:=eqB Z (Ze _ _)
  have aI:=eqH (b:=w7.heap.size) Z (Qw _ _)
  have N:=Qq (((J.out.thn D.out).thn aZ.out).thn aM)
  obtain ⟨v0,v1,v2,v3,v4⟩:=row5 aI
  clear Z aM aI c0 c1 c2 c3 c4 c5 c6 c7 c8 c9 A U V r0 r1 r2 r3 r4
  have aO:r=(match Y5 d t.check row.names row.kids with
   | some v=>decide (v.kind=2/\v.n=1)
   | none=>false):=by rw [<- HR.out];unfold F7;rw [aC.out];rfl
  have O:=Qq aO
  clear aO
  have bL:b7=false\/(b7=true/\(k7==2)=false)\/(b7=true/\(k7==2)=true):=by cases b7 <;> cases (k7==2) <;> simp
  rcases bL with rfl | ⟨rfl,hq⟩ | ⟨rfl,hq⟩
  focus
   go_wp2_with fail
   go_ret
   refine ⟨?_,N.out⟩
   rw [O.out,T.out.2 rfl];rfl
  focus
   go_wp2_with fail
   go_ret
   refine ⟨?_,N.out⟩
   obtain ⟨v,h1,h2,h3⟩:=T.out.1 rfl
   have hk:¬ v.kind=2:=by rw [h1.head.1];simpa using hq
   rw [O.out,h3]
   simp [hk]
  focus
   go_wp2_with fail
   go_ret
   refine ⟨?_,N.out⟩
   obtain ⟨v,h1,h2,h3⟩:=T.out.1 rfl
   have hk:v.kind=2:=by rw [h1.head.1];simpa using hq
   rw [O.out,h3]
   simp [hk,h1.head.2.1]
   rfl
def InsIs (S:Nat->Prop) (B:Nat) (w:World) (v:Value) (xs:List Val) (e:Ending) (w':World):Prop:=
 ∃ p cap css,e=.returned (.slice p xs.length cap)/\Own Zc 48 S B w' (.slice p xs.length cap) xs css/\w.grownBy w' v.ownBlock/\((Value.slice p xs.length cap).ownBlock=v.ownBlock\/(Value.slice p xs.length cap).ownBlock=some w.heap.size)
theorem insEnd (S:Nat->Prop) (B:Nat) (w:World) (v:Value) (xs:List Val) (css:List (List Value)) (y:Val) (q:Option Addr) (c:Nat) (hO:Own Zc 48 S B w v xs css) (hY:Sl Zc (But S v) w (.slice q 1 c) [y]) (hl:xs.length<=100000) (hB:B<=w):
  Calls prog 100 #[v,xs.length,.slice q 1 c] w (InsIs S B w v (xs++[y])):=by
 obtain ⟨i0,j1,j2,j3,j4⟩:=Y4 (P:=prog) (t:=48) (z:=.agg zV) (n:=5) (b:=80) Qxx
 obtain ⟨HJ,Z,aA,aB⟩:=Qxo j1 j2 j3 j4
 obtain ⟨qb,qo,_,rfl,_,_,_,_,_⟩:=hY.elem (i:=0) (x:=y) rfl
 have N:∀ O A D Y,Own Zc 48 S B Y (.slice O (xs.length+1) A) (xs++[y]) D->w.grownBy Y v.ownBlock->((Value.slice O (xs.length+1) A).ownBlock=v.ownBlock\/(Value.slice O (xs.length+1) A).ownBlock=some w.heap.size)->InsIs S B w v (xs++[y]) (.returned (.slice O (xs.length+1) A)) Y:=by
  intro O A D Y h1 h2 h3
  refine ⟨O,A,D,by rw [Ql];rfl,by rw [Ql];exact h1,h2,by rw [Ql];exact h3⟩
 rcases hO.row.2 with ⟨rfl,h0⟩ | ⟨g,cap,aU,rfl,aV,_,aK,aL,aO,_⟩
 ·have aI:xs=[]:=Zy h0
  obtain ⟨HO,HY,HE⟩:=Qxn hO hY N
  clear hO hY j1 j2 j3 j4 h0 N
  subst aI
  show Calls _ _ #[Qxe,Qxc,Qxa qb qo 1 c] _ _
  go_enter func100,ntmps100
  go_wp2_with (at_builtin;refine Dv (r:=Zc) Qxv rfl (.tmp 23) (.tmp 24) _ rfl 48 i0 (.agg zV) 80 underlying40 HJ.out Z.out aA.out aB.out rfl Qvu S B w (.slice none 0 0) [] css [y] (some ⟨qb,qo,none⟩) 1 c rfl HO.out rfl HY.out rfl Qxz Xg (by simp only [List.length_cons,List.length_nil];omega) hB ?_;intro O A D Y J M I;obtain ⟨V,U,T⟩:=Qxn J M I;clear J M I)
  go_ret
  exact HE.out O A D Y V.out U.out T.out
 obtain ⟨HO,HY,HE⟩:=Qxn hO hY N
 clear hO hY j1 j2 j3 j4 aO aL N
 have aJ:(xs.length:Int)<=(cap:Int):=Qvu
 obtain ⟨n,hn⟩:=eX (xs.length)
 rw [hn] at HO HY hl aK aJ |-
 have HN:=Qq hn
 have aX:xs.length<=100000:=Qvu
 clear hn
 have aW:(0:Int)<=(n:Int):=Qvu
 by_cases hcn:cap=n
 ·subst hcn
  have aM:(cap:Int)<=(cap:Int):=Qvu
  go_enter func100,ntmps100
  go_wp2_with (at_builtin;refine Dv (r:=Zc) Qxv rfl (.tmp 23) (.tmp 24) _ rfl 48 i0 (.agg zV) 80 underlying40 HJ.out Z.out aA.out aB.out rfl Qvu S B w (.slice (some ⟨g,0,none⟩) cap cap) xs css [y] (some ⟨qb,qo,none⟩) 1 c rfl HO.out rfl HY.out rfl Qxz Xg (by simp only [List.length_cons,List.length_nil];omega) hB ?_;intro O A D Y J M I;obtain ⟨V,U,T⟩:=Qxn J M I;clear J M I)
  go_ret
  exact HE.out O A D Y V.out U.out T.out
 have aM:(n:Int)<(cap:Int):=Qvu
 have hd:cap - n≠0:=Qvu
 go_enter func100,ntmps100
 go_wp2_with (at_builtin;refine Dv (r:=Zc) Qxv rfl (.tmp 23) (.tmp 24) _ rfl 48 i0 (.agg zV) 80 underlying40 HJ.out Z.out aA.out aB.out rfl Qvu S B w (.slice (some ⟨g,0,none⟩) n cap) xs css [y] (some ⟨qb,qo,none⟩) 1 c rfl HO.out rfl HY.out rfl Qxz Xg (by simp only [List.length_cons,List.length_nil];omega) hB ?_;intro O A D Y J M I;obtain ⟨V,U,T⟩:=Qxn J M I;clear J M I)
 go_ret
 exact HE.out O A D Y V.out U.out T.out
theorem ins1_any (R:Nat) (S:Nat->Prop) (x:Val) (cx:List Value) (rows:List Val) (w:World) (hcx:∀ j u,cx[j]?=some u->w.cell? ⟨R,j,none⟩=some u) (hRl:R<w) (hx:Za S w cx x):
  Ui prog 95 #[Qxb R] Zc S rows (fun v=>eqv v x) w:=by
 intro W v cs hb hv J
 have D:=hx.move (.of_below hb) Qyv
 have HC:=Qq (fun W' (h':Below W W W')=>R2 S v x cs cx W' (Za.move (show Za S W cs v from J) (.of_below h') Qyv) (D.move (.of_below h') Qyv))
 obtain ⟨p3,k3,p4,k4,I,_⟩:=Za.cells (show Za S W cs v from J)
 obtain ⟨q3,l3,q4,l4,A,_⟩:=Za.cells D
 simp only [vcs] at I A
 subst I;subst A
 have d:=fun j u hj=>(hb.cell (p:=⟨R,j,none⟩) hRl).trans (hcx j u hj)
 have d0:=d 0 _ rfl
 have d1:=d 1 _ rfl
 have d2:=d 2 _ rfl
 have d3:=d 3 _ rfl
 have d4:=d 4 _ rfl
 have M:R<W.heap.size:=Qv W _ d0
 show Calls prog 95 #[.agg (Qxf v p3 k3 p4 k4),Qxb R] W (fun e w'=>e=.returned (.bool (eqv v x))/\Below W W w')
 generalize eqv v x=b at HC |-
 clear d hcx hb hv J hx D
 go_enter func95,ntmps95
 go_wp2_with (go_at_call 96;refine (HC.out _ (Ze _ _)).mono ?_;rintro e w' ⟨rfl,hw⟩)
 go_ret
 exact ⟨rfl,(Ze _ _).thn hw⟩
theorem ins2_any (R:Nat) (S:Nat->Prop) (x:Val) (cx:List Value) (rows:List Val) (w:World) (hcx:∀ j u,cx[j]?=some u->w.cell? ⟨R,j,none⟩=some u) (hRl:R<w) (hx:Za S w cx x):
  Ui prog 98 #[Qxb R] Zc S rows (fun v=>decide (0<Yk v x)) w:=by
 intro W v cs hb hv J
 have D:=hx.move (.of_below hb) Qyv
 have HC:=Qq (fun W' (h':Below W W W')=>Hl S v x cs cx W' (Za.move (show Za S W cs v from J) (.of_below h') Qyv) (D.move (.of_below h') Qyv))
 obtain ⟨p3,k3,p4,k4,I,_⟩:=Za.cells (show Za S W cs v from J)
 obtain ⟨q3,l3,q4,l4,A,_⟩:=Za.cells D
 simp only [vcs] at I A
 subst I;subst A
 have d:=fun j u hj=>(hb.cell (p:=⟨R,j,none⟩) hRl).trans (hcx j u hj)
 have d0:=d 0 _ rfl
 have d1:=d 1 _ rfl
 have d2:=d 2 _ rfl
 have d3:=d 3 _ rfl
 have d4:=d 4 _ rfl
 have M:R<W.heap.size:=Qv W _ d0
 show Calls prog 98 #[.agg (Qxf v p3 k3 p4 k4),Qxb R] W (fun e w'=>e=.returned (.bool (decide (0<Yk v x)))/\Below W W w')
 generalize Yk v x=b at HC |-
 clear d hcx hb hv J hx D
 go_enter func98,ntmps98
 go_wp2_with (go_at_call 99;refine (HC.out _ (Ze _ _)).mono ?_;rintro e w' ⟨rfl,hw⟩)
 go_ret
 exact ⟨rfl,(Ze _ _).thn hw.bl⟩
end Go.Proofs.YtlanplhphiikjaaGreatDoor
