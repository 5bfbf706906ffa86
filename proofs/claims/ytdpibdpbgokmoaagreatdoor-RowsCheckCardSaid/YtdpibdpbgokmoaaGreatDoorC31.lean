import Derived.Test.YtdpibdpbgokmoaaGreatDoorC26
import Derived.Test.YtdpibdpbgokmoaaGreatDoorC29
set_option maxRecDepth 100000
set_option maxHeartbeats 400000000
namespace Go.Proofs.YtdpibdpbgokmoaaGreatDoor
open Go.RowKit Go.Shelf Go.Lib Tryz
def Dy (us:List Sm) (v:Val) (t:Ty) (b:Bool):Prop:=∀ (S S' S'':Nat→Prop) (cv ct:List Value) (uv:Value) (w:World),Sl Uu S'' w uv us→Z9 S w cv v→Xf S' w ct t →
 Calls prog 93 #[uv,cv,ct] w fun e w'=>e=.returned (.bool b)∧Gr w w'
theorem Gr.dr {a b:World} (h:Gr a b):Gr a b.drew:=h.thn ⟨1,#[],by rw [Sort.grow_empty];rfl⟩
theorem rhasLeaf (us:List Sm) (v:Val) (k:Int) (hk:k=0∨k=1∨k=2) (s:Bs) (n:Int) (names:List Bs) (kids:List Ty):Dy us v (.mk k s n names kids) (v.kind==k):=by
 intro S S' D cv ct uv w hu hv ht
 obtain ⟨up,uc,rfl,_⟩:=hu.len
 obtain ⟨p3,k3,p4,k4,A,_⟩:=Z9.cells hv
 simp only [vcs] at A
 subst A
 obtain ⟨q3,l3,q4,l4,rfl,_⟩:=ht.cells'
 clear hv ht hu
 rcases hk with rfl | rfl | rfl
 all_goals
  go_enter func93,ntmps93
  go_upto_region 5 with fail
  go_region_with fail
  all_goals
   go_wp2_with fail
   go_ret
   exact ⟨rfl,by first | exact (Vo _ _ _).dr | exact ((Vo _ _ _).alloc _).dr | exact (Vo _ _ _).dr.alloc _ | exact (Vo _ _ _).alloc _⟩
theorem rhasGood (us:List Sm) (v:Val) (t:Ty) (b:Bool) (hg:Y2 v) (h:Dy us v t b) (S S' S'':Nat→Prop) (cv ct:List Value) (uv:Value) (w:World) (hu:Sl Uu S'' w uv us) (hv:Z9 S w cv v) (ht:Xf S' w ct t):
  Calls prog 39 #[uv,cv,ct] w fun e w'=>e=.returned (.bool b)∧Below w w w':=by
 obtain ⟨up,uc,rfl,_⟩:=hu.len
 have HV:=Qq (fun W (hb:Below w w W)=>R5 v hg S cv W (hv.move (.of_below hb) Qzx))
 have HH:=Qq (fun W (hb:Below w w W)=>h S S' S'' cv ct _ W (hu.below hb) (hv.move (.of_below hb) Qzx) (ht.move (.of_below hb) Qzx))
 obtain ⟨p3,k3,p4,k4,I,_⟩:=Z9.cells hv
 simp only [vcs] at I
 subst I
 obtain ⟨y1,y2,y3,y4,y5,y6,y7,y8,y9,rfl⟩:=ht.cells
 clear hu hv ht h hg
 go_enter func39,ntmps39
 go_wp2_with fail
 refine (HV.out _ (Zt _ _ _)).mono ?_
 rintro e w1 ⟨rfl,G⟩
 have A:=(G.block w (by simp;omega)).trans (Q5 w _ _)
 have D:=(G.block (w+1) Qqk).trans (Q6 w _ _)
 have c0:=rA0 A;have c1:=rA1 A;have c2:=rA2 A;have c3:=rA3 A;have c4:=rA4 A;have d0:=rA0 D;have d1:=rA1 D;have d2:=rA2 D;have d3:=rA3 D;have d4:=rA4 D
 have HW:=Qq ((Zt w _ _).thn G)
 clear G A D
 go_wp2_with (go_at_call 93;refine (HH.out _ HW.out).mono ?_;rintro e w' ⟨rfl,G⟩)
 go_ret
 exact ⟨rfl,HW.out.thn G.bl⟩
theorem Sl.ty {S:Nat→Prop} {w:World} {p:Option Addr} {n cap:Nat} {xs:List Ty} (h:Sl J6 S w (.slice p n cap) xs) {i:Nat} {x:Ty} (hx:xs[i]?=some x):
  ∃ b off tk ts tn t3 n3 l3 t4 n4 l4,p=some ⟨b,off,none⟩∧b<w.heap.size∧Xf S w [.int .i64 tk,.string ts,.int .i64 tn,.slice t3 n3 l3,.slice t4 n4 l4] x∧Qzh w b (off+i*5) (.int .i64 tk) (.string ts) (.int .i64 tn) (.slice t3 n3 l3) (.slice t4 n4 l4):=by
 obtain ⟨q,I,e,hl,hh⟩:=h
 have G:xs≠[]:=by intro h0;subst h0;simp at hx
 obtain ⟨b,off,hq,hS,hb,hc⟩:=hh G
 obtain ⟨cs,A,hr⟩:=hc i x hx
 have D:Xf S w cs x:=hr
 obtain ⟨tk,ts,tn,t3,n3,l3,t4,n4,l4,rfl⟩:=D.cells
 cases e
 exact ⟨b,off,tk,ts,tn,t3,n3,l3,t4,n4,l4,hq,hb,D,A 0 _ rfl,A 1 _ rfl,A 2 _ rfl,A 3 _ rfl,A 4 _ rfl⟩
theorem Qjc {A B:Type} {p:A→B→Bool} {a:List A} {b:List B} {k:Nat} {x:A} {y:B} (hx:a[k]?=some x) (hy:b[k]?=some y):eqL p (a.drop k) (b.drop k)=(p x y&&eqL p (a.drop (k+1)) (b.drop (k+1))):=by
 obtain ⟨h1,e1⟩:=Qj hx
 obtain ⟨h2,e2⟩:=Qj hy
 rw [Qp h1,Qp h2,e1,e2];rfl
theorem rhasRec (us:List Sm) (v:Val) (s:Bs) (names:List Bs) (kids:List Ty) (p:Val→Ty→Bool) (hkl:kids.length=names.length) (hvl:v.kind=4→v.kids.length=v.names.length) (hp:∀ x ∈ v.kids,∀ y ∈ kids,Dy us x y (p x y)):Dy us v (.mk 5 s 0 names kids) ((v.kind==4)&&decide (v.names=names)&&eqL p v.kids kids):=by
 intro S S' bR cv ct uv w hu hv ht
 obtain ⟨up,uc,rfl,_⟩:=hu.len
 obtain ⟨p3,k3,p4,k4,aM,aE,T,_⟩:=Z9.cells hv
 simp only [vcs] at aM
 subst aM
 obtain ⟨q3,l3,q4,l4,rfl,aD,aC⟩:=ht.cells'
 have mixed:prog.follows .mixedOrders=true:=Qqy
 by_cases h4:v.kind=4
 ·have Y:=Qq (fun W (hb:Below w w W)=>Pn S S' _ _ v.names names W (aE.below hb) (aD.below hb))
  have hq:(v.kind==4)=true:=by rw [h4];rfl
  rw [hq,Bool.true_and]
  have bH:=hvl h4
  rw [h4]
  obtain ⟨m,hm⟩:=eX (v.kids.length)
  have D:decide (v.names=names)=true→kids.length=m:=fun h=>by have:=of_decide_eq_true h;rw [hkl,← this];omega
  obtain ⟨bn,aL⟩:=eX (decide (v.names=names))
  rw [aL] at Y D ⊢
  obtain ⟨r,hr⟩:=eX (eqL p v.kids kids)
  rw [hr]
  obtain ⟨HR,aH,aG,HU,HP,HM⟩:=Qqs hr T aC hu hp hm
  obtain ⟨_,_,_,bI⟩:=T.len
  rw [hm] at bI
  obtain ⟨V,O⟩:=eX (kids.length)
  have M:names.length=V:=Qqj
  rw [hm] at aH ⊢;rw [O] at aG D;simp only [M] at Y;rw [O,M]
  have bJ:((V:Int) != (V:Int))=false:=Qqk
  have aF:=Qq O;have HD:=Qq D
  clear hu hv ht aE T aD aC hp hq bH hr hvl D aL hm hkl O M
  go_enter func93,ntmps93
  go_wp2_with fail
  refine (Y.out _ (Vo _ _ _).bl).mono ?_
  rintro e w1 ⟨rfl,N⟩
  have Z:=(N.bl.block w (by simp;omega)).trans (Q5 w _ _)
  have aA:=(N.bl.block (w+1) Qqk).trans (Q6 w _ _)
  have aN:Gr w w1:=(Vo _ _ _).thn N
  have HG:=Qq aN
  have bF:=Z8 Z;have bG:=Z8 aA
  have c4:=rA4 Z;have d4:=rA4 aA
  clear N Z aA aN
  cases bn with
  | false=>
   go_wp2_with fail
   go_ret
   exact ⟨rfl,HG.out⟩
  | true=>
   obtain rfl:V=m:=HD.out rfl
   have bA:=Qq c4;have bB:=Qq d4
   go_wp2_with fail
   clear c4 d4 bJ
   go_loopw [8] (fun i wr=>∃ k:Nat,k≤V∧i=.int .i64 k∧Aside (eqL p (v.kids.drop k) (kids.drop k)=r)∧Aside (Gr w1 wr)) (fun i _=>V - (intOf i).toNat)
   case atStart=>exact ⟨0,Q8 _,rfl,HR.out,Gr.refl _⟩
   obtain ⟨k,hk,rfl,hc,aI⟩:=hrel
   have A:=Qq (show Gr w1 wr from aI);have HC:=Qq (show eqL p (v.kids.drop k) (kids.drop k)=r from hc)
   have aJ:w.heap.size<wr.heap.size:=Qqq A.out.bl.size
   have aK:w.heap.size+1<wr.heap.size:=Qqq A.out.bl.size
   have c4:=kD A.out.bl bF bA.out
   have d4:=kD A.out.bl bG bB.out
   clear aI hc
   by_cases hlt:k<V
   ·obtain ⟨x,hx⟩:∃ x,v.kids[k]?=some x:=⟨_,Qx (by rw [HM.out];exact hlt)⟩
    obtain ⟨y,hy⟩:∃ y,kids[k]?=some y:=⟨_,Qx (by rw [aF.out];exact hlt)⟩
    have U:Below w w wr:=(HG.out.thn A.out).bl
    obtain ⟨ga,oa,x3,m3,x4,m4,rfl,I,aP,a0,a1,a2,a3,a4⟩:=(aH.out.below U).val hx
    obtain ⟨gb,ob,tk,ts,tn,t3,n3,bO,t4,n4,bP,rfl,J,aQ,e0,e1,e2,e3,e4⟩:=(aG.out.below U).ty hy
    have HX:=Qq (HP.out x (Qy hx) y (Qy hy))
    have G:=HC.out
    rw [Qjc hx hy] at G
    have aO:=HU.out.below U
    obtain ⟨bD,bE,bC⟩:=Qqo aP aQ aO
    generalize p x y=c at HX G
    have bS:(0:Int)≤(k:Int):=Qqj
    have bT:(k:Int)<V:=Qqj
    have aB:∀ n os,Calls prog 93 #[.slice up us.length uc,.agg (vcs x x3 m3 x4 m4).toArray,.agg #[tk,.string ts,tn,.slice t3 n3 bO,.slice t4 n4 bP]] (Sort.grow (wr.drewN n) os) fun e w'=>e=.returned (.bool c)∧Gr (Sort.grow (wr.drewN n) os) w':=fun n os=>HX.out _ _ _ _ _ _ _ (bC.out.below (Yg _ _ _).bl) (bD.out.move (.of_below (Yg _ _ _).bl) Qzx) (bE.out.move (.of_below (Yg _ _ _).bl) Qzx)
    unfold vcs at aB
    have A0:=Zs I a0;have A1:=Zs I a1;have A2:=Zs I a2;have A3:=Zs I a3;have A4:=Zs I a4
    have E0:=Zs J e0;have E1:=Zs J e1;have E2:=Zs J e2;have E3:=Zs J e3;have E4:=Zs J e4
    have C4:=Zs aJ c4;have D4:=Zs aK d4
    clear a0 a1 a2 a3 a4 e0 e1 e2 e3 e4 aP aQ hx hy aO U
    cases c with
    | true=>
     have aZ:=Qq (show eqL p (v.kids.drop (k+1)) (kids.drop (k+1))=r from by rw [Bool.true_and] at G;exact G)
     clear G
     go_wp2_with fail
     go_quiet_grown (first | (go_at_call 93;refine Calls.grown_of (aB _ _)))
     go_wp2_with fail
     go_roundw
     case rel=>exact ⟨k+1,Qqj,by go_num,aZ.out,A.out.thn (Yg _ _ _)⟩
     case measure=>simp [intOf];omega
    | false=>
     obtain rfl:false=r:=G
     go_wp2_with fail
     go_quiet_grown (first | (go_at_call 93;refine Calls.grown_of (aB _ _)))
     go_wp2_with fail
     go_ret
     exact ⟨rfl,(HG.out.thn A.out).thn (Yg _ _ _)⟩
   obtain rfl:k=V:=Qqj
   have bL:r=true:=by
    rw [← HC.out,List.drop_of_length_le (by rw [HM.out];exact Q9 _),List.drop_of_length_le (by rw [aF.out];exact Q9 _)];rfl
   subst bL
   go_wp2_with fail
   go_ret
   exact ⟨rfl,HG.out.thn A.out⟩
 have hq:(v.kind==4)=false:=by simpa using h4
 have bU:(v.kind != 4)=true:=by simpa using h4
 rw [hq]
 clear hu hv ht aE T aD aC hp
 go_enter func93,ntmps93
 go_wp2_with fail
 go_ret
 exact ⟨rfl,Vo _ _ _⟩
def Ty.kind:Ty→Int | .mk k _ _ _ _=>k
def Ty.name:Ty→Bs | .mk _ s _ _ _=>s
def Jo (t:Ty):Prop:=t.kind=0∨t.kind=1∨t.kind=2
def J5 (u:Sm) (v:Val):Bool:=match atP (fun c=>decide (c.name=v.s)) u.ctors with
 | none=>false
 | some c=>if c.has then (match v.kids with
  | [x]=>x.kind==c.arg.kind
  | _=>false) else decide (v.kids.length=0)
def Bt (us:List Sm) (v:Val) (nm:Bs):Bool:=(v.kind==3)&&(match atP (fun u=>decide (u.name=nm)) us with
 | none=>false
 | some u=>J5 u v)
theorem M2 (us:List Sm) (v:Val) (t:Ty) (h:Jo t):Dy us v t (v.kind==t.kind):=by
 obtain ⟨k,s,n,names,kids⟩:=t
 exact rhasLeaf us v k h s n names kids
theorem Gr.drn {a b:World} (h:Gr a b) (n:Nat):Gr a (b.drewN n):=h.thn ⟨n,#[],by rw [Sort.grow_empty]⟩
def RMadeAt (us:List Sm) (u:Sm) (v:Val) (b:Bool):Prop:=∀ (S S' S'':Nat→Prop) (cu cv:List Value) (uv:Value) (w:World),Sl Uu S'' w uv us→Uu.R S' w cu u→Z9 S w cv v →
 Calls prog 142 #[uv,cu,cv] w fun e w'=>e=.returned (.bool b)∧Gr w w'
theorem Cu (us:List Sm) (u:Sm) (v:Val) (hl:∀ c ∈ u.ctors,Jo c.arg):RMadeAt us u v (J5 u v):=by
 intro S S' cF cu cv uv w hu cB hv
 obtain ⟨up,uc,rfl,_⟩:=hu.len
 obtain ⟨cH,rfl,cL,Z⟩:=cB
 obtain ⟨cp,cc,rfl,bV⟩:=Z.len
 obtain ⟨p3,k3,p4,k4,bA,_,aC,cM⟩:=Z9.cells hv
 simp only [vcs] at bA
 subst bA
 have mixed:prog.follows .mixedOrders=true:=Qqy
 obtain ⟨n,hn⟩:=eX (u.ctors.length)
 rw [hn] at Z bV ⊢
 obtain ⟨r,hr⟩:=eX (J5 u v)
 rw [hr]
 obtain ⟨HR,HN,HU,HC,HV,HL⟩:=Qqs hr hn hu Z aC hl
 clear hu hv Z aC hl hr hn
 unfold sv
 go_enter func142,ntmps142
 go_wp2_with fail
 generalize Y:(w.alloc _).alloc _=W1
 have bB:Gr w W1:=by rw [← Y];exact Vo _ _ _
 have aV:=eqH (b:=w.heap.size) Y (Q5 _ _ _)
 have aL:=eqH (b:=w.heap.size+1) Y (Q6 _ _ _)
 obtain ⟨O,bI,bM⟩:=Qqo bB aV aL
 have bX:=Z8 aL
 clear Y bB aV aL
 go_loopw [7] (fun i wr=>∃ k:Nat,k≤n∧i=.int .i64 k∧Aside (∀ (j:Nat) (y:Ct),j<k→u.ctors[j]?=some y→decide (y.name=v.s)=false)∧Aside (Gr W1 wr)) (fun i _=>n - (intOf i).toNat)
 case atStart=>exact ⟨0,Q8 _,rfl,fun j _ hj=>absurd hj (Z6 _),Gr.refl _⟩
 obtain ⟨k,hk,rfl,A,aU⟩:=hrel
 have G:=Qq (show Gr W1 wr from aU)
 have aP:=Qq (O.out.thn G.out).bl
 have aK:=kB G.out.bl bI.out
 have aW:=kE G.out.bl bX bM.out
 have cE:=Qq aK;have aJ:=Qq aW
 obtain ⟨a0,a1⟩:=row2 aK
 clear aU aK aW
 by_cases hlt2:k<n
 ·have cJ:(0:Int)≤(k:Int):=Qqj
  have cK:(k:Int)<(n:Int):=Qqj
  obtain ⟨c,hc⟩:∃ c,u.ctors[k]?=some c:=⟨_,Qx (by rw [HN.out];exact hlt2)⟩
  obtain ⟨cb,cD,cG,rfl,M,_,_,⟨tc,rfl,cI,U⟩,J⟩:=(HC.out.below aP.out).elem hc
  obtain ⟨tk,ts,tn,t3,n3,l3,t4,n4,l4,rfl⟩:=U.cells
  have d0:=J 0 _ rfl;have d1:=J 1 _ rfl;have d2:=J 2 _ rfl;have d3:=J 3 _ rfl;have d4:=J 4 _ rfl;have d5:=J 5 _ rfl;have d6:=J 6 _ rfl
  rw [show Gg.k=7 from rfl] at d0 d1 d2 d3 d4 d5 d6
  rw [Nat.add_zero] at d0
  unfold sv at d0
  have b2:=rA2 aJ.out;have b4:=rA4 aJ.out
  obtain ⟨bK,bH,aQ⟩:=Qqo U (HL.out c (Qy hc)) hc
  clear hc J U
  by_cases he:c.name=v.s
  ·have hq:(c.name != v.s)=false:=by rw [he];simp
   have bZ:(c.name==v.s)=true:=by rw [he];simp
   have I:atP (fun c=>decide (c.name=v.s)) u.ctors=some c:=Mn aQ.out (by simpa using he) A.out
   have D:(if c.has then (match v.kids with
    | [x]=>x.kind==c.arg.kind
    | _=>false) else decide (v.kids.length=0))=r:=by rw [← HR.out];unfold J5;rw [I]
   have aR:=Qq D
   clear I D A he
   go_upto_region 4 with fail
   go_quiet (fail)
   obtain ⟨wq,N⟩:=eX (wr.drewN nq)
   have aA:Gr wr wq:=by rw [← N];exact (Gr.refl _).drn _
   rw [N]
   have T:=Qq aA
   have hh:∀ {b j:Nat} {x:Value},wr.cell? ⟨b,j,none⟩=some x→wq.cell? ⟨b,j,none⟩=some x:=fun hx=>kC aA.bl hx
   have a1:=hh a1;have b4:=hh b4;have d1:=hh d1;have d2:=hh d2;have d3:=hh d3;have d4:=hh d4;have d5:=hh d5;have d6:=hh d6
   have M:=Qa M aA.bl.size
   clear hh N aA hq a0 d0 b2
   cases hhas:c.has with
   | false=>
    rw [hhas] at d1
    have D:=aR.out
    rw [hhas] at D
    simp only [Bool.false_eq_true,if_false] at D
    by_cases h0:v.kids.length=0
    ·obtain rfl:true=r:=by rw [← D];simp [h0]
     have aM:((v.kids.length:Int)==0)=true:=by rw [beq_iff_eq];omega
     clear D h0 d2 d3 d4 d5 d6
     go_wp2_with fail
     go_ret
     exact ⟨rfl,(O.out.thn G.out).thn T.out⟩
    obtain rfl:false=r:=by rw [← D];simp [h0]
    have aM:((v.kids.length:Int)==0)=false:=by rw [← Qt,beq_iff_eq];omega
    clear D h0 d2 d3 d4 d5 d6
    go_wp2_with fail
    go_ret
    exact ⟨rfl,(O.out.thn G.out).thn T.out⟩
   | true=>
    rw [hhas] at d1
    have D:=aR.out
    rw [hhas] at D
    simp only [if_true] at D
    by_cases h1:v.kids.length=1
    ·obtain ⟨x,hx⟩:=List.length_eq_one_iff.1 h1
     rw [hx] at D
     have bE:v.kids[0]?=some x:=by rw [hx];rfl
     have N:Below w w wq:=aP.out.thn T.out.bl
     rw [h1] at HV aJ b4
     obtain ⟨ga,oa,x3,m3,x4,m4,rfl,V,bC,e0,e1,e2,e3,e4⟩:=(HV.out.below N).val bE
     simp only [Nat.zero_mul,Nat.add_zero] at e0 e1 e2 e3 e4
     have hX:=M2 us x c.arg bH.out
     have aI:(x.kind==c.arg.kind)=r:=D
     rw [aI] at hX
     obtain ⟨HX,bL,bN,bJ⟩:=Qqp hX (HU.out.below N) bC (bK.out.move (.of_below T.out.bl) Qzx)
     have aZ:∀ n os,Calls prog 93 #[.slice up us.length uc,.agg (vcs x x3 m3 x4 m4).toArray,.agg #[tk,.string ts,tn,.slice t3 n3 l3,.slice t4 n4 l4]] (Sort.grow (wq.drewN n) os) fun e w'=>e=.returned (.bool r)∧Gr (Sort.grow (wq.drewN n) os) w':=fun n os=>HX.out _ _ _ _ _ _ _ (bL.out.below (Yg _ _ _).bl) (bN.out.move (.of_below (Yg _ _ _).bl) Qzx) (bJ.out.move (.of_below (Yg _ _ _).bl) Qzx)
     unfold vcs at aZ
     have aX:w.heap.size<wq.heap.size:=Qv _ _ a1
     have aY:w.heap.size+1<wq.heap.size:=Qv _ _ b4
     have E0:=Zs V e0;have E1:=Zs V e1;have E2:=Zs V e2;have E3:=Zs V e3;have E4:=Zs V e4
     have D2:=Zs M d2;have D3:=Zs M d3;have D4:=Zs M d4;have D5:=Zs M d5;have D6:=Zs M d6
     have A1:=Zs aX a1;have B4:=Zs aY b4
     have aM:((1:Int)==1)=true:=rfl
     clear D aI h1 hx bE bC hX d2 d3 d4 d5 d6 e0 e1 e2 e3 e4 N
     go_wp2_with fail
     go_quiet_grown (first | (go_at_call 93;refine Calls.grown_of (aZ _ _)))
     go_wp2_with fail
     go_ret
     exact ⟨rfl,((O.out.thn G.out).thn T.out).thn (Yg _ _ _)⟩
    obtain rfl:false=r:=by
     rw [← D]
     match aC:v.kids with
     | []=>rfl
     | [x]=>rw [aC] at h1;simp at h1
     | _::_::_=>rfl
    have aM:((v.kids.length:Int)==1)=false:=by rw [← Qt,beq_iff_eq];omega
    clear D h1 d2 d3 d4 d5 d6
    go_wp2_with fail
    go_quiet (fail)
    go_wp2_with fail
    go_ret
    exact ⟨rfl,((O.out.thn G.out).thn T.out).drn _⟩
  have hq:(c.name != v.s)=true:=by rw [bne_iff_ne];exact he
  have bZ:(c.name==v.s)=false:=by rw [← Qt,beq_iff_eq];exact he
  have HE:=Qq he
  clear he
  go_upto_region 4 with fail
  go_quiet (fail)
  go_wp2_with fail
  go_roundw
  case measure=>simp [intOf];omega
  case rel=>
   refine ⟨k+1,Qqj,by go_num,(show Aside _ from fun j y hj hy=>?_),G.out.drn _⟩
   by_cases e:j=k
   ·subst e
    have:=aQ.out
    rw [this] at hy
    cases hy
    simpa using HE.out
   exact A.out j y Qqj hy
 have bW:k=n:=Qqj
 subst bW
 have I:atP (fun c=>decide (c.name=v.s)) u.ctors=none:=Hd (fun j y hy=>A.out j y (by have:=(Qj hy).1;have:=HN.out;omega) hy)
 obtain rfl:false=r:=by rw [← HR.out];unfold J5;rw [I]
 clear I A
 go_wp2_with fail
 go_ret
 exact ⟨rfl,O.out.thn G.out⟩
theorem rhasSum (us:List Sm) (v:Val) (s:Bs) (tn:Int) (names:List Bs) (kids:List Ty) (hl:∀ u ∈ us,∀ c ∈ u.ctors,Jo c.arg):Dy us v (.mk 3 s tn names kids) (Bt us v s):=by
 intro S S' bC cv ct uv w U hv ht
 obtain ⟨up,uc,rfl,bM⟩:=U.len
 obtain ⟨p3,k3,p4,k4,aM,bP,bO,bV⟩:=Z9.cells hv
 have bB:=Qq hv
 simp only [vcs] at aM
 subst aM
 obtain ⟨q3,l3,q4,l4,rfl,_⟩:=ht.cells'
 have mixed:prog.follows .mixedOrders=true:=Qqy
 obtain ⟨r,hr⟩:=eX (Bt us v s)
 rw [hr]
 obtain ⟨n,hn⟩:=eX (us.length)
 rw [hn] at U bM ⊢
 obtain ⟨HR,HN,HU,HL⟩:=Qqp hr hn U hl
 clear U hv ht bP bO hl hr hn
 by_cases h3:v.kind=3
 ·have hq:(v.kind != 3)=false:=by rw [h3];rfl
  have aQ:(match atP (fun u=>decide (u.name=s)) us with
   | none=>false
   | some u=>J5 u v)=r:=by rw [← HR.out];unfold Bt;rw [h3];rfl
  have aG:=Qq aQ
  clear h3 aQ
  go_enter func93,ntmps93
  go_wp2_with fail
  clear hq
  generalize O:(w.alloc _).alloc _=W1
  have aN:Gr w W1:=by rw [← O];exact Vo _ _ _
  have aL:=eqH (b:=w.heap.size) O (Q5 _ _ _)
  have aA:=eqH (b:=w.heap.size+1) O (Q6 _ _ _)
  obtain ⟨M,aY,bA⟩:=Qqo aN aA aL
  have bH:=Z8 aA
  clear O aN aA aL
  go_loopw [9] (fun i wr=>∃ k:Nat,k≤n∧i=.int .i64 k∧Aside (∀ (j:Nat) (y:Sm),j<k→us[j]?=some y→decide (y.name=s)=false)∧Aside (Gr W1 wr)) (fun i _=>n - (intOf i).toNat)
  case atStart=>exact ⟨0,Q8 _,rfl,fun j _ hj=>absurd hj (Z6 _),Gr.refl _⟩
  obtain ⟨k,hk,rfl,A,aJ⟩:=hrel
  have I:=Qq (show Gr W1 wr from aJ)
  have aV:=Qq (M.out.thn I.out).bl
  have aK:=kE I.out.bl bH aY.out
  have J:=kB I.out.bl bA.out
  have b1:=Qk _ _ 1 _ _ _ aK;have a0:=rA0 J;have a1:=rA1 J;have a2:=rA2 J;have a3:=rA3 J;have a4:=rA4 J
  simp only [Qf,Qg,Qh] at b1
  clear aJ aK J
  by_cases hlt2:k<n
  ·have bT:(0:Int)≤(k:Int):=Qqj
   have bU:(k:Int)<(n:Int):=Qqj
   obtain ⟨u,U⟩:∃ u,us[k]?=some u:=⟨_,Qx (by rw [HN.out];exact hlt2)⟩
   have aB:=HU.out.below aV.out
   have aZ:=Qq aB
   obtain ⟨ub,aT,bW,rfl,V,_,_,bL,aC⟩:=aB.elem U
   obtain ⟨bR,aS,bJ,aD⟩:=bL
   subst aS
   obtain ⟨cp,cc,rfl,bS⟩:=aD.len
   have Z:=aC 0 _ rfl;have d1:=aC 1 _ rfl
   rw [show Uu.k=2 from rfl] at Z d1
   rw [Nat.add_zero] at Z
   unfold sv at Z
   obtain ⟨aX,aW,aH⟩:=Qqo (show Uu.R bC wr [sv u.name,.slice cp u.ctors.length cc] u from ⟨_,rfl,bJ,aD⟩) (HL.out u (Qy U)) U
   clear U aC aD aB
   by_cases he:u.name=s
   ·have hq:(u.name==s)=true:=by rw [he];simp
    have D:atP (fun u=>decide (u.name=s)) us=some u:=Mn aH.out (by simpa using he) A.out
    have aR:J5 u v=r:=by rw [← aG.out,D]
    have hM:=Cu us u v aW.out
    rw [aR] at hM
    have HM:=Qq hM
    clear D aR A he hM
    go_upto_region 30 with fail
    go_quiet (fail)
    obtain ⟨wq,aE⟩:=eX (wr.drewN nq)
    have T:Gr wr wq:=by rw [← aE];exact (Gr.refl _).drn _
    rw [aE]
    have N:=Qq T
    have Y:∀ {b j:Nat} {x:Value},wr.cell? ⟨b,j,none⟩=some x→wq.cell? ⟨b,j,none⟩=some x:=fun hx=>kC T.bl hx
    have Z:=Y Z;have d1:=Y d1;have a0:=Y a0;have a1:=Y a1;have a2:=Y a2;have a3:=Y a3;have a4:=Y a4
    have V:=Qa V T.bl.size
    have G:w.heap.size<wq.heap.size:=Qv _ _ a0
    have D0:=Zs V Z;have D1:=Zs V d1
    have A0:=Zs G a0;have A1:=Zs G a1;have A2:=Zs G a2;have A3:=Zs G a3;have A4:=Zs G a4
    have bF:∀ n' os,Calls prog 142 #[Qqb ub aT n uc,.agg #[u.name,.slice cp u.ctors.length cc],.agg (Qqg v p3 k3 p4 k4)] (Sort.grow (wq.drewN n') os) fun e w'=>e=.returned (.bool r)∧Gr (Sort.grow (wq.drewN n') os) w':=fun n' os=>HM.out _ _ _ _ _ _ _ (aZ.out.below (N.out.thn (Yg _ _ _)).bl) (Uu.frame aX.out (.of_below (N.out.thn (Yg _ _ _)).bl)) (bB.out.move (.of_below ((M.out.thn (I.out.thn N.out)).thn (Yg _ _ _)).bl) Qzx)
    clear Y aE T hq a0 a1 a2 a3 a4 Z d1 b1
    go_wp2_with fail
    go_quiet_grown (first | (go_at_call 142;refine Calls.grown_of (bF _ _)))
    go_wp2_with fail
    go_ret
    exact ⟨rfl,((M.out.thn I.out).thn N.out).thn (Yg _ _ _)⟩
   have hq:(u.name==s)=false:=by rw [← Qt,beq_iff_eq];exact he
   have HE:=Qq he
   clear he
   go_upto_region 30 with fail
   go_quiet (fail)
   go_wp2_with fail
   go_roundw
   case measure=>simp [intOf];omega
   case rel=>
    refine ⟨k+1,Qqj,by go_num,(show Aside _ from fun j y hj hy=>?_),I.out.drn _⟩
    by_cases e:j=k
    ·subst e
     have:=aH.out
     rw [this] at hy
     cases hy
     simpa using HE.out
    exact A.out j y Qqj hy
  have bG:k=n:=Qqj
  subst bG
  have D:atP (fun u=>decide (u.name=s)) us=none:=Hd (fun j y hy=>A.out j y (by have:=(Qj hy).1;have:=HN.out;omega) hy)
  obtain rfl:false=r:=by rw [← aG.out,D]
  clear D A
  go_wp2_with fail
  go_ret
  exact ⟨rfl,M.out.thn I.out⟩
 have hq:(v.kind != 3)=true:=by simpa using h3
 have aP:(v.kind==3)=false:=by simpa using h3
 obtain rfl:false=r:=by rw [← HR.out];unfold Bt;rw [aP];rfl
 clear aP h3
 go_enter func93,ntmps93
 go_wp2_with fail
 go_ret
 exact ⟨rfl,Vo _ _ _⟩
def Jt (l:List Col):List Bs × List Ty:=l.foldl (fun A c=>(Xg A.1 (below A.1 c.name) c.name,Xg A.2 (below A.1 c.name) c.type)) ([],[])
def N9 (t:Tbl):Ty:=.mk 5 [] 0 (Jt t.columns).1 (Jt t.columns).2
theorem Bj (l:List Col) (c:Col):Jt (l++[c])=(Xg (Jt l).1 (below (Jt l).1 c.name) c.name,Xg (Jt l).2 (below (Jt l).1 c.name) c.type):=by unfold Jt;rw [List.foldl_append];rfl
theorem Hu {T:Type} (l:List T) (i:Nat) (x:T):(Xg l i x).length=l.length+1:=by unfold Xg;simp;omega
theorem T5 {T:Type} {l:List T} {i:Nat} {x y:T} (h:y ∈ Xg l i x):y ∈ l∨y=x:=by
 unfold Xg at h
 rcases Z4.1 h with h | h
 ·exact .inl (List.mem_of_mem_take h)
 rcases Z3.1 h with h | h
 ·exact .inr h
 exact .inl (Zw h)
theorem Hz:∀ (k:Nat) (l:List Col),l.length=k→(Jt l).1.length=l.length∧(Jt l).2.length=l.length∧∀ y ∈ (Jt l).2,∃ c ∈ l,c.type=y
 | 0,l,h=>by rw [Zy h];exact ⟨rfl,rfl,fun y hy=>by simp [Jt] at hy⟩
 | k+1,l,h=>by
  obtain ⟨l',c,rfl⟩:∃ l' c,l=l'++[c]:=⟨l.dropLast,l.getLast (by intro e;subst e;simp at h),(List.dropLast_concat_getLast (by intro e;subst e;simp at h)).symm⟩
  obtain ⟨h1,h2,h3⟩:=Hz k l' (by simpa using h)
  rw [Bj]
  refine ⟨by rw [Hu,h1];simp,by rw [Hu,h2];simp,fun y hy=>?_⟩
  rcases T5 hy with hy | rfl
  ·obtain ⟨c',hc,e⟩:=h3 y hy
   exact ⟨c',by simp [hc],e⟩
  exact ⟨c,Qqk,rfl⟩
theorem Hk {T:Type} {l:List T} {k:Nat} {x:T} (h:l[k]?=some x):l.take (k+1)=l.take k++[x]:=by
 obtain ⟨h1,rfl⟩:=Qj h
 exact Zz h1
theorem Sl.col {S:Nat→Prop} {w:World} {p:Option Addr} {n cap:Nat} {xs:List Col} (h:Sl X7 S w (.slice p n cap) xs) {i:Nat} {x:Col} (hx:xs[i]?=some x):
  ∃ b off tk ts tn t3 n3 l3 t4 n4 l4,p=some ⟨b,off,none⟩∧S b∧b<w.heap.size∧x.name.length≤1000000∧Xf S w [.int .i64 tk,.string ts,.int .i64 tn,.slice t3 n3 l3,.slice t4 n4 l4] x.type∧Qqa w b (off+i*6) x.name∧Qqa w b (off+i*6+1) (.int .i64 tk)∧Qqa w b (off+i*6+2) (.string ts)∧Qqa w b (off+i*6+3) (.int .i64 tn)∧Qqa w b (off+i*6+4) (.slice t3 n3 l3)∧Qqa w b (off+i*6+5) (.slice t4 n4 l4):=by
 obtain ⟨b,off,cs,rfl,hb,hS,_,hr,A⟩:=h.elem hx
 obtain ⟨tc,rfl,hn,ht⟩:=hr
 obtain ⟨tk,ts,tn,t3,n3,l3,t4,n4,l4,rfl⟩:=ht.cells
 simp only [show X7.k=6 from rfl] at A
 exact ⟨b,off,tk,ts,tn,t3,n3,l3,t4,n4,l4,rfl,hS,hb,hn,ht,A 0 _ rfl,A 1 _ rfl,A 2 _ rfl,A 3 _ rfl,A 4 _ rfl,A 5 _ rfl⟩
theorem veil0 {P:Program} {id:Nat} {b:Bool} {Q:Exit→Act→World→Prop} {a:Act} {w:World} {o:Oper} {l:List Oper} (h:(Code.region id (List.toArray (veil o::l)) b).wp P Q a w):(Code.region id (List.toArray (o::l)) b).wp P Q a w:=h
def RowTIs (S:Nat→Prop) (w:World) (u:Ty) (m:Nat) (e:Ending) (w':World):Prop:=∃ p3 k3 p4 k4,e=.returned (.agg #[.int .i64 5,Qqe,Qqd,.slice p3 m k3,.slice p4 m k4])∧Xf (fun b=>S b∨w≤b) w' [.int .i64 5,Qqe,Qqd,.slice p3 m k3,.slice p4 m k4] u∧Below w w w'
def N7 (S:Nat→Prop) (w W1:World) (t:Tbl) (k:Nat) (wx:World):Prop:=∃ p3 k3 p4 k4,k≤k3∧k≤k4∧wx.heap[w.heap.size+2]?=some (.cells #[.int .i64 5,Qqe,Qqd,.slice p3 k k3,.slice p4 k k4] 56 (0,0)) ∧
 Sl Zh (fun b=>(S b∧b<w)∨w+3≤b) wx (.slice p3 k k3) (Jt (t.columns.take k)).1∧Sl J6 (fun b=>(S b∧b<w)∨w+3≤b) wx (.slice p4 k k4) (Jt (t.columns.take k)).2∧Below (w+2) W1 wx
theorem C7 (S:Nat→Prop) (t:Tbl) (ct:List Value) (w:World) (ht0:Zn.R S w ct t) (hcl:t.columns.length≤1000):
  Calls prog 40 #[ct] w (RowTIs S w (N9 t) t.columns.length):=by
 have ht:Zn.R (fun b=>S b∧b<w) w ct t:=Zn.mono ht0 (fun b hb h=>⟨h,hb⟩)
 obtain ⟨cL,bS,cT,cS,dA,cZ,k0,dB,n0,dC,cW,cU,cI,cX,n20,cJ,cY,cV,cK,a0,z0,rfl,_,Y,_,_,_⟩:=Yj ht
 unfold tcs
 have HC:=Qq Y
 clear ht0 ht Y
 obtain ⟨n,hn⟩:=eX (t.columns.length)
 rw [hn] at HC hcl ⊢
 have HN:=Qq hn
 clear hn
 go_enter func40,ntmps40
 go_wp2_with fail
 generalize J:((w.alloc _).alloc _).alloc _=W1
 have aS:=eqB J (Xm _ _ _ _)
 have aP:=eqH (b:=w.heap.size) J (Zp _ _ _ _)
 have aQ:=eqH (b:=w.heap.size+1) J (Zo _ _ _ _)
 have aN:=eqH (b:=w.heap.size+2) J (Zi _ _ _ _)
 have bB:W1=w.heap.size+3:=by rw [← J];simp
 obtain ⟨bG,bN,bQ,bR⟩:=Qqp aS aP aQ bB
 have bA:N7 S w W1 t 0 W1:=⟨none,0,none,0,Q9 _,Q9 _,aN,Sl.nil _ _ _,Sl.nil _ _ _,Qz _ _⟩
 clear J aS aP aQ aN bB
 go_loopw [4] (fun i wr=>∃ k:Nat,k≤n∧i=.int .i64 k∧Aside (N7 S w W1 t k wr)) (fun i _=>n - (intOf i).toNat)
 case atStart=>exact ⟨0,Q8 _,rfl,bA⟩
 clear bA
 obtain ⟨k,hk,rfl,U⟩:=hrel
 obtain ⟨p3,k3,p4,k4,bX,bY,hQ,aY,aW,I⟩:=U.out
 have aE:=kE I Qqj bN.out
 have aR:=kE I Qqj bQ.out
 have aU:Below w w wr:=bG.out.trans (I.mono Qqj)
 have cQ:=I.size
 have cR:=bR.out
 obtain ⟨cH,aC,bH,aI,aB,aA,HQ⟩:=Qqt aE aR I aU aY aW hQ
 have c1:=rA1 aE
 clear aE aR I aU aY aW U
 by_cases hlt:k<n
 ·have cN:(0:Int)≤(k:Int):=Qqj
  have cO:(k:Int)<(n:Int):=Qqj
  obtain ⟨c,hc⟩:∃ c,t.columns[k]?=some c:=⟨_,Qx (by rw [HN.out];exact hlt)⟩
  have aZ:=Hk hc
  obtain ⟨cb,A,tk,ts,tn,t3,n3,l3,t4,n4,l4,bW,bU,cM,bV,Z,d0,d1,d2,d3,d4,d5⟩:=(HC.out.below aI.out).col hc
  subst bW
  have cG:=bU.2
  have aF:=Hz _ (t.columns.take k) rfl
  have aX:(t.columns.take k).length=k:=by rw [Qm,HN.out];omega
  rw [aX] at aF
  obtain ⟨bO,aJ,aL⟩:=Qqo Z aF aZ
  refine let_mvar% ?Lq1:=fun w':World=>Qqa w' w 1 (Qqb cb A n bS)∧Qqa w' cb (A+k*6) c.name∧Qqa w' cb (A+k*6+1) tk∧Qqa w' cb (A+k*6+2) (.string ts)∧Qqa w' cb (A+k*6+3) tn∧Qqa w' cb (A+k*6+4) (.slice t3 n3 l3)∧Qqa w' cb (A+k*6+5) (.slice t4 n4 l4);?_
  have aK:=Qq (fun (w':World) (h:Below wr wr w')=>(show ?Lq1 w' from ⟨kC h c1,kC h d0,kC h d1,kC h d2,kC h d3,kC h d4,kC h d5⟩))
  have HP:∀ w' x0 x1 x2 x3 x4,?Lq1 w'→?Lq1 (Zl w' (w+2) x0 x1 x2 x3 x4):=fun w' x0 x1 x2 x3 x4 h=>⟨Zm Qqj h.1,Zm Qqj h.2.1,Zm Qqj h.2.2.1,Zm Qqj h.2.2.2.1,Zm Qqj h.2.2.2.2.1,Zm Qqj h.2.2.2.2.2.1,Zm Qqj h.2.2.2.2.2.2⟩
  unfold Zl at HP
  have bK:=Qq HP
  have bM:=Qq (aK.out wr.drew (Qz _ _).drew)
  have V:=Qq (fun W (hW:Below wr wr W)=>Qjh (fun b=>(S b∧b<w)∨w+3≤b) 5 ⟨#[]⟩ 0 (Jt (t.columns.take k)).1 (Jt (t.columns.take k)).2 k p3 k3 p4 k4 c.name c.type [tk,.string ts,tn,.slice t3 n3 l3,.slice t4 n4 l4] W (aB.out.below hW) (aA.out.below hW) aJ.out.1 aJ.out.2.1 (bO.out.move (.of_below hW) (fun _ _ h=>.inl h)) bX bY Qqj bV)
  unfold sv at V
  have cF:∀ o,veil o=o:=fun _=>rfl
  obtain ⟨q0,q1,q2,q3,q4⟩:=row5 hQ
  have bT:=Z8 hQ
  clear Z aF aX aZ HP hQ
  go_upto_region 5 with fail
  clear c1 d0 d1 d2 d3 d4 d5
  refine veil0 ?_
  go_region_held3 ?Lq1 (first | with_reducible exact bM.out | with_reducible exact aO | with_reducible exact bK.out _ _ _ _ _ _ aO)
   (first
    | (go_at_call 94;refine (V.out _ (Qz _ _).drew).mono ?_;rintro e w7 ⟨r3,m3,r4,m4,rfl,cB,cC,T,aT⟩;have G:=(Qz _ wr).drew.thn aT;have aO:=aK.out w7 G;have O:=kE G bT HQ.out;obtain ⟨y0,y1,y2,y3,y4⟩:=row5 O;obtain ⟨f0,f1,f2,f3,f4⟩:=frz5 O;obtain ⟨bL,bP,aH⟩:=Qqo O T G;clear T aT G O))
  all_goals
   go_wp2_with fail
   go_roundw
   case measure=>simp [intOf];omega
   case rel=>
    refine ⟨k+1,Qqj,by go_num,(show Aside _ from ?_)⟩
    show N7 S w W1 t (k+1) (Zl w7 (w+2) (.int .i64 5) Qqe Qqd (.slice r3 (k+1) m3) (.slice r4 (k+1) m4))
    have T:=bP.out
    have cP:=aH.out.size
    obtain ⟨nv,kv,aV,_,cE,bZ⟩:=O4.1 T
    simp only [List.cons.injEq,and_true,true_and] at aV
    obtain ⟨-,rfl,rfl⟩:=aV
    have D:∀ b,((fun b=>(S b∧b<w.heap.size)∨w.heap.size+3≤b) b∨wr.heap.size≤b)→b≠w.heap.size+2:=fun b hb=>by
     rcases hb with (hb | hb) | hb
     ·have:=hb.2;omega
     ·omega
     omega
    have N:∀ b,((fun b=>(S b∧b<w.heap.size)∨w.heap.size+3≤b) b∨wr.heap.size≤b)→(fun b=>(S b∧b<w.heap.size)∨w.heap.size+3≤b) b:=fun b hb=>by
     rcases hb with hb | hb
     ·exact hb
     exact .inr Qqj
    refine ⟨r3,m3,r4,m4,cB,cC,Yd bL.out,?_,?_,?_⟩
    ·rw [aL.out,Bj]
     exact (cE.frame (fun b hb _=>Zf (D b hb))).mono (fun b _ hb=>N b hb)
    ·rw [aL.out,Bj]
     exact (bZ.frame (fun b hb _=>Zf (D b hb))).mono (fun b _ hb=>N b hb)
    exact Zc (bH.out.trans (aH.out.mono Qqj)) (Q9 _)
 have cA:k=n:=Qqj
 subst cA
 have M:t.columns.take k=t.columns:=Zj (by rw [HN.out];exact Q9 _)
 rw [M] at aB aA
 obtain ⟨q0,q1,q2,q3,q4⟩:=row5 hQ
 obtain ⟨y0,y1,y2,y3,y4⟩:=row5 aC.out
 obtain ⟨f0,f1,f2,f3,f4⟩:=frz5 aC.out
 clear hQ M
 go_wp2_with fail
 show bodyPost _ _ _ _ _ (Zl wr (w+1) (.int .i64 5) Qqe Qqd (.slice p3 k k3) (.slice p4 k k4))
 refine Q7 (v:=.agg #[.int .i64 5,Qqe,Qqd,.slice p3 k k3,.slice p4 k k4]) (by simp [results,results40,go_sem,Zd aC.out]) rfl ⟨p3,k3,p4,k4,rfl,?_,Zc aI.out Qqj⟩
 have D:∀ b,(fun b=>(S b∧b<w.heap.size)∨w.heap.size+3≤b) b→b≠w.heap.size+1:=fun b hb=>by
  rcases hb with hb | hb
  ·have:=hb.2;omega
  omega
 exact (Kn (s:=[]) Qqk (aB.out.frame (fun b hb _=>Zf (D b hb))) (aA.out.frame (fun b hb _=>Zf (D b hb)))).move (.refl _ _) (fun b _ hb=>by
  rcases hb with hb | hb
  ·exact .inl hb.1
  exact .inr Qqj)
structure Pk (us:List Sm) (t:Tbl) (rows:List Val) (p2 p5:Val→Bool) (K:Val→List Int):Prop where
 srt:Srt Ks t.columns
 few:t.columns.length≤19
 some:t.columns≠[]
 typed:∀ x ∈ rows,Y2 x∧Dk us x (Mv t) (p2 x)
 keys:(∀ x ∈ rows,p2 x=true)→Ey t rows K
 many:rows.length≤100000
 key:t.key.length≤1000
 check:(∀ x ∈ rows,p2 x=true)→∀ x ∈ rows,Bm t x (p5 x)
def cfOf (s:Sc) (l:List Rel) (p2 p5:Nat→Val→Bool) (K:Nat→Val→List Int) (c i:Nat):Ft:=
 let rows:=(l.getD i ⟨[],[]⟩).rows
 match c with
 | 0=>Ej rows
 | 1=>Xi 9 (p2 i) rows
 | 2=>Uo rows (ust rows.length (rows.map fun r=>kb (K i r)) rows.length)
 | 3=>Yi s l rows (s.tables.getD i Tbl.zero).refs
 | _=>Xi 13 (p5 i) rows
theorem Np {code:Int} (hc:code≠0) {p:Val→Bool} {rows:List Val} (h:(Xi code p rows).code=0):∀ x ∈ rows,p x=true:=by
 unfold Xi at h
 intro x hx
 cases hf:rows.findIdx? (fun r=>!p r) with
 | none=>
  have:=List.findIdx?_eq_none_iff.1 hf x hx
  simpa using this
 | some i=>
  rw [hf] at h
  exact absurd h hc
theorem conOk_of (w:World) (S0 S1:Nat→Prop) (s:Sc) (cs:List Value) (lv:Value) (l:List Rel) (p2 p5:Nat→Val→Bool) (K:Nat→Val→List Int) (hs:Xu S0 w cs s) (hl:Sl Y7 S1 w lv l) (hkw:Xl w)
  (hkey:∀ t ∈ s.tables,t.key.length≤1000) (hok:∀ (i:Nat) (t:Tbl) (r:Rel),s.tables[i]?=some t→l[i]?=some r→Pk s.sums t r.rows (p2 i) (p5 i) (K i)):ConOk w s cs lv l (cfOf s l p2 p5 K):=by
 intro c hc i t r T hr J B C W G rv hb hB hC A D
 have I:=hok i t r T hr
 have M:(l.getD i ⟨[],[]⟩).rows=r.rows:=by rw [Qs,hr];rfl
 have h2:s.tables.getD i Tbl.zero=t:=by rw [Qs,T];rfl
 have Y:=hs.below hb
 have O:(cfOf s l p2 p5 K 1 i).code=0→∀ x ∈ r.rows,p2 i x=true:=fun h x hx=>by
  have h':(Xi 9 (p2 i) (l.getD i ⟨[],[]⟩).rows).code=0:=h
  rw [M] at h'
  exact Np Qqx h' x hx
 obtain ⟨uv,tv,rfl,hu,Z⟩:=hs
 have N:W.cell? ⟨B,0,none⟩=some uv:=by rw [Qk _ _ _ _ _ _ hB];rfl
 have V:W.cell? ⟨B,1,none⟩=some tv:=by rw [Qk _ _ _ _ _ _ hB];rfl
 match c,hc with
 | 0,_=>
  show Calls _ _ #[G,rv] W (Dq _ W (Ej (l.getD i ⟨[],[]⟩).rows))
  rw [M]
  exact con1_any _ _ _ t G rv r.rows W A D
 | 1,_=>
  show Calls _ _ #[G,rv,Qqc B] W (Dq _ W (Xi 9 (p2 i) (l.getD i ⟨[],[]⟩).rows))
  rw [M]
  obtain ⟨ps,U,rfl,_⟩:=hu.len
  exact con2_any s.sums B _ _ ps _ U t G rv r.rows (p2 i) W N A D ((hu.below hb).mono (fun b hb _=>hb)) I.srt I.few I.some I.typed (hkw.below hb)
 | 2,_=>
  show Calls _ _ #[G,rv] W (Dq _ W (Uo (l.getD i ⟨[],[]⟩).rows (ust (l.getD i ⟨[],[]⟩).rows.length ((l.getD i ⟨[],[]⟩).rows.map fun r=>kb (K i r)) (l.getD i ⟨[],[]⟩).rows.length)))
  rw [M]
  exact con3_any _ _ t G rv r.rows (K i) W A D (I.keys (O (J 1 i Qqx (Qj T).1))) I.many I.key
 | 3,_=>
  show Calls _ _ #[G,rv,Qqc B,Qqc C] W (Dq _ W (Yi s l (l.getD i ⟨[],[]⟩).rows (s.tables.getD i Tbl.zero).refs))
  rw [M,h2]
  exact con4_any B C S0 S1 _ _ s uv tv lv l t G rv r.rows W N V hC Y (hl.below hb) A D hkey
 | 4,_=>
  show Calls _ _ #[G,rv] W (Dq _ W (Xi 13 (p5 i) (l.getD i ⟨[],[]⟩).rows))
  rw [M]
  exact con5_any _ _ t G rv r.rows (p5 i) W A D (hkw.below hb) (I.check (O (J 1 i Qqx (Qj T).1)))
theorem To (S0 S1:Nat→Prop) (s:Sc) (cs:List Value) (lv:Value) (l:List Rel) (p2 p5:Nat→Val→Bool) (K:Nat→Val→List Int) (w:World) (hs:Xu S0 w cs s) (hl:Sl Y7 S1 w lv l) (hkw:Xl w)
  (hkey:∀ t ∈ s.tables,t.key.length≤1000) (hok:∀ (i:Nat) (t:Tbl) (r:Rel),s.tables[i]?=some t→l[i]?=some r→Pk s.sums t r.rows (p2 i) (p5 i) (K i)):
  Calls prog 9 #[cs,lv] w (Xt w s l (cfOf s l p2 p5 K)):=
 Qjv S0 S1 s cs lv l w hs hl _ (conOk_of w S0 S1 s cs lv l p2 p5 K hs hl hkw hkey hok)
theorem J4 {code:Int} {p:Val→Bool} {rows:List Val} (h:∀ x ∈ rows,p x=true):Xi code p rows=Ft.zero:=by
 unfold Xi
 rw [List.findIdx?_eq_none_iff.2 (fun x hx=>by simp [h x hx])]
theorem Li {rows:List Val} (h:rows.length≤256):Ej rows=Ft.zero:=by unfold Ej;rw [if_neg Qqj]
theorem Oc (n:Nat) (ks:List Bs) (hd:∀ (i j:Nat) (a b:Bs),i<j→ks[i]?=some a→ks[j]?=some b→a≠b):∀ i,i≤ks.length→ust n ks i=(n,0)
 | 0,_=>rfl
 | i+1,hi=>by
  show U5 (ks.take i) (ust n ks i) (ks.getD i [])=(n,0)
  rw [Oc n ks hd i Qqj]
  unfold U5
  have hk:ks[i]?=some ks[i]:=Qx Qqj
  have:Yo (ks.take i) (ks.getD i [])=none:=by
   unfold Yo
   rw [List.findIdx?_eq_none_iff]
   intro x hx
   obtain ⟨j,A⟩:=Zk hx
   have D:=(Qj A).1
   rw [Qm] at D
   rw [List.getElem?_take_of_lt Qqj] at A
   have:=hd j i x ks[i] Qqj A hk
   rw [Qs,hk]
   simpa using this
  rw [this]
theorem Bv {rows:List Val} {ks:List Bs} (hl:ks.length=rows.length) (hd:∀ (i j:Nat) (a b:Bs),i<j→ks[i]?=some a→ks[j]?=some b→a≠b):Uo rows (ust rows.length ks rows.length)=Ft.zero:=by
 rw [Oc _ _ hd _ Qqj]
 unfold Uo
 rw [if_pos rfl]
end Go.Proofs.YtdpibdpbgokmoaaGreatDoor
