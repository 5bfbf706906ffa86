import Derived.Test.YtcljcblceodciaaGreatDoorU29
import Derived.Test.YtcljcblceodciaaGreatDoorU24
set_option maxRecDepth 100000
set_option maxHeartbeats 400000000
namespace Go.Proofs.YtcljcblceodciaaGreatDoor
open Go.RowKit Go.Shelf Go.Lib Tryz
def Ty.kind:Ty->Int | .mk k _ _ _ _=>k
def Ty.name:Ty->Bs | .mk _ s _ _ _=>s
def Ja (t:Ty):Prop:=t.kind=0\/t.kind=1\/t.kind=2
def Jw (u:Sm) (v:Val):Bool:=match atP (fun c=>decide (c.name=v.s)) u.ctors with
 | none=>false
 | some c=>if c.has then (match v.kids with
  | [x]=>x.kind==c.arg.kind
  | _=>false) else decide (v.kids.length=0)
def B1 (us:List Sm) (v:Val) (nm:Bs):Bool:=(v.kind==3)&&(match atP (fun u=>decide (u.name=nm)) us with
 | none=>false
 | some u=>Jw u v)
theorem Lq (us:List Sm) (v:Val) (t:Ty) (h:Ja t):Kh us v t (v.kind==t.kind):=by
 obtain ⟨k,s,n,names,kids⟩:=t
 exact rhasLeaf us v k h s n names kids
theorem Gr.drn {a b:World} (h:Gr a b) (n:Nat):Gr a (b.drewN n):=h.thn ⟨n,#[],by rw [Sort.grow_empty]⟩
def RMadeAt (us:List Sm) (u:Sm) (v:Val) (b:Bool):Prop:=∀ (S S' S'':Nat->Prop) (cu cv:List Value) (uv:Value) (w:World),Sl Ug S'' w uv us->Ug.R S' w cu u->Z9 S w cv v ->
 Calls prog 149 #[uv,cu,cv] w fun e w'=>e=.returned (.bool b)/\Gr w w'
theorem T4 (us:List Sm) (u:Sm) (v:Val) (hl:∀ c ∈ u.ctors,Ja c.arg):RMadeAt us u v (Jw u v):=by
 intro S S' cF cu cv uv w hu cB hv
 obtain ⟨up,uc,rfl,_⟩:=hu.len
 obtain ⟨cH,rfl,cL,Z⟩:=cB
 obtain ⟨cp,cc,rfl,bV⟩:=Z.len
 obtain ⟨p3,k3,p4,k4,bA,_,aC,cM⟩:=Z9.cells hv
 simp only [vcs] at bA
 subst bA
 have mixed:prog.follows .mixedOrders=true:=Cd
 obtain ⟨n,hn⟩:=eX (u.ctors.length)
 rw [hn] at Z bV |-
 obtain ⟨r,hr⟩:=eX (Jw u v)
 rw [hr]
 obtain ⟨HR,HN,HU,HC,HV,HL⟩:=Qjv hr hn hu Z aC hl
 clear hu hv Z aC hl hr hn
 unfold sv
 go_enter func149,ntmps149
 go_wp2_with fail
 generalize Y:(w.alloc _).alloc _=W1
 have bB:Gr w W1:=by rw [<- Y];exact Ve _ _ _
 have aV:=eqH (b:=w.heap.size) Y (Q5 _ _ _)
 have aL:=eqH (b:=w.heap.size+1) Y (Q6 _ _ _)
 obtain ⟨O,bI,bM⟩:=Qjq bB aV aL
 have bX:=Z8 aL
 clear Y bB aV aL
 go_loopw [7] (fun i wr=>∃ k:Nat,k<=n/\i=.int .i64 k/\Aside (∀ (j:Nat) (y:Ct),j<k->u.ctors[j]?=some y->decide (y.name=v.s)=false)/\Aside (Gr W1 wr)) (fun i _=>n - (intOf i).toNat)
 case atStart=>exact ⟨0,Q8 _,rfl,fun j _ hj=>absurd hj (Z6 _),Gr.refl _⟩
 obtain ⟨k,hk,rfl,A,aU⟩:=hrel
 have G:=Qq (show Gr W1 wr from aU)
 have aP:=Qq (O.out.thn G.out).bl
 have aK:=kB G.out.bl bI.out
 have aW:=kE G.out.bl bX bM.out
 have cE:=Qq aK;have aJ:=Qq aW
 obtain ⟨a0,a1⟩:=row2 aK
 clear aU aK aW
 by_cases hlt2:k<n
 ·have cJ:(0:Int)<=(k:Int):=C7
  have cK:(k:Int)<(n:Int):=C7
  obtain ⟨c,hc⟩:∃ c,u.ctors[k]?=some c:=⟨_,Qx (by rw [HN.out];exact hlt2)⟩
  obtain ⟨cb,cD,cG,rfl,M,_,_,⟨tc,rfl,cI,U⟩,J⟩:=(HC.out.below aP.out).elem hc
  obtain ⟨tk,ts,tn,t3,n3,l3,t4,n4,l4,rfl⟩:=U.cells
  have d0:=J 0 _ rfl;have d1:=J 1 _ rfl;have d2:=J 2 _ rfl;have d3:=J 3 _ rfl;have d4:=J 4 _ rfl;have d5:=J 5 _ rfl;have d6:=J 6 _ rfl
  rw [show Gk.k=7 from rfl] at d0 d1 d2 d3 d4 d5 d6
  rw [Nat.add_zero] at d0
  unfold sv at d0
  have b2:=rA2 aJ.out;have b4:=rA4 aJ.out
  obtain ⟨bK,bH,aQ⟩:=Qjq U (HL.out c (Qy hc)) hc
  clear hc J U
  by_cases he:c.name=v.s
  ·have hq:(c.name != v.s)=false:=by rw [he];simp
   have bZ:(c.name==v.s)=true:=by rw [he];simp
   have I:atP (fun c=>decide (c.name=v.s)) u.ctors=some c:=Bb aQ.out (by simpa using he) A.out
   have D:(if c.has then (match v.kids with
    | [x]=>x.kind==c.arg.kind
    | _=>false) else decide (v.kids.length=0))=r:=by rw [<- HR.out];unfold Jw;rw [I]
   have aR:=Qq D
   clear I D A he
   go_upto_region 4 with fail
   go_quiet (fail)
   obtain ⟨wq,N⟩:=eX (wr.drewN nq)
   have aA:Gr wr wq:=by rw [<- N];exact (Gr.refl _).drn _
   rw [N]
   have T:=Qq aA
   have hh:∀ {b j:Nat} {x:Value},wr.cell? ⟨b,j,none⟩=some x->wq.cell? ⟨b,j,none⟩=some x:=fun hx=>kC aA.bl hx
   have a1:=hh a1;have b4:=hh b4;have d1:=hh d1;have d2:=hh d2;have d3:=hh d3;have d4:=hh d4;have d5:=hh d5;have d6:=hh d6
   have M:=Qa M aA.bl.size
   clear hh N aA hq a0 d0 b2
   cases hhas:c.has with
   | false=>
    rw [hhas] at d1
    have D:=aR.out
    rw [hhas] at D
    simp only [Bool.false_eq_true,if_false] at D
    by_cases h0:v.kids.length=0
    ·obtain rfl:true=r:=by rw [<- D];simp [h0]
     have aM:((v.kids.length:Int)==0)=true:=by rw [beq_iff_eq];omega
     clear D h0 d2 d3 d4 d5 d6
     go_wp2_with fail
     go_ret
     exact ⟨rfl,(O.out.thn G.out).thn T.out⟩
    obtain rfl:false=r:=by rw [<- D];simp [h0]
    have aM:((v.kids.length:Int)==0)=false:=by rw [<- Qt,beq_iff_eq];omega
    clear D h0 d2 d3 d4 d5 d6
    go_wp2_with fail
    go_ret
    exact ⟨rfl,(O.out.thn G.out).thn T.out⟩
   | true=>
    rw [hhas] at d1
    have D:=aR.out
    rw [hhas] at D
    simp only [if_true] at D
    by_cases h1:v.kids.length=1
    ·obtain ⟨x,hx⟩:=List.length_eq_one_iff.1 h1
     rw [hx] at D
     have bE:v.kids[0]?=some x:=by rw [hx];rfl
     have N:Below w w wq:=aP.out.thn T.out.bl
     rw [h1] at HV aJ b4
     obtain ⟨ga,oa,x3,m3,x4,m4,rfl,V,bC,e0,e1,e2,e3,e4⟩:=(HV.out.below N).val bE
     simp only [Nat.zero_mul,Nat.add_zero] at e0 e1 e2 e3 e4
     have hX:=Lq us x c.arg bH.out
     have aI:(x.kind==c.arg.kind)=r:=D
     rw [aI] at hX
     obtain ⟨HX,bL,bN,bJ⟩:=Qjz hX (HU.out.below N) bC (bK.out.move (.of_below T.out.bl) Qje)
     have aZ:∀ n os,Calls prog 105 #[.slice up us.length uc,.agg (vcs x x3 m3 x4 m4).toArray,.agg #[tk,.string ts,tn,.slice t3 n3 l3,.slice t4 n4 l4]] (Sort.grow (wq.drewN n) os) fun e w'=>e=.returned (.bool r)/\Gr (Sort.grow (wq.drewN n) os) w':=fun n os=>HX.out _ _ _ _ _ _ _ (bL.out.below (Yb _ _ _).bl) (bN.out.move (.of_below (Yb _ _ _).bl) Qje) (bJ.out.move (.of_below (Yb _ _ _).bl) Qje)
     unfold vcs at aZ
     have aX:w.heap.size<wq.heap.size:=Qv _ _ a1
     have aY:w.heap.size+1<wq.heap.size:=Qv _ _ b4
     have E0:=Zs V e0;have E1:=Zs V e1;have E2:=Zs V e2;have E3:=Zs V e3;have E4:=Zs V e4
     have D2:=Zs M d2;have D3:=Zs M d3;have D4:=Zs M d4;have D5:=Zs M d5;have D6:=Zs M d6
     have A1:=Zs aX a1;have B4:=Zs aY b4
     have aM:((1:Int)==1)=true:=rfl
     clear D aI h1 hx bE bC hX d2 d3 d4 d5 d6 e0 e1 e2 e3 e4 N
     go_wp2_with fail
     go_quiet_grown (first | (go_at_call 105;refine Calls.grown_of (aZ _ _)))
     go_wp2_with fail
     go_ret
     exact ⟨rfl,((O.out.thn G.out).thn T.out).thn (Yb _ _ _)⟩
    obtain rfl:false=r:=by
     rw [<- D]
     match aC:v.kids with
     | []=>rfl
     | [x]=>rw [aC] at h1;simp at h1
     | _::_::_=>rfl
    have aM:((v.kids.length:Int)==1)=false:=by rw [<- Qt,beq_iff_eq];omega
    clear D h1 d2 d3 d4 d5 d6
    go_wp2_with fail
    go_quiet (fail)
    go_wp2_with fail
    go_ret
    exact ⟨rfl,((O.out.thn G.out).thn T.out).drn _⟩
  have hq:(c.name != v.s)=true:=by rw [bne_iff_ne];exact he
  have bZ:(c.name==v.s)=false:=by rw [<- Qt,beq_iff_eq];exact he
  have HE:=Qq he
  clear he
  go_upto_region 4 with fail
  go_quiet (fail)
  go_wp2_with fail
  go_roundw
  case measure=>simp [intOf];omega
  case rel=>
   refine ⟨k+1,C7,by go_num,(show Aside _ from fun j y hj hy=>?_),G.out.drn _⟩
   by_cases e:j=k
   ·subst e
    have:=aQ.out
    rw [this] at hy
    cases hy
    simpa using HE.out
   exact A.out j y C7 hy
 have bW:k=n:=C7
 subst bW
 have I:atP (fun c=>decide (c.name=v.s)) u.ctors=none:=Hx (fun j y hy=>A.out j y (by have:=(Qj hy).1;have:=HN.out;omega) hy)
 obtain rfl:false=r:=by rw [<- HR.out];unfold Jw;rw [I]
 clear I A
 go_wp2_with fail
 go_ret
 exact ⟨rfl,O.out.thn G.out⟩
theorem rhasSum (us:List Sm) (v:Val) (s:Bs) (tn:Int) (names:List Bs) (kids:List Ty) (hl:∀ u ∈ us,∀ c ∈ u.ctors,Ja c.arg):Kh us v (.mk 3 s tn names kids) (B1 us v s):=by
 intro S S' bC cv ct uv w U hv ht
 obtain ⟨up,uc,rfl,bM⟩:=U.len
 obtain ⟨p3,k3,p4,k4,aM,bP,bO,bV⟩:=Z9.cells hv
 have bB:=Qq hv
 simp only [vcs] at aM
 subst aM
 obtain ⟨q3,l3,q4,l4,rfl,_⟩:=ht.cells'
 have mixed:prog.follows .mixedOrders=true:=Cd
 obtain ⟨r,hr⟩:=eX (B1 us v s)
 rw [hr]
 obtain ⟨n,hn⟩:=eX (us.length)
 rw [hn] at U bM |-
 obtain ⟨HR,HN,HU,HL⟩:=Qjz hr hn U hl
 clear U hv ht bP bO hl hr hn
 by_cases h3:v.kind=3
 ·have hq:(v.kind != 3)=false:=by rw [h3];rfl
  have aQ:(match atP (fun u=>decide (u.name=s)) us with
   | none=>false
   | some u=>Jw u v)=r:=by rw [<- HR.out];unfold B1;rw [h3];rfl
  have aG:=Qq aQ
  clear h3 aQ
  go_enter func105,ntmps105
  go_wp2_with fail
  clear hq
  generalize O:(w.alloc _).alloc _=W1
  have aN:Gr w W1:=by rw [<- O];exact Ve _ _ _
  have aL:=eqH (b:=w.heap.size) O (Q5 _ _ _)
  have aA:=eqH (b:=w.heap.size+1) O (Q6 _ _ _)
  obtain ⟨M,aY,bA⟩:=Qjq aN aA aL
  have bH:=Z8 aA
  clear O aN aA aL
  go_loopw [9] (fun i wr=>∃ k:Nat,k<=n/\i=.int .i64 k/\Aside (∀ (j:Nat) (y:Sm),j<k->us[j]?=some y->decide (y.name=s)=false)/\Aside (Gr W1 wr)) (fun i _=>n - (intOf i).toNat)
  case atStart=>exact ⟨0,Q8 _,rfl,fun j _ hj=>absurd hj (Z6 _),Gr.refl _⟩
  obtain ⟨k,hk,rfl,A,aJ⟩:=hrel
  have I:=Qq (show Gr W1 wr from aJ)
  have aV:=Qq (M.out.thn I.out).bl
  have aK:=kE I.out.bl bH aY.out
  have J:=kB I.out.bl bA.out
  have b1:=Qk _ _ 1 _ _ _ aK;have a0:=rA0 J;have a1:=rA1 J;have a2:=rA2 J;have a3:=rA3 J;have a4:=rA4 J
  simp only [Qf,Qg,Qh] at b1
  clear aJ aK J
  by_cases hlt2:k<n
  ·have bT:(0:Int)<=(k:Int):=C7
   have bU:(k:Int)<(n:Int):=C7
   obtain ⟨u,U⟩:∃ u,us[k]?=some u:=⟨_,Qx (by rw [HN.out];exact hlt2)⟩
   have aB:=HU.out.below aV.out
   have aZ:=Qq aB
   obtain ⟨ub,aT,bW,rfl,V,_,_,bL,aC⟩:=aB.elem U
   obtain ⟨bR,aS,bJ,aD⟩:=bL
   subst aS
   obtain ⟨cp,cc,rfl,bS⟩:=aD.len
   have Z:=aC 0 _ rfl;have d1:=aC 1 _ rfl
   rw [show Ug.k=2 from rfl] at Z d1
   rw [Nat.add_zero] at Z
   unfold sv at Z
   obtain ⟨aX,aW,aH⟩:=Qjq (show Ug.R bC wr [sv u.name,.slice cp u.ctors.length cc] u from ⟨_,rfl,bJ,aD⟩) (HL.out u (Qy U)) U
   clear U aC aD aB
   by_cases he:u.name=s
   ·have hq:(u.name==s)=true:=by rw [he];simp
    have D:atP (fun u=>decide (u.name=s)) us=some u:=Bb aH.out (by simpa using he) A.out
    have aR:Jw u v=r:=by rw [<- aG.out,D]
    have hM:=T4 us u v aW.out
    rw [aR] at hM
    have HM:=Qq hM
    clear D aR A he hM
    go_upto_region 30 with fail
    go_quiet (fail)
    obtain ⟨wq,aE⟩:=eX (wr.drewN nq)
    have T:Gr wr wq:=by rw [<- aE];exact (Gr.refl _).drn _
    rw [aE]
    have N:=Qq T
    have Y:∀ {b j:Nat} {x:Value},wr.cell? ⟨b,j,none⟩=some x->wq.cell? ⟨b,j,none⟩=some x:=fun hx=>kC T.bl hx
    have Z:=Y Z;have d1:=Y d1;have a0:=Y a0;have a1:=Y a1;have a2:=Y a2;have a3:=Y a3;have a4:=Y a4
    have V:=Qa V T.bl.size
    have G:w.heap.size<wq.heap.size:=Qv _ _ a0
    have D0:=Zs V Z;have D1:=Zs V d1
    have A0:=Zs G a0;have A1:=Zs G a1;have A2:=Zs G a2;have A3:=Zs G a3;have A4:=Zs G a4
    have bF:∀ n' os,Calls prog 149 #[Cg ub aT n uc,.agg #[u.name,.slice cp u.ctors.length cc],.agg (Cn v p3 k3 p4 k4)] (Sort.grow (wq.drewN n') os) fun e w'=>e=.returned (.bool r)/\Gr (Sort.grow (wq.drewN n') os) w':=fun n' os=>HM.out _ _ _ _ _ _ _ (aZ.out.below (N.out.thn (Yb _ _ _)).bl) (Ug.frame aX.out (.of_below (N.out.thn (Yb _ _ _)).bl)) (bB.out.move (.of_below ((M.out.thn (I.out.thn N.out)).thn (Yb _ _ _)).bl) Qje)
    clear Y aE T hq a0 a1 a2 a3 a4 Z d1 b1
    go_wp2_with fail
    go_quiet_grown (first | (go_at_call 149;refine Calls.grown_of (bF _ _)))
    go_wp2_with fail
    go_ret
    exact ⟨rfl,((M.out.thn I.out).thn N.out).thn (Yb _ _ _)⟩
   have hq:(u.name==s)=false:=by rw [<- Qt,beq_iff_eq];exact he
   have HE:=Qq he
   clear he
   go_upto_region 30 with fail
   go_quiet (fail)
   go_wp2_with fail
   go_roundw
   case measure=>simp [intOf];omega
   case rel=>
    refine ⟨k+1,C7,by go_num,(show Aside _ from fun j y hj hy=>?_),I.out.drn _⟩
    by_cases e:j=k
    ·subst e
     have:=aH.out
     rw [this] at hy
     cases hy
     simpa using HE.out
    exact A.out j y C7 hy
  have bG:k=n:=C7
  subst bG
  have D:atP (fun u=>decide (u.name=s)) us=none:=Hx (fun j y hy=>A.out j y (by have:=(Qj hy).1;have:=HN.out;omega) hy)
  obtain rfl:false=r:=by rw [<- aG.out,D]
  clear D A
  go_wp2_with fail
  go_ret
  exact ⟨rfl,M.out.thn I.out⟩
 have hq:(v.kind != 3)=true:=by simpa using h3
 have aP:(v.kind==3)=false:=by simpa using h3
 obtain rfl:false=r:=by rw [<- HR.out];unfold B1;rw [aP];rfl
 clear aP h3
 go_enter func105,ntmps105
 go_wp2_with fail
 go_ret
 exact ⟨rfl,Ve _ _ _⟩
def Dw (l:List Col):List Bs × List Ty:=l.foldl (fun A c=>(Xe A.1 (below A.1 c.name) c.name,Xe A.2 (below A.1 c.name) c.type)) ([],[])
def M4 (t:Tbl):Ty:=.mk 5 [] 0 (Dw t.columns).1 (Dw t.columns).2
theorem G8 (l:List Col) (c:Col):Dw (l++[c])=(Xe (Dw l).1 (below (Dw l).1 c.name) c.name,Xe (Dw l).2 (below (Dw l).1 c.name) c.type):=by unfold Dw;rw [List.foldl_append];rfl
theorem E9 {T:Type} (l:List T) (i:Nat) (x:T):(Xe l i x).length=l.length+1:=by unfold Xe;simp;omega
theorem Py {T:Type} {l:List T} {i:Nat} {x y:T} (h:y ∈ Xe l i x):y ∈ l\/y=x:=by
 unfold Xe at h
 rcases Z4.1 h with h | h
 ·exact .inl (List.mem_of_mem_take h)
 rcases Z3.1 h with h | h
 ·exact .inr h
 exact .inl (Zw h)
theorem H7:∀ (k:Nat) (l:List Col),l.length=k->(Dw l).1.length=l.length/\(Dw l).2.length=l.length/\∀ y ∈ (Dw l).2,∃ c ∈ l,c.type=y
 | 0,l,h=>by rw [Zy h];exact ⟨rfl,rfl,fun y hy=>by simp [Dw] at hy⟩
 | k+1,l,h=>by
  obtain ⟨l',c,rfl⟩:∃ l' c,l=l'++[c]:=⟨l.dropLast,l.getLast (by intro e;subst e;simp at h),(List.dropLast_concat_getLast (by intro e;subst e;simp at h)).symm⟩
  obtain ⟨h1,h2,h3⟩:=H7 k l' (by simpa using h)
  rw [G8]
  refine ⟨by rw [E9,h1];simp,by rw [E9,h2];simp,fun y hy=>?_⟩
  rcases Py hy with hy | rfl
  ·obtain ⟨c',hc,e⟩:=h3 y hy
   exact ⟨c',by simp [hc],e⟩
  exact ⟨c,Ca,rfl⟩
theorem Be {T:Type} {l:List T} {k:Nat} {x:T} (h:l[k]?=some x):l.take (k+1)=l.take k++[x]:=by
 obtain ⟨h1,rfl⟩:=Qj h
 exact Zz h1
theorem Sl.col {S:Nat->Prop} {w:World} {p:Option Addr} {n cap:Nat} {xs:List Col} (h:Sl X6 S w (.slice p n cap) xs) {i:Nat} {x:Col} (hx:xs[i]?=some x):
  ∃ b off tk ts tn t3 n3 l3 t4 n4 l4,p=some ⟨b,off,none⟩/\S b/\b<w.heap.size/\x.name.length<=1000000/\X5 S w [.int .i64 tk,.string ts,.int .i64 tn,.slice t3 n3 l3,.slice t4 n4 l4] x.type/\Cf w b (off+i*6) x.name/\Cf w b (off+i*6+1) (.int .i64 tk)/\Cf w b (off+i*6+2) (.string ts)/\Cf w b (off+i*6+3) (.int .i64 tn)/\Cf w b (off+i*6+4) (.slice t3 n3 l3)/\Cf w b (off+i*6+5) (.slice t4 n4 l4):=by
 obtain ⟨b,off,cs,rfl,hb,hS,_,hr,A⟩:=h.elem hx
 obtain ⟨tc,rfl,hn,ht⟩:=hr
 obtain ⟨tk,ts,tn,t3,n3,l3,t4,n4,l4,rfl⟩:=ht.cells
 simp only [show X6.k=6 from rfl] at A
 exact ⟨b,off,tk,ts,tn,t3,n3,l3,t4,n4,l4,rfl,hS,hb,hn,ht,A 0 _ rfl,A 1 _ rfl,A 2 _ rfl,A 3 _ rfl,A 4 _ rfl,A 5 _ rfl⟩
theorem veil0 {P:Program} {id:Nat} {b:Bool} {Q:Exit->Act->World->Prop} {a:Act} {w:World} {o:Oper} {l:List Oper} (h:(Code.region id (List.toArray (veil o::l)) b).wp P Q a w):(Code.region id (List.toArray (o::l)) b).wp P Q a w:=h
def RowTIs (S:Nat->Prop) (w:World) (u:Ty) (m:Nat) (e:Ending) (w':World):Prop:=∃ p3 k3 p4 k4,e=.returned (.agg #[.int .i64 5,Cl,Ci,.slice p3 m k3,.slice p4 m k4])/\X5 (fun b=>S b\/w<=b) w' [.int .i64 5,Cl,Ci,.slice p3 m k3,.slice p4 m k4] u/\Below w w w'
def Me (S:Nat->Prop) (w W1:World) (t:Tbl) (k:Nat) (wx:World):Prop:=∃ p3 k3 p4 k4,k<=k3/\k<=k4/\wx.heap[w.heap.size+2]?=some (.cells #[.int .i64 5,Cl,Ci,.slice p3 k k3,.slice p4 k k4] 57 (0,0)) /\
 Sl Zh (fun b=>(S b/\b<w)\/w+3<=b) wx (.slice p3 k k3) (Dw (t.columns.take k)).1/\Sl Jk (fun b=>(S b/\b<w)\/w+3<=b) wx (.slice p4 k k4) (Dw (t.columns.take k)).2/\Below (w+2) W1 wx
theorem We (S:Nat->Prop) (t:Tbl) (ct:List Value) (w:World) (ht0:Zm.R S w ct t) (hcl:t.columns.length<=1000):
  Calls prog 47 #[ct] w (RowTIs S w (M4 t) t.columns.length):=by
 have ht:Zm.R (fun b=>S b/\b<w) w ct t:=Zm.mono ht0 (fun b hb h=>⟨h,hb⟩)
 obtain ⟨cL,bS,cT,cS,dA,cZ,k0,dB,n0,dC,cW,cU,cI,cX,n20,cJ,cY,cV,cK,a0,z0,rfl,_,Y,_,_,_⟩:=Zt ht
 unfold tcs
 have HC:=Qq Y
 clear ht0 ht Y
 obtain ⟨n,hn⟩:=eX (t.columns.length)
 rw [hn] at HC hcl |-
 have HN:=Qq hn
 clear hn
 go_enter func47,ntmps47
 go_wp2_with fail
 generalize J:((w.alloc _).alloc _).alloc _=W1
 have aS:=eqB J (Xm _ _ _ _)
 have aP:=eqH (b:=w.heap.size) J (Zp _ _ _ _)
 have aQ:=eqH (b:=w.heap.size+1) J (Zo _ _ _ _)
 have aN:=eqH (b:=w.heap.size+2) J (Zl _ _ _ _)
 have bB:W1=w.heap.size+3:=by rw [<- J];simp
 obtain ⟨bG,bN,bQ,bR⟩:=Qjz aS aP aQ bB
 have bA:Me S w W1 t 0 W1:=⟨none,0,none,0,Q9 _,Q9 _,aN,Sl.nil _ _ _,Sl.nil _ _ _,Qz _ _⟩
 clear J aS aP aQ aN bB
 go_loopw [4] (fun i wr=>∃ k:Nat,k<=n/\i=.int .i64 k/\Aside (Me S w W1 t k wr)) (fun i _=>n - (intOf i).toNat)
 case atStart=>exact ⟨0,Q8 _,rfl,bA⟩
 clear bA
 obtain ⟨k,hk,rfl,U⟩:=hrel
 obtain ⟨p3,k3,p4,k4,bX,bY,hQ,aY,aW,I⟩:=U.out
 have aE:=kE I C7 bN.out
 have aR:=kE I C7 bQ.out
 have aU:Below w w wr:=bG.out.trans (I.mono C7)
 have cQ:=I.size
 have cR:=bR.out
 obtain ⟨cH,aC,bH,aI,aB,aA,HQ⟩:=Qjx aE aR I aU aY aW hQ
 have c1:=rA1 aE
 clear aE aR I aU aY aW U
 by_cases hlt:k<n
 ·have cN:(0:Int)<=(k:Int):=C7
  have cO:(k:Int)<(n:Int):=C7
  obtain ⟨c,hc⟩:∃ c,t.columns[k]?=some c:=⟨_,Qx (by rw [HN.out];exact hlt)⟩
  have aZ:=Be hc
  obtain ⟨cb,A,tk,ts,tn,t3,n3,l3,t4,n4,l4,bW,bU,cM,bV,Z,d0,d1,d2,d3,d4,d5⟩:=(HC.out.below aI.out).col hc
  subst bW
  have cG:=bU.2
  have aF:=H7 _ (t.columns.take k) rfl
  have aX:(t.columns.take k).length=k:=by rw [Qm,HN.out];omega
  rw [aX] at aF
  obtain ⟨bO,aJ,aL⟩:=Qjq Z aF aZ
  refine let_mvar% ?Lq1:=fun w':World=>Cf w' w 1 (Cg cb A n bS)/\Cf w' cb (A+k*6) c.name/\Cf w' cb (A+k*6+1) tk/\Cf w' cb (A+k*6+2) (.string ts)/\Cf w' cb (A+k*6+3) tn/\Cf w' cb (A+k*6+4) (.slice t3 n3 l3)/\Cf w' cb (A+k*6+5) (.slice t4 n4 l4);?_
  have aK:=Qq (fun (w':World) (h:Below wr wr w')=>(show ?Lq1 w' from ⟨kC h c1,kC h d0,kC h d1,kC h d2,kC h d3,kC h d4,kC h d5⟩))
  have HP:∀ w' x0 x1 x2 x3 x4,?Lq1 w'->?Lq1 (Zi w' (w+2) x0 x1 x2 x3 x4):=fun w' x0 x1 x2 x3 x4 h=>⟨Zn C7 h.1,Zn C7 h.2.1,Zn C7 h.2.2.1,Zn C7 h.2.2.2.1,Zn C7 h.2.2.2.2.1,Zn C7 h.2.2.2.2.2.1,Zn C7 h.2.2.2.2.2.2⟩
  unfold Zi at HP
  have bK:=Qq HP
  have bM:=Qq (aK.out wr.drew (Qz _ _).drew)
  have V:=Qq (fun W (hW:Below wr wr W)=>Ai (fun b=>(S b/\b<w)\/w+3<=b) 5 ⟨#[]⟩ 0 (Dw (t.columns.take k)).1 (Dw (t.columns.take k)).2 k p3 k3 p4 k4 c.name c.type [tk,.string ts,tn,.slice t3 n3 l3,.slice t4 n4 l4] W (aB.out.below hW) (aA.out.below hW) aJ.out.1 aJ.out.2.1 (bO.out.move (.of_below hW) (fun _ _ h=>.inl h)) bX bY C7 bV)
  unfold sv at V
  have cF:∀ o,veil o=o:=fun _=>rfl
  obtain ⟨q0,q1,q2,q3,q4⟩:=row5 hQ
  have bT:=Z8 hQ
  clear Z aF aX aZ HP hQ
  go_upto_region 5 with fail
  clear c1 d0 d1 d2 d3 d4 d5
  refine veil0 ?_
  go_region_held3 ?Lq1 (first | with_reducible exact bM.out | with_reducible exact aO | with_reducible exact bK.out _ _ _ _ _ _ aO)
   (first
    | (go_at_call 106;refine (V.out _ (Qz _ _).drew).mono ?_;rintro e w7 ⟨r3,m3,r4,m4,rfl,cB,cC,T,aT⟩;have G:=(Qz _ wr).drew.thn aT;have aO:=aK.out w7 G;have O:=kE G bT HQ.out;obtain ⟨y0,y1,y2,y3,y4⟩:=row5 O;obtain ⟨f0,f1,f2,f3,f4⟩:=frz5 O;obtain ⟨bL,bP,aH⟩:=Qjq O T G;clear T aT G O))
  all_goals
   go_wp2_with fail
   go_roundw
   case measure=>simp [intOf];omega
   case rel=>
    refine ⟨k+1,C7,by go_num,(show Aside _ from ?_)⟩
    show Me S w W1 t (k+1) (Zi w7 (w+2) (.int .i64 5) Cl Ci (.slice r3 (k+1) m3) (.slice r4 (k+1) m4))
    have T:=bP.out
    have cP:=aH.out.size
    obtain ⟨nv,kv,aV,_,cE,bZ⟩:=O9.1 T
    simp only [List.cons.injEq,and_true,true_and] at aV
    obtain ⟨-,rfl,rfl⟩:=aV
    have D:∀ b,((fun b=>(S b/\b<w.heap.size)\/w.heap.size+3<=b) b\/wr.heap.size<=b)->b≠w.heap.size+2:=fun b hb=>by
     rcases hb with (hb | hb) | hb
     ·have:=hb.2;omega
     ·omega
     omega
    have N:∀ b,((fun b=>(S b/\b<w.heap.size)\/w.heap.size+3<=b) b\/wr.heap.size<=b)->(fun b=>(S b/\b<w.heap.size)\/w.heap.size+3<=b) b:=fun b hb=>by
     rcases hb with hb | hb
     ·exact hb
     exact .inr C7
    refine ⟨r3,m3,r4,m4,cB,cC,Yw bL.out,?_,?_,?_⟩
    ·rw [aL.out,G8]
     exact (cE.frame (fun b hb _=>Zf (D b hb))).mono (fun b _ hb=>N b hb)
    ·rw [aL.out,G8]
     exact (bZ.frame (fun b hb _=>Zf (D b hb))).mono (fun b _ hb=>N b hb)
    exact Zc (bH.out.trans (aH.out.mono C7)) (Q9 _)
 have cA:k=n:=C7
 subst cA
 have M:t.columns.take k=t.columns:=Zj (by rw [HN.out];exact Q9 _)
 rw [M] at aB aA
 obtain ⟨q0,q1,q2,q3,q4⟩:=row5 hQ
 obtain ⟨y0,y1,y2,y3,y4⟩:=row5 aC.out
 obtain ⟨f0,f1,f2,f3,f4⟩:=frz5 aC.out
 clear hQ M
 go_wp2_with fail
 show bodyPost _ _ _ _ _ (Zi wr (w+1) (.int .i64 5) Cl Ci (.slice p3 k k3) (.slice p4 k k4))
 refine Q7 (v:=.agg #[.int .i64 5,Cl,Ci,.slice p3 k k3,.slice p4 k k4]) (by simp [results,results47,go_sem,Ze aC.out]) rfl ⟨p3,k3,p4,k4,rfl,?_,Zc aI.out C7⟩
 have D:∀ b,(fun b=>(S b/\b<w.heap.size)\/w.heap.size+3<=b) b->b≠w.heap.size+1:=fun b hb=>by
  rcases hb with hb | hb
  ·have:=hb.2;omega
  omega
 exact (Kk (s:=[]) Ca (aB.out.frame (fun b hb _=>Zf (D b hb))) (aA.out.frame (fun b hb _=>Zf (D b hb)))).move (.refl _ _) (fun b _ hb=>by
  rcases hb with hb | hb
  ·exact .inl hb.1
  exact .inr C7)
def Us (us:List Sm):Prop:=∀ u ∈ us,∀ c ∈ u.ctors,Ja c.arg/\Gf c.name
def Kg (w:World) (e:Ending) (w':World):Prop:=∃ v p3 k3 p4 k4,e=.returned (.agg (vcs v p3 k3 p4 k4).toArray)/\Y4 v/\v.kids.length<=1/\Z9 (fun b=>w<=b) w' (vcs v p3 k3 p4 k4) v/\Below w w w'
theorem J6 {w w':World} {k n:Int} {s:Bs} (hg:Y4 (.mk k n s [] [])) (hs:s.length<=1000000) (hb:Below w w w'):Kg w (.returned (.agg #[k,n,s,Cm,Cm])) w':=
 ⟨.mk k n s [] [],none,0,none,0,rfl,hg,Q8 _,Y5 hs (Sl.nil _ _ _) (Sl.nil _ _ _),hb⟩
theorem Ds (n:Int) (m:Int) (hn:0<=n) (hm:0<m):0<=n.tmod m/\n.tmod m<m:=by
 rw [Int.tmod_eq_emod_of_nonneg hn];exact ⟨Int.emod_nonneg _ C7,Int.emod_lt_of_pos _ hm⟩
theorem Pg (s:Sc) (nm:Bs) (tn:Int) (names:List Bs) (kids:List Ty) (n:Int) (hn0:0<=n) (S0 S1:Nat->Prop) (cs ct:List Value) (w:World) (hs:Xt S0 w cs s) (ht:X5 S1 w ct (.mk 0 nm tn names kids)):
  Calls prog 87 #[cs,ct,n] w (Kg w):=by
 obtain ⟨uv,tv,rfl,hu,O⟩:=hs
 obtain ⟨up,uc,rfl,_⟩:=hu.len
 obtain ⟨tp,tc,rfl,_⟩:=O.len
 obtain ⟨q3,l3,q4,l4,rfl,_⟩:=ht.cells'
 obtain ⟨m8,V⟩:=eX (n.tmod 8)
 have N:=Ds n 8 hn0 C7
 rw [V] at N
 obtain ⟨Y,Z⟩:=N
 clear hu O ht
 go_enter func87,ntmps87
 go_upto_region 4 with fail
 generalize A:(((w.alloc _).alloc _).alloc _).alloc _=W1
 have M:=eqB A (Yj (Yj (Yj (Zg w _) _) _) _)
 have I:=eqH (b:=w.heap.size) A (Zb (Zb (Zb (Y3 rfl _) _) _) _)
 have J:=eqH (b:=w.heap.size+1) A (Zb (Zb (Y3 Ca _) _) _)
 have D:=eqH (b:=w.heap.size+1+1) A (Zb (Y3 Ca _) _)
 have G:=eqH (b:=w.heap.size+1+1+1) A (Y3 Ca _)
 obtain ⟨T,aB,aC,U,aA⟩:=Qjk M I J D G
 clear A M I J G
 obtain ⟨y0,y1,y2,y3,y4⟩:=row5 D
 obtain ⟨f0,f1,f2,f3,f4⟩:=frz5 D
 clear D
 go_wp2_with fail
 show bodyPost _ _ _ _ _ (Zi W1 (w+1+1) Ci (.int .i64 (m8 - 2)) Cl Cm Cm)
 exact Q7 (v:=.agg #[Ci,.int .i64 (m8 - 2),Cl,Cm,Cm]) (by simp [results,results87,go_sem,Ze U.out]) rfl (J6 (s:=[]) (.int _ ⟨C7,C7⟩) Ca (Zc T.out C7))
theorem Np (s:Sc) (nm:Bs) (tn:Int) (names:List Bs) (kids:List Ty) (n:Int) (hn0:0<=n) (S0 S1:Nat->Prop) (cs ct:List Value) (w:World) (hs:Xt S0 w cs s) (ht:X5 S1 w ct (.mk 2 nm tn names kids)):
  Calls prog 87 #[cs,ct,n] w (Kg w):=by
 obtain ⟨uv,tv,rfl,hu,O⟩:=hs
 obtain ⟨up,uc,rfl,_⟩:=hu.len
 obtain ⟨tp,tc,rfl,_⟩:=O.len
 obtain ⟨q3,l3,q4,l4,rfl,_⟩:=ht.cells'
 obtain ⟨m8,V⟩:=eX (n.tmod 2)
 have N:=Ds n 2 hn0 C7
 rw [V] at N
 obtain ⟨Y,Z⟩:=N
 clear hu O ht
 go_enter func87,ntmps87
 go_upto_region 8 with fail
 generalize A:(((w.alloc _).alloc _).alloc _).alloc _=W1
 have M:=eqB A (Yj (Yj (Yj (Zg w _) _) _) _)
 have I:=eqH (b:=w.heap.size) A (Zb (Zb (Zb (Y3 rfl _) _) _) _)
 have J:=eqH (b:=w.heap.size+1) A (Zb (Zb (Y3 Ca _) _) _)
 have D:=eqH (b:=w.heap.size+1+1) A (Zb (Y3 Ca _) _)
 have G:=eqH (b:=w.heap.size+1+1+1) A (Y3 Ca _)
 obtain ⟨T,aB,aC,U,aA⟩:=Qjk M I J D G
 clear A M I J G
 obtain ⟨y0,y1,y2,y3,y4⟩:=row5 D
 obtain ⟨f0,f1,f2,f3,f4⟩:=frz5 D
 clear D
 go_wp2_with fail
 show bodyPost _ _ _ _ _ (Zi W1 (w+1+1) (.int .i64 2) m8 Cl Cm Cm)
 exact Q7 (v:=.agg #[.int .i64 2,m8,Cl,Cm,Cm]) (by simp [results,results87,go_sem,Ze U.out]) rfl (J6 (s:=[]) (.bool _ C7) Ca (Zc T.out C7))
theorem Nm (s:Sc) (nm:Bs) (tn:Int) (names:List Bs) (kids:List Ty) (n:Int) (hn0:0<=n) (S0 S1:Nat->Prop) (cs ct:List Value) (w:World) (hs:Xt S0 w cs s) (ht:X5 S1 w ct (.mk 1 nm tn names kids)):
  Calls prog 87 #[cs,ct,n] w (Kg w):=by
 obtain ⟨uv,tv,rfl,hu,O⟩:=hs
 obtain ⟨up,uc,rfl,_⟩:=hu.len
 obtain ⟨tp,tc,rfl,_⟩:=O.len
 obtain ⟨q3,l3,q4,l4,rfl,_⟩:=ht.cells'
 obtain ⟨m8,V⟩:=eX (n.tmod 5)
 have N:=Ds n 5 hn0 C7
 rw [V] at N
 obtain ⟨Z,aA⟩:=N
 clear hu O ht
 go_enter func87,ntmps87
 go_upto_region 6 with fail
 generalize A:(((w.alloc _).alloc _).alloc _).alloc _=W1
 have M:=eqB A (Yj (Yj (Yj (Zg w _) _) _) _)
 have I:=eqH (b:=w.heap.size) A (Zb (Zb (Zb (Y3 rfl _) _) _) _)
 have J:=eqH (b:=w.heap.size+1) A (Zb (Zb (Y3 Ca _) _) _)
 have D:=eqH (b:=w.heap.size+1+1) A (Zb (Y3 Ca _) _)
 have G:=eqH (b:=w.heap.size+1+1+1) A (Y3 Ca _)
 obtain ⟨T,aC,aD,U,aB⟩:=Qjk M I J D G
 clear A M I J
 obtain ⟨y0,y1,y2,y3,y4⟩:=row5 D
 obtain ⟨f0,f1,f2,f3,f4⟩:=frz5 D
 clear D
 obtain ⟨j,rfl⟩:∃ j:Nat,m8=(j:Int):=⟨m8.toNat,C7⟩
 obtain ⟨x,hx,Y⟩:∃ x:Bs,Cf W1 (w+1+1+1) (0+j) x/\x.length<=1000000:=by
  have hj:j<5:=C7
  rw [Qk _ _ _ _ _ _ G]
  match j,hj with
  | 0,_=>exact ⟨[],rfl,Ca⟩
  | 1,_=>exact ⟨[97],rfl,Ca⟩
  | 2,_=>exact ⟨[98],rfl,Ca⟩
  | 3,_=>exact ⟨[97,98],rfl,Ca⟩
  | 4,_=>exact ⟨[195,169],rfl,Ca⟩
 rw [Nat.zero_add] at hx
 clear G
 go_wp2_with fail
 show bodyPost _ _ _ _ _ (Zi W1 (w+1+1) (.int .i64 1) Ci x Cm Cm)
 exact Q7 (v:=.agg #[.int .i64 1,Ci,x,Cm,Cm]) (by simp [results,results87,go_sem,Ze U.out]) rfl (J6 (.text x) Y (Zc T.out C7))
theorem Gg (s:Sc) (t:Ty) (hl:Ja t) (n:Int) (hn0:0<=n) (S0 S1:Nat->Prop) (cs ct:List Value) (w:World) (hs:Xt S0 w cs s) (ht:X5 S1 w ct t):
  Calls prog 87 #[cs,ct,n] w (Kg w):=by
 obtain ⟨k,nm,A,names,kids⟩:=t
 rcases hl with h | h | h
 all_goals cases (show k=_ from h)
 ·exact Pg s nm A names kids n hn0 S0 S1 cs ct w hs ht
 ·exact Nm s nm A names kids n hn0 S0 S1 cs ct w hs ht
 exact Np s nm A names kids n hn0 S0 S1 cs ct w hs ht
theorem Tm (S:Nat->Prop) (v:Value) (l:List Int) (w:World) (hs:Xd S w v l) (hi:Uh l) (hk:Yl l 0 13=5):
  Calls prog 26 #[v,Ci] w (Uo w (Gen.check 5)):=by
 have HP:=Qq (fun W (hb:Below w w W)=>Yn S v l 0 13 W (hs.below hb) hi C7 C7)
 rw [hk] at HP
 obtain ⟨p,cap,rfl,_⟩:=hs.len
 clear hs hi hk
 go_enter func26,ntmps26
 go_upto_region 8 with fail
 generalize Y:(((((((w.alloc _).alloc _).alloc _).alloc _).alloc _).alloc _).alloc _).alloc _=W8
 have aM:=eqB Y (Yj (Yj (Yj (Yj (Yj (Yj (Yj (Zg w _) _) _) _) _) _) _) _)
 have bW:W8=w.heap.size+8:=by rw [<- Y];simp
 have r8:=eqH (b:=w.heap.size) Y (Zb (Zb (Zb (Zb (Zb (Zb (Zb (Y3 rfl _) _) _) _) _) _) _) _)
 have A:=((((Yp.row (show W8.heap[w.heap.size+1+1+1+1]?=some (.cells zQ 46 (0,0)) from by rw [<- Y];exact Zb (Zb (Zb (Y3 Ca _) _) _) _)).app (Yp.row (show W8.heap[w.heap.size+1]?=some (.cells #[.int .i64 3,.string ⟨#[97]⟩,Ci,Cl,Cm,Cm,Cm,Ci,Ci] 46 (0,0)) from by rw [<- Y];exact Zb (Zb (Zb (Zb (Zb (Zb (Y3 Ca _) _) _) _) _) _) _))).app (Yp.row (show W8.heap[w.heap.size+1+1]?=some (.cells #[.int .i64 3,.string ⟨#[98]⟩,Ci,Cl,Cm,Cm,Cm,Ci,Ci] 46 (0,0)) from by rw [<- Y];exact Zb (Zb (Zb (Zb (Zb (Y3 Ca _) _) _) _) _) _))).app (Yp.row (show W8.heap[w.heap.size+1+1+1]?=some (.cells #[.int .i64 3,.string ⟨#[99]⟩,Ci,Cl,Cm,Cm,Cm,Ci,Ci] 46 (0,0)) from by rw [<- Y];exact Zb (Zb (Zb (Zb (Y3 Ca _) _) _) _) _)))
 have hG:=(U6 (U6 (U6 (X8 (show w<w.heap.size+1+1+1+1 by omega) (.int .i64 3) (.string ⟨#[100]⟩) (.int .i64 0) (.string ⟨#[]⟩) (.slice none 0 0) (.slice none 0 0) (.slice none 0 0) (.int .i64 0) (.int .i64 0)) (X8 (show w<w.heap.size+1 by omega) (.int .i64 3) (.string ⟨#[97]⟩) (.int .i64 0) (.string ⟨#[]⟩) (.slice none 0 0) (.slice none 0 0) (.slice none 0 0) (.int .i64 0) (.int .i64 0))) (X8 (show w<w.heap.size+1+1 by omega) (.int .i64 3) (.string ⟨#[98]⟩) (.int .i64 0) (.string ⟨#[]⟩) (.slice none 0 0) (.slice none 0 0) (.slice none 0 0) (.int .i64 0) (.int .i64 0))) (X8 (show w<w.heap.size+1+1+1 by omega) (.int .i64 3) (.string ⟨#[99]⟩) (.int .i64 0) (.string ⟨#[]⟩) (.slice none 0 0) (.slice none 0 0) (.slice none 0 0) (.int .i64 0) (.int .i64 0)))
 have aJ:=Qq aM;have Z:=Qq r8
 clear Y aM r8 bW
 go_upto_region 18 with (go_at_call 27;refine (HP.out _ aJ.out).mono ?_;rintro e w' ⟨rfl,rfl⟩)
 refine let_mvar% ?Lq1:=fun w':World=>(Qjh w' (w+1+1+1+1) (.int .i64 3) (.string ⟨#[100]⟩) Ci Cl Cm Cm Cm Ci Ci ((Qjh w' (w+1) (.int .i64 3) (.string ⟨#[97]⟩) Ci Cl Cm Cm Cm Ci Ci ((Qjh w' (w+1+1) (.int .i64 3) (.string ⟨#[98]⟩) Ci Cl Cm Cm Cm Ci Ci ((Qjo w' (w+1+1+1) (.int .i64 3) (.string ⟨#[99]⟩) Ci Cl Cm Cm Cm Ci Ci:Prop)):Prop)):Prop)):Prop);?_
 have HS:=Qq (fun w' (h:Yp (J0 (w+1+1+1+1) (.int .i64 3) (.string ⟨#[100]⟩) (.int .i64 0) (.string ⟨#[]⟩) (.slice none 0 0) (.slice none 0 0) (.slice none 0 0) (.int .i64 0) (.int .i64 0)++J0 (w+1) (.int .i64 3) (.string ⟨#[97]⟩) (.int .i64 0) (.string ⟨#[]⟩) (.slice none 0 0) (.slice none 0 0) (.slice none 0 0) (.int .i64 0) (.int .i64 0)++J0 (w+1+1) (.int .i64 3) (.string ⟨#[98]⟩) (.int .i64 0) (.string ⟨#[]⟩) (.slice none 0 0) (.slice none 0 0) (.slice none 0 0) (.int .i64 0) (.int .i64 0)++J0 (w+1+1+1) (.int .i64 3) (.string ⟨#[99]⟩) (.int .i64 0) (.string ⟨#[]⟩) (.slice none 0 0) (.slice none 0 0) (.slice none 0 0) (.int .i64 0) (.int .i64 0)) w')=>(show ?Lq1 w' from Yp.spread h))
 have HG:=Qq hG
 have aK:=Qq (fun w' z0 z1 z2 z3 z4 z5 z6 z7 z8 (h:Yp _ w')=>HS.out _ (h.put9 HG.out z0 z1 z2 z3 z4 z5 z6 z7 z8))
 unfold put9 at aK
 have D:=aJ
 clear hG
 obtain ⟨aB,aC,aD,aE⟩:=Qjz True.intro True.intro True.intro True.intro
 go_region_held3 ?Lq1 (first | with_reducible exact HS.out _ A | with_reducible exact HS.out _ A.drew | with_reducible exact HS.out _ (A.alloc _) | with_reducible exact HS.out _ (A.alloc _).drew | with_reducible exact HS.out _ ((A.alloc _).alloc _) | with_reducible exact HS.out _ ((A.alloc _).alloc _).drew | with_reducible exact HS.out _ (((A.alloc _).alloc _).alloc _) | with_reducible exact aK.out _ _ _ _ _ _ _ _ _ _ A)
  (first
   | (have hn:=G.out;clear hn;(repeat (first
      | (have hn:=G.out;clear hn;have hk:=aD.out;clear aD hk;generalize aG:World.alloc _ (Obj.cells #[.int .i64 3,.string ⟨#[100]⟩,Ci,Cl,Cm,Cm,Cm,Ci,Ci,bA,.string bE,bC,.string bG,.slice aS bK bQ,.slice aU bM bS,.slice aW bO bU,aY,bI,bB,.string bF,bD,.string bH,.slice aT bL bR,.slice aV bN bT,.slice aX bP bV,aZ,bJ] 46 _)=WK;have aA:=Vb aG;have aN:=J2 aG;have aO:=Dj aG Z.out;have V:=A.later aA;clear A;have A:=V;clear V;have O:=Qq (Ye aA Z.out);clear Z;have Z:=O;clear O;have M:=Qq (D.out.thn aA);clear D;have D:=M;clear M;(try (have U:=Qq (T.out.move (.of_below aA) Qje);clear T;have T:=U;clear U));(try (have U:=Qq (G.out.move (.of_below aA) Qje);clear G;have G:=U;clear U));have N:=Qq aN;have aR:=Qq aO;clear aG aA aN aO)
      | fail));have hn:=N.out;clear hn;have hk:=aE.out;clear aE hk;obtain ⟨⟨f0,f1,f2,f3,f4,f5,f6,f7,f8⟩,y0,y1,y2,y3,y4,y5,y6,y7,y8⟩:=Tc Z.out;go_simp)
   | (have hn:=T.out;clear hn;have hk:=aC.out;go_at_call 84;refine (V0 w [61,61] _ _ _ _ _ Ca (by exact (Yk 3 [99] 0 [] Ca Ca)) (by exact (Yk 3 [99] 0 [] Ca Ca)) (by exact Z8 Z.out)).mono ?_;rintro e W2 ⟨bB,bF,bD,bH,aT,bL,bR,aV,bN,bT,aX,bP,bV,aZ,bJ,rfl,aQ,J⟩;clear aC hk;(try (have aF:=Vh J;clear J;have J:=aF;clear aF));have V:=A.later J;clear A;have A:=V;clear V;have O:=Qq (Ye J Z.out);clear Z;have Z:=O;clear O;have M:=Qq (D.out.thn J);clear D;have D:=M;clear M;(try (have U:=Qq (Ye J N.out);clear N;have N:=U;clear U));(try (have U:=Qq (T.out.move (.of_below J) Qje);clear T;have T:=U;clear U));have G:=Qq aQ;clear aQ J)
   | (have hk:=aB.out;go_at_call 84;refine (V0 w [60] _ _ _ _ _ Ca (by exact (Yk 3 [97] 0 [] Ca Ca)) (by exact (Yk 3 [98] 0 [] Ca Ca)) (by exact Z8 Z.out)).mono ?_;rintro e W1 ⟨bA,bE,bC,bG,aS,bK,bQ,aU,bM,bS,aW,bO,bU,aY,bI,rfl,aP,I⟩;clear aB hk;(try (have aF:=Vh I;clear I;have I:=aF;clear aF));have V:=A.later I;clear A;have A:=V;clear V;have O:=Qq (Ye I Z.out);clear Z;have Z:=O;clear O;have M:=Qq (D.out.thn I);clear D;have D:=M;clear M;(try (have U:=Qq (Ye I N.out);clear N;have N:=U;clear U));(try (have U:=Qq (G.out.move (.of_below I) Qje);clear G;have G:=U;clear U));have T:=Qq aP;clear aP I)
   | fail)
 all_goals
  go_wp2_with fail
  show bodyPost _ _ _ _ _ (put9 _ w (.int .i64 12) Cl Ci Cl Cm Cm (Cg _ 0 3 3) Ci Ci)
  exact Q7 (v:=.agg #[.int .i64 12,Cl,Ci,Cl,Cm,Cm,Cg _ 0 3 3,Ci,Ci]) (by simp [results,results26,go_sem,Xb Z.out]) rfl (U3 (Xj (nm:=[]) (s:=[]) Ca Ca (Sl.nil _ _ _) (Sl.nil _ _ _) (Y2 (xs:=[Gen.d,Gen.op [60] [Gen.a,Gen.b],Gen.op [61,61] [Gen.c,Gen.c]]) N.out aR.out (((Cs.one (r:=Xp) (Yk 3 [100] 0 [] Ca Ca)).app (Cs.one (r:=Xp) T.out)).app (Cs.one (r:=Xp) G.out)) rfl rfl Ca)) D.out rfl)
end Go.Proofs.YtcljcblceodciaaGreatDoor
