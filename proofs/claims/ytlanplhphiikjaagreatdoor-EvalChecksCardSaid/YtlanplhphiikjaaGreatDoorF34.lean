import Derived.Test.YtlanplhphiikjaaGreatDoorF33
import Derived.Test.YtlanplhphiikjaaGreatDoorF25
import Derived.Test.YtlanplhphiikjaaGreatDoorF24
set_option maxRecDepth 100000
set_option maxHeartbeats 400000000
namespace Go.Proofs.YtlanplhphiikjaaGreatDoor
open Go.RowKit Go.Shelf Go.Lib Tryz
theorem gal3 (w:World) (o p q:Obj):Gr w (((w.alloc o).alloc p).alloc q):=(Vw w o p).alloc q
theorem hasLeafG (v:Val) (t:Ty) (hl:Hd t) (S S':Nat->Prop) (cv ct:List Value) (ps:Option Addr) (ns cs:Nat) (w:World) (hv:Z5 S w cv v) (ht:Y6 S' w ct t):
  Calls prog 118 #[.slice ps ns cs,cv,ct] w fun e w'=>e=.returned (.bool (v.kind==t.kind))/\Gr w w':=by
 obtain ⟨k,s,n,names,kids⟩:=t
 obtain ⟨p3,k3,p4,k4,D,_⟩:=Z5.cells hv
 simp only [vcs] at D
 subst D
 obtain ⟨q3,l3,q4,l4,rfl,_⟩:=ht.cells'
 clear hv ht
 have hk:k=0\/k=1\/k=2:=hl
 clear hl
 simp only [Ty.kind]
 rcases hk with rfl | rfl | rfl
 all_goals
  go_enter func118,ntmps118
  go_wp2_with fail
  go_ret
  exact ⟨rfl,gal3 _ _ _ _⟩
theorem hasS3 (T:Nat) (S:Nat->Prop) (us:List Sm) (x:Bs) (w:World) (hc:w.cell? ⟨T,1,none⟩=some (.string ⟨x.toArray⟩)):Xo prog 179 #[Om T] Vi S us (fun u=>decide (u.name=x)) w:=by
 rintro W u cs hb hu ⟨rv,rfl,_,_⟩
 have D:=kD hb (Qv w _ hc) hc
 have G:=Qv W _ D
 have I:T<W.heap.size:=G
 have hq:(u.name==x)=decide (u.name=x):=by rw [Bool.eq_iff_iff,beq_iff_eq,decide_eq_true_eq]
 have HQ:=Qq hq
 clear hq hc hb hu
 show Calls prog 179 #[.agg #[sv u.name,rv],Om T] W _
 unfold sv
 go_enter func179,ntmps179
 go_wp2_with fail
 go_ret
 exact ⟨by rw [<- HQ.out];rfl,Zb _ _⟩
theorem hasS4 (V:Nat) (S:Nat->Prop) (us:List Ct) (x:Bs) (w:World) (hc:w.cell? ⟨V,2,none⟩=some (.string ⟨x.toArray⟩)):Xo prog 181 #[Om V] F8 S us (fun u=>decide (u.name=x)) w:=by
 rintro W u cs hb hu ⟨tc,rfl,_,D⟩
 obtain ⟨tk,ts,tn,t3,n3,l3,t4,n4,l4,rfl⟩:=D.cells
 have G:=kD hb (Qv w _ hc) hc
 have I:=Qv W _ G
 have J:V<W.heap.size:=I
 have hq:(u.name==x)=decide (u.name=x):=by rw [Bool.eq_iff_iff,beq_iff_eq,decide_eq_true_eq]
 have HQ:=Qq hq
 clear hq hc hb hu D
 show Calls prog 181 #[.agg #[sv u.name,.bool u.has,tk,.string ts,tn,.slice t3 n3 l3,.slice t4 n4 l4],Om V] W _
 unfold sv
 go_enter func181,ntmps181
 go_wp2_with fail
 go_ret
 exact ⟨by rw [<- HQ.out];rfl,Zb _ _⟩
theorem hasSum (us:List Sm) (v:Val) (s:Bs) (tn:Int) (names:List Bs) (kids:List Ty) (hl:∀ u ∈ us,∀ c ∈ u.ctors,Hd c.arg):Us us v (.mk 3 s tn names kids) (sumB us v s):=by
 intro S0 dV dT cv ct ps ns cs w bB cJ cG
 have bM:Sl Vi (fun b=>b<w) w (.slice ps ns cs) us:=bB.mono (fun b hb _=>hb)
 have hv:Z5 (fun b=>b<w) w cv v:=cJ.move (.refl _ _) (fun b hb _=>hb)
 clear cJ bB
 obtain ⟨p3,k3,p4,k4,cD,_,aY,_⟩:=Z5.cells hv
 simp only [vcs] at cD
 subst cD
 obtain ⟨q3,l3,q4,l4,rfl,_⟩:=cG.cells'
 obtain ⟨r,hr⟩:=eX (sumB us v s)
 rw [hr]
 obtain ⟨HR,HU,HV,HL⟩:=Py hr bM aY hl
 obtain ⟨up,uc,dG,eI⟩:=bM.len
 cases dG
 clear hv aY bM hl hr cG
 go_enter func118,ntmps118
 go_upto_region 13 with fail
 generalize aL:((w.alloc _).alloc _).alloc _=W1
 have bJ:=eqB aL (Yr _ _ _ _)
 have bG:=eqH (b:=w.heap.size) aL (Ze _ _ _ _)
 have cA:=eqH (b:=w.heap.size+1) aL (Vz _ _ _ _)
 have bZ:=eqH (b:=w.heap.size+2) aL (Z9 _ _ _ _)
 clear aL
 obtain ⟨cT,cZ,cX⟩:=Px bJ cA bG
 have HI:=Qq (G5 Tryz.ixSum Vi isAgg76 sizeOf76 179 #[Om (w+2)] (enters_of func179 Og rfl) _ (.slice ps us.length cs) us W1 (fun u=>decide (u.name=s)) (HU.out.below bJ)
  (hasS3 _ _ us s W1 (by rw [Qk _ _ 1 _ _ _ bZ];rfl)))
 have a0:=rA0 bG
 clear bJ cA bZ bG
 go_upto_region 14 with (refine HI.out.mono ?_;rintro e w2 ⟨rfl,aF⟩;have cU:=Qq aF)
 have aF:=cU.out
 have bH:=kB aF cX.out
 have aK:=kB aF cZ.out
 obtain ⟨dA,cY,aC⟩:=Px aK bH (cT.out.thn aF)
 have a0:=rA0 bH;have b0:=rA0 aK;have b2:=rA2 aK;have Y:=rA4 aK
 clear aF bH aK
 by_cases h3:v.kind=3
 ·have dE:(v.kind != 3)=false:=by rw [h3];rfl
  have L:(match atP (fun u=>decide (u.name=s)) us with
   | none=>false
   | some u=>Ey u v)=r:=by rw [<- HR.out];unfold sumB;rw [h3];rfl
  have aD:=Qq L
  clear L
  rcases Uc (fun u:Sm=>decide (u.name=s)) us with ⟨hi,hn⟩ | ⟨i,u,hi,bN,cF⟩
  ·obtain rfl:false=r:=by rw [<- aD.out,hn]
   rw [hi]
   go_wp2_with fail
   go_ret
   exact ⟨rfl,aC.out⟩
  have aE:=Qq (show Ey u v=r by rw [<- aD.out,cF])
  rw [hi]
  have eE:=(Qj bN).1
  have eC:(0:Int)<=(i:Int):=Oa
  have eD:(i:Int)<(us.length:Int):=Oa
  obtain ⟨ub,aP,eJ,rfl,cH,_,_,⟨dX,rfl,_,aX⟩,cI⟩:=(HU.out.below aC.out).elem bN
  obtain ⟨cp,cc,rfl,dZ⟩:=aX.len
  have d1:=cI 1 _ rfl
  rw [show Vi.k=2 from rfl] at d1
  have HC:=Qq aX;have aI:=Qq (HL.out u (Qy bN))
  have cW:=Qq (G5 Tryz.ixCtor F8 isAgg73 sizeOf73 181 #[Om (w+1)] (enters_of func181 Og rfl) _ (.slice cp u.ctors.length cc) u.ctors w2 (fun c=>decide (c.name=v.s)) aX
   (hasS4 _ _ u.ctors v.s w2 b2))
  clear cI aX hi cF b2
  go_upto_region 17 with (refine cW.out.mono ?_;rintro e w3 ⟨rfl,Z⟩;have bT:=Qq Z)
  have Z:=bT.out
  have bY:=kB Z cY.out
  have cB:=kB Z dA.out
  have dB:=Qq cB;have aZ:=Qq (aC.out.thn Z)
  have a0:=rA0 bY
  have d1:=kC Z d1
  have cH:=Q5 cH Z.size
  clear Z bY cB b0 Y
  rcases Uc (fun c:Ct=>decide (c.name=v.s)) u.ctors with ⟨hk,hn⟩ | ⟨k,c,hk,aW,cE⟩
  ·obtain rfl:false=r:=by rw [<- aE.out];unfold Ey;rw [hn]
   rw [hk]
   go_wp2_with fail
   go_ret
   exact ⟨rfl,aZ.out⟩
  have V:=Qq (show (if c.has then (match v.kids with
   | [x]=>x.kind==c.arg.kind
   | _=>false) else decide (v.kids.length=0))=r by rw [<- aE.out];unfold Ey;rw [cE];rfl)
  rw [hk]
  have eH:=(Qj aW).1
  have eF:(0:Int)<=(k:Int):=Oa
  have eG:(k:Int)<(u.ctors.length:Int):=Oa
  obtain ⟨cb,dU,dW,rfl,dY,_,_,⟨tc,rfl,eA,aO⟩,aA⟩:=(HC.out.below bT.out).elem aW
  obtain ⟨tk,ts,tm,t3,n3,m3,t4,n4,m4,rfl⟩:=aO.cells
  have e0:=aA 0 _ rfl;have e1:=aA 1 _ rfl;have e2:=aA 2 _ rfl;have e3:=aA 3 _ rfl;have e4:=aA 4 _ rfl;have e5:=aA 5 _ rfl;have e6:=aA 6 _ rfl
  rw [show F8.k=7 from rfl] at e0 e1 e2 e3 e4 e5 e6
  rw [Nat.add_zero] at e0
  unfold sv at e0
  have aJ:=Qq aO;have aH:=Qq (aI.out c (Qy aW))
  clear aW aA aO hk cE
  go_upto_region 20 with fail
  generalize bI:w3.alloc _=M
  have aM:=eqB bI (Zb _ _)
  have T:=eqH (b:=w3.heap.size) bI (Qw _ _)
  have cC:=kB aM dB.out
  have U:=Qq (aZ.out.thn aM);have cV:=Qq aM
  have a0:=kC aM a0
  have Y:=rA4 cC;have O:=rA1 T;have g2:=rA2 T;have g3:=rA3 T;have g4:=rA4 T;have g5:=rA5 T;have g6:=rA6 T
  clear bI aM cC d1 e0 e1 e2 e3 e4 e5 e6
  cases hhas:c.has with
  | false=>
   rw [hhas] at O
   have L:=V.out
   rw [hhas] at L
   simp only [Bool.false_eq_true,if_false] at L
   by_cases h0:v.kids.length=0
   ·obtain rfl:true=r:=by rw [<- L];simp [h0]
    have bL:((v.kids.length:Int)==0)=true:=by rw [beq_iff_eq];omega
    clear L h0 a0 g2 g3 g4 g5 g6 T V aE aD HR aJ aH HV HC aI HU
    have N:=Qq (show ∀ W,(fun W=>Below M M W) W->Oi W (w+1) 4 (.slice p4 v.kids.length k4)/\Oi W w3 1 (.bool false) from fun W h=>by
     have J:∀ {b j:Nat} {u:Value},M.cell? ⟨b,j,none⟩=some u->W.cell? ⟨b,j,none⟩=some u:=fun hc=>kC h hc
     exact ⟨J Y,J O⟩)
    clear Y O
    refine wp_region_held_drew (S:=fun W=>Below M M W) Og (Qz _ _).drew (fun I=>?_)
    refine tkD (v:=?_) 0 (fun G D=>?_) ?_;rotate_left
    ·(go_simp;try with_reducible rfl)
    refine tkD (v:=?_) 1 (fun G D=>?_) ?_;rotate_left
    ·(obtain ⟨-,O⟩:=N.out G D;go_simp;try with_reducible rfl)
    refine tkD (v:=?_) 2 (fun G D=>?_) ?_;rotate_left
    ·(go_simp;try with_reducible rfl)
    refine tkN 3 ?_
    refine tkN 4 ?_
    refine tkN 5 ?_
    refine tkN 6 ?_
    refine tkD (v:=?_) 7 (fun G D=>?_) ?_;rotate_left
    ·(go_simp;try with_reducible rfl)
    refine tkD (v:=?_) 8 (fun G D=>?_) ?_;rotate_left
    ·(go_simp;try with_reducible rfl)
    refine tkN 9 ?_
    refine tkN 10 ?_
    refine tkN 11 ?_
    refine tkN 12 ?_
    refine tkN 13 ?_
    refine tkN 14 ?_
    refine tkN 15 ?_
    refine tkN 16 ?_
    refine tkD (v:=?_) 17 (fun G D=>?_) ?_;rotate_left
    ·(go_simp;try with_reducible rfl)
    refine tkD (v:=?_) 18 (fun G D=>?_) ?_;rotate_left
    ·(go_simp;try with_reducible rfl)
    refine tkD (v:=?_) 19 (fun G D=>?_) ?_;rotate_left
    ·(go_simp;try with_reducible rfl)
    refine tkD (v:=?_) 20 (fun G D=>?_) ?_;rotate_left
    ·(obtain ⟨-,O⟩:=N.out G D;go_simp;try with_reducible rfl)
    refine tkD (v:=?_) 21 (fun G D=>?_) ?_;rotate_left
    ·(go_simp;try with_reducible rfl)
    refine tkD (v:=?_) 22 (fun G D=>?_) ?_;rotate_left
    ·(go_simp;try with_reducible rfl)
    refine tkD (v:=?_) 23 (fun G D=>?_) ?_;rotate_left
    ·(go_simp;try with_reducible rfl)
    refine tkD (v:=?_) 24 (fun G D=>?_) ?_;rotate_left
    ·(obtain ⟨Y,-⟩:=N.out G D;go_simp;try with_reducible rfl)
    refine tkD (v:=?_) 25 (fun G D=>?_) ?_;rotate_left
    ·(go_simp;try with_reducible rfl)
    refine tkD (v:=?_) 26 (fun G D=>?_) ?_;rotate_left
    ·(go_simp;try with_reducible rfl)
    refine tkD (v:=?_) 27 (fun G D=>?_) ?_;rotate_left
    ·(go_simp;try with_reducible rfl)
    refine tkD (v:=?_) 28 (fun G D=>?_) ?_;rotate_left
    ·(go_simp;try with_reducible rfl)
    refine tkD (v:=?_) 29 (fun G D=>?_) ?_;rotate_left
    ·(go_simp;try with_reducible rfl)
    refine wpAnyH_done Og ?_ _
    clear I
    go_wp2_with fail
    go_ret
    exact ⟨rfl,U.out.thn (Qz _ _).drew⟩
   obtain rfl:false=r:=by rw [<- L];simp [h0]
   have bL:((v.kids.length:Int)==0)=false:=by rw [<- Qn,beq_iff_eq];omega
   clear L h0 a0 g2 g3 g4 g5 g6 T V aE aD HR aJ aH HV HC aI HU
   have N:=Qq (show ∀ W,(fun W=>Below M M W) W->Oi W (w+1) 4 (.slice p4 v.kids.length k4)/\Oi W w3 1 (.bool false) from fun W h=>by
    have J:∀ {b j:Nat} {u:Value},M.cell? ⟨b,j,none⟩=some u->W.cell? ⟨b,j,none⟩=some u:=fun hc=>kC h hc
    exact ⟨J Y,J O⟩)
   clear Y O
   refine wp_region_held_drew (S:=fun W=>Below M M W) Og (Qz _ _).drew (fun I=>?_)
   refine tkD (v:=?_) 0 (fun G D=>?_) ?_;rotate_left
   ·(go_simp;try with_reducible rfl)
   refine tkD (v:=?_) 1 (fun G D=>?_) ?_;rotate_left
   ·(obtain ⟨-,O⟩:=N.out G D;go_simp;try with_reducible rfl)
   refine tkD (v:=?_) 2 (fun G D=>?_) ?_;rotate_left
   ·(go_simp;try with_reducible rfl)
   refine tkN 3 ?_
   refine tkN 4 ?_
   refine tkN 5 ?_
   refine tkN 6 ?_
   refine tkD (v:=?_) 7 (fun G D=>?_) ?_;rotate_left
   ·(go_simp;try with_reducible rfl)
   refine tkD (v:=?_) 8 (fun G D=>?_) ?_;rotate_left
   ·(go_simp;try with_reducible rfl)
   refine tkN 9 ?_
   refine tkN 10 ?_
   refine tkN 11 ?_
   refine tkN 12 ?_
   refine tkN 13 ?_
   refine tkN 14 ?_
   refine tkN 15 ?_
   refine tkN 16 ?_
   refine tkD (v:=?_) 17 (fun G D=>?_) ?_;rotate_left
   ·(go_simp;try with_reducible rfl)
   refine tkD (v:=?_) 18 (fun G D=>?_) ?_;rotate_left
   ·(go_simp;try with_reducible rfl)
   refine tkD (v:=?_) 19 (fun G D=>?_) ?_;rotate_left
   ·(go_simp;try with_reducible rfl)
   refine tkD (v:=?_) 20 (fun G D=>?_) ?_;rotate_left
   ·(obtain ⟨-,O⟩:=N.out G D;go_simp;try with_reducible rfl)
   refine tkD (v:=?_) 21 (fun G D=>?_) ?_;rotate_left
   ·(go_simp;try with_reducible rfl)
   refine tkD (v:=?_) 22 (fun G D=>?_) ?_;rotate_left
   ·(go_simp;try with_reducible rfl)
   refine tkD (v:=?_) 23 (fun G D=>?_) ?_;rotate_left
   ·(go_simp;try with_reducible rfl)
   refine tkD (v:=?_) 24 (fun G D=>?_) ?_;rotate_left
   ·(obtain ⟨Y,-⟩:=N.out G D;go_simp;try with_reducible rfl)
   refine tkD (v:=?_) 25 (fun G D=>?_) ?_;rotate_left
   ·(go_simp;try with_reducible rfl)
   refine tkD (v:=?_) 26 (fun G D=>?_) ?_;rotate_left
   ·(go_simp;try with_reducible rfl)
   refine tkD (v:=?_) 27 (fun G D=>?_) ?_;rotate_left
   ·(go_simp;try with_reducible rfl)
   refine tkD (v:=?_) 28 (fun G D=>?_) ?_;rotate_left
   ·(go_simp;try with_reducible rfl)
   refine tkD (v:=?_) 29 (fun G D=>?_) ?_;rotate_left
   ·(go_simp;try with_reducible rfl)
   refine wpAnyH_done Og ?_ _
   clear I
   go_wp2_with fail
   go_ret
   exact ⟨rfl,U.out.thn (Qz _ _).drew⟩
  | true=>
   rw [hhas] at O
   have L:=V.out
   rw [hhas] at L
   simp only [if_true] at L
   by_cases h1:v.kids.length=1
   ·obtain ⟨x,hx⟩:=List.length_eq_one_iff.1 h1
    rw [hx] at L
    have cL:v.kids[0]?=some x:=by rw [hx];rfl
    rw [h1] at HV Y
    obtain ⟨ga,oa,x3,bO,x4,bP,rfl,eB,cK,f0,f1,f2,f3,f4⟩:=(HV.out.below U.out).val cL
    simp only [Nat.zero_mul,Nat.add_zero] at f0 f1 f2 f3 f4
    have bA:(x.kind==c.arg.kind)=r:=L
    have bW:=Qq cK;have bV:=Qq (aJ.out.move (.of_below cV.out) P8)
    have bK:∀ W,Below M M W->Calls prog 118 #[Ol ub aP us.length cs,.agg (vcs x x3 bO x4 bP).toArray,.agg #[tk,.string ts,tm,.slice t3 n3 m3,.slice t4 n4 m4]] W fun e w'=>e=.returned (.bool r)/\Below W W w':=fun W h=>by
     rw [<- bA]
     exact (hasLeafG x c.arg aH.out _ _ _ _ _ _ _ _ (bW.out.move (.of_below h) P8) (bV.out.move (.of_below h) P8)).mono (by rintro e w' ⟨rfl,hg⟩;exact ⟨rfl,hg.bl⟩)
    unfold vcs at bK
    have bL:((1:Int)==1)=true:=rfl
    clear L bA h1 hx cL cK T V aE aD HR aJ aH HV HC aI HU bW bV
    cases r with
    | false=>
     have N:=Qq (show ∀ W,(fun W=>Below M M W) W->Oi W w 0 (Ol ub aP us.length cs)/\Oi W (w+1) 4 (Ol ga oa 1 k4)/\Oi W w3 1 (.bool true)/\Oi W w3 2 tk/\Oi W w3 3 (.string ts)/\Oi W w3 4 tm/\Oi W w3 5 (.slice t3 n3 m3)/\Oi W w3 6 (.slice t4 n4 m4)/\Pi W ga oa x.kind x.n x.s (.slice x3 x.names.length bO) (.slice x4 x.kids.length bP) from fun W h=>by
      have J:∀ {b j:Nat} {u:Value},M.cell? ⟨b,j,none⟩=some u->W.cell? ⟨b,j,none⟩=some u:=fun hc=>kC h hc
      exact ⟨J a0,J Y,J O,J g2,J g3,J g4,J g5,J g6,J f0,J f1,J f2,J f3,J f4⟩)
     clear a0 Y O g2 g3 g4 g5 g6 f0 f1 f2 f3 f4
     refine wp_region_held_drew (S:=fun W=>Below M M W) Og (Qz _ _).drew (fun I=>?_)
     refine tkD (v:=?_) 0 (fun G D=>?_) ?_;rotate_left
     ·(go_simp;try with_reducible rfl)
     refine tkD (v:=?_) 1 (fun G D=>?_) ?_;rotate_left
     ·(obtain ⟨-,-,O,-,-,-,-,-,-,-,-,-,-⟩:=N.out G D;go_simp;try with_reducible rfl)
     refine tkD (v:=?_) 2 (fun G D=>?_) ?_;rotate_left
     ·(go_simp;try with_reducible rfl)
     refine tkD (v:=?_) 3 (fun G D=>?_) ?_;rotate_left
     ·(go_simp;try with_reducible rfl)
     refine tkD (v:=?_) 4 (fun G D=>?_) ?_;rotate_left
     ·(obtain ⟨-,Y,-,-,-,-,-,-,-,-,-,-,-⟩:=N.out G D;go_simp;try with_reducible rfl)
     refine tkD (v:=?_) 5 (fun G D=>?_) ?_;rotate_left
     ·(go_simp;try with_reducible rfl)
     refine tkD (v:=?_) 6 (fun G D=>?_) ?_;rotate_left
     ·(go_simp;try with_reducible rfl)
     refine tkD (v:=?_) 7 (fun G D=>?_) ?_;rotate_left
     ·(go_simp;try with_reducible rfl)
     refine tkD (v:=?_) 8 (fun G D=>?_) ?_;rotate_left
     ·(go_simp;try with_reducible rfl)
     refine tkD (v:=?_) 9 (fun G D=>?_) ?_;rotate_left
     ·(obtain ⟨a0,-,-,-,-,-,-,-,-,-,-,-,-⟩:=N.out G D;go_simp;try with_reducible rfl)
     refine tkD (v:=?_) 10 (fun G D=>?_) ?_;rotate_left
     ·(go_simp;try with_reducible rfl)
     refine tkD (v:=?_) 11 (fun G D=>?_) ?_;rotate_left
     ·(obtain ⟨-,Y,-,-,-,-,-,-,-,-,-,-,-⟩:=N.out G D;go_simp;try with_reducible rfl)
     refine tkD (v:=?_) 12 (fun G D=>?_) ?_;rotate_left
     ·(go_simp;try with_reducible rfl)
     refine tkD (v:=?_) 13 (fun G D=>?_) ?_;rotate_left
     ·(obtain ⟨-,-,-,-,-,-,-,-,f0,f1,f2,f3,f4⟩:=N.out G D;go_simp;try with_reducible rfl)
     refine tkD (v:=?_) 14 (fun G D=>?_) ?_;rotate_left
     ·(go_simp;try with_reducible rfl)
     refine tkD (v:=?_) 15 (fun G D=>?_) ?_;rotate_left
     ·(obtain ⟨-,-,-,g2,g3,g4,g5,g6,-,-,-,-,-⟩:=N.out G D;go_simp;try with_reducible rfl)
     refine rdD 16 (fun K hK=>?_) Qh
     go_simp
     refine (bK _ (Qz _ _).drew).mono ?_
     rintro e w5 ⟨rfl,aN⟩
     have aG:Hid (Below M M w5):=Qq ((Qz _ _).drew.thn aN)
     clear aN
     try dsimp only
     refine hK.out _ _ aG.out (fun I=>?_)
     clear hK K
     refine tkD (v:=?_) 17 (fun G D=>?_) ?_;rotate_left
     ·(go_simp;try with_reducible rfl)
     refine tkD (v:=?_) 18 (fun G D=>?_) ?_;rotate_left
     ·(go_simp;try with_reducible rfl)
     refine tkD (v:=?_) 19 (fun G D=>?_) ?_;rotate_left
     ·(go_simp;try with_reducible rfl)
     refine tkD (v:=?_) 20 (fun G D=>?_) ?_;rotate_left
     ·(obtain ⟨-,-,O,-,-,-,-,-,-,-,-,-,-⟩:=N.out G D;go_simp;try with_reducible rfl)
     refine tkD (v:=?_) 21 (fun G D=>?_) ?_;rotate_left
     ·(go_simp;try with_reducible rfl)
     refine tkD (v:=?_) 22 (fun G D=>?_) ?_;rotate_left
     ·(go_simp;try with_reducible rfl)
     refine tkN 23 ?_
     refine tkN 24 ?_
     refine tkN 25 ?_
     refine tkN 26 ?_
     refine tkD (v:=?_) 27 (fun G D=>?_) ?_;rotate_left
     ·(go_simp;try with_reducible rfl)
     refine tkD (v:=?_) 28 (fun G D=>?_) ?_;rotate_left
     ·(go_simp;try with_reducible rfl)
     refine tkD (v:=?_) 29 (fun G D=>?_) ?_;rotate_left
     ·(go_simp;try with_reducible rfl)
     refine wpAnyH_done Og ?_ _
     clear I
     go_wp2_with fail
     go_ret
     exact ⟨rfl,U.out.thn aG.out⟩
    | true=>
     have N:=Qq (show ∀ W,(fun W=>Below M M W) W->Oi W w 0 (Ol ub aP us.length cs)/\Oi W (w+1) 4 (Ol ga oa 1 k4)/\Oi W w3 1 (.bool true)/\Oi W w3 2 tk/\Oi W w3 3 (.string ts)/\Oi W w3 4 tm/\Oi W w3 5 (.slice t3 n3 m3)/\Oi W w3 6 (.slice t4 n4 m4)/\Pi W ga oa x.kind x.n x.s (.slice x3 x.names.length bO) (.slice x4 x.kids.length bP) from fun W h=>by
      have J:∀ {b j:Nat} {u:Value},M.cell? ⟨b,j,none⟩=some u->W.cell? ⟨b,j,none⟩=some u:=fun hc=>kC h hc
      exact ⟨J a0,J Y,J O,J g2,J g3,J g4,J g5,J g6,J f0,J f1,J f2,J f3,J f4⟩)
     clear a0 Y O g2 g3 g4 g5 g6 f0 f1 f2 f3 f4
     refine wp_region_held_drew (S:=fun W=>Below M M W) Og (Qz _ _).drew (fun I=>?_)
     refine tkD (v:=?_) 0 (fun G D=>?_) ?_;rotate_left
     ·(go_simp;try with_reducible rfl)
     refine tkD (v:=?_) 1 (fun G D=>?_) ?_;rotate_left
     ·(obtain ⟨-,-,O,-,-,-,-,-,-,-,-,-,-⟩:=N.out G D;go_simp;try with_reducible rfl)
     refine tkD (v:=?_) 2 (fun G D=>?_) ?_;rotate_left
     ·(go_simp;try with_reducible rfl)
     refine tkD (v:=?_) 3 (fun G D=>?_) ?_;rotate_left
     ·(go_simp;try with_reducible rfl)
     refine tkD (v:=?_) 4 (fun G D=>?_) ?_;rotate_left
     ·(obtain ⟨-,Y,-,-,-,-,-,-,-,-,-,-,-⟩:=N.out G D;go_simp;try with_reducible rfl)
     refine tkD (v:=?_) 5 (fun G D=>?_) ?_;rotate_left
     ·(go_simp;try with_reducible rfl)
     refine tkD (v:=?_) 6 (fun G D=>?_) ?_;rotate_left
     ·(go_simp;try with_reducible rfl)
     refine tkD (v:=?_) 7 (fun G D=>?_) ?_;rotate_left
     ·(go_simp;try with_reducible rfl)
     refine tkD (v:=?_) 8 (fun G D=>?_) ?_;rotate_left
     ·(go_simp;try with_reducible rfl)
     refine tkD (v:=?_) 9 (fun G D=>?_) ?_;rotate_left
     ·(obtain ⟨a0,-,-,-,-,-,-,-,-,-,-,-,-⟩:=N.out G D;go_simp;try with_reducible rfl)
     refine tkD (v:=?_) 10 (fun G D=>?_) ?_;rotate_left
     ·(go_simp;try with_reducible rfl)
     refine tkD (v:=?_) 11 (fun G D=>?_) ?_;rotate_left
     ·(obtain ⟨-,Y,-,-,-,-,-,-,-,-,-,-,-⟩:=N.out G D;go_simp;try with_reducible rfl)
     refine tkD (v:=?_) 12 (fun G D=>?_) ?_;rotate_left
     ·(go_simp;try with_reducible rfl)
     refine tkD (v:=?_) 13 (fun G D=>?_) ?_;rotate_left
     ·(obtain ⟨-,-,-,-,-,-,-,-,f0,f1,f2,f3,f4⟩:=N.out G D;go_simp;try with_reducible rfl)
     refine tkD (v:=?_) 14 (fun G D=>?_) ?_;rotate_left
     ·(go_simp;try with_reducible rfl)
     refine tkD (v:=?_) 15 (fun G D=>?_) ?_;rotate_left
     ·(obtain ⟨-,-,-,g2,g3,g4,g5,g6,-,-,-,-,-⟩:=N.out G D;go_simp;try with_reducible rfl)
     refine rdD 16 (fun K hK=>?_) Qh
     go_simp
     refine (bK _ (Qz _ _).drew).mono ?_
     rintro e w5 ⟨rfl,aN⟩
     have aG:Hid (Below M M w5):=Qq ((Qz _ _).drew.thn aN)
     clear aN
     try dsimp only
     refine hK.out _ _ aG.out (fun I=>?_)
     clear hK K
     refine tkD (v:=?_) 17 (fun G D=>?_) ?_;rotate_left
     ·(go_simp;try with_reducible rfl)
     refine tkD (v:=?_) 18 (fun G D=>?_) ?_;rotate_left
     ·(go_simp;try with_reducible rfl)
     refine tkN 19 ?_
     refine tkN 20 ?_
     refine tkN 21 ?_
     refine tkN 22 ?_
     refine tkN 23 ?_
     refine tkN 24 ?_
     refine tkN 25 ?_
     refine tkN 26 ?_
     refine tkN 27 ?_
     refine tkD (v:=?_) 28 (fun G D=>?_) ?_;rotate_left
     ·(go_simp;try with_reducible rfl)
     refine tkD (v:=?_) 29 (fun G D=>?_) ?_;rotate_left
     ·(go_simp;try with_reducible rfl)
     refine wpAnyH_done Og ?_ _
     clear I
     go_wp2_with fail
     go_ret
     exact ⟨rfl,U.out.thn aG.out⟩
   obtain rfl:false=r:=by
    rw [<- L]
    match aY:v.kids with
    | []=>rfl
    | [x]=>rw [aY] at h1;simp at h1
    | _::_::_=>rfl
   have bL:((v.kids.length:Int)==1)=false:=by rw [<- Qn,beq_iff_eq];omega
   clear L h1 a0 g2 g3 g4 g5 g6 T V aE aD HR aJ aH HV HC aI HU
   have N:=Qq (show ∀ W,(fun W=>Below M M W) W->Oi W (w+1) 4 (.slice p4 v.kids.length k4)/\Oi W w3 1 (.bool true) from fun W h=>by
    have J:∀ {b j:Nat} {u:Value},M.cell? ⟨b,j,none⟩=some u->W.cell? ⟨b,j,none⟩=some u:=fun hc=>kC h hc
    exact ⟨J Y,J O⟩)
   clear Y O
   refine wp_region_held_drew (S:=fun W=>Below M M W) Og (Qz _ _).drew (fun I=>?_)
   refine tkD (v:=?_) 0 (fun G D=>?_) ?_;rotate_left
   ·(go_simp;try with_reducible rfl)
   refine tkD (v:=?_) 1 (fun G D=>?_) ?_;rotate_left
   ·(obtain ⟨-,O⟩:=N.out G D;go_simp;try with_reducible rfl)
   refine tkD (v:=?_) 2 (fun G D=>?_) ?_;rotate_left
   ·(go_simp;try with_reducible rfl)
   refine tkD (v:=?_) 3 (fun G D=>?_) ?_;rotate_left
   ·(go_simp;try with_reducible rfl)
   refine tkD (v:=?_) 4 (fun G D=>?_) ?_;rotate_left
   ·(obtain ⟨Y,-⟩:=N.out G D;go_simp;try with_reducible rfl)
   refine tkD (v:=?_) 5 (fun G D=>?_) ?_;rotate_left
   ·(go_simp;try with_reducible rfl)
   refine tkD (v:=?_) 6 (fun G D=>?_) ?_;rotate_left
   ·(go_simp;try with_reducible rfl)
   refine tkD (v:=?_) 7 (fun G D=>?_) ?_;rotate_left
   ·(go_simp;try with_reducible rfl)
   refine tkD (v:=?_) 8 (fun G D=>?_) ?_;rotate_left
   ·(go_simp;try with_reducible rfl)
   refine tkN 9 ?_
   refine tkN 10 ?_
   refine tkN 11 ?_
   refine tkN 12 ?_
   refine tkN 13 ?_
   refine tkN 14 ?_
   refine tkN 15 ?_
   refine tkN 16 ?_
   refine tkD (v:=?_) 17 (fun G D=>?_) ?_;rotate_left
   ·(go_simp;try with_reducible rfl)
   refine tkD (v:=?_) 18 (fun G D=>?_) ?_;rotate_left
   ·(go_simp;try with_reducible rfl)
   refine tkD (v:=?_) 19 (fun G D=>?_) ?_;rotate_left
   ·(go_simp;try with_reducible rfl)
   refine tkD (v:=?_) 20 (fun G D=>?_) ?_;rotate_left
   ·(obtain ⟨-,O⟩:=N.out G D;go_simp;try with_reducible rfl)
   refine tkD (v:=?_) 21 (fun G D=>?_) ?_;rotate_left
   ·(go_simp;try with_reducible rfl)
   refine tkD (v:=?_) 22 (fun G D=>?_) ?_;rotate_left
   ·(go_simp;try with_reducible rfl)
   refine tkN 23 ?_
   refine tkN 24 ?_
   refine tkN 25 ?_
   refine tkN 26 ?_
   refine tkD (v:=?_) 27 (fun G D=>?_) ?_;rotate_left
   ·(go_simp;try with_reducible rfl)
   refine tkD (v:=?_) 28 (fun G D=>?_) ?_;rotate_left
   ·(go_simp;try with_reducible rfl)
   refine tkD (v:=?_) 29 (fun G D=>?_) ?_;rotate_left
   ·(go_simp;try with_reducible rfl)
   refine wpAnyH_done Og ?_ _
   clear I
   go_wp2_with fail
   go_ret
   exact ⟨rfl,U.out.thn (Qz _ _).drew⟩
 have dE:(v.kind != 3)=true:=by rw [bne_iff_ne];exact h3
 obtain rfl:false=r:=by
  have dD:(v.kind==3)=false:=by simpa using h3
  rw [<- HR.out];unfold sumB;rw [dD];rfl
 clear h3
 go_wp2_with fail
 go_ret
 exact ⟨rfl,aC.out⟩
theorem hasP_at (us:List Sm) (hu:SumsOk us) (v:Val) (t:Ty) (h:Hd t\/t.kind=3):Us us v t (Nf us v t):=by
 obtain ⟨k,s,n,names,kids⟩:=t
 unfold Nf
 rcases h with h | h
 ·have D:k=0\/k=1\/k=2:=h
  rw [if_neg (show ¬ (Ty.mk k s n names kids).kind=3 from by simp only [Ty.kind];omega)]
  exact hasLeaf us v k D s n names kids
 have D:k=3:=h
 subst D
 exact hasSum us v s n names kids hu
end Go.Proofs.YtlanplhphiikjaaGreatDoor
