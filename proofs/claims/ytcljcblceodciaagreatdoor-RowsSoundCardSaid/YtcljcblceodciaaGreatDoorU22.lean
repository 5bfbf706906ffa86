import Derived.Test.YtcljcblceodciaaGreatDoorU21
import Derived.Test.YtcljcblceodciaaGreatDoorU19
set_option maxRecDepth 100000
set_option maxHeartbeats 400000000
namespace Go.Proofs.YtcljcblceodciaaGreatDoor
open Go.RowKit Go.Shelf Go.Lib Tryz
theorem Wx {T:Type} {l:List T} {i:Nat} {x y:T} (h:y ∈ Xe l i x):y ∈ l\/y=x:=by
 unfold Xe at h
 rcases Z4.1 h with h | h
 ·exact .inl (List.mem_of_mem_take h)
 rcases Z3.1 h with h | h
 ·exact .inr h
 exact .inl (Zw h)
theorem rec2_mem:∀ {z:List (Bs × Val)} {y:Val},y ∈ (Yu z).2->∃ x,(x,y) ∈ z:=by
 have:∀ (z:List (Bs × Val)) (A:List Bs × List Val) (y:Val),y ∈ (z.foldl Ur A).2->y ∈ A.2\/∃ x,(x,y) ∈ z:=by
  intro z
  induction z with
  | nil=>intro A y h;exact .inl h
  | cons p z ih=>
   intro A y h
   rcases ih (Ur A p) y h with h | ⟨x,h⟩
   ·rcases Wx h with h | h
    ·exact .inl h
    exact .inr ⟨p.1,by rw [h];exact List.mem_cons_self⟩
   exact .inr ⟨x,List.mem_cons_of_mem _ h⟩
 intro z y h
 rcases this z ([],[]) y h with h | h
 ·simp at h
 exact h
theorem Nl (nm:Bs) (n:Int) (sx:Bs) (names binds:List Bs) (kids:List Ex) (a z:Int) (S:Nat->Prop) (ce:List Value) (vv:Value) (vals:List Val) (w:World) (he:Yx S w ce (.mk 5 nm n sx names binds kids a z)) (hv0:Sl Zd S w vv vals) (hb:∀ v ∈ vals,Y0 v) :Calls prog 155 #[ce,vv] w (Vj S w):=by
 have J:=hv0.up
 obtain ⟨vp,vc,rfl,O⟩:=J.len
 obtain ⟨nv,bv,kv,rfl,I,N,G,A,hk⟩:=Yy.1 he
 obtain ⟨p1,c1,rfl,_⟩:=G.len
 obtain ⟨p2,c2,rfl,_⟩:=A.len
 obtain ⟨p3,c3,rfl,_⟩:=hk.len
 obtain ⟨HV,D,M⟩:=Qjq J hb G
 clear he hv0 J G A hk hb
 unfold sv
 go_enter func155,ntmps155
 go_wp2_with fail
 refine Q7 (v:=.tuple #[.agg #[.int .i64 3,Ci,nm,Cm,.slice vp vals.length vc],.bool true]) (by simp [results,results155,go_sem]) rfl ⟨3,0,⟨nm.toArray⟩,none,0,0,vp,vals.length,vc,true,rfl,fun _=>⟨.mk 3 0 nm [] vals,Y5 I (Sl.nil _ _ _) ((HV.out.mono (fun b _ h=>.inl h.1)).below (Zu _ _ _)),.mk _ _ _ _ _ (fun h=>by cases h) D.out⟩,Zu _ _ _⟩
theorem Nj (nm:Bs) (n:Int) (sx:Bs) (names binds:List Bs) (kids:List Ex) (a z:Int) (S:Nat->Prop) (ce:List Value) (vv:Value) (vals:List Val) (w:World) (he:Yx S w ce (.mk 9 nm n sx names binds kids a z)) (hv0:Sl Zd S w vv vals) (hb:∀ v ∈ vals,Y0 v) (hl:vals.length<=4096):Calls prog 155 #[ce,vv] w (Vj S w):=by
 have I:=hv0.up
 obtain ⟨vp,vc,rfl,O⟩:=I.len
 obtain ⟨nv,bv,kv,rfl,M,N,G,A,hk⟩:=Yy.1 he
 obtain ⟨p1,c1,rfl,_⟩:=G.len
 obtain ⟨p2,c2,rfl,_⟩:=A.len
 obtain ⟨p3,c3,rfl,_⟩:=hk.len
 obtain ⟨HV,D,J⟩:=Qjq I hb G
 clear he hv0 I G A hk hb
 unfold sv
 have hq:(vals.length:Int)<=4096:=C7
 go_enter func155,ntmps155
 go_wp2_with fail
 refine Q7 (v:=.tuple #[.agg #[.int .i64 5,Ci,Cl,Cm,.slice vp vals.length vc],.bool true]) (by simp [results,results155,go_sem]) rfl ⟨5,0,⟨#[]⟩,none,0,0,vp,vals.length,vc,true,rfl,fun _=>⟨.mk 5 0 [] [] vals,Y5 (s:=[]) Ca (Sl.nil _ _ _) ((HV.out.mono (fun b _ h=>.inl h.1)).below (Zu _ _ _)),.mk _ _ _ _ _ (fun h=>by cases h) D.out⟩,Zu _ _ _⟩
theorem N3 (k:Int) (nm:Bs) (n:Int) (sx:Bs) (names binds:List Bs) (kids:List Ex) (a z:Int) (S:Nat->Prop) (ce:List Value) (vv:Value) (vals:List Val) (w:World) (he:Yx S w ce (.mk k nm n sx names binds kids a z)) (hv0:Sl Zd S w vv vals) (hb:∀ v ∈ vals,Y0 v) (hk5:k≠5) (hk9:k≠9) (hk6:k≠6) (hk8:k≠8) (hk7:k≠7):Calls prog 155 #[ce,vv] w (Vj S w):=by
 have G:=hv0.up
 obtain ⟨vp,vc,rfl,O⟩:=G.len
 obtain ⟨nv,bv,kv,rfl,M,N,D,A,hk⟩:=Yy.1 he
 obtain ⟨p1,c1,rfl,_⟩:=D.len
 obtain ⟨p2,c2,rfl,_⟩:=A.len
 obtain ⟨p3,c3,rfl,_⟩:=hk.len
 obtain ⟨HV,I,J⟩:=Qjq G hb D
 clear he hv0 G D A hk hb
 unfold sv
 have q5:(k==5)=false:=by simpa using hk5
 have q9:(k==9)=false:=by simpa using hk9
 have q6:(k==6)=false:=by simpa using hk6
 have q8:(k==8)=false:=by simpa using hk8
 have q7:(k==7)=false:=by simpa using hk7
 clear hk5 hk9 hk6 hk8 hk7
 go_enter func155,ntmps155
 go_wp2_with fail
 refine Q7 (v:=.tuple #[.agg zV,.bool false]) (by simp [results,results155,go_sem]) rfl ⟨0,0,⟨#[]⟩,none,0,0,none,0,0,false,rfl,fun h=>(by cases h),Zu _ _ _⟩
theorem Rt (nm:Bs) (n:Int) (sx:Bs) (names binds:List Bs) (kids:List Ex) (a z:Int) (S:Nat->Prop) (ce:List Value) (vv:Value) (vals:List Val) (w:World) (he:Yx S w ce (.mk 6 nm n sx names binds kids a z)) (hv0:Sl Zd S w vv vals) (hb:∀ v ∈ vals,Y0 v) (hw:∀ x ∈ names,Vy x) (hnl:names.length<=1000):Calls prog 155 #[ce,vv] w (Vj S w):=by
 have hv:=hv0.up
 obtain ⟨vp,vc,rfl,aW⟩:=hv.len
 obtain ⟨nv,bv,kv,rfl,aU,aV,hn,aC,hk⟩:=Yy.1 he
 obtain ⟨p1,c1,rfl,_⟩:=hn.len
 obtain ⟨p2,c2,rfl,_⟩:=aC.len
 obtain ⟨p3,c3,rfl,_⟩:=hk.len
 obtain ⟨HV,aH,aJ⟩:=Qjq hv hb hn
 clear he hv0 hv hn aC hk hb
 unfold sv
 have Y:=Qq (fun W (hb:Below w w W)=>Gs (fun b=>S b/\b<w) _ _ names vals W ((aJ.out.mono (fun b hb h=>⟨h,hb⟩)).below hb) (HV.out.below hb) hw hnl)
 clear hw
 go_enter func155,ntmps155
 go_wp2_with fail
 refine (Y.out _ (Zu _ _ _)).mono ?_
 rintro e w1 ⟨M,T⟩
 have J:=(M.block (w+1) Ca).trans (Q6 _ _ _)
 have aB:=Qq J;have V:=Qq ((Zu w _ _).thn M)
 have aF:=Z8 J
 rcases T with ⟨aL,aE,rfl,_⟩ | ⟨q3,l3,q4,l4,_,rfl,_,_,U⟩
 ·have hq:(aL==0)=false:=by simpa using aE
  clear aE M J
  go_upto_region 8 with fail
  generalize G:w1.alloc _=W2
  have D:=eqB G (Zg _ _)
  have I:=eqH (b:=w1.heap.size) G (Qw _ _)
  have A:=kE D aF aB.out
  have O:=Qq A;have N:=Qq (V.out.thn D)
  obtain ⟨x0,x1,x2,x3,x4⟩:=row5 I
  obtain ⟨z0,z1,z2,z3,z4⟩:=row5 A
  obtain ⟨f0,f1,f2,f3,f4⟩:=frz5 A
  clear G D I A
  go_wp2_with fail
  show bodyPost _ _ _ _ _ (Zi W2 (w+1) Ci Ci Cl Cm Cm)
  refine Q7 (v:=.tuple #[.agg zV,.bool false]) (by simp [results,results155,go_sem,Ze O.out]) rfl ⟨0,0,⟨#[]⟩,none,0,0,none,0,0,false,rfl,fun h=>(by cases h),Zc N.out C7⟩
 obtain ⟨aO,aP⟩:=Uq (names.zip vals)
 have aD:Y0 (Vw (Yu (names.zip vals)).1 (Yu (names.zip vals)).2):=.mk _ _ _ _ _ (fun h=>by cases h) (fun y hy=>by
  obtain ⟨x,hx⟩:=rec2_mem hy
  exact aH.out y (List.of_mem_zip hx).2)
 have aI:=Qq aD
 rw [Bc] at U |-
 have Z:=Qq U
 obtain ⟨r,hr⟩:=eX ((names.zip vals).length)
 rw [hr] at Z |-
 clear U M J aD aO aP hr
 go_upto_region 8 with fail
 generalize G:w1.alloc _=W2
 have D:=eqB G (Zg _ _)
 have I:=eqH (b:=w1.heap.size) G (Qw _ _)
 have A:=kE D aF aB.out
 have O:=Qq A;have N:=Qq (V.out.thn D)
 have aA:=Qq (Z.out.move (S':=fun b=>(S b/\b≠w+1)\/w+2<=b) (.of_below D) (fun b _ h=>by
  rcases h with h | h
  ·exact .inl ⟨h.1,by have:=h.2;omega⟩
  exact .inr (by simpa using h)))
 obtain ⟨x0,x1,x2,x3,x4⟩:=row5 I
 obtain ⟨z0,z1,z2,z3,z4⟩:=row5 A
 obtain ⟨f0,f1,f2,f3,f4⟩:=frz5 A
 clear G D I A
 go_wp2_with fail
 show bodyPost _ _ _ _ _ (Zi W2 (w+1) (.int .i64 4) Ci Cl (.slice q3 r l3) (.slice q4 r l4))
 refine Q7 (v:=.tuple #[.agg #[.int .i64 4,Ci,Cl,.slice q3 r l3,.slice q4 r l4],.bool true]) (by simp [results,results155,go_sem,Ze O.out]) rfl ⟨4,0,⟨#[]⟩,q3,r,l3,q4,r,l4,true,rfl,fun _=>⟨_,?_,aI.out⟩,Zc N.out C7⟩
 exact aA.out.move (fun b hb _=>Zf C7) (fun b _ hb=>by
  rcases hb with h | h
  ·exact .inl h.1
  exact .inr C7)
theorem Mm (nm:Bs) (n:Int) (sx:Bs) (names binds:List Bs) (kids:List Ex) (a z:Int) (S:Nat->Prop) (ce:List Value) (vv:Value) (vals:List Val) (w:World) (he:Yx S w ce (.mk 8 nm n sx names binds kids a z)) (hv0:Sl Zd S w vv vals) (hb:∀ v ∈ vals,Y0 v) (v0:Val) (hv00:vals[0]?=some v0):Calls prog 155 #[ce,vv] w (Vj S w):=by
 have hv:=hv0.up
 obtain ⟨vp,vc,rfl,bF⟩:=hv.len
 obtain ⟨nv,bv,kv,rfl,bC,bE,hn,aD,hk⟩:=Yy.1 he
 obtain ⟨p1,c1,rfl,_⟩:=hn.len
 obtain ⟨p2,c2,rfl,_⟩:=aD.len
 obtain ⟨p3,c3,rfl,_⟩:=hk.len
 obtain ⟨HV,aN,aY⟩:=Qjq hv hb hn
 clear he hv0 hv hn aD hk hb
 unfold sv
 obtain ⟨vb,aX,q3,l3,q4,l4,rfl,G,aF,d0,d1,d2,d3,d4⟩:=HV.out.val hv00
 have HG:=Qq (fun W (hb:Below w w W)=>Bu (fun b=>S b/\b<w) v0 (Cn v0 q3 l3 q4 l4) nm W (Z9.move aF (.of_below hb) Qje))
 unfold sv at HG
 have aW:0<vals.length:=(Qj hv00).1
 have bB:(0:Int)<(vals.length:Int):=C7
 have aC:=aN.out v0 (Qy hv00)
 have aL:=Qq aC
 simp only [Nat.zero_mul,Nat.add_zero] at d0 d1 d2 d3 d4
 have D:=Qq (Qe d0 (Qe d1 (Qe d2 (Qe d3 d4))))
 clear aF hv00 aC d0 d1 d2 d3 d4
 go_enter func155,ntmps155
 go_upto_region 10 with fail
 generalize I:(w.alloc _).alloc _=W1
 have A:=eqB I (Zu _ _ _)
 have aB:=eqH (b:=w.heap.size) I (Q5 _ _ _)
 have M:=eqH (b:=w.heap.size+1) I (Q6 _ _ _)
 have T:=Qq A;have aP:=Qq M
 have aR:=Z8 M
 have aZ:=rA1 aB
 obtain ⟨U,V,Y,Z,aA⟩:=D.out
 have d0:=kD A G U;have d1:=kD A G V;have d2:=kD A G Y;have d3:=kD A G Z;have d4:=kD A G aA
 clear I A aB M U V Y Z aA
 go_region_with (go_at_call 49;refine (HG.out _ (T.out.thn (Qz _ _).drew)).mono ?_;rintro e w5 ⟨bA,rfl,O,N⟩;obtain ⟨t3,s3,t4,s4,aE,_⟩:=Z9.cells O;simp only [vcs] at aE;subst aE;have J:=kE ((Qz _ W1).drew.thn N) aR aP.out;obtain ⟨aQ,aM,aO⟩:=Qjq J (T.out.thn ((Qz _ W1).drew.thn N)) O;obtain ⟨y0,y1,y2,y3,y4⟩:=row5 J;obtain ⟨g0,g1,g2,g3,g4⟩:=frz5 J;clear O N J)
 all_goals
  go_wp2_with fail
  show bodyPost _ _ _ _ _ (Zi w5 (w+1) (.int .i64 ((Yt v0 nm).getD Val.zero).kind) (.int .i64 ((Yt v0 nm).getD Val.zero).n) (.string ⟨((Yt v0 nm).getD Val.zero).s.toArray⟩) (.slice t3 ((Yt v0 nm).getD Val.zero).names.length s3) (.slice t4 ((Yt v0 nm).getD Val.zero).kids.length s4))
  refine Q7 (v:=.tuple #[.agg #[.int .i64 ((Yt v0 nm).getD Val.zero).kind,.int .i64 ((Yt v0 nm).getD Val.zero).n,.string ⟨((Yt v0 nm).getD Val.zero).s.toArray⟩,.slice t3 ((Yt v0 nm).getD Val.zero).names.length s3,.slice t4 ((Yt v0 nm).getD Val.zero).kids.length s4],.bool (Yt v0 nm).isSome]) (by simp [results,results155,go_sem,Ze aQ.out]) rfl ⟨_,_,_,t3,_,s3,t4,_,s4,_,rfl,fun bD=>⟨(Yt v0 nm).getD Val.zero,?_,?_⟩,Zc aM.out C7⟩
  ·exact aO.out.move (fun b hb _=>Zf (by have:=hb.2;omega)) (fun b _ hb=>.inl hb.1)
  cases hg:Yt v0 nm with
  | none=>exact Y0.zero
  | some u=>
   obtain ⟨i,_,hu,_⟩:=Gy hg
   exact aL.out.kids u (Qy hu)
def S8 (S:Nat->Prop) (w W1:World) (t10 t11:Value) (wx:World):Prop:=
 ∃ (G:Nat) (uk un:Int) (us:ByteArray) (u3:Option Addr) (m3 l3:Nat) (u4:Option Addr) (m4 l4:Nat) (b:Bool),t10=.pointer (some ⟨G,0,none⟩)/\t11=.bool b/\wx.heap[G]?=some (.cells #[uk,un,.string us,.slice u3 m3 l3,.slice u4 m4 l4] 36 (0,0))/\Below W1 W1 wx/\W1<=G/\(b=true->∃ v,Z9 (fun c=>(S c/\c<w)\/W1<=c) wx [uk,un,.string us,.slice u3 m3 l3,.slice u4 m4 l4] v/\Y0 v)
def WithMid (S:Nat->Prop) (w W1:World) (i:Value) (wr:World):Prop:=(i=.int .i64 1/\W1=wr) \/
 (i=.int .i64 2/\Below w w wr/\∃ (uk un:Int) (us:ByteArray) (u3:Option Addr) (m3 l3:Nat) (u4:Option Addr) (m4 l4:Nat),wr.heap[w.heap.size+1]?=some (.cells zV 36 (0,0))/\wr.heap[w.heap.size+1+1]?=some (.cells #[uk,un,.string us,.slice u3 m3 l3,.slice u4 m4 l4] 36 (0,0))/\∃ v,Z9 (fun c=>(S c/\c<w)\/w+3<=c) wr [uk,un,.string us,.slice u3 m3 l3,.slice u4 m4 l4] v/\Y0 v)
theorem Ng (nm:Bs) (n:Int) (sx:Bs) (names binds:List Bs) (kids:List Ex) (a z:Int) (S:Nat->Prop) (ce:List Value) (vv:Value) (vals:List Val) (w:World) (he:Yx S w ce (.mk 7 nm n sx names binds kids a z)) (hv0:Sl Zd S w vv vals) (hb:∀ v ∈ vals,Y0 v) (x1:Bs) (hnames:names=[x1]) (v0 v1:Val) (hvals:vals=[v0,v1]):Calls prog 155 #[ce,vv] w (Vj S w):=by
 subst hnames;subst hvals
 have hv:Sl Zd (fun b=>S b/\b<w) w vv [v0,v1]:=hv0.mono (fun b hb h=>⟨h,hb⟩)
 obtain ⟨vp,vc,rfl,dR⟩:=hv.len
 obtain ⟨nv,bv,kv,rfl,dP,dQ,hn,cB,hk⟩:=Yy.1 he
 obtain ⟨p1,c1,rfl,_⟩:=hn.len
 obtain ⟨p2,c2,rfl,_⟩:=cB.len
 obtain ⟨p3,c3,rfl,_⟩:=hk.len
 obtain ⟨HV,bC,bE⟩:=Qjq hv hb hn
 clear he hv0 hv hn cB hk hb
 unfold sv
 simp only [List.length_cons,List.length_nil,Nat.zero_add,Nat.reduceAdd] at HV bE |-
 have mixed:prog.follows .mixedOrders=true:=Cd
 obtain ⟨vb,A,q3,e3,q4,e4,dF,aF,aE,d0,d1,d2,d3,d4⟩:=HV.out.val (i:=0) (x:=v0) rfl
 obtain ⟨dI,aW,r3,f3,r4,f4,cE,_,aL,g0,g1,g2,g3,g4⟩:=HV.out.val (i:=1) (x:=v1) rfl
 subst dF
 obtain ⟨rfl,rfl⟩:vb=dI/\A=aW:=by simpa using cE
 obtain ⟨nb,aN,dD,aI,_⟩:=bE.out.str (i:=0) (x:=x1) rfl
 subst dD
 have dC:=Qv _ _ aI
 simp only [Nat.zero_mul,Nat.one_mul,Nat.add_zero] at d0 d1 d2 d3 d4 g0 g1 g2 g3 g4 aI
 have cN:=Qq (bC.out v0 Ca);have bA:=Qq (bC.out v1 Ca)
 have HW:=Qq (fun W (hb:Below w w W)=>Cz (fun b=>S b/\b<w) v0 v1 x1 (Cn v0 q3 e3 q4 e4) (Cn v1 r3 f3 r4 f4) W (Z9.move aE (.of_below hb) Qje) (Z9.move aL (.of_below hb) Qje) cN.out bA.out)
 unfold sv at HW
 have dL:=Qq aE
 have GG:=Qq (Qe g0 (Qe g1 (Qe g2 (Qe g3 (Qe g4 aI)))))
 clear aE aL cE g0 g1 g2 g3 g4 aI
 go_enter func155,ntmps155
 go_upto_region 13 with fail
 generalize aD:((w.alloc _).alloc _).alloc _=I
 have cA:=eqB aD (Xm _ _ _ _)
 have bX:=eqH (b:=w.heap.size) aD (Zp _ _ _ _)
 have bZ:=eqH (b:=w.heap.size+1) aD (Zo _ _ _ _)
 have aR:=eqH (b:=w.heap.size+1+1) aD (Zl _ _ _ _)
 obtain ⟨N,cW,bI,cQ⟩:=Qjz cA bZ aR bX
 have cF:=Z8 aR
 clear aD cA bZ bX aR d0 d1 d2 d3 d4
 go_wp2_with fail
 go_loopw [9,10,11,12] (fun i _ _ _ wr=>WithMid S w I i wr) (fun i _ _ _ _=>2 - (intOf i).toNat)
 case atStart=>exact .inl ⟨rfl,rfl⟩
 rcases hrel with ⟨rfl,rfl⟩ | ⟨rfl,cD,M,un,us,Z,V,T,u4,Y,U,hZ,hX,v,hv,cC⟩
 ·obtain ⟨bL,bN,bP,bR,bT,aK⟩:=GG.out
  refine let_mvar% ?Lq1:=fun w':World=>(Qjg w' (w+1+1) v0.kind v0.n v0.s (.slice q3 v0.names.length e3) (.slice q4 v0.kids.length e4) (Cf w' w 4 (Cg nb aN 1 c1)/\Cf w' nb aN x1/\Cf w' vb (A+5) v1.kind/\Cf w' vb (A+5+1) v1.n/\Cf w' vb (A+5+2) v1.s/\Cf w' vb (A+5+3) (.slice r3 v1.names.length f3)/\Cf w' vb (A+5+4) (.slice r4 v1.kids.length f4)/\Below I I w'):Prop);?_
  have HS:∀ w',Below I I w'->?Lq1 w':=by
   intro w' h
   have hh:∀ {b j:Nat} {u:Value},b<w->w.cell? ⟨b,j,none⟩=some u->w'.cell? ⟨b,j,none⟩=some u:=fun {b j u} hlt2 hc=>(h.cell (p:=⟨b,j,none⟩) (Qa hlt2 N.out.size)).trans (kD N.out hlt2 hc)
   have hV:=kE h cF bI.out
   have hE:=kB h cQ.out
   exact ⟨Qk _ _ 0 _ _ _ hV,Qk _ _ 1 _ _ _ hV,Qk _ _ 2 _ _ _ hV,Qk _ _ 3 _ _ _ hV,Qk _ _ 4 _ _ _ hV,Qk _ _ 4 _ _ _ hE,hh dC aK,hh aF bL,hh aF bN,hh aF bP,hh aF bR,hh aF bT,h⟩
  have D:∀ w',?Lq1 w'->Below I I w':=fun w' h=>h.2.2.2.2.2.2.2.2.2.2.2.2
  have HA:∀ w' o,?Lq1 w'->?Lq1 (w'.alloc o):=fun w' o h=>HS _ ((D w' h).alloc (D w' h).size o)
  have HP:∀ w' a b c d e,?Lq1 w'->?Lq1 (Zi w' I a b c d e):=fun w' a b c d e h=>HS _ (Zc (D w' h) (Q9 _))
  unfold Zi at HP
  have HC:=Qq (fun W' (h':?Lq1 W')=>(HW.out W' (N.out.thn (D _ h'))).mono (R':=fun e w2=>∃ (M un:Int) (us:ByteArray) (Z:Option Addr) (V T:Nat) (u4:Option Addr) (Y U:Nat) (b:Bool),e=.returned (.tuple #[.agg #[M,un,.string us,.slice Z V T,.slice u4 Y U],.bool b])/\(b=true->∃ v,Z9 (fun c=>(S c/\c<w)\/W'<=c) w2 [M,un,.string us,.slice Z V T,.slice u4 Y U] v/\Y0 v)/\Below W' W' w2/\I<=W'.heap.size/\?Lq1 w2) (by
   rintro e w2 ⟨M,un,us,Z,V,T,u4,Y,U,b,rfl,h3,h4⟩
   exact ⟨M,un,us,Z,V,T,u4,Y,U,b,rfl,h3,h4,(D _ h').size,HS _ ((D _ h').thn h4)⟩))
  obtain ⟨bG,bH,bD,J,aO,bF⟩:=Qjv (HS I.drew (Qz _ _).drew) (HS I (Qz _ _)) (fun w' (h:?Lq1 w')=>HS w'.drew (D w' h).drew) D HA HP
  clear HS D HA HP bL bN bP bR bT aK
  have dS:IntKind.i64.wrap 0=0:=Cc
  go_upto_region 16 with fail
  go_cut [10,11] from 55 to 100 (fun dG aV wx=>S8 S w I dG aV wx)
  case first=>
   go_region_held3 ?Lq1 (first | with_reducible exact bG.out | with_reducible exact O | with_reducible exact bD.out _ (aO.out _ _ bH.out) | with_reducible exact aO.out _ _ O | with_reducible exact bF.out _ _ _ _ _ _ O)
    (first
     | (go_at_call 173;refine (HC.out _ Ce).mono ?_;rintro e w2 ⟨M,un,us,Z,V,T,u4,Y,U,b,rfl,aJ,aS,dJ,O⟩;(try (have r2:w2.heap[I.heap.size]?=some (.cells zV 36 (0,0)):=(aS.block I Ca).trans (Qw I _);obtain ⟨y0,y1,y2,y3,y4⟩:=row5 r2;obtain ⟨g0,g1,g2,g3,g4⟩:=frz5 r2;have cS:=Qq r2;clear r2));have bJ:=Qq aJ;have dK:=Qq aS;clear aJ aS))
   all_goals
    go_wp2_with fail
    go_meet
   ·exact ⟨w2.heap.size,M,un,us,Z,V,T,u4,Y,U,b,rfl,rfl,Qw _ _,(J.out _ O).thn (Zg _ _),(J.out _ O).size,fun aT=>by
       obtain ⟨v,h1,h2⟩:=bJ.out aT
       exact ⟨v,h1.move (.of_below (Zg _ _)) (fun c _ h=>by rcases h with h | h;exact .inl h;exact .inr (by simpa using h)),h2⟩⟩
   show S8 S w I _ _ (Zi w2 I _ _ _ _ _)
   exact ⟨I.heap.size,M,un,us,Z,V,T,u4,Y,U,b,rfl,rfl,Yw cS.out,Zc (J.out _ O) (Q9 _),Q9 _,fun aT=>by
      obtain ⟨v,h1,h2⟩:=bJ.out aT
      exact ⟨v,h1.move (S':=fun c=>(S c/\c<w)\/I<c) (.refl _ _) (fun c _ h=>by rcases h with h | h;exact .inl h;exact .inr (by have h':=h;simp at h';omega)) |>.move (fun c hc _=>Zf (by rcases hc with h | h;exact (by have:=h.2;have:=N.out.size;omega);omega)) (fun c _ h=>by rcases h with h | h;exact .inl h;exact .inr C7),h2⟩⟩
  obtain ⟨G,M,un,us,Z,V,T,u4,Y,U,b,rfl,rfl,hG,aH,dM,aM⟩:=hcut
  obtain ⟨HG,bB,cU⟩:=Qjq hG aH aM
  have dN:=Z8 hG
  have aQ:=Qq (kE aH cF bI.out);have aG:=Qq (kB aH cW.out)
  clear HC bG bH bD J aO bF hG aH aM
  go_wp2_with fail
  go_loopw [11,12] (fun aV dH wr=>aV=.bool b/\dH=.int .i64 0/\wc=wr) (fun _ _ _=>0)
  case atStart=>exact ⟨rfl,rfl,rfl⟩
  obtain ⟨rfl,rfl,rfl⟩:=hrel
  obtain ⟨c0,c1,c2,c3,c4⟩:=row5 aQ.out
  obtain ⟨f0,f1,f2,f3,f4⟩:=frz5 aQ.out
  obtain ⟨g0,g1,g2,g3,g4⟩:=row5 HG.out
  obtain ⟨z0,z1,z2,z3,z4⟩:=row5 aG.out
  obtain ⟨h0,h1,h2,h3,h4⟩:=frz5 aG.out
  cases b with
  | false=>
   go_wp2_with fail
   show bodyPost _ _ _ _ _ (Cu wc (w+1) v0 q3 e3 q4 e4)
   refine Q7 (v:=.tuple #[.agg (Cn v0 q3 e3 q4 e4),.bool false]) (by simp [results,results155,go_sem,Ze aG.out]) rfl ⟨_,_,_,_,_,_,_,_,_,false,rfl,fun h=>(by cases h),Zc (N.out.thn bB.out) C7⟩
  | true=>
   go_wp2_with fail
   go_roundw
   case measure=>simp [intOf]
   case rel=>
    obtain ⟨v,dE,aJ⟩:=cU.out rfl
    refine .inr ⟨rfl,?_,M,un,us,Z,V,T,u4,Y,U,?_,?_,v,?_,aJ⟩
    ·exact Zc (N.out.thn bB.out) C7
    ·show (Zi wc (w+1+1) M un (.string us) (.slice Z V T) (.slice u4 Y U)).heap[_]?=_
     rw [Zf C7];exact aG.out
    ·exact Yw aQ.out
    exact (dE.move (S':=fun c=>(S c/\c<w)\/w+3<=c) (.refl _ _) (fun c _ h=>by rcases h with h | h;exact .inl h;exact .inr C7)).move (fun c hc _=>Zf (by rcases hc with h | h;exact (by have:=h.2;omega);omega)) Qje
 obtain ⟨cP,HZ,HX,cV,cO⟩:=Qjk cD hZ hX hv cC
 obtain ⟨c0,c1,c2,c3,c4⟩:=row5 hX
 obtain ⟨z0,z1,z2,z3,z4⟩:=row5 hZ
 obtain ⟨h0,h1,h2,h3,h4⟩:=frz5 hZ
 clear cD hZ hX hv cC
 have dO:=Z8 HZ.out
 go_upto_region 24 with fail
 go_region_with fail
 all_goals
  go_wp2_with fail
  show bodyPost _ _ _ _ _ (Zi wr (w+1) M un (.string us) (.slice Z V T) (.slice u4 Y U)).drew
  refine Q7 (v:=.tuple #[.agg #[M,un,.string us,.slice Z V T,.slice u4 Y U],.bool (M==4)]) (by simp [results,results155,go_sem,Ze HZ.out]) rfl ⟨_,_,_,_,_,_,_,_,_,_,rfl,fun _=>⟨v,?_,cO.out⟩,(Zc cP.out C7).drew⟩
  exact cV.out.move (fun c hc _=>by rw [show ∀ W:World,W.drew.heap=W.heap from fun _=>rfl];exact Zf (by rcases hc with h | h;exact (by have:=h.2;omega);omega)) (fun c _ h=>by rcases h with h | h;exact .inl h.1;exact .inr C7)
theorem Pp (k:Int) (nm:Bs) (n:Int) (sx:Bs) (names binds:List Bs) (kids:List Ex) (a z:Int) (S:Nat->Prop) (ce:List Value) (vv:Value) (vals:List Val) (w:World) (hN:Ee k nm names binds kids.length) (he:Yx S w ce (.mk k nm n sx names binds kids a z)) (hl:vals.length=kids.length) (hv0:Sl Zd S w vv vals) (hb:∀ v ∈ vals,Y0 v):
  Calls prog 155 #[ce,vv] w (Vj S w):=by
 by_cases h5:k=5
 ·subst h5;exact Nl _ _ _ _ _ _ _ _ _ _ _ _ _ he hv0 hb
 by_cases h9:k=9
 ·subst h9;exact Nj _ _ _ _ _ _ _ _ _ _ _ _ _ he hv0 hb (C8 hN.few)
 by_cases h6:k=6
 ·subst h6;exact Rt _ _ _ _ _ _ _ _ _ _ _ _ _ he hv0 hb (hN.words rfl) hN.fewn
 by_cases h8:k=8
 ·subst h8
  have:=hN.fld rfl
  exact Mm _ _ _ _ _ _ _ _ _ _ _ _ _ he hv0 hb (vals[0]'C7) (Qx C7)
 by_cases h7:k=7
 ·subst h7
  obtain ⟨h1,h2⟩:=hN.one rfl
  obtain ⟨x1,rfl⟩:=List.length_eq_one_iff.1 h1
  rw [h2] at hl
  match vals,hl with
  | [v0,v1],_=>exact Ng _ _ _ _ _ _ _ _ _ _ _ _ _ he hv0 hb x1 rfl v0 v1 rfl
 exact N3 k _ _ _ _ _ _ _ _ _ _ _ _ _ he hv0 hb h5 h9 h6 h8 h7
def Xl (d:Nat) (e:Ex):Prop:=∀ (S:Nat->Prop) (ce:List Value) (nv vv:Value) (names:List Bs) (vals:List Val) (w:World),Yx S w ce e->Sl Zh S w nv names->Sl Zd S w vv vals->names.length<=vals.length->vals.length+d<=1000->(∀ v ∈ vals,Y0 v) ->
 Calls prog 109 #[ce,nv,vv] w (Vj S w)
theorem Ui {S:Nat->Prop} {w W1 w2:World} {R:Nat} {k n:Int} {s:ByteArray} {p3:Option Addr} {n3 k3:Nat} {p4:Option Addr} {n4 k4:Nat} {b:Bool} (hB1:Below w w W1) (hR:w<=R) (hR1:R<W1) (hv:b=true->∃ v,Z9 (fun c=>(S c/\c<w)\/W1<=c) w2 [k,n,.string s,.slice p3 n3 k3,.slice p4 n4 k4] v/\Y0 v) (hB2:Below W1 W1 w2):
  Vj S w (.returned (.tuple #[.agg #[k,n,.string s,.slice p3 n3 k3,.slice p4 n4 k4],.bool b])) (Zi w2 R k n (.string s) (.slice p3 n3 k3) (.slice p4 n4 k4)):=by
 refine ⟨k,n,s,p3,n3,k3,p4,n4,k4,b,rfl,fun hb=>?_,Zc (hB1.thn hB2) hR⟩
 obtain ⟨v,h1,h2⟩:=hv hb
 have hs:=hB1.size
 exact ⟨v,h1.move (fun c A _=>Zf (by rcases A with h | h;exact (by have:=h.2;omega);omega)) (fun c _ A=>by rcases A with h | h;exact .inl h.1;exact .inr C7),h2⟩
theorem Xr {S:Nat->Prop} {w w2:World} {R:Nat} {k n:Int} {s:ByteArray} {p3:Option Addr} {n3 k3:Nat} {p4:Option Addr} {n4 k4:Nat} (hR:w<=R) (hB2:Below w w w2):
  Vj S w (.returned (.tuple #[.agg #[k,n,.string s,.slice p3 n3 k3,.slice p4 n4 k4],.bool false])) (Zi w2 R k n (.string s) (.slice p3 n3 k3) (.slice p4 n4 k4)):=
 ⟨k,n,s,p3,n3,k3,p4,n4,k4,false,rfl,(fun h=>by cases h),Zc hB2 hR⟩
theorem Ka {S:Nat->Prop} {w w2:World} {R:Nat} {k n:Int} {s:ByteArray} {p3:Option Addr} {n3 k3:Nat} {p4:Option Addr} {n4 k4:Nat} {b:Bool} (hR:w<=R) (hB2:Below w w w2) (hv:b=true->∃ v,Z9 (fun c=>(S c/\c<w)\/R<c) w2 [k,n,.string s,.slice p3 n3 k3,.slice p4 n4 k4] v/\Y0 v):
  Vj S w (.returned (.tuple #[.agg #[k,n,.string s,.slice p3 n3 k3,.slice p4 n4 k4],.bool b])) (Zi w2 R k n (.string s) (.slice p3 n3 k3) (.slice p4 n4 k4)):=by
 refine ⟨k,n,s,p3,n3,k3,p4,n4,k4,b,rfl,fun hb=>?_,Zc hB2 hR⟩
 obtain ⟨v,h1,h2⟩:=hv hb
 exact ⟨v,h1.move (fun c A _=>Zf (by rcases A with h | h;exact (by have:=h.2;omega);omega)) (fun c _ A=>by rcases A with h | h;exact .inl h.1;exact .inr C7),h2⟩
theorem Vj.sub {S:Nat->Prop} {w W1:World} {e:Ending} {w2:World} (h:Vj (fun c=>S c/\c<w) W1 e w2):∃ (k n:Int) (s:ByteArray) (p3:Option Addr) (n3 k3:Nat) (p4:Option Addr) (n4 k4:Nat) (b:Bool),
  e=.returned (.tuple #[.agg #[k,n,.string s,.slice p3 n3 k3,.slice p4 n4 k4],.bool b])/\(b=true->∃ v,Z9 (fun c=>(S c/\c<w)\/W1<=c) w2 [k,n,.string s,.slice p3 n3 k3,.slice p4 n4 k4] v/\Y0 v)/\Below W1 W1 w2:=h
theorem Vj.drew {S:Nat->Prop} {w W:World} {e:Ending} (h:Vj S w e W):Vj S w e W.drew:=by
 obtain ⟨k,n,s,p3,n3,k3,p4,n4,k4,b,he,hv,hb⟩:=h
 refine ⟨k,n,s,p3,n3,k3,p4,n4,k4,b,he,fun ht=>?_,hb.drew⟩
 obtain ⟨v,h1,h2⟩:=hv ht
 exact ⟨v,h1.move (fun _ _ _=>rfl) Qje,h2⟩
theorem Gz (b:Bool) (w:World):Calls prog 151 #[.bool b] w fun e w'=>∃ X:Int,(X=0\/X=1)/\e=.returned (.tuple #[.agg #[.int .i64 2,X,Cl,Cm,Cm],.bool true])/\Below w w w':=
 (Rr b w).mono fun _ _ ⟨h1,h2⟩=>⟨_,(by cases b <;> simp),h1,h2⟩
theorem Oo (n:Int) (w:World):Calls prog 150 #[n] w fun e w'=>∃ X:Int,True/\e=.returned (.tuple #[.agg #[Ci,X,Cl,Cm,Cm],.bool true])/\Below w w w':=
 (Gu n w).mono fun _ _ ⟨h1,h2⟩=>⟨n,trivial,h1,h2⟩
theorem Dc {X:Int} (h:X=0\/X=1):Y0 (.mk 2 X [] [] []):=.mk _ _ _ _ _ (fun _=>h) (fun x h=>by simp at h)
theorem Tb (nm:Bs) (n:Int) (s:Bs) (names binds:List Bs) (kids:List Ex) (a z:Int) (d:Nat) (ih:∀ x ∈ kids,Xl d x) :∀ (S:Nat->Prop) (ce:List Value) (nv vv:Value) (ns:List Bs) (vs:List Val) (w:World),Yx S w ce (.mk 0 nm n s names binds kids a z)->Sl Zh S w nv ns->Sl Zd S w vv vs->ns.length<=vs.length->vs.length+(d+1)<=1000->(∀ v ∈ vs,Y0 v) ->
  Calls prog 109 #[ce,nv,vv] w (Vj S w):=by
 intro S ce nv vv ns vs w Z V Y G hd hb
 have hx:Yx (fun b=>S b/\b<w) w ce (.mk 0 nm n s names binds kids a z):=Z.move (.refl _ _) (fun b hb h=>⟨h,hb⟩)
 have hn:=V.up
 have hv:=Y.up
 obtain ⟨np,nc,rfl,_⟩:=hn.len
 obtain ⟨vp,vc,rfl,aR⟩:=hv.len
 have aN:=Qq hx
 obtain ⟨aS,bv,kv,rfl,aP,aQ,O,N,hk⟩:=Yy.1 hx
 obtain ⟨p1,c1,rfl,_⟩:=O.len
 obtain ⟨p2,c2,rfl,_⟩:=N.len
 obtain ⟨p3,c3,rfl,aO⟩:=hk.len
 obtain ⟨HN,HV,aK,aL,aJ,HK,HI,aI⟩:=Qjy hn hv hb O N hk ih G
 clear Z V Y hx hn hv O N hk hb ih G
 unfold sv at *
 go_enter func109,ntmps109
 go_upto_region 3 with fail
 generalize A:(w.alloc _).alloc _=W1
 have T:=eqB A (Zu _ _ _)
 have I:=eqH (b:=w.heap.size) A (Q5 _ _ _)
 have J:=eqH (b:=w.heap.size+1) A (Q6 _ _ _)
 obtain ⟨aA,aM,aC⟩:=Qjq T I J
 have U:=Z8 J
 obtain ⟨c0,c1,c2,c3,c4,c5,c6,c7,c8⟩:=row9 I
 clear A T I J
 go_wp2_with (go_at_call 150;refine (Gu _ _).mono ?_;rintro e w5 ⟨rfl,M⟩;have D:=kE M U aC.out;obtain ⟨y0,y1,y2,y3,y4⟩:=row5 D;obtain ⟨f0,f1,f2,f3,f4⟩:=frz5 D;have aD:=Qq D;have aB:=Qq M;clear D M)
 show bodyPost _ _ _ _ _ (Zi w5 (w+1) Ci n Cl Cm Cm)
 refine Q7 (v:=.tuple #[.agg #[Ci,n,Cl,Cm,Cm],.bool true]) (by simp [results,results109,go_sem,Ze aD.out]) rfl (Ui aA.out C7 U (fun _=>⟨_,Y5 (s:=[]) Ca (Sl.nil _ _ _) (Sl.nil _ _ _),Ei n⟩) aB.out)
theorem M5 (nm:Bs) (n:Int) (s:Bs) (names binds:List Bs) (kids:List Ex) (a z:Int) (d:Nat) (ih:∀ x ∈ kids,Xl d x) (hq:(s.length:Int)<=4096):∀ (S:Nat->Prop) (ce:List Value) (nv vv:Value) (ns:List Bs) (vs:List Val) (w:World),Yx S w ce (.mk 1 nm n s names binds kids a z)->Sl Zh S w nv ns->Sl Zd S w vv vs->ns.length<=vs.length->vs.length+(d+1)<=1000->(∀ v ∈ vs,Y0 v) ->
  Calls prog 109 #[ce,nv,vv] w (Vj S w):=by
 intro S ce nv vv ns vs w Y U V G hd hb
 have hx:Yx (fun b=>S b/\b<w) w ce (.mk 1 nm n s names binds kids a z):=Y.move (.refl _ _) (fun b hb h=>⟨h,hb⟩)
 have hn:=U.up
 have hv:=V.up
 obtain ⟨np,nc,rfl,_⟩:=hn.len
 obtain ⟨vp,vc,rfl,aQ⟩:=hv.len
 have aN:=Qq hx
 obtain ⟨aR,bv,kv,rfl,aP,aF,N,M,hk⟩:=Yy.1 hx
 obtain ⟨p1,c1,rfl,_⟩:=N.len
 obtain ⟨p2,c2,rfl,_⟩:=M.len
 obtain ⟨p3,c3,rfl,aO⟩:=hk.len
 obtain ⟨HN,HV,aK,aL,aJ,HK,HI,aI⟩:=Qjy hn hv hb N M hk ih G
 clear Y U V hx hn hv N M hk hb ih G
 unfold sv at *
 go_enter func109,ntmps109
 go_upto_region 5 with fail
 generalize D:(w.alloc _).alloc _=W1
 have T:=eqB D (Zu _ _ _)
 have I:=eqH (b:=w.heap.size) D (Q5 _ _ _)
 have J:=eqH (b:=w.heap.size+1) D (Q6 _ _ _)
 obtain ⟨Z,aM,aA⟩:=Qjq T I J
 have aD:=Z8 J
 obtain ⟨c0,c1,c2,c3,c4,c5,c6,c7,c8⟩:=row9 I
 clear D T I J
 have A:=kE (Qz W1 W1) aD aA.out
 obtain ⟨y0,y1,y2,y3,y4⟩:=row5 A
 obtain ⟨f0,f1,f2,f3,f4⟩:=frz5 A
 have O:=Qq A
 clear A
 go_region_with fail
 all_goals
  go_wp2_with fail
  show bodyPost _ _ _ _ _ (Zi W1 (w+1) (.int .i64 1) Ci s Cm Cm).drew
  refine Q7 (v:=.tuple #[.agg #[.int .i64 1,Ci,s,Cm,Cm],.bool true]) (by simp [results,results109,go_sem,Ze O.out]) rfl (Ka C7 Z.out (fun _=>⟨_,Y5 aF (Sl.nil _ _ _) (Sl.nil _ _ _),.mk _ _ _ _ _ (fun h=>by cases h) (fun x h=>by simp at h)⟩)).drew
theorem M0 (nm:Bs) (n:Int) (s:Bs) (names binds:List Bs) (kids:List Ex) (a z:Int) (d:Nat) (ih:∀ x ∈ kids,Xl d x) (hq:decide ((s.length:Int)<=4096)=false):∀ (S:Nat->Prop) (ce:List Value) (nv vv:Value) (ns:List Bs) (vs:List Val) (w:World),Yx S w ce (.mk 1 nm n s names binds kids a z)->Sl Zh S w nv ns->Sl Zd S w vv vs->ns.length<=vs.length->vs.length+(d+1)<=1000->(∀ v ∈ vs,Y0 v) ->
  Calls prog 109 #[ce,nv,vv] w (Vj S w):=by
 intro S ce nv vv ns vs w Y U V G hd hb
 have hx:Yx (fun b=>S b/\b<w) w ce (.mk 1 nm n s names binds kids a z):=Y.move (.refl _ _) (fun b hb h=>⟨h,hb⟩)
 have hn:=U.up
 have hv:=V.up
 obtain ⟨np,nc,rfl,_⟩:=hn.len
 obtain ⟨vp,vc,rfl,aQ⟩:=hv.len
 have aM:=Qq hx
 obtain ⟨aR,bv,kv,rfl,aO,aP,N,M,hk⟩:=Yy.1 hx
 obtain ⟨p1,c1,rfl,_⟩:=N.len
 obtain ⟨p2,c2,rfl,_⟩:=M.len
 obtain ⟨p3,c3,rfl,aN⟩:=hk.len
 obtain ⟨HN,HV,aJ,aK,aI,HK,HI,aH⟩:=Qjy hn hv hb N M hk ih G
 clear Y U V hx hn hv N M hk hb ih G
 unfold sv at *
 go_enter func109,ntmps109
 go_upto_region 5 with fail
 generalize D:(w.alloc _).alloc _=W1
 have T:=eqB D (Zu _ _ _)
 have I:=eqH (b:=w.heap.size) D (Q5 _ _ _)
 have J:=eqH (b:=w.heap.size+1) D (Q6 _ _ _)
 obtain ⟨Z,aL,aA⟩:=Qjq T I J
 have aD:=Z8 J
 obtain ⟨c0,c1,c2,c3,c4,c5,c6,c7,c8⟩:=row9 I
 clear D T I J
 have A:=kE (Qz W1 W1) aD aA.out
 obtain ⟨y0,y1,y2,y3,y4⟩:=row5 A
 obtain ⟨f0,f1,f2,f3,f4⟩:=frz5 A
 have O:=Qq A
 clear A
 go_region_with fail
 all_goals
  go_wp2_with fail
  show bodyPost _ _ _ _ _ (Zi W1 (w+1) (.int .i64 1) Ci s Cm Cm).drew
  refine Q7 (v:=.tuple #[.agg #[.int .i64 1,Ci,s,Cm,Cm],.bool false]) (by simp [results,results109,go_sem,Ze O.out]) rfl (Xr C7 Z.out).drew
theorem R6 (nm:Bs) (n:Int) (s:Bs) (names binds:List Bs) (kids:List Ex) (a z:Int) (d:Nat) (ih:∀ x ∈ kids,Xl d x) :∀ (S:Nat->Prop) (ce:List Value) (nv vv:Value) (ns:List Bs) (vs:List Val) (w:World),Yx S w ce (.mk 2 nm n s names binds kids a z)->Sl Zh S w nv ns->Sl Zd S w vv vs->ns.length<=vs.length->vs.length+(d+1)<=1000->(∀ v ∈ vs,Y0 v) ->
  Calls prog 109 #[ce,nv,vv] w (Vj S w):=by
 intro S ce nv vv ns vs w Z V Y G hd hb
 have hx:Yx (fun b=>S b/\b<w) w ce (.mk 2 nm n s names binds kids a z):=Z.move (.refl _ _) (fun b hb h=>⟨h,hb⟩)
 have hn:=V.up
 have hv:=Y.up
 obtain ⟨np,nc,rfl,_⟩:=hn.len
 obtain ⟨vp,vc,rfl,aR⟩:=hv.len
 have aN:=Qq hx
 obtain ⟨aS,bv,kv,rfl,aP,aQ,O,N,hk⟩:=Yy.1 hx
 obtain ⟨p1,c1,rfl,_⟩:=O.len
 obtain ⟨p2,c2,rfl,_⟩:=N.len
 obtain ⟨p3,c3,rfl,aO⟩:=hk.len
 obtain ⟨HN,HV,aK,aL,aJ,HK,HI,aI⟩:=Qjy hn hv hb O N hk ih G
 clear Z V Y hx hn hv O N hk hb ih G
 unfold sv at *
 go_enter func109,ntmps109
 go_upto_region 7 with fail
 generalize A:(w.alloc _).alloc _=W1
 have T:=eqB A (Zu _ _ _)
 have I:=eqH (b:=w.heap.size) A (Q5 _ _ _)
 have J:=eqH (b:=w.heap.size+1) A (Q6 _ _ _)
 obtain ⟨aA,aM,aC⟩:=Qjq T I J
 have U:=Z8 J
 obtain ⟨c0,c1,c2,c3,c4,c5,c6,c7,c8⟩:=row9 I
 clear A T I J
 go_wp2_with (go_at_call 151;refine (Gz _ _).mono ?_;rintro e w5 ⟨X,hX,rfl,M⟩;have D:=kE M U aC.out;obtain ⟨y0,y1,y2,y3,y4⟩:=row5 D;obtain ⟨f0,f1,f2,f3,f4⟩:=frz5 D;have aD:=Qq D;have aB:=Qq M;clear D M)
 show bodyPost _ _ _ _ _ (Zi w5 (w+1) (.int .i64 2) X Cl Cm Cm)
 refine Q7 (v:=.tuple #[.agg #[.int .i64 2,X,Cl,Cm,Cm],.bool true]) (by simp [results,results109,go_sem,Ze aD.out]) rfl (Ui aA.out C7 U (fun _=>⟨_,Ro _ _ _,Dc hX⟩) aB.out)
theorem A8 (nm:Bs) (n:Int) (s:Bs) (names binds:List Bs) (kids:List Ex) (a z:Int) (d:Nat) (ih:∀ x ∈ kids,Xl d x) :∀ (S:Nat->Prop) (ce:List Value) (nv vv:Value) (ns:List Bs) (vs:List Val) (w:World),Yx S w ce (.mk 3 nm n s names binds kids a z)->Sl Zh S w nv ns->Sl Zd S w vv vs->ns.length<=vs.length->vs.length+(d+1)<=1000->(∀ v ∈ vs,Y0 v) ->
  Calls prog 109 #[ce,nv,vv] w (Vj S w):=by
 intro S ce nv vv ns vs w aV aS aT N hd hb
 have hx:Yx (fun b=>S b/\b<w) w ce (.mk 3 nm n s names binds kids a z):=aV.move (.refl _ _) (fun b hb h=>⟨h,hb⟩)
 have hn:=aS.up
 have hv:=aT.up
 obtain ⟨np,nc,rfl,_⟩:=hn.len
 obtain ⟨vp,vc,rfl,bY⟩:=hv.len
 have bQ:=Qq hx
 obtain ⟨bZ,bv,kv,rfl,bW,bX,aA,Z,hk⟩:=Yy.1 hx
 obtain ⟨p1,c1,rfl,_⟩:=aA.len
 obtain ⟨p2,c2,rfl,_⟩:=Z.len
 obtain ⟨p3,c3,rfl,bU⟩:=hk.len
 obtain ⟨HN,HV,aZ,bP,bO,HK,HI,aD⟩:=Qjy hn hv hb aA Z hk ih N
 clear aV aS aT hx hn hv aA Z hk hb ih N
 unfold sv at *
 obtain ⟨m,hm⟩:=eX (ns.length)
 rw [hm] at HN |-
 have HM:=Qq hm
 have N:=aD.out
 rw [hm] at N
 have bV:m<=1000:=C7
 clear hm
 go_enter func109,ntmps109
 go_upto_region 9 with fail
 generalize U:(w.alloc _).alloc _=W1
 have aP:=eqB U (Zu _ _ _)
 have aN:=eqH (b:=w.heap.size) U (Q5 _ _ _)
 have Y:=eqH (b:=w.heap.size+1) U (Q6 _ _ _)
 obtain ⟨T,bC,aE⟩:=Qjq aP aN Y
 have aR:=Z8 Y
 clear U aP aN Y
 go_upto_region 10 with fail
 go_loopw [8] (fun i wr=>∃ (k:Nat) (j:Int),k<=m/\j=(k:Int) - 1/\i=.int .i64 j/\Aside (Below W1 W1 wr)) (fun i _=>(intOf i+1).toNat)
 case atStart=>exact ⟨m,_,Q9 _,rfl,by go_num,Qz _ _⟩
 obtain ⟨k,j,hk,hj,rfl,aM⟩:=hrel
 have A:=Qq (show Below W1 W1 wr from aM)
 clear aM
 by_cases hk0:k=0
 ·have bJ:decide (0<=j)=false:=by simp;omega
  clear hk hj
  have M:=kE A.out aR aE.out
  obtain ⟨y0,y1,y2,y3,y4⟩:=row5 M
  obtain ⟨f0,f1,f2,f3,f4⟩:=frz5 M
  have aG:=Qq M
  clear M
  go_wp2_with fail
  show bodyPost _ _ _ _ _ (Zi wr (w+1) Ci Ci Cl Cm Cm)
  refine Q7 (v:=.tuple #[.agg zV,.bool false]) (by simp [results,results109,go_sem,Ze aG.out]) rfl (Xr C7 (T.out.thn A.out))
 obtain ⟨O,rfl⟩:∃ O,k=O+1:=⟨k - 1,C7⟩
 obtain rfl:j=(O:Int):=C7
 have bJ:decide ((0:Int)<=(O:Int))=true:=Ca
 have bR:(0:Int)<=(O:Int):=C7
 have bS:(O:Int)<(m:Int):=C7
 have bT:(O:Int)<(vs.length:Int):=C7
 obtain ⟨y,hy⟩:∃ y,ns[O]?=some y:=⟨_,Qx (by rw [HM.out];omega)⟩
 obtain ⟨v,hv⟩:∃ v,vs[O]?=some v:=⟨_,Qx C7⟩
 obtain ⟨nb,bM,rfl,aW,-⟩:=(HN.out.below (T.out.thn A.out)).str hy
 obtain ⟨vb,bN,q3,l3,q4,l4,rfl,G,aU,d0,d1,d2,d3,d4⟩:=(HV.out.below (T.out.thn A.out)).val hv
 have aO:=kB A.out bC.out
 have c1:=rA1 aO
 have bB:=Qq aU;have bA:=Qq (aZ.out v (Qy hv))
 have D:=Qq (Qe G (Qe d0 (Qe d1 (Qe d2 (Qe d3 d4)))))
 clear hy hv aO aU d0 d1 d2 d3 d4 G hj
 by_cases he:y=nm
 ·subst he
  have hq:(y==y)=true:=Ca
  go_wp2_with fail
  go_quiet (fail)
  obtain ⟨wq,aC⟩:=eX (wr.drewN nq)
  have I:Below wr wr wq:=by rw [<- aC];exact Yz _ _
  rw [aC]
  have V:=Qq I
  obtain ⟨G,aH,aI,aJ,aK,aL⟩:=D.out
  have d0:=kD I G aH;have d1:=kD I G aI;have d2:=kD I G aJ;have d3:=kD I G aK;have d4:=kD I G aL
  clear aC I aH aI aJ aK aL aW c1
  have J:=kE (A.out.thn V.out) aR aE.out
  obtain ⟨y0,y1,y2,y3,y4⟩:=row5 J
  obtain ⟨f0,f1,f2,f3,f4⟩:=frz5 J
  have aF:=Qq J
  clear J
  go_wp2_with fail
  show bodyPost _ _ _ _ _ (Cu wq (w+1) v q3 l3 q4 l4)
  refine Q7 (v:=.tuple #[.agg (Cn v q3 l3 q4 l4),.bool true]) (by simp [results,results109,go_sem,Ze aF.out]) rfl (Ka C7 ((T.out.thn A.out).thn V.out) (fun _=>⟨v,bB.out.move (.of_below V.out) (fun _ _ h=>.inl h),bA.out⟩))
 have hq:(y==nm)=false:=by rw [<- Qt,beq_iff_eq];exact he
 clear he
 go_wp2_with fail
 go_quiet (fail)
 clear aW c1
 go_wp2_with fail
 go_roundw
 case measure=>simp [intOf]
 case rel=>exact ⟨O,(O:Int) - 1,C7,rfl,rfl,A.out.thn (Yz _ _)⟩
end Go.Proofs.YtcljcblceodciaaGreatDoor
