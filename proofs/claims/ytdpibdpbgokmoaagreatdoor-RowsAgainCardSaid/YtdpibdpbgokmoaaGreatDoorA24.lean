import Derived.Test.YtdpibdpbgokmoaaGreatDoorA21
import Derived.Test.YtdpibdpbgokmoaaGreatDoorA23
set_option maxRecDepth 100000
set_option maxHeartbeats 400000000
namespace Go.Proofs.YtdpibdpbgokmoaaGreatDoor
open Go.RowKit Go.Shelf Go.Lib Tryz
theorem Qjs {T:Type} {l:List T} {i:Nat} {x y:T} (h:y ∈ Xp l i x):y ∈ l\/y=x:=by
 unfold Xp at h
 rcases Z4.1 h with h | h
 ·exact .inl (List.mem_of_mem_take h)
 rcases Z3.1 h with h | h
 ·exact .inr h
 exact .inl (Zw h)
theorem rec2_mem:∀ {z:List (Bs × Val)} {y:Val},y ∈ (Yt z).2->∃ x,(x,y) ∈ z:=by
 have:∀ (z:List (Bs × Val)) (A:List Bs × List Val) (y:Val),y ∈ (z.foldl Jb A).2->y ∈ A.2\/∃ x,(x,y) ∈ z:=by
  intro z
  induction z with
  | nil=>intro A y h;exact .inl h
  | cons p z ih=>
   intro A y h
   rcases ih (Jb A p) y h with h | ⟨x,h⟩
   ·rcases Qjs h with h | h
    ·exact .inl h
    exact .inr ⟨p.1,by rw [h];exact List.mem_cons_self⟩
   exact .inr ⟨x,List.mem_cons_of_mem _ h⟩
 intro z y h
 rcases this z ([],[]) y h with h | h
 ·simp at h
 exact h
def Vk (k:Int) (nm:Bs) (names:List Bs) (vals:List Val):Option Val:=
 if k=5 then some (vMake nm vals)
 else if k=9 then (if vals.length<=4096 then some (vList vals) else none)
 else if k=6 then (if names.length=vals.length then some (Vf (Yt (names.zip vals)).1 (Yt (names.zip vals)).2) else none)
 else if k=8 then vals[0]?.bind λv=>Yp v nm
 else if k=7 then (match names,vals with
  | [x],[v,y]=>Dr v x y
  | _,_=>none)
 else none
theorem Rp (nm:Bs) (n:Int) (sx:Bs) (names binds:List Bs) (kids:List Ex) (a z:Int) (S:Nat->Prop) (ce:List Value) (vv:Value) (vals:List Val) (w:World) (he:Yx S w ce (.mk 5 nm n sx names binds kids a z)) (hv0:Sl Zc S w vv vals) (hb:∀ v ∈ vals,Y3 v) :Calls prog 148 #[ce,vv] w (X7 S w (Vk 5 nm names vals)):=by
 have J:=hv0.up
 obtain ⟨vp,vc,rfl,O⟩:=J.len
 obtain ⟨nv,bv,kv,rfl,I,N,G,A,hk⟩:=Yy.1 he
 obtain ⟨p1,c1,rfl,_⟩:=G.len
 obtain ⟨p2,c2,rfl,_⟩:=A.len
 obtain ⟨p3,c3,rfl,_⟩:=hk.len
 obtain ⟨HV,D,M⟩:=Im J hb G
 clear he hv0 J G A hk hb
 unfold sv
 go_enter func148,ntmps148
 go_wp2_with fail
 refine Q7 (v:=.tuple #[.agg #[.int .i64 3,Ic,nm,Ie,.slice vp vals.length vc],.bool true]) (by simp [results,results148,go_sem]) rfl ⟨3,0,⟨nm.toArray⟩,none,0,0,vp,vals.length,vc,true,rfl,.yes (v:=.mk 3 0 nm [] vals) (Yb I (Sl.nil _ _ _) ((HV.o.mono (λb _ h=>.inl h.1)).below (Zs _ _ _))) (.mk _ _ _ _ _ (λh=>by cases h) D.o) rfl,Zs _ _ _⟩
theorem Px (nm:Bs) (n:Int) (sx:Bs) (names binds:List Bs) (kids:List Ex) (a z:Int) (S:Nat->Prop) (ce:List Value) (vv:Value) (vals:List Val) (w:World) (he:Yx S w ce (.mk 9 nm n sx names binds kids a z)) (hv0:Sl Zc S w vv vals) (hb:∀ v ∈ vals,Y3 v) (hl:vals.length<=4096):Calls prog 148 #[ce,vv] w (X7 S w (Vk 9 nm names vals)):=by
 have I:=hv0.up
 obtain ⟨vp,vc,rfl,O⟩:=I.len
 obtain ⟨nv,bv,kv,rfl,M,N,G,A,hk⟩:=Yy.1 he
 obtain ⟨p1,c1,rfl,_⟩:=G.len
 obtain ⟨p2,c2,rfl,_⟩:=A.len
 obtain ⟨p3,c3,rfl,_⟩:=hk.len
 obtain ⟨HV,D,J⟩:=Im I hb G
 clear he hv0 I G A hk hb
 unfold sv
 have hq:(vals.length:Int)<=4096:=Ia
 go_enter func148,ntmps148
 go_wp2_with fail
 refine Q7 (v:=.tuple #[.agg #[.int .i64 5,Ic,Ig,Ie,.slice vp vals.length vc],.bool true]) (by simp [results,results148,go_sem]) rfl ⟨5,0,⟨#[]⟩,none,0,0,vp,vals.length,vc,true,rfl,.yes (v:=.mk 5 0 [] [] vals) (Yb (s:=[]) Ib (Sl.nil _ _ _) ((HV.o.mono (λb _ h=>.inl h.1)).below (Zs _ _ _))) (.mk _ _ _ _ _ (λh=>by cases h) D.o) (by unfold Vk;rw [if_neg Ih,if_pos rfl,if_pos hl];rfl),Zs _ _ _⟩
theorem Sq (k:Int) (nm:Bs) (n:Int) (sx:Bs) (names binds:List Bs) (kids:List Ex) (a z:Int) (S:Nat->Prop) (ce:List Value) (vv:Value) (vals:List Val) (w:World) (he:Yx S w ce (.mk k nm n sx names binds kids a z)) (hv0:Sl Zc S w vv vals) (hb:∀ v ∈ vals,Y3 v) (hk5:k≠5) (hk9:k≠9) (hk6:k≠6) (hk8:k≠8) (hk7:k≠7):Calls prog 148 #[ce,vv] w (X7 S w (Vk k nm names vals)):=by
 have I:=hv0.up
 obtain ⟨vp,vc,rfl,T⟩:=I.len
 obtain ⟨nv,bv,kv,rfl,N,O,G,A,hk⟩:=Yy.1 he
 obtain ⟨p1,c1,rfl,_⟩:=G.len
 obtain ⟨p2,c2,rfl,_⟩:=A.len
 obtain ⟨p3,c3,rfl,_⟩:=hk.len
 obtain ⟨HV,J,M⟩:=Im I hb G
 clear he hv0 I G A hk hb
 unfold sv
 have q5:(k==5)=false:=by simpa using hk5
 have q9:(k==9)=false:=by simpa using hk9
 have q6:(k==6)=false:=by simpa using hk6
 have q8:(k==8)=false:=by simpa using hk8
 have q7:(k==7)=false:=by simpa using hk7
 have D:Hid (Vk k nm names vals=none):=Qq (by unfold Vk;rw [if_neg hk5,if_neg hk9,if_neg hk6,if_neg hk8,if_neg hk7])
 clear hk5 hk9 hk6 hk8 hk7
 go_enter func148,ntmps148
 go_wp2_with fail
 refine Q7 (v:=.tuple #[.agg zV,.bool false]) (by simp [results,results148,go_sem]) rfl ⟨0,0,⟨#[]⟩,none,0,0,none,0,0,false,rfl,.no D.o,Zs _ _ _⟩
theorem Tg (nm:Bs) (n:Int) (sx:Bs) (names binds:List Bs) (kids:List Ex) (a z:Int) (S:Nat->Prop) (ce:List Value) (vv:Value) (vals:List Val) (w:World) (he:Yx S w ce (.mk 6 nm n sx names binds kids a z)) (hv0:Sl Zc S w vv vals) (hb:∀ v ∈ vals,Y3 v) (hw:∀ x ∈ names,Vi x) (hnd:names.Nodup) (hnl:names.length<=1000):Calls prog 148 #[ce,vv] w (X7 S w (Vk 6 nm names vals)):=by
 have hv:=hv0.up
 obtain ⟨vp,vc,rfl,bA⟩:=hv.len
 obtain ⟨nv,bv,kv,rfl,aY,aZ,hn,aE,hk⟩:=Yy.1 he
 obtain ⟨p1,c1,rfl,_⟩:=hn.len
 obtain ⟨p2,c2,rfl,_⟩:=aE.len
 obtain ⟨p3,c3,rfl,_⟩:=hk.len
 obtain ⟨HV,aK,aM⟩:=Im hv hb hn
 clear he hv0 hv hn aE hk hb
 unfold sv
 have aA:=Qq (λW (hb:Below w w W)=>Ed (λb=>S b/\b<w) _ _ names vals W ((aM.o.mono (λb hb h=>⟨h,hb⟩)).below hb) (HV.o.below hb) hw hnl)
 clear hw
 go_enter func148,ntmps148
 go_wp2_with fail
 refine (aA.o _ (Zs _ _ _)).mono ?_
 rintro e w1 ⟨M,V⟩
 have J:=(M.block (w+1) Ib).trans (Q6 _ _ _)
 have aD:=Qq J;have Z:=Qq ((Zs w _ _).n M)
 have aH:=Z8 J
 rcases V with ⟨aO,aG,rfl,aI⟩ | ⟨q3,l3,q4,l4,N,rfl,_,_,Y⟩
 ·have T:Hid (Vk 6 nm names vals=none):=Qq (by
   unfold Vk
   rw [if_neg Ih,if_neg Ih,if_pos rfl,if_neg]
   intro N
   exact aI ⟨N,λi j x aP h1 h2=>by
    obtain ⟨l1,e1⟩:=Qj h1
    obtain ⟨l2,e2⟩:=Qj h2
    exact List.pairwise_iff_getElem.1 hnd i j l1 l2 aP (e1.trans e2.symm)⟩)
  clear aI
  have hq:(aO==0)=false:=by simpa using aG
  clear aG M J
  go_upto_region 8 with fail
  generalize G:w1.alloc _=W2
  have D:=Iq G (Zg _ _)
  have I:=Ik (b:=w1.heap.size) G (Qw _ _)
  have A:=kE D aH aD.o
  have U:=Qq A;have O:=Qq (Z.o.n D)
  obtain ⟨x0,x1,x2,x3,x4⟩:=If I
  obtain ⟨z0,z1,z2,z3,z4⟩:=If A
  obtain ⟨f0,f1,f2,f3,f4⟩:=Ip A
  clear G D I A
  go_wp2_with fail
  show bodyPost _ _ _ _ _ (Zl W2 (w+1) Ic Ic Ig Ie Ie)
  refine Q7 (v:=.tuple #[.agg zV,.bool false]) (by simp [results,results148,go_sem,Ze U.o]) rfl ⟨0,0,⟨#[]⟩,none,0,0,none,0,0,false,rfl,.no T.o,Zd O.o Ia⟩
 have T:Hid (Vk 6 nm names vals=some (Vf (Yt (names.zip vals)).1 (Yt (names.zip vals)).2)):=Qq (by
  unfold Vk
  rw [if_neg Ih,if_neg Ih,if_pos rfl,if_pos N])
 clear N
 obtain ⟨aS,aT⟩:=Ub (names.zip vals)
 have aF:Y3 (Vf (Yt (names.zip vals)).1 (Yt (names.zip vals)).2):=.mk _ _ _ _ _ (λh=>by cases h) (λy hy=>by
  obtain ⟨x,hx⟩:=rec2_mem hy
  exact aK.o y (List.of_mem_zip hx).2)
 have aL:=Qq aF
 rw [H7] at Y |-
 have aB:=Qq Y
 obtain ⟨r,hr⟩:=eX ((names.zip vals).length)
 rw [hr] at aB |-
 clear Y M J aF aS aT hr
 go_upto_region 8 with fail
 generalize G:w1.alloc _=W2
 have D:=Iq G (Zg _ _)
 have I:=Ik (b:=w1.heap.size) G (Qw _ _)
 have A:=kE D aH aD.o
 have U:=Qq A;have O:=Qq (Z.o.n D)
 have aC:=Qq (aB.o.move (S':=λb=>(S b/\b≠w+1)\/w+2<=b) (.f D) (λb _ h=>by
  rcases h with h | h
  ·exact .inl ⟨h.1,by have:=h.2;omega⟩
  exact .inr (by simpa using h)))
 obtain ⟨x0,x1,x2,x3,x4⟩:=If I
 obtain ⟨z0,z1,z2,z3,z4⟩:=If A
 obtain ⟨f0,f1,f2,f3,f4⟩:=Ip A
 clear G D I A
 go_wp2_with fail
 show bodyPost _ _ _ _ _ (Zl W2 (w+1) (.int .i64 4) Ic Ig (.slice q3 r l3) (.slice q4 r l4))
 refine Q7 (v:=.tuple #[.agg #[.int .i64 4,Ic,Ig,.slice q3 r l3,.slice q4 r l4],.bool true]) (by simp [results,results148,go_sem,Ze U.o]) rfl ⟨4,0,⟨#[]⟩,q3,r,l3,q4,r,l4,true,rfl,.yes ?_ aL.o T.o,Zd O.o Ia⟩
 exact aC.o.move (λb hb _=>Zf Ia) (λb _ hb=>by
  rcases hb with h | h
  ·exact .inl h.1
  exact .inr Ia)
theorem Ob (nm:Bs) (n:Int) (sx:Bs) (names binds:List Bs) (kids:List Ex) (a z:Int) (S:Nat->Prop) (ce:List Value) (vv:Value) (vals:List Val) (w:World) (he:Yx S w ce (.mk 8 nm n sx names binds kids a z)) (hv0:Sl Zc S w vv vals) (hb:∀ v ∈ vals,Y3 v) (v0:Val) (hv00:vals[0]?=some v0):Calls prog 148 #[ce,vv] w (X7 S w (Vk 8 nm names vals)):=by
 have hv:=hv0.up
 obtain ⟨vp,vc,rfl,bH⟩:=hv.len
 obtain ⟨nv,bv,kv,rfl,bF,bG,hn,aF,hk⟩:=Yy.1 he
 obtain ⟨p1,c1,rfl,_⟩:=hn.len
 obtain ⟨p2,c2,rfl,_⟩:=aF.len
 obtain ⟨p3,c3,rfl,_⟩:=hk.len
 obtain ⟨HV,aP,bB⟩:=Im hv hb hn
 clear he hv0 hv hn aF hk hb
 unfold sv
 obtain ⟨vb,bA,q3,l3,q4,l4,rfl,G,aH,d0,d1,d2,d3,d4⟩:=HV.o.val hv00
 have HG:=Qq (λW (hb:Below w w W)=>Ht (λb=>S b/\b<w) v0 (Is v0 q3 l3 q4 l4) nm W (Z9.move aH (.f hb) Ij))
 unfold sv at HG
 have aZ:0<vals.length:=(Qj hv00).1
 have bE:(0:Int)<(vals.length:Int):=Ia
 have aE:=aP.o v0 (Qy hv00)
 have aN:=Qq aE
 simp only [Nat.zero_mul,Nat.add_zero] at d0 d1 d2 d3 d4
 have D:=Qq (Qe d0 (Qe d1 (Qe d2 (Qe d3 d4))))
 have V:Hid (Vk 8 nm names vals=Yp v0 nm):=Qq (by
  unfold Vk
  rw [if_neg Ih,if_neg Ih,if_neg Ih,if_pos rfl,hv00];rfl)
 clear aH hv00 aE d0 d1 d2 d3 d4
 go_enter func148,ntmps148
 go_upto_region 10 with fail
 generalize I:(w.alloc _).alloc _=W1
 have A:=Iq I (Zs _ _ _)
 have aD:=Ik (b:=w.heap.size) I (Q5 _ _ _)
 have M:=Ik (b:=w.heap.size+1) I (Q6 _ _ _)
 have U:=Qq A;have aR:=Qq M
 have aT:=Z8 M
 have bC:=AA aD
 obtain ⟨Y,Z,aA,aB,aC⟩:=D.o
 have d0:=kD A G Y;have d1:=kD A G Z;have d2:=kD A G aA;have d3:=kD A G aB;have d4:=kD A G aC
 clear I A aD M Y Z aA aB aC
 go_region_with (go_at_call 43;refine (HG.o _ (U.o.n (Qz _ _).drew)).mono ?_;rintro e w5 ⟨bD,rfl,T,N⟩;obtain ⟨t3,s3,t4,s4,aG,_⟩:=Z9.cells T;simp only [Il] at aG;subst aG;have J:=kE ((Qz _ W1).drew.n N) aT aR.o;obtain ⟨aS,aO,aQ⟩:=Im J (U.o.n ((Qz _ W1).drew.n N)) T;obtain ⟨y0,y1,y2,y3,y4⟩:=If J;obtain ⟨g0,g1,g2,g3,g4⟩:=Ip J;clear T N J)
 all_goals
  go_wp2_with fail
  show bodyPost _ _ _ _ _ (Zl w5 (w+1) (.int .i64 ((Yp v0 nm).getD Val.zero).kind) (.int .i64 ((Yp v0 nm).getD Val.zero).n) (.string ⟨((Yp v0 nm).getD Val.zero).s.toArray⟩) (.slice t3 ((Yp v0 nm).getD Val.zero).names.length s3) (.slice t4 ((Yp v0 nm).getD Val.zero).kids.length s4))
  refine Q7 (v:=.tuple #[.agg #[.int .i64 ((Yp v0 nm).getD Val.zero).kind,.int .i64 ((Yp v0 nm).getD Val.zero).n,.string ⟨((Yp v0 nm).getD Val.zero).s.toArray⟩,.slice t3 ((Yp v0 nm).getD Val.zero).names.length s3,.slice t4 ((Yp v0 nm).getD Val.zero).kids.length s4],.bool (Yp v0 nm).isSome]) (by simp [results,results148,go_sem,Ze aS.o]) rfl ⟨_,_,_,t3,_,s3,t4,_,s4,_,rfl,⟨λO=>⟨(Yp v0 nm).getD Val.zero,?_,?_,?_⟩,λO=>?_⟩,Zd aO.o Ia⟩
  ·exact aQ.o.move (λb hb _=>Zf (by have:=hb.2;omega)) (λb _ hb=>.inl hb.1)
  rotate_left
  ·rw [V.o]
   obtain ⟨u,hu⟩:=Option.isSome_iff_exists.1 O
   rw [hu];rfl
  ·rw [V.o];simpa using O
  cases hg:Yp v0 nm with
  | none=>exact Y3.zero
  | some u=>
   obtain ⟨i,_,hu,_⟩:=F9 hg
   exact aN.o.kids u (Qy hu)
def A6 (S:Nat->Prop) (w W1:World) (r:Option Val) (t10 t11:Value) (wx:World):Prop:=
 ∃ (G:Nat) (uk un:Int) (us:ByteArray) (u3:Option Addr) (m3 l3:Nat) (u4:Option Addr) (m4 l4:Nat) (b:Bool),t10=.pointer (some ⟨G,0,none⟩)/\t11=.bool b/\wx.heap[G]?=some (.cells #[uk,un,.string us,.slice u3 m3 l3,.slice u4 m4 l4] 36 (0,0))/\Below W1 W1 wx/\W1<=G/\EvS (λc=>(S c/\c<w)\/W1<=c) wx [uk,un,.string us,.slice u3 m3 l3,.slice u4 m4 l4] r b
def WithMid (S:Nat->Prop) (w W1:World) (r:Option Val) (i:Value) (wr:World):Prop:=(i=.int .i64 1/\W1=wr) \/
 (i=.int .i64 2/\Below w w wr/\∃ (uk un:Int) (us:ByteArray) (u3:Option Addr) (m3 l3:Nat) (u4:Option Addr) (m4 l4:Nat),wr.heap[w.heap.size+1]?=some (.cells zV 36 (0,0))/\wr.heap[w.heap.size+1+1]?=some (.cells #[uk,un,.string us,.slice u3 m3 l3,.slice u4 m4 l4] 36 (0,0))/\∃ v,Z9 (λc=>(S c/\c<w)\/w+3<=c) wr [uk,un,.string us,.slice u3 m3 l3,.slice u4 m4 l4] v/\Y3 v/\r=some v)
theorem Sk (nm:Bs) (n:Int) (sx:Bs) (names binds:List Bs) (kids:List Ex) (a z:Int) (S:Nat->Prop) (ce:List Value) (vv:Value) (vals:List Val) (w:World) (he:Yx S w ce (.mk 7 nm n sx names binds kids a z)) (hv0:Sl Zc S w vv vals) (hb:∀ v ∈ vals,Y3 v) (x1:Bs) (hnames:names=[x1]) (v0 v1:Val) (hvals:vals=[v0,v1]):Calls prog 148 #[ce,vv] w (X7 S w (Vk 7 nm names vals)):=by
 subst hnames;subst hvals
 have hv:Sl Zc (λb=>S b/\b<w) w vv [v0,v1]:=hv0.mono (λb hb h=>⟨h,hb⟩)
 obtain ⟨vp,vc,rfl,dR⟩:=hv.len
 obtain ⟨nv,bv,kv,rfl,dP,dQ,hn,cC,hk⟩:=Yy.1 he
 obtain ⟨p1,c1,rfl,_⟩:=hn.len
 obtain ⟨p2,c2,rfl,_⟩:=cC.len
 obtain ⟨p3,c3,rfl,_⟩:=hk.len
 obtain ⟨HV,bC,bE⟩:=Im hv hb hn
 clear he hv0 hv hn cC hk hb
 unfold sv
 simp only [List.length_cons,List.length_nil,Nat.zero_add,Nat.reduceAdd] at HV bE |-
 have mixed:prog.follows .mixedOrders=true:=Ir
 obtain ⟨vb,A,q3,e3,q4,e4,dF,aF,aE,d0,d1,d2,d3,d4⟩:=HV.o.val (i:=0) (x:=v0) rfl
 obtain ⟨dI,aX,r3,f3,r4,f4,cF,_,aL,g0,g1,g2,g3,g4⟩:=HV.o.val (i:=1) (x:=v1) rfl
 subst dF
 obtain ⟨rfl,rfl⟩:vb=dI/\A=aX:=by simpa using cF
 obtain ⟨nb,aN,dC,aI,_⟩:=bE.o.str (i:=0) (x:=x1) rfl
 subst dC
 have dB:=Qv _ _ aI
 simp only [Nat.zero_mul,Nat.one_mul,Nat.add_zero] at d0 d1 d2 d3 d4 g0 g1 g2 g3 g4 aI
 have cO:=Qq (bC.o v0 Ib);have bA:=Qq (bC.o v1 Ib)
 have HW:=Qq (λW (hb:Below w w W)=>Qjr (λb=>S b/\b<w) v0 v1 x1 (Is v0 q3 e3 q4 e4) (Is v1 r3 f3 r4 f4) W (Z9.move aE (.f hb) Ij) (Z9.move aL (.f hb) Ij) cO.o bA.o)
 unfold sv at HW
 have dL:=Qq aE
 have GG:=Qq (Qe g0 (Qe g1 (Qe g2 (Qe g3 (Qe g4 aI)))))
 clear aE aL cF g0 g1 g2 g3 g4 aI
 go_enter func148,ntmps148
 go_upto_region 13 with fail
 generalize aD:((w.alloc _).alloc _).alloc _=I
 have cB:=Iq aD (Xt _ _ _ _)
 have bY:=Ik (b:=w.heap.size) aD (Zp _ _ _ _)
 have cA:=Ik (b:=w.heap.size+1) aD (Zo _ _ _ _)
 have aR:=Ik (b:=w.heap.size+1+1) aD (Zi _ _ _ _)
 obtain ⟨N,cW,bJ,cR⟩:=It cB cA aR bY
 have cG:=Z8 aR
 clear aD cB cA bY aR d0 d1 d2 d3 d4
 go_wp2_with fail
 go_loopw [9,10,11,12] (λi _ _ _ wr=>WithMid S w I (Dr v0 x1 v1) i wr) (λi _ _ _ _=>2 - (intOf i).toNat)
 case atStart=>exact .inl ⟨rfl,rfl⟩
 rcases hrel with ⟨rfl,rfl⟩ | ⟨rfl,cE,J,un,us,Z,V,T,u4,Y,U,hZ,hX,v,hv,cD,aU⟩
 ·obtain ⟨bN,bP,bR,bT,bV,aK⟩:=GG.o
  refine let_mvar% ?Lq1:=λw':World=>(AQ w' (w+1+1) v0.kind v0.n v0.s (.slice q3 v0.names.length e3) (.slice q4 v0.kids.length e4) (Ii w' w 4 (Io nb aN 1 c1)/\Ii w' nb aN x1/\Ii w' vb (A+5) v1.kind/\Ii w' vb (A+5+1) v1.n/\Ii w' vb (A+5+2) v1.s/\Ii w' vb (A+5+3) (.slice r3 v1.names.length f3)/\Ii w' vb (A+5+4) (.slice r4 v1.kids.length f4)/\Below I I w'):Prop);?_
  have HS:∀ w',Below I I w'->?Lq1 w':=by
   intro w' h
   have hh:∀ {b j:Nat} {u:Value},b<w->w.cell? ⟨b,j,none⟩=some u->w'.cell? ⟨b,j,none⟩=some u:=λ{b j u} hlt2 hc=>(h.cell (p:=⟨b,j,none⟩) (Qa hlt2 N.o.size)).trans (kD N.o hlt2 hc)
   have hV:=kE h cG bJ.o
   have hE:=kB h cR.o
   exact ⟨Qk _ _ 0 _ _ _ hV,Qk _ _ 1 _ _ _ hV,Qk _ _ 2 _ _ _ hV,Qk _ _ 3 _ _ _ hV,Qk _ _ 4 _ _ _ hV,Qk _ _ 4 _ _ _ hE,hh dB aK,hh aF bN,hh aF bP,hh aF bR,hh aF bT,hh aF bV,h⟩
  have D:∀ w',?Lq1 w'->Below I I w':=λw' h=>h.2.2.2.2.2.2.2.2.2.2.2.2
  have HA:∀ w' o,?Lq1 w'->?Lq1 (w'.alloc o):=λw' o h=>HS _ ((D w' h).alloc (D w' h).size o)
  have HP:∀ w' a b c d e,?Lq1 w'->?Lq1 (Zl w' I a b c d e):=λw' a b c d e h=>HS _ (Zd (D w' h) (Q9 _))
  unfold Zl at HP
  have HC:=Qq (λW' (h':?Lq1 W')=>(HW.o W' (N.o.n (D _ h'))).mono (R':=λe w2=>∃ (J un:Int) (us:ByteArray) (Z:Option Addr) (V T:Nat) (u4:Option Addr) (Y U:Nat) (b:Bool),e=.returned (.tuple #[.agg #[J,un,.string us,.slice Z V T,.slice u4 Y U],.bool b])/\EvS (λc=>(S c/\c<w)\/W'<=c) w2 [J,un,.string us,.slice Z V T,.slice u4 Y U] (Dr v0 x1 v1) b/\Below W' W' w2/\I<=W'.heap.size/\?Lq1 w2) (by
   rintro e w2 ⟨J,un,us,Z,V,T,u4,Y,U,b,rfl,h3,h4⟩
   exact ⟨J,un,us,Z,V,T,u4,Y,U,b,rfl,h3,h4,(D _ h').size,HS _ ((D _ h').n h4)⟩))
  obtain ⟨bH,bI,bD,M,aO,bF⟩:=BE (HS I.drew (Qz _ _).drew) (HS I (Qz _ _)) (λw' (h:?Lq1 w')=>HS w'.drew (D w' h).drew) D HA HP
  clear HS D HA HP bN bP bR bT bV aK
  have dS:IntKind.i64.wrap 0=0:=Ih
  go_upto_region 16 with fail
  go_cut [10,11] from 55 to 100 (λdG aW wx=>A6 S w I (Dr v0 x1 v1) dG aW wx)
  case first=>
   go_region_held3 ?Lq1 (first | with_reducible exact bH.o | with_reducible exact O | with_reducible exact bD.o _ (aO.o _ _ bI.o) | with_reducible exact aO.o _ _ O | with_reducible exact bF.o _ _ _ _ _ _ O)
    (first
     | (go_at_call 171;refine (HC.o _ AN).mono ?_;rintro e w2 ⟨J,un,us,Z,V,T,u4,Y,U,b,rfl,aJ,aS,dJ,O⟩;(try (have r2:w2.heap[I.heap.size]?=some (.cells zV 36 (0,0)):=(aS.block I Ib).trans (Qw I _);obtain ⟨y0,y1,y2,y3,y4⟩:=If r2;obtain ⟨g0,g1,g2,g3,g4⟩:=Ip r2;have cT:=Qq r2;clear r2));have bK:=Qq aJ;have dK:=Qq aS;clear aJ aS))
   all_goals
    go_wp2_with fail
    go_meet
   ·exact ⟨w2.heap.size,J,un,us,Z,V,T,u4,Y,U,b,rfl,rfl,Qw _ _,(M.o _ O).n (Zg _ _),(M.o _ O).size,bK.o.map λv h1=>h1.move (.f (Zg _ _)) (λc _ h=>by rcases h with h | h;exact .inl h;exact .inr (by simpa using h))⟩
   show A6 S w I _ _ _ (Zl w2 I _ _ _ _ _)
   exact ⟨I.heap.size,J,un,us,Z,V,T,u4,Y,U,b,rfl,rfl,Yd cT.o,Zd (M.o _ O) (Q9 _),Q9 _,bK.o.map λv h1=>h1.move (S':=λc=>(S c/\c<w)\/I<c) (.refl _ _) (λc _ h=>by rcases h with h | h;exact .inl h;exact .inr (by have h':=h;simp at h';omega)) |>.move (λc hc _=>Zf (by rcases hc with h | h;exact (by have:=h.2;have:=N.o.size;omega);omega)) (λc _ h=>by rcases h with h | h;exact .inl h;exact .inr Ia)⟩
  obtain ⟨G,J,un,us,Z,V,T,u4,Y,U,b,rfl,rfl,hG,aH,dM,aM⟩:=hcut
  obtain ⟨HG,bB,bL⟩:=Im hG aH aM
  have dN:=Z8 hG
  have aQ:=Qq (kE aH cG bJ.o);have aG:=Qq (kB aH cW.o)
  clear HC bH bI bD M aO bF hG aH aM
  go_wp2_with fail
  go_loopw [11,12] (λaW dH wr=>aW=.bool b/\dH=.int .i64 0/\wc=wr) (λ_ _ _=>0)
  case atStart=>exact ⟨rfl,rfl,rfl⟩
  obtain ⟨rfl,rfl,rfl⟩:=hrel
  obtain ⟨c0,c1,c2,c3,c4⟩:=If aQ.o
  obtain ⟨f0,f1,f2,f3,f4⟩:=Ip aQ.o
  obtain ⟨g0,g1,g2,g3,g4⟩:=If HG.o
  obtain ⟨z0,z1,z2,z3,z4⟩:=If aG.o
  obtain ⟨h0,h1,h2,h3,h4⟩:=Ip aG.o
  cases b with
  | false=>
   go_wp2_with fail
   show bodyPost _ _ _ _ _ (AI wc (w+1) v0 q3 e3 q4 e4)
   refine Q7 (v:=.tuple #[.agg (Is v0 q3 e3 q4 e4),.bool false]) (by simp [results,results148,go_sem,Ze aG.o]) rfl ⟨_,_,_,_,_,_,_,_,_,false,rfl,.no (by unfold Vk;rw [if_neg Ih,if_neg Ih,if_neg Ih,if_neg Ih,if_pos rfl];exact bL.o.2 rfl),Zd (N.o.n bB.o) Ia⟩
  | true=>
   go_wp2_with fail
   go_roundw
   case measure=>simp [intOf]
   case rel=>
    obtain ⟨v,dD,aJ,dE⟩:=bL.o.1 rfl
    refine .inr ⟨rfl,?_,J,un,us,Z,V,T,u4,Y,U,?_,?_,v,?_,aJ,dE⟩
    ·exact Zd (N.o.n bB.o) Ia
    ·show (Zl wc (w+1+1) J un (.string us) (.slice Z V T) (.slice u4 Y U)).heap[_]?=_
     rw [Zf Ia];exact aG.o
    ·exact Yd aQ.o
    exact (dD.move (S':=λc=>(S c/\c<w)\/w+3<=c) (.refl _ _) (λc _ h=>by rcases h with h | h;exact .inl h;exact .inr Ia)).move (λc hc _=>Zf (by rcases hc with h | h;exact (by have:=h.2;omega);omega)) Ij
 have bG:=Qq (show J=4/\Vk 7 nm [x1] [v0,v1]=some v from ⟨(Z9.head hv).1.symm.trans (Wm aU),by unfold Vk;rw [if_neg Ih,if_neg Ih,if_neg Ih,if_neg Ih,if_pos rfl];exact aU⟩)
 clear aU
 obtain ⟨cQ,HZ,HX,cV,cP⟩:=AO cE hZ hX hv cD
 obtain ⟨c0,c1,c2,c3,c4⟩:=If hX
 obtain ⟨z0,z1,z2,z3,z4⟩:=If hZ
 obtain ⟨h0,h1,h2,h3,h4⟩:=Ip hZ
 clear cE hZ hX hv cD
 have dO:=Z8 HZ.o
 go_upto_region 24 with fail
 go_region_with fail
 all_goals
  go_wp2_with fail
  show bodyPost _ _ _ _ _ (Zl wr (w+1) J un (.string us) (.slice Z V T) (.slice u4 Y U)).drew
  refine Q7 (v:=.tuple #[.agg #[J,un,.string us,.slice Z V T,.slice u4 Y U],.bool (J==4)]) (by simp [results,results148,go_sem,Ze HZ.o]) rfl ⟨_,_,_,_,_,_,_,_,_,_,rfl,⟨λ_=>⟨v,?_,cP.o,bG.o.2⟩,λhf=>absurd hf (by rw [bG.o.1];simp)⟩,(Zd cQ.o Ia).drew⟩
  exact cV.o.move (λc hc _=>by rw [show ∀ W:World,W.drew.heap=W.heap from λ_=>rfl];exact Zf (by rcases hc with h | h;exact (by have:=h.2;omega);omega)) (λc _ h=>by rcases h with h | h;exact .inl h.1;exact .inr Ia)
theorem Wc (k:Int) (nm:Bs) (n:Int) (sx:Bs) (names binds:List Bs) (kids:List Ex) (a z:Int) (S:Nat->Prop) (ce:List Value) (vv:Value) (vals:List Val) (w:World) (hN:L1 k nm names binds kids.length) (he:Yx S w ce (.mk k nm n sx names binds kids a z)) (hl:vals.length=kids.length) (hv0:Sl Zc S w vv vals) (hb:∀ v ∈ vals,Y3 v):
  Calls prog 148 #[ce,vv] w (X7 S w (Vk k nm names vals)):=by
 by_cases h5:k=5
 ·subst h5;exact Rp _ _ _ _ _ _ _ _ _ _ _ _ _ he hv0 hb
 by_cases h9:k=9
 ·subst h9;exact Px _ _ _ _ _ _ _ _ _ _ _ _ _ he hv0 hb (Ix hN.few)
 by_cases h6:k=6
 ·subst h6;exact Tg _ _ _ _ _ _ _ _ _ _ _ _ _ he hv0 hb (hN.words rfl).1 (hN.words rfl).2 hN.fewn
 by_cases h8:k=8
 ·subst h8
  have:=hN.fld rfl
  exact Ob _ _ _ _ _ _ _ _ _ _ _ _ _ he hv0 hb (vals[0]'Ia) (Qx Ia)
 by_cases h7:k=7
 ·subst h7
  obtain ⟨h1,h2⟩:=hN.one rfl
  obtain ⟨x1,rfl⟩:=List.length_eq_one_iff.1 h1
  rw [h2] at hl
  match vals,hl with
  | [v0,v1],_=>exact Sk _ _ _ _ _ _ _ _ _ _ _ _ _ he hv0 hb x1 rfl v0 v1 rfl
 exact Sq k _ _ _ _ _ _ _ _ _ _ _ _ _ he hv0 hb h5 h9 h6 h8 h7
def Y0:Nat->Ex->List Bs->List Val->Option Val
 | 0,_,_,_=>none
 | d+1,.mk k nm n s names binds kids _ _,ns,vs=>
  if k=0 then some (Y5 n)
  else if k=1 then (if s.length<=4096 then some (Er s) else none)
  else if k=2 then some (V6 (decide (n=1)))
  else if k=3 then Lf nm ns vs ns.length
  else if k=11 then (kids[0]?.bind λx=>Y0 d x ns vs).bind λv=>kids[1]?.bind λx=>Y0 d x (ns++[nm]) (vs++[v])
  else if k=12 then (kids[0]?.bind λx=>Y0 d x ns vs).bind λv=>if v.kind=2 then (if v.n=1 then kids[1]? else kids[2]?).bind λx=>Y0 d x ns vs else none
  else if k=13 then Bb (Y0 d) names binds kids ns vs
  else if k=14 then opV (λx=>Y0 d x ns vs) nm kids
  else (J2 (λx=>Y0 d x ns vs) kids).bind (Vk k nm names)
section
variable {d:Nat} {nm s:Bs} {n a z:Int} {names binds:List Bs} {kids:List Ex} {x0 x1 x2:Ex} {ns:List Bs} {vs:List Val}
theorem revF_let (h0:kids[0]?=some x0) (h1:kids[1]?=some x1):Y0 (d+1) (.mk 11 nm n s names binds kids a z) ns vs=(Y0 d x0 ns vs).bind λv=>Y0 d x1 (ns++[nm]) (vs++[v]):=by
 rw [Y0,if_neg Ih,if_neg Ih,if_neg Ih,if_neg Ih,if_pos rfl,h0,h1];rfl
theorem revF_if (h0:kids[0]?=some x0) (h1:kids[1]?=some x1) (h2:kids[2]?=some x2):Y0 (d+1) (.mk 12 nm n s names binds kids a z) ns vs=(Y0 d x0 ns vs).bind λv=>if v.kind=2 then (if v.n=1 then Y0 d x1 ns vs else Y0 d x2 ns vs) else none:=by
 rw [Y0,if_neg Ih,if_neg Ih,if_neg Ih,if_neg Ih,if_neg Ih,if_pos rfl,h0,h1,h2]
 show (Y0 d x0 ns vs).bind _=_
 congr 1
 funext v
 by_cases hk:v.kind=2
 ·rw [if_pos hk,if_pos hk]
  by_cases hn:v.n=1
  ·rw [if_pos hn,if_pos hn];rfl
  rw [if_neg hn,if_neg hn];rfl
 rw [if_neg hk,if_neg hk]
theorem revF_mat:Y0 (d+1) (.mk 13 nm n s names binds kids a z) ns vs=Bb (Y0 d) names binds kids ns vs:=by
 rw [Y0,if_neg Ih,if_neg Ih,if_neg Ih,if_neg Ih,if_neg Ih,if_neg Ih,if_pos rfl]
theorem revF_op:Y0 (d+1) (.mk 14 nm n s names binds kids a z) ns vs=opV (λx=>Y0 d x ns vs) nm kids:=by
 rw [Y0,if_neg Ih,if_neg Ih,if_neg Ih,if_neg Ih,if_neg Ih,if_neg Ih,if_neg Ih,if_pos rfl]
theorem Cl {k:Int} (q0:k≠0) (q1:k≠1) (q2:k≠2) (q3:k≠3) (q11:k≠11) (q12:k≠12) (q13:k≠13) (q14:k≠14):Y0 (d+1) (.mk k nm n s names binds kids a z) ns vs=(J2 (λx=>Y0 d x ns vs) kids).bind (Vk k nm names):=by
 rw [Y0,if_neg q0,if_neg q1,if_neg q2,if_neg q3,if_neg q11,if_neg q12,if_neg q13,if_neg q14]
end
def Xu (d:Nat) (e:Ex):Prop:=∀ (S:Nat->Prop) (ce:List Value) (nv vv:Value) (names:List Bs) (vals:List Val) (w:World),Yx S w ce e->Sl Zh S w nv names->Sl Zc S w vv vals->names.length<=vals.length->vals.length+d<=1000->(∀ v ∈ vals,Y3 v) ->
 Calls prog 97 #[ce,nv,vv] w (X7 S w (Y0 d e names vals))
theorem J4 {S:Nat->Prop} {w W1 w2:World} {r:Option Val} {R:Nat} {k n:Int} {s:ByteArray} {p3:Option Addr} {n3 k3:Nat} {p4:Option Addr} {n4 k4:Nat} {b:Bool} (hB1:Below w w W1) (hR:w<=R) (hR1:R<W1) (hv:EvS (λc=>(S c/\c<w)\/W1<=c) w2 [k,n,.string s,.slice p3 n3 k3,.slice p4 n4 k4] r b) (hB2:Below W1 W1 w2):
  X7 S w r (.returned (.tuple #[.agg #[k,n,.string s,.slice p3 n3 k3,.slice p4 n4 k4],.bool b])) (Zl w2 R k n (.string s) (.slice p3 n3 k3) (.slice p4 n4 k4)):=by
 have hs:=hB1.size
 exact ⟨k,n,s,p3,n3,k3,p4,n4,k4,b,rfl,hv.map λv h1=>h1.move (λc A _=>Zf (by rcases A with h | h;exact (by have:=h.2;omega);omega)) (λc _ A=>by rcases A with h | h;exact .inl h.1;exact .inr Ia),Zd (hB1.n hB2) hR⟩
theorem Vv {S:Nat->Prop} {w w2:World} {r:Option Val} {R:Nat} {k n:Int} {s:ByteArray} {p3:Option Addr} {n3 k3:Nat} {p4:Option Addr} {n4 k4:Nat} (hR:w<=R) (hB2:Below w w w2) (hr:r=none):
  X7 S w r (.returned (.tuple #[.agg #[k,n,.string s,.slice p3 n3 k3,.slice p4 n4 k4],.bool false])) (Zl w2 R k n (.string s) (.slice p3 n3 k3) (.slice p4 n4 k4)):=
 ⟨k,n,s,p3,n3,k3,p4,n4,k4,false,rfl,.no hr,Zd hB2 hR⟩
theorem Dw {S:Nat->Prop} {w w2:World} {r:Option Val} {R:Nat} {k n:Int} {s:ByteArray} {p3:Option Addr} {n3 k3:Nat} {p4:Option Addr} {n4 k4:Nat} {b:Bool} (hR:w<=R) (hB2:Below w w w2) (hv:EvS (λc=>(S c/\c<w)\/R<c) w2 [k,n,.string s,.slice p3 n3 k3,.slice p4 n4 k4] r b):
  X7 S w r (.returned (.tuple #[.agg #[k,n,.string s,.slice p3 n3 k3,.slice p4 n4 k4],.bool b])) (Zl w2 R k n (.string s) (.slice p3 n3 k3) (.slice p4 n4 k4)):=
 ⟨k,n,s,p3,n3,k3,p4,n4,k4,b,rfl,hv.map λv h1=>h1.move (λc A _=>Zf (by rcases A with h | h;exact (by have:=h.2;omega);omega)) (λc _ A=>by rcases A with h | h;exact .inl h.1;exact .inr Ia),Zd hB2 hR⟩
theorem X7.sub {S:Nat->Prop} {w W1:World} {r:Option Val} {e:Ending} {w2:World} (h:X7 (λc=>S c/\c<w) W1 r e w2):∃ (k n:Int) (s:ByteArray) (p3:Option Addr) (n3 k3:Nat) (p4:Option Addr) (n4 k4:Nat) (b:Bool),
  e=.returned (.tuple #[.agg #[k,n,.string s,.slice p3 n3 k3,.slice p4 n4 k4],.bool b])/\EvS (λc=>(S c/\c<w)\/W1<=c) w2 [k,n,.string s,.slice p3 n3 k3,.slice p4 n4 k4] r b/\Below W1 W1 w2:=h
theorem X7.drew {S:Nat->Prop} {w W:World} {r:Option Val} {e:Ending} (h:X7 S w r e W):X7 S w r e W.drew:=by
 obtain ⟨k,n,s,p3,n3,k3,p4,n4,k4,b,he,hv,hb⟩:=h
 exact ⟨k,n,s,p3,n3,k3,p4,n4,k4,b,he,hv.map λv h1=>h1.move (λ_ _ _=>rfl) Ij,hb.drew⟩
theorem Bd (b:Bool) (w:World):Calls prog 144 #[.bool b] w λe w'=>∃ X:Int,X=(if b then 1 else 0)/\e=.returned (.tuple #[.agg #[.int .i64 2,X,Ig,Ie,Ie],.bool true])/\Below w w w':=
 (S9 b w).mono λ_ _ ⟨h1,h2⟩=>⟨_,rfl,h1,h2⟩
theorem We (n:Int) (w:World):Calls prog 143 #[n] w λe w'=>∃ X:Int,X=n/\e=.returned (.tuple #[.agg #[Ic,X,Ig,Ie,Ie],.bool true])/\Below w w w':=
 (Ee n w).mono λ_ _ ⟨h1,h2⟩=>⟨n,rfl,h1,h2⟩
theorem G8 {X:Int} {b:Bool} (h:X=if b then 1 else 0):Y3 (.mk 2 X [] [] []):=.mk _ _ _ _ _ (λ_=>by rw [h];cases b <;> simp) (λx h=>by simp at h)
theorem Cb (nm:Bs) (n:Int) (s:Bs) (names binds:List Bs) (kids:List Ex) (a z:Int) (d:Nat) (ih:∀ x ∈ kids,Xu d x) :∀ (S:Nat->Prop) (ce:List Value) (nv vv:Value) (ns:List Bs) (vs:List Val) (w:World),Yx S w ce (.mk 0 nm n s names binds kids a z)->Sl Zh S w nv ns->Sl Zc S w vv vs->ns.length<=vs.length->vs.length+(d+1)<=1000->(∀ v ∈ vs,Y3 v) ->
  Calls prog 97 #[ce,nv,vv] w (X7 S w (Y0 (d+1) (.mk 0 nm n s names binds kids a z) ns vs)):=by
 intro S ce nv vv ns vs w Z V Y G hd hb
 obtain ⟨r,hr⟩:=eX (Y0 (d+1) (.mk 0 nm n s names binds kids a z) ns vs)
 rw [hr]
 have HR:=Qq hr
 clear hr
 have hx:Yx (λb=>S b/\b<w) w ce (.mk 0 nm n s names binds kids a z):=Z.move (.refl _ _) (λb hb h=>⟨h,hb⟩)
 have hn:=V.up
 have hv:=Y.up
 obtain ⟨np,nc,rfl,_⟩:=hn.len
 obtain ⟨vp,vc,rfl,aS⟩:=hv.len
 have aO:=Qq hx
 obtain ⟨aT,bv,kv,rfl,aQ,aR,O,N,hk⟩:=Yy.1 hx
 obtain ⟨p1,c1,rfl,_⟩:=O.len
 obtain ⟨p2,c2,rfl,_⟩:=N.len
 obtain ⟨p3,c3,rfl,aP⟩:=hk.len
 obtain ⟨HN,HV,aL,aM,aK,HK,HI,aJ⟩:=AV hn hv hb O N hk ih G
 clear Z V Y hx hn hv O N hk hb ih G
 unfold sv at *
 go_enter func97,ntmps97
 go_upto_region 3 with fail
 generalize A:(w.alloc _).alloc _=W1
 have T:=Iq A (Zs _ _ _)
 have I:=Ik (b:=w.heap.size) A (Q5 _ _ _)
 have J:=Ik (b:=w.heap.size+1) A (Q6 _ _ _)
 obtain ⟨aA,aN,aC⟩:=Im T I J
 have U:=Z8 J
 obtain ⟨c0,c1,c2,c3,c4,c5,c6,c7,c8⟩:=AC I
 clear A T I J
 go_wp2_with (go_at_call 143;refine (Ee _ _).mono ?_;rintro e w5 ⟨rfl,M⟩;have D:=kE M U aC.o;obtain ⟨y0,y1,y2,y3,y4⟩:=If D;obtain ⟨f0,f1,f2,f3,f4⟩:=Ip D;have aD:=Qq D;have aB:=Qq M;clear D M)
 show bodyPost _ _ _ _ _ (Zl w5 (w+1) Ic n Ig Ie Ie)
 refine Q7 (v:=.tuple #[.agg #[Ic,n,Ig,Ie,Ie],.bool true]) (by simp [results,results97,go_sem,Ze aD.o]) rfl (J4 aA.o Ia U (.yes (Yb (s:=[]) Ib (Sl.nil _ _ _) (Sl.nil _ _ _)) (Hs n) (by rw [<- HR.o];rfl)) aB.o)
theorem Ni (nm:Bs) (n:Int) (s:Bs) (names binds:List Bs) (kids:List Ex) (a z:Int) (d:Nat) (ih:∀ x ∈ kids,Xu d x) (hq:(s.length:Int)<=4096):∀ (S:Nat->Prop) (ce:List Value) (nv vv:Value) (ns:List Bs) (vs:List Val) (w:World),Yx S w ce (.mk 1 nm n s names binds kids a z)->Sl Zh S w nv ns->Sl Zc S w vv vs->ns.length<=vs.length->vs.length+(d+1)<=1000->(∀ v ∈ vs,Y3 v) ->
  Calls prog 97 #[ce,nv,vv] w (X7 S w (Y0 (d+1) (.mk 1 nm n s names binds kids a z) ns vs)):=by
 intro S ce nv vv ns vs w Y U V G hd hb
 obtain ⟨r,hr⟩:=eX (Y0 (d+1) (.mk 1 nm n s names binds kids a z) ns vs)
 rw [hr]
 have HR:=Qq hr
 clear hr
 have hx:Yx (λb=>S b/\b<w) w ce (.mk 1 nm n s names binds kids a z):=Y.move (.refl _ _) (λb hb h=>⟨h,hb⟩)
 have hn:=U.up
 have hv:=V.up
 obtain ⟨np,nc,rfl,_⟩:=hn.len
 obtain ⟨vp,vc,rfl,aR⟩:=hv.len
 have aO:=Qq hx
 obtain ⟨aS,bv,kv,rfl,aQ,aG,N,M,hk⟩:=Yy.1 hx
 obtain ⟨p1,c1,rfl,_⟩:=N.len
 obtain ⟨p2,c2,rfl,_⟩:=M.len
 obtain ⟨p3,c3,rfl,aP⟩:=hk.len
 obtain ⟨HN,HV,aL,aM,aK,HK,HI,aJ⟩:=AV hn hv hb N M hk ih G
 clear Y U V hx hn hv N M hk hb ih G
 unfold sv at *
 go_enter func97,ntmps97
 go_upto_region 5 with fail
 generalize D:(w.alloc _).alloc _=W1
 have T:=Iq D (Zs _ _ _)
 have I:=Ik (b:=w.heap.size) D (Q5 _ _ _)
 have J:=Ik (b:=w.heap.size+1) D (Q6 _ _ _)
 obtain ⟨Z,aN,aA⟩:=Im T I J
 have aD:=Z8 J
 obtain ⟨c0,c1,c2,c3,c4,c5,c6,c7,c8⟩:=AC I
 clear D T I J
 have A:=kE (Qz W1 W1) aD aA.o
 obtain ⟨y0,y1,y2,y3,y4⟩:=If A
 obtain ⟨f0,f1,f2,f3,f4⟩:=Ip A
 have O:=Qq A
 clear A
 go_region_with fail
 all_goals
  go_wp2_with fail
  show bodyPost _ _ _ _ _ (Zl W1 (w+1) (.int .i64 1) Ic s Ie Ie).drew
  refine Q7 (v:=.tuple #[.agg #[.int .i64 1,Ic,s,Ie,Ie],.bool true]) (by simp [results,results97,go_sem,Ze O.o]) rfl (Dw Ia Z.o (.yes (Yb aG (Sl.nil _ _ _) (Sl.nil _ _ _)) (.mk _ _ _ _ _ (λh=>by cases h) (λx h=>by simp at h)) (by rw [<- HR.o];unfold Y0;rw [if_neg Ih,if_pos rfl,if_pos Ia];rfl))).drew
theorem O2 (nm:Bs) (n:Int) (s:Bs) (names binds:List Bs) (kids:List Ex) (a z:Int) (d:Nat) (ih:∀ x ∈ kids,Xu d x) (hq:decide ((s.length:Int)<=4096)=false):∀ (S:Nat->Prop) (ce:List Value) (nv vv:Value) (ns:List Bs) (vs:List Val) (w:World),Yx S w ce (.mk 1 nm n s names binds kids a z)->Sl Zh S w nv ns->Sl Zc S w vv vs->ns.length<=vs.length->vs.length+(d+1)<=1000->(∀ v ∈ vs,Y3 v) ->
  Calls prog 97 #[ce,nv,vv] w (X7 S w (Y0 (d+1) (.mk 1 nm n s names binds kids a z) ns vs)):=by
 intro S ce nv vv ns vs w Y U V G hd hb
 obtain ⟨r,hr⟩:=eX (Y0 (d+1) (.mk 1 nm n s names binds kids a z) ns vs)
 rw [hr]
 have HR:=Qq hr
 clear hr
 have aA:Hid (r=none):=Qq (by rw [<- HR.o];unfold Y0;rw [if_neg Ih,if_pos rfl,if_neg (by have:=of_decide_eq_false hq;omega)])
 have hx:Yx (λb=>S b/\b<w) w ce (.mk 1 nm n s names binds kids a z):=Y.move (.refl _ _) (λb hb h=>⟨h,hb⟩)
 have hn:=U.up
 have hv:=V.up
 obtain ⟨np,nc,rfl,_⟩:=hn.len
 obtain ⟨vp,vc,rfl,aS⟩:=hv.len
 have aO:=Qq hx
 obtain ⟨aT,bv,kv,rfl,aQ,aR,N,M,hk⟩:=Yy.1 hx
 obtain ⟨p1,c1,rfl,_⟩:=N.len
 obtain ⟨p2,c2,rfl,_⟩:=M.len
 obtain ⟨p3,c3,rfl,aP⟩:=hk.len
 obtain ⟨HN,HV,aL,aM,aK,HK,HI,aJ⟩:=AV hn hv hb N M hk ih G
 clear Y U V hx hn hv N M hk hb ih G
 unfold sv at *
 go_enter func97,ntmps97
 go_upto_region 5 with fail
 generalize D:(w.alloc _).alloc _=W1
 have T:=Iq D (Zs _ _ _)
 have I:=Ik (b:=w.heap.size) D (Q5 _ _ _)
 have J:=Ik (b:=w.heap.size+1) D (Q6 _ _ _)
 obtain ⟨Z,aN,aB⟩:=Im T I J
 have aE:=Z8 J
 obtain ⟨c0,c1,c2,c3,c4,c5,c6,c7,c8⟩:=AC I
 clear D T I J
 have A:=kE (Qz W1 W1) aE aB.o
 obtain ⟨y0,y1,y2,y3,y4⟩:=If A
 obtain ⟨f0,f1,f2,f3,f4⟩:=Ip A
 have O:=Qq A
 clear A
 go_region_with fail
 all_goals
  go_wp2_with fail
  show bodyPost _ _ _ _ _ (Zl W1 (w+1) (.int .i64 1) Ic s Ie Ie).drew
  refine Q7 (v:=.tuple #[.agg #[.int .i64 1,Ic,s,Ie,Ie],.bool false]) (by simp [results,results97,go_sem,Ze O.o]) rfl (Vv Ia Z.o aA.o).drew
theorem Tk (nm:Bs) (n:Int) (s:Bs) (names binds:List Bs) (kids:List Ex) (a z:Int) (d:Nat) (ih:∀ x ∈ kids,Xu d x) :∀ (S:Nat->Prop) (ce:List Value) (nv vv:Value) (ns:List Bs) (vs:List Val) (w:World),Yx S w ce (.mk 2 nm n s names binds kids a z)->Sl Zh S w nv ns->Sl Zc S w vv vs->ns.length<=vs.length->vs.length+(d+1)<=1000->(∀ v ∈ vs,Y3 v) ->
  Calls prog 97 #[ce,nv,vv] w (X7 S w (Y0 (d+1) (.mk 2 nm n s names binds kids a z) ns vs)):=by
 intro S ce nv vv ns vs w aA Y Z G hd hb
 obtain ⟨r,hr⟩:=eX (Y0 (d+1) (.mk 2 nm n s names binds kids a z) ns vs)
 rw [hr]
 have HR:=Qq hr
 clear hr
 have hx:Yx (λb=>S b/\b<w) w ce (.mk 2 nm n s names binds kids a z):=aA.move (.refl _ _) (λb hb h=>⟨h,hb⟩)
 have hn:=Y.up
 have hv:=Z.up
 obtain ⟨np,nc,rfl,_⟩:=hn.len
 obtain ⟨vp,vc,rfl,aT⟩:=hv.len
 have aP:=Qq hx
 obtain ⟨aU,bv,kv,rfl,aR,aS,O,N,hk⟩:=Yy.1 hx
 obtain ⟨p1,c1,rfl,_⟩:=O.len
 obtain ⟨p2,c2,rfl,_⟩:=N.len
 obtain ⟨p3,c3,rfl,aQ⟩:=hk.len
 obtain ⟨HN,HV,aM,aN,aL,HK,HI,aK⟩:=AV hn hv hb O N hk ih G
 clear aA Y Z hx hn hv O N hk hb ih G
 unfold sv at *
 go_enter func97,ntmps97
 go_upto_region 7 with fail
 generalize A:(w.alloc _).alloc _=W1
 have U:=Iq A (Zs _ _ _)
 have I:=Ik (b:=w.heap.size) A (Q5 _ _ _)
 have J:=Ik (b:=w.heap.size+1) A (Q6 _ _ _)
 obtain ⟨aB,aO,aD⟩:=Im U I J
 have V:=Z8 J
 obtain ⟨c0,c1,c2,c3,c4,c5,c6,c7,c8⟩:=AC I
 clear A U I J
 go_wp2_with (go_at_call 144;refine (Bd _ _).mono ?_;rintro e w5 ⟨X,hX,rfl,M⟩;have T:=Qq hX;clear hX;have D:=kE M V aD.o;obtain ⟨y0,y1,y2,y3,y4⟩:=If D;obtain ⟨f0,f1,f2,f3,f4⟩:=Ip D;have aE:=Qq D;have aC:=Qq M;clear D M)
 show bodyPost _ _ _ _ _ (Zl w5 (w+1) (.int .i64 2) X Ig Ie Ie)
 refine Q7 (v:=.tuple #[.agg #[.int .i64 2,X,Ig,Ie,Ie],.bool true]) (by simp [results,results97,go_sem,Ze aE.o]) rfl (J4 aB.o Ia V (.yes (Sr _ _ _) (G8 T.o) (by rw [<- HR.o,T.o];unfold Y0;rw [if_neg Ih,if_neg Ih,if_pos rfl];rfl)) aC.o)
theorem Qjk (nm:Bs) (n:Int) (s:Bs) (names binds:List Bs) (kids:List Ex) (a z:Int) (d:Nat) (ih:∀ x ∈ kids,Xu d x) :∀ (S:Nat->Prop) (ce:List Value) (nv vv:Value) (ns:List Bs) (vs:List Val) (w:World),Yx S w ce (.mk 3 nm n s names binds kids a z)->Sl Zh S w nv ns->Sl Zc S w vv vs->ns.length<=vs.length->vs.length+(d+1)<=1000->(∀ v ∈ vs,Y3 v) ->
  Calls prog 97 #[ce,nv,vv] w (X7 S w (Y0 (d+1) (.mk 3 nm n s names binds kids a z) ns vs)):=by
 intro S ce nv vv ns vs w aY aV aW N hd hb
 obtain ⟨r,hr⟩:=eX (Y0 (d+1) (.mk 3 nm n s names binds kids a z) ns vs)
 rw [hr]
 have HR:=Qq hr
 clear hr
 have hx:Yx (λb=>S b/\b<w) w ce (.mk 3 nm n s names binds kids a z):=aY.move (.refl _ _) (λb hb h=>⟨h,hb⟩)
 have hn:=aV.up
 have V:=aW.up
 obtain ⟨np,nc,rfl,_⟩:=hn.len
 obtain ⟨vp,vc,rfl,cD⟩:=V.len
 have bV:=Qq hx
 obtain ⟨cE,bv,kv,rfl,cB,cC,aD,aC,hk⟩:=Yy.1 hx
 obtain ⟨p1,c1,rfl,_⟩:=aD.len
 obtain ⟨p2,c2,rfl,_⟩:=aC.len
 obtain ⟨p3,c3,rfl,bZ⟩:=hk.len
 obtain ⟨HN,HV,bC,bU,bT,HK,HI,aF⟩:=AV hn V hb aD aC hk ih N
 clear aY aV aW hx hn V aD aC hk hb ih N
 unfold sv at *
 obtain ⟨m,hm⟩:=eX (ns.length)
 rw [hm] at HN |-
 have HM:=Qq hm
 have N:=aF.o
 rw [hm] at N
 have cA:m<=1000:=Ia
 clear hm
 go_enter func97,ntmps97
 go_upto_region 9 with fail
 generalize U:(w.alloc _).alloc _=W1
 have aR:=Iq U (Zs _ _ _)
 have aP:=Ik (b:=w.heap.size) U (Q5 _ _ _)
 have aB:=Ik (b:=w.heap.size+1) U (Q6 _ _ _)
 obtain ⟨T,bG,aG⟩:=Im aR aP aB
 have aU:=Z8 aB
 clear U aR aP aB
 go_upto_region 10 with fail
 go_loopw [8] (λi wr=>∃ (k:Nat) (j:Int),k<=m/\j=(k:Int) - 1/\i=.int .i64 j/\Aside (r=Lf nm ns vs k)/\Aside (Below W1 W1 wr)) (λi _=>(intOf i+1).toNat)
 case atStart=>exact ⟨m,_,Q9 _,rfl,by go_num,(by rw [<- HR.o,<- HM.o];rfl),Qz _ _⟩
 obtain ⟨k,j,hk,hj,rfl,aT,aO⟩:=hrel
 have Z:=Qq (show r=Lf nm ns vs k from aT)
 clear aT
 have A:=Qq (show Below W1 W1 wr from aO)
 clear aO
 by_cases hk0:k=0
 ·have bM:decide (0<=j)=false:=by simp;omega
  clear hk hj
  have M:=kE A.o aU aG.o
  obtain ⟨y0,y1,y2,y3,y4⟩:=If M
  obtain ⟨f0,f1,f2,f3,f4⟩:=Ip M
  have aI:=Qq M
  clear M
  go_wp2_with fail
  show bodyPost _ _ _ _ _ (Zl wr (w+1) Ic Ic Ig Ie Ie)
  refine Q7 (v:=.tuple #[.agg zV,.bool false]) (by simp [results,results97,go_sem,Ze aI.o]) rfl (Vv Ia (T.o.n A.o) (by rw [Z.o,hk0];rfl))
 obtain ⟨O,rfl⟩:∃ O,k=O+1:=⟨k - 1,Ia⟩
 obtain rfl:j=(O:Int):=Ia
 have bM:decide ((0:Int)<=(O:Int))=true:=Ib
 have bW:(0:Int)<=(O:Int):=Ia
 have bX:(O:Int)<(m:Int):=Ia
 have bY:(O:Int)<(vs.length:Int):=Ia
 obtain ⟨y,hy⟩:∃ y,ns[O]?=some y:=⟨_,Qx (by rw [HM.o];omega)⟩
 obtain ⟨v,V⟩:∃ v,vs[O]?=some v:=⟨_,Qx Ia⟩
 obtain ⟨nb,bR,rfl,aZ,-⟩:=(HN.o.below (T.o.n A.o)).str hy
 obtain ⟨vb,bS,q3,l3,q4,l4,rfl,G,aX,d0,d1,d2,d3,d4⟩:=(HV.o.below (T.o.n A.o)).val V
 have aQ:=kB A.o bG.o
 have c1:=AA aQ
 have bF:=Qq aX;have bD:=Qq (bC.o v (Qy V))
 have D:=Qq (Qe G (Qe d0 (Qe d1 (Qe d2 (Qe d3 d4)))))
 have aA:=Qq (Qe hy V)
 clear hy V aQ aX d0 d1 d2 d3 d4 G hj
 by_cases he:y=nm
 ·subst he
  have hq:(y==y)=true:=Ib
  go_wp2_with fail
  go_quiet (fail)
  obtain ⟨wq,aE⟩:=eX (wr.drewN nq)
  have I:Below wr wr wq:=by rw [<- aE];exact Yz _ _
  rw [aE]
  have Y:=Qq I
  obtain ⟨G,aJ,aK,aL,aM,aN⟩:=D.o
  have d0:=kD I G aJ;have d1:=kD I G aK;have d2:=kD I G aL;have d3:=kD I G aM;have d4:=kD I G aN
  clear aE I aJ aK aL aM aN aZ c1
  have J:=kE (A.o.n Y.o) aU aG.o
  obtain ⟨y0,y1,y2,y3,y4⟩:=If J
  obtain ⟨f0,f1,f2,f3,f4⟩:=Ip J
  have aH:=Qq J
  clear J
  go_wp2_with fail
  show bodyPost _ _ _ _ _ (AI wq (w+1) v q3 l3 q4 l4)
  refine Q7 (v:=.tuple #[.agg (Is v q3 l3 q4 l4),.bool true]) (by simp [results,results97,go_sem,Ze aH.o]) rfl (Dw Ia ((T.o.n A.o).n Y.o) (.yes (bF.o.move (.f Y.o) (λ_ _ h=>.inl h)) bD.o (by rw [Z.o,Lf,if_pos aA.o.1];exact aA.o.2)))
 have hq:(y==nm)=false:=by rw [<- Qt,beq_iff_eq];exact he
 have bE:Hid (r=Lf nm ns vs O):=Qq (by
  rw [Z.o,Lf,if_neg]
  rw [aA.o.1]
  intro h9
  exact he (Qb h9))
 clear he
 go_wp2_with fail
 go_quiet (fail)
 clear aZ c1
 go_wp2_with fail
 go_roundw
 case measure=>simp [intOf]
 case rel=>exact ⟨O,(O:Int) - 1,Ia,rfl,rfl,bE.o,A.o.n (Yz _ _)⟩
theorem Wy (ns:List Bs) (ks:List Val) (hlen:ns.length=ks.length) (hw:∀ x ∈ ns,Vi x) (hst:∀ (i:Nat) (x y:Bs),ns[i]?=some x->ns[i+1]?=some y->Yi x y<0) (ih:∀ x ∈ ks,Xr x):Xr (.mk 4 0 [] ns ks):=by
 intro S cs w h
 obtain ⟨p3,k3,p4,k4,aP,hn,hk,_⟩:=Z9.cells h
 simp only [Il,Val.kind,Val.n,Val.s,Val.names,Val.kids] at aP hn hk
 subst aP
 obtain ⟨_,_,_,bG⟩:=hk.len
 have HI:=Qq ih
 obtain ⟨m,hm⟩:=eX (ks.length)
 rw [hm] at hk bG |-
 have bA:=Qq hk;have HM:=Qq hm
 have mixed:prog.follows .mixedOrders=true:=Ir
 have aG:ns.length=m:=Ia
 rw [aG] at hn |-
 obtain ⟨aL,aK,HW,bB⟩:=It hn aG hw hst
 have bH:((m:Int) != (m:Int))=false:=Ib
 clear hm hn aG hlen hw hst
 clear h hk ih
 go_enter func92,ntmps92
 go_wp2_with fail
 generalize aB:w.alloc _=G
 have aN:=Iq aB (Zg _ _)
 have M:=Ik (b:=w.heap.size) aB (Qw _ _)
 clear aB
 clear bH
 have I:Hid (w<G.heap.size/\Ii G w 4 (.slice p4 m k4)):=Qq ⟨Z8 M,Qk _ _ 4 _ _ _ M⟩
 have U:Hid (w<G.heap.size/\Ii G w 3 (.slice p3 m k3)):=Qq ⟨Z8 M,Qk _ _ 3 _ _ _ M⟩
 have D:=Qq aN
 clear M aN
 go_loopw [5] (λi wr=>∃ k:Nat,k<=m/\i=.int .i64 k/\Aside (Below G G wr)) (λi _=>m - (intOf i).toNat)
 case atStart=>exact ⟨0,Q8 _,rfl,Qz _ _⟩
 obtain ⟨k,hk,rfl,J⟩:=hrel
 have A:=Qq (show Below G G wr from J)
 have c3:=(A.o.cell (p:=⟨w,3,none⟩) U.o.1).trans U.o.2
 have c4:=(A.o.cell (p:=⟨w,4,none⟩) I.o.1).trans I.o.2
 have aC:w.heap.size<wr.heap.size:=by have:=U.o.1;have:=A.o.size;omega
 clear J
 by_cases hlt:k<m
 ·have aQ:(0:Int)<=(k:Int):=Ia
  have aR:(k:Int)<(m:Int):=Ia
  obtain ⟨y,V⟩:∃ y,ns[k]?=some y:=⟨_,Qx (by rw [aK.o];exact hlt)⟩
  obtain ⟨nb,aV,rfl,T,-⟩:=(aL.o.below (D.o.n A.o)).str V
  have N:=Qv _ _ T
  have HF:=Qq (λW=>Lw y (HW.o y (Qy V)) W)
  unfold sv at HF
  have C3:=Db aC c3
  by_cases hk0:k=0
  ·subst hk0
   rw [Nat.add_zero] at T
   have Y:=Db N T
   have bP:(0:Int)<(m:Int):=Ia
   have bQ:0<m:=hlt
   clear V aQ aR
   rw [show ((0:Nat):Int)=(0:Int) from rfl]
   go_wp2_with fail
   refine Uh AN Ir ?_
   repeat (first | go_big_quiet_skip | quiet_step ((go_at_call 107;exact Calls.later_of (HF.o _))))
   refine wpQuiet_nil ?_
   intro _ aH
   obtain ⟨⟨wq,aD⟩,O⟩:=aH
   subst O
   try dsimp only
   clear C3 Y c4
   go_wp2_with fail
   go_roundw
   case measure=>simp [intOf];omega
   case rel=>exact ⟨0+1,Ia,by go_num,A.o.n aD⟩
  obtain ⟨j,rfl⟩:∃ j,k=j+1:=⟨k - 1,Ia⟩
  obtain ⟨z,hz⟩:∃ z,ns[j]?=some z:=⟨_,Qx (by rw [aK.o];omega)⟩
  obtain ⟨bJ,aJ,he,aU,-⟩:=(aL.o.below (D.o.n A.o)).str hz
  obtain ⟨rfl,rfl,-⟩:nb=bJ/\aV=aJ/\True:=by simpa using he
  have Y:=Db N T
  have Z:=Db N aU
  have aS:=bB.o j z y hz V
  have bR:Op.bytesLess y z=false:=by rw [(Vn y z).1,Ms];simp;omega
  have bS:(y==z)=false:=by rw [(Vn y z).2.1,Ms];simp;omega
  have bD:IntKind.i64.wrap (j:Int)=(j:Int):=by rw [IntKind.wrap_i64];omega
  have bK:(j:Int)<(m:Int):=Ia
  have bL:(0:Int)<(j:Int)+1:=Ia
  have bM:(0:Int)<=(j:Int)+1:=Ia
  have bN:(j:Int)+1<(m:Int):=Ia
  have bO:(0:Int)<=(j:Int):=Ia
  have bE:((j:Int)+1).toNat=j+1:=Ia
  clear V T hz aU he hk0 aS
  go_wp2_with fail
  refine Uh AN Ir ?_
  repeat (quiet_step ((go_at_call 107;exact Calls.later_of (HF.o _))))
  refine wpQuiet_nil ?_
  intro _ aH
  obtain ⟨⟨wq,aD⟩,O⟩:=aH
  subst O
  try dsimp only
  clear C3 Y Z c4 bD bE
  go_wp2_with fail
  go_roundw
  case measure=>simp [intOf];omega
  case rel=>exact ⟨j+1+1,Ia,by go_num,A.o.n aD⟩
 have aF:k=m:=Ia
 subst aF
 have hW:Hid (Below w w wr):=Qq (D.o.n A.o)
 have aA:Hid (w<wr.heap.size/\Ii wr w 4 (.slice p4 k k4)):=Qq ⟨aC,c4⟩
 clear I U D A
 obtain ⟨G,rfl⟩:∃ G:World,G=wr:=⟨_,rfl⟩
 have I:=aA;have D:=hW
 clear aA hW
 go_wp2_with fail
 clear c3 c4
 obtain ⟨mm,rfl⟩:∃ mm,mm=k:=⟨_,rfl⟩
 go_loopw [6] (λi wr=>∃ k:Nat,k<=mm/\i=.int .i64 k/\Aside (Below G G wr)) (λi _=>mm - (intOf i).toNat)
 case atStart=>exact ⟨0,Q8 _,rfl,Qz _ _⟩
 obtain ⟨k,hk,rfl,J⟩:=hrel
 have A:=Qq (show Below G G wr from J)
 have c4:=(A.o.cell (p:=⟨w,4,none⟩) I.o.1).trans I.o.2
 clear J
 by_cases hlt:k<mm
 ·have aQ:(0:Int)<=(k:Int):=Ia
  have aR:(k:Int)<(mm:Int):=Ia
  obtain ⟨y,V⟩:∃ y,ks[k]?=some y:=⟨_,Qx (by rw [HM.o];exact hlt)⟩
  obtain ⟨b,bT,q3,l3,q4,l4,rfl,aC,aT,d0,d1,d2,d3,d4⟩:=(bA.o.below (D.o.n A.o)).val V
  have bC:=Qq aT;have aZ:=Qq (HI.o y (Qy V))
  clear aT V
  go_wp2_with (go_at_call 92;refine (aZ.o _ _ _ bC.o).mono ?_;rintro e w5 ⟨rfl,aO⟩;have aX:=Qq aO;clear aO)
  go_roundw
  case measure=>simp [intOf];omega
  case rel=>exact ⟨k+1,Ia,by go_num,A.o.n aX.o⟩
 have aF:k=mm:=Ia
 subst aF
 go_wp2_with fail
 go_ret
 exact ⟨rfl,D.o.n A.o⟩
theorem T0 (v:Val) (hv:Y7 v):Xr v:=by
 induction hv with
 | int n=>exact Tu n [] rfl (λx h=>by simp at h)
 | text s=>exact Pp s [] rfl (λx h=>by simp at h)
 | bool n hn=>
  rcases hn with rfl | rfl
  ·exact Oi [] rfl (λx h=>by simp at h)
  exact Np [] rfl (λx h=>by simp at h)
 | make s kids hs hl hk ih=>exact Pc s hs kids hl ih
 | record names kids hl hn hs hk ih=>exact Wy names kids hl hn hs ih
 | list kids hk ih=>exact Pd kids ih
def Kh (r s:Rel):Bool:=Iu eqv r.rows s.rows&&decide (r.table=s.table)
end Go.Proofs.YtdpibdpbgokmoaaGreatDoor
