import Derived.Test.YtdpibdpbgokmoaaGreatDoorC09
set_option maxRecDepth 100000
set_option maxHeartbeats 400000000
namespace Go.Proofs.YtdpibdpbgokmoaaGreatDoor
open Go.RowKit
theorem J8 (x y:Int) (w:World):Calls Tryz.prog 70 #[x,y] w fun e w'=>e=.returned (.int .i64 (ord x y))∧w=w':=by
 have key:∀ r,ord x y=r→Calls Tryz.prog 70 #[x,y] w fun e w'=>e=.returned (.int .i64 r)∧w=w':=by
  intro r A
  by_cases h1:x<y
  ·have:r=-1:=by rw [← A];unfold ord;rw [if_pos h1]
   subst this
   clear A
   go_enter Tryz.func70,Tryz.ntmps70
   go_wp2_with fail
   go_ret
   exact ⟨rfl,rfl⟩
  by_cases h2:y<x
  ·have:r=1:=by rw [← A];unfold ord;rw [if_neg h1,if_pos h2]
   subst this
   clear A
   go_enter Tryz.func70,Tryz.ntmps70
   go_wp2_with fail
   go_ret
   exact ⟨rfl,rfl⟩
  have:r=0:=by rw [← A];unfold ord;rw [if_neg h1,if_neg h2]
  subst this
  clear A
  go_enter Tryz.func70,Tryz.ntmps70
  go_wp2_with fail
  go_ret
  exact ⟨rfl,rfl⟩
 exact key _ rfl
theorem Eb (x y:ByteArray) (w:World):Calls Tryz.prog 71 #[.string x,.string y] w fun e w'=>e=.returned (.int .i64 (Yf (bl x) (bl y)))∧w=w':=by
 obtain ⟨A,D,G⟩:=Vi (bl x) (bl y)
 obtain ⟨M,N,O⟩:=Vi (bl y) (bl x)
 have J:Yf (bl x) (bl y)=- Yf (bl y) (bl x):=by
  have:=Vs (bl x) (bl y) [] []
  have h:=Vs (bl y) (bl x) [] []
  simp only [List.append_nil,lex,Kw] at this h
  rw [← this,← h];exact D8 _ _
 rw [← Dp x,← Dp y] at A D G M N O J ⊢
 obtain ⟨c,T⟩:=eX (Yf x.toList y.toList)
 obtain ⟨d,U⟩:=eX (Yf y.toList x.toList)
 rw [T] at A D G J ⊢
 rw [U] at M N O J
 have HC:=Qq T;have HD:=Qq U
 clear T U
 rcases G with G | G | G <;> subst G
 ·have k1:Op.bytesLess x.toList y.toList=true:=A.trans Qqx
  clear A D M N O J
  go_enter Tryz.func71,Tryz.ntmps71
  go_wp2_with fail
  go_ret
  exact ⟨rfl,rfl⟩
 ·have k1:Op.bytesLess x.toList y.toList=false:=A.trans Qqx
  have I:d=0:=Qqj
  subst I
  have k2:(x.toList==y.toList)=true:=D.trans Qqx
  clear A D M N O J
  go_enter Tryz.func71,Tryz.ntmps71
  go_wp2_with fail
  go_ret
  exact ⟨rfl,rfl⟩
 have k1:Op.bytesLess x.toList y.toList=false:=A.trans Qqx
 have I:d=-1:=Qqj
 subst I
 have k2:(x.toList==y.toList)=false:=D.trans Qqx
 clear A D M N O J
 go_enter Tryz.func71,Tryz.ntmps71
 go_wp2_with fail
 go_ret
 exact ⟨rfl,rfl⟩
theorem cmpN_end {a b:List Bs} {k:Nat} (ha:k≤a.length) (hb:k≤b.length) (h:k=a.length∨k=b.length):Ky (a.drop k) (b.drop k)=ord a.length b.length:=by
 by_cases h1:k=a.length
 ·rw [Qu (by omega:a.length≤k)]
  by_cases h2:k=b.length
  ·rw [Qu Qqj];unfold ord;rw [if_neg Qqj,if_neg Qqj];rfl
  rw [Qp (by omega:k<b.length)];unfold ord;rw [if_pos Qqj];rfl
 have h2:k=b.length:=Qqj
 rw [Qu (by omega:b.length≤k),Qp (by omega:k<a.length)];unfold ord;rw [if_neg Qqj,if_pos Qqj];rfl
theorem Wr {a b:List Val} {k:Nat} (ha:k≤a.length) (hb:k≤b.length) (h:k=a.length∨k=b.length):Vy (a.drop k) (b.drop k)=ord a.length b.length:=by
 by_cases h1:k=a.length
 ·rw [Qu (by omega:a.length≤k)]
  by_cases h2:k=b.length
  ·rw [Qu Qqj];unfold ord;rw [if_neg Qqj,if_neg Qqj];simp [Vy]
  rw [Qp (by omega:k<b.length)];unfold ord;rw [if_pos Qqj];simp [Vy]
 have h2:k=b.length:=Qqj
 rw [Qu (by omega:b.length≤k),Qp (by omega:k<a.length)];unfold ord;rw [if_neg Qqj,if_pos Qqj];simp [Vy]
theorem Re (S S':Nat→Prop) (av bv:Value) (a b:List Bs) (w:World) (ha:Sl Zh S w av a) (hb:Sl Zh S' w bv b):
  Calls Tryz.prog 72 #[av,bv] w fun e w'=>e=.returned (.int .i64 (Ky a b))∧Gr w w':=by
 obtain ⟨pa,ca,rfl,aL⟩:=ha.len
 obtain ⟨pb,cb,rfl,aM⟩:=hb.len
 have HA:=Qq ha;have HB:=Qq hb
 obtain ⟨r,hr⟩:=eX (Ky a b)
 rw [hr]
 have HR:=Qq hr
 have HO:=Qq (fun W=>J8 a.length b.length W)
 clear ha hb hr
 go_enter Tryz.func72,Tryz.ntmps72
 go_wp2_with fail
 go_loopw [5,6] (fun i _ wr=>∃ k:Nat,k≤a.length∧k≤b.length∧i=.int .i64 k∧Aside (Ky (a.drop k) (b.drop k)=r)∧Aside (Gr w wr)) (fun i _ _=>a.length - (intOf i).toNat)
 case atStart=>exact ⟨0,Q8 _,Q8 _,rfl,HR.out,Gr.refl _⟩
 obtain ⟨k,aG,aH,rfl,U,V⟩:=hrel
 have G:=Qq (show Gr w wr from V)
 clear V
 by_cases D:k<a.length∧k<b.length
 ·obtain ⟨D,J⟩:=D
  obtain ⟨x,hx⟩:∃ x,a[k]?=some x:=⟨_,Qx D⟩
  have N:a.drop k=x::a.drop (k+1):=by
   rw [Qp D];rw [Qx D] at hx;cases hx;rfl
  obtain ⟨ga,oa,rfl,c1,l1⟩:=(HA.out.below G.out.bl).str hx
  obtain ⟨y,hy⟩:∃ y,b[k]?=some y:=⟨_,Qx J⟩
  have O:b.drop k=y::b.drop (k+1):=by
   rw [Qp J];rw [Qx J] at hy;cases hy;rfl
  obtain ⟨gb,ob,rfl,c2,l2⟩:=(HB.out.below G.out.bl).str hy
  have M:Ky (a.drop k) (b.drop k)=r:=U
  rw [N,O] at M
  have HS:=Qq (Eb ⟨x.toArray⟩ ⟨y.toArray⟩)
  have T:Yf (bl ⟨x.toArray⟩) (bl ⟨y.toArray⟩)=Yf x y:=rfl
  rw [T] at HS
  have I:thn (Yf x y) (Ky (a.drop (k+1)) (b.drop (k+1)))=r:=M
  generalize Yf x y=c at HS I
  have aJ:(0:Int)≤(k:Int):=Qqj
  have Y:(k:Int)<a.length:=Qqj
  have aK:(k:Int)<b.length:=Qqj
  by_cases hc0:c=0
  ·subst hc0
   have HC:=Qq I
   clear U I M N O hx hy T
   go_wp2_with fail
   go_quiet ((go_at_call 71;exact Calls.quiet_of_same ((HS.out _).mono fun _ _ h=>⟨h.1,h.2.symm⟩)))
   go_wp2_with fail
   go_roundw
   case rel=>exact ⟨k+1,Qqj,Qqj,by go_num,HC.out,G.out.thn ⟨_,#[],by rw [Sort.grow_empty]⟩⟩
   case measure=>simp [intOf];omega
  have aN:(c != 0)=true:=by rw [bne_iff_ne];exact hc0
  have aE:c=r:=by rw [← I];unfold thn;rw [if_neg hc0]
  subst aE
  clear U I M N O hx hy T hc0
  go_wp2_with fail
  go_quiet ((go_at_call 71;exact Calls.quiet_of_same ((HS.out _).mono fun _ _ h=>⟨h.1,h.2.symm⟩)))
  go_wp2_with fail
  go_ret
  exact ⟨rfl,G.out.thn ⟨_,#[],by rw [Sort.grow_empty]⟩⟩
 have A:k=a.length∨k=b.length:=Qqj
 have Z:r=ord a.length b.length:=by rw [← cmpN_end aG aH A];exact (show Ky (a.drop k) (b.drop k)=r from U).symm
 generalize ord a.length b.length=r2 at Z HO
 subst Z
 rcases A with A | A
 ·have Y:¬ (k:Int)<a.length:=Qqj
  have aF:decide (k<a.length)=false:=by simp;omega
  clear U D A
  go_wp2_with (go_at_call 70;refine (HO.out _).mono ?_;rintro e w' ⟨rfl,rfl⟩)
  go_ret
  exact ⟨rfl,G.out⟩
 have Y:¬ (k:Int)<b.length:=Qqj
 have aF:decide (k<b.length)=false:=by simp;omega
 clear U D A
 go_wp2_with (go_at_call 70;refine (HO.out _).mono ?_;rintro e w' ⟨rfl,rfl⟩)
 all_goals (go_ret;exact ⟨rfl,G.out⟩)
def Nc (x:Val):Prop:=∀ (y:Val) (S S':Nat→Prop) (cx cy:List Value) (w:World),Z9 S w cx x→Z9 S' w cy y →
 Calls Tryz.prog 23 #[cx,cy] w fun e w'=>e=.returned (.int .i64 (Yz x y))∧Gr w w'
theorem rkids_of (S S':Nat→Prop) (av bv:Value) (a b:List Val) (hC:∀ x ∈ a,Nc x) (w:World) (ha:Sl Ze S w av a) (hb:Sl Ze S' w bv b):
  Calls Tryz.prog 73 #[av,bv] w fun e w'=>e=.returned (.int .i64 (Vy a b))∧Gr w w':=by
 obtain ⟨pa,ca,rfl,aR⟩:=ha.len
 obtain ⟨pb,cb,rfl,aS⟩:=hb.len
 obtain ⟨HA,HB,HC⟩:=Qqo ha hb hC
 obtain ⟨r,hr⟩:=eX (Vy a b)
 rw [hr]
 have HR:=Qq hr
 have HO:=Qq (fun W=>J8 a.length b.length W)
 have mixed:Tryz.prog.follows .mixedOrders=true:=Qqy
 clear ha hb hr hC
 go_enter Tryz.func73,Tryz.ntmps73
 go_wp2_with fail
 go_loopw [5,6] (fun i _ wr=>∃ k:Nat,k≤a.length∧k≤b.length∧i=.int .i64 k∧Aside (Vy (a.drop k) (b.drop k)=r)∧Aside (Gr w wr)) (fun i _ _=>a.length - (intOf i).toNat)
 case atStart=>exact ⟨0,Q8 _,Q8 _,rfl,HR.out,Gr.refl _⟩
 obtain ⟨k,aM,aN,rfl,V,U⟩:=hrel
 have G:=Qq (show Gr w wr from U)
 clear U
 by_cases D:k<a.length∧k<b.length
 ·obtain ⟨D,N⟩:=D
  obtain ⟨x,hx⟩:∃ x,a[k]?=some x:=⟨_,Qx D⟩
  have Y:a.drop k=x::a.drop (k+1):=by
   rw [Qp D];rw [Qx D] at hx;cases hx;rfl
  obtain ⟨ga,oa,p3,k3,p4,k4,rfl,J,aC,d0,d1,d2,d3,d4⟩:=(HA.out.below G.out.bl).val hx
  obtain ⟨y,hy⟩:∃ y,b[k]?=some y:=⟨_,Qx N⟩
  have Z:b.drop k=y::b.drop (k+1):=by
   rw [Qp N];rw [Qx N] at hy;cases hy;rfl
  obtain ⟨gb,ob,q3,l3,q4,l4,rfl,M,aD,e0,e1,e2,e3,e4⟩:=(HB.out.below G.out.bl).val hy
  have O:Vy (a.drop k) (b.drop k)=r:=V
  rw [Y,Z] at O
  have I:thn (Yz x y) (Vy (a.drop (k+1)) (b.drop (k+1)))=r:=by simpa [Vy] using O
  have HX:=Qq (HC.out x (Qy hx) y S S')
  have aI:=Qq aC;have aJ:=Qq aD
  generalize Yz x y=c at HX I
  have aP:(0:Int)≤(k:Int):=Qqj
  have aA:(k:Int)<a.length:=Qqj
  have aQ:(k:Int)<b.length:=Qqj
  clear aC aD V O Y Z hx hy
  have T:∀ n os,Calls Tryz.prog 23 #[.agg (vcs x p3 k3 p4 k4).toArray,.agg (vcs y q3 l3 q4 l4).toArray] (Sort.grow (wr.drewN n) os) fun e w'=>e=.returned (.int .i64 c)∧Gr (Sort.grow (wr.drewN n) os) w':=fun n os=>HX.out _ _ _ (aI.out.move (.of_below (Yg _ _ _).bl) Qzx) (aJ.out.move (.of_below (Yg _ _ _).bl) Qzx)
  unfold vcs at T
  have D0:=Zs J d0;have D1:=Zs J d1;have D2:=Zs J d2;have D3:=Zs J d3;have D4:=Zs J d4
  have E0:=Zs M e0;have E1:=Zs M e1;have E2:=Zs M e2;have E3:=Zs M e3;have E4:=Zs M e4
  clear d0 d1 d2 d3 d4 e0 e1 e2 e3 e4
  by_cases hc0:c=0
  ·subst hc0
   have aG:=Qq I
   clear I
   go_wp2_with fail
   go_quiet_grown (first | (go_at_call 23;refine Calls.grown_of (T _ _)))
   go_wp2_with fail
   go_roundw
   case rel=>exact ⟨k+1,Qqj,Qqj,by go_num,aG.out,G.out.thn (Yg _ _ _)⟩
   case measure=>simp [intOf];omega
  have aT:(c != 0)=true:=by rw [bne_iff_ne];exact hc0
  have aK:c=r:=by rw [← I];unfold thn;rw [if_neg hc0]
  subst aK
  clear I hc0
  go_wp2_with fail
  go_quiet_grown (first | (go_at_call 23;refine Calls.grown_of (T _ _)))
  go_wp2_with fail
  go_ret
  exact ⟨rfl,G.out.thn (Yg _ _ _)⟩
 have A:k=a.length∨k=b.length:=Qqj
 have aB:r=ord a.length b.length:=by rw [← Wr aM aN A];exact (show Vy (a.drop k) (b.drop k)=r from V).symm
 generalize ord a.length b.length=r2 at aB HO
 subst aB
 rcases A with A | A
 ·have aA:¬ (k:Int)<a.length:=Qqj
  have aL:decide (k<a.length)=false:=by simp;omega
  clear V D A
  go_wp2_with (go_at_call 70;refine (HO.out _).mono ?_;rintro e w' ⟨rfl,rfl⟩)
  go_ret
  exact ⟨rfl,G.out⟩
 have aA:¬ (k:Int)<b.length:=Qqj
 have aL:decide (k<b.length)=false:=by simp;omega
 clear V D A
 go_wp2_with (go_at_call 70;refine (HO.out _).mono ?_;rintro e w' ⟨rfl,rfl⟩)
 all_goals (go_ret;exact ⟨rfl,G.out⟩)
theorem Aa (k n:Int) (s:Bs) (ns:List Bs) (ks:List Val) (ih:∀ x ∈ ks,Nc x):Nc (.mk k n s ns ks):=by
 rintro ⟨k',M,T,D,A⟩ S S' cx cy w hx hy
 obtain ⟨nv,kv,rfl,hs,hn,hk⟩:=Vn.1 hx
 obtain ⟨aH,aG,rfl,aQ,aF,aE⟩:=Vn.1 hy
 have hN:∀ w',Below w w w'→Calls Tryz.prog 72 #[nv,aH] w' fun e V=>e=.returned (.int .i64 (Ky ns D))∧Gr w' V:=
  fun w' hb=>Re S S' nv aH ns D w' (hn.below hb) (aF.below hb)
 have hK:∀ w',Below w w w'→Calls Tryz.prog 73 #[kv,aG] w' fun e V=>e=.returned (.int .i64 (Vy ks A))∧Gr w' V:=
  fun w' hb=>rkids_of S S' kv aG ks A ih w' (hk.below hb) (aE.below hb)
 have hS:∀ w',Calls Tryz.prog 71 #[sv s,sv T] w' fun e V=>e=.returned (.int .i64 (Yf s T))∧w'=V:=fun w'=>Eb _ _ w'
 obtain ⟨HN,HK,HS⟩:=Qqo hN hK hS
 obtain ⟨cb,I⟩:=eX (Yf s T)
 obtain ⟨cn,J⟩:=eX (Ky ns D)
 obtain ⟨cv,G⟩:=eX (Vy ks A)
 rw [I] at HS;rw [J] at HN;rw [G] at HK
 have aP:=Qq (fun o1 o2=>Zt w o1 o2)
 clear hN hK hS hx hy ih hn aF hk aE
 by_cases hkk:k=k'
 ·subst hkk
  by_cases h0:k=0
  ·subst h0
   rw [show Yz (.mk 0 n s ns ks) (.mk 0 M T D A)=ord n M by simp [Yz]]
   have Z:=Qq (fun w=>J8 n M w)
   generalize ord n M=r at Z ⊢
   clear I J G
   go_enter Tryz.func23,Tryz.ntmps23
   go_wp2_with (go_at_call 70;refine (Z.out _).mono ?_;rintro e w' ⟨rfl,rfl⟩)
   go_ret
   exact ⟨rfl,Vo _ _ _⟩
  by_cases h2:k=2
  ·subst h2
   rw [show Yz (.mk 2 n s ns ks) (.mk 2 M T D A)=ord n M by simp [Yz]]
   have Z:=Qq (fun w=>J8 n M w)
   generalize ord n M=r at Z ⊢
   clear I J G h0
   go_enter Tryz.func23,Tryz.ntmps23
   go_wp2_with (go_at_call 70;refine (Z.out _).mono ?_;rintro e w' ⟨rfl,rfl⟩)
   go_ret
   exact ⟨rfl,Vo _ _ _⟩
  by_cases h1:k=1
  ·subst h1
   rw [show Yz (.mk 1 n s ns ks) (.mk 1 M T D A)=cb by simp [Yz,I]]
   clear I J G h0 h2
   go_enter Tryz.func23,Tryz.ntmps23
   go_wp2_with (go_at_call 71;refine (HS.out _).mono ?_;rintro e w' ⟨rfl,rfl⟩)
   go_ret
   exact ⟨rfl,Vo _ _ _⟩
  by_cases h3:k=3
  ·subst h3
   have N:Yz (.mk 3 n s ns ks) (.mk 3 M T D A)=thn cb cv:=by simp [Yz,I,G]
   clear I J G h0 h2 h1
   by_cases hz:cb=0
   ·subst hz
    rw [N,Us]
    clear N
    go_enter Tryz.func23,Tryz.ntmps23
    go_wp2_with (first | (go_at_call 71;refine (HS.out _).mono ?_;rintro e w' ⟨rfl,rfl⟩) | (go_at_call 73;refine (HK.out _ (Zt _ _ _)).mono ?_;rintro e w' ⟨rfl,hw⟩;have HW:=Qq ((Vo w _ _).thn hw);clear hw))
    go_ret
    exact ⟨rfl,HW.out⟩
   have hq:(cb != 0)=true:=by rw [bne_iff_ne];exact hz
   have U:Yz (.mk 3 n s ns ks) (.mk 3 M T D A)=cb:=by rw [N];unfold thn;rw [if_neg hz]
   rw [U]
   clear N U hz
   go_enter Tryz.func23,Tryz.ntmps23
   go_wp2_with (go_at_call 71;refine (HS.out _).mono ?_;rintro e w' ⟨rfl,rfl⟩)
   go_ret
   exact ⟨rfl,Vo _ _ _⟩
  by_cases h4:k=4
  ·subst h4
   have N:Yz (.mk 4 n s ns ks) (.mk 4 M T D A)=thn cn cv:=by simp [Yz,J,G]
   clear I J G h0 h2 h1 h3
   by_cases hz:cn=0
   ·subst hz
    rw [N,Us]
    clear N
    go_enter Tryz.func23,Tryz.ntmps23
    go_wp2_with (first | (go_at_call 72;refine (HN.out _ (Zt _ _ _)).mono ?_;rintro e wn ⟨rfl,O⟩;have Y:=Qq ((Vo w _ _).thn O);obtain ⟨aN,aO⟩:=Ho O.bl;clear O) | (go_at_call 73;refine (HK.out _ Y.out.bl).mono ?_;rintro e w' ⟨rfl,hw⟩;have HW:=Qq (Y.out.thn hw);clear hw))
    go_ret
    exact ⟨rfl,HW.out⟩
   have hq:(cn != 0)=true:=by rw [bne_iff_ne];exact hz
   have U:Yz (.mk 4 n s ns ks) (.mk 4 M T D A)=cn:=by rw [N];unfold thn;rw [if_neg hz]
   rw [U]
   clear N U hz
   go_enter Tryz.func23,Tryz.ntmps23
   go_wp2_with (go_at_call 72;refine (HN.out _ (Zt _ _ _)).mono ?_;rintro e wn ⟨rfl,O⟩;have Y:=Qq ((Vo w _ _).thn O);obtain ⟨aN,aO⟩:=Ho O.bl;clear O)
   go_ret
   exact ⟨rfl,Y.out⟩
  by_cases h5:k=5
  ·subst h5
   rw [show Yz (.mk 5 n s ns ks) (.mk 5 M T D A)=cv by simp [Yz,G]]
   clear I J G h0 h2 h1 h3 h4
   go_enter Tryz.func23,Tryz.ntmps23
   go_wp2_with (go_at_call 73;refine (HK.out _ (Zt _ _ _)).mono ?_;rintro e w' ⟨rfl,hw⟩;have HW:=Qq ((Vo w _ _).thn hw);clear hw)
   go_ret
   exact ⟨rfl,HW.out⟩
  have N:Yz (.mk k n s ns ks) (.mk k M T D A)=0:=by simp [Yz,h0,h1,h2,h3,h4,h5]
  rw [N]
  have q0:(k==0)=false:=by simpa using h0
  have q1:(k==1)=false:=by simpa using h1
  have q2:(k==2)=false:=by simpa using h2
  have q3:(k==3)=false:=by simpa using h3
  have q4:(k==4)=false:=by simpa using h4
  have q5:(k==5)=false:=by simpa using h5
  clear N I J G h0 h1 h2 h3 h4 h5
  go_enter Tryz.func23,Tryz.ntmps23
  go_wp2_with fail
  go_ret
  exact ⟨rfl,Vo _ _ _⟩
 have N:Yz (.mk k n s ns ks) (.mk k' M T D A)=ord k k':=by simp [Yz,hkk]
 rw [N]
 have hq:(k != k')=true:=by rw [bne_iff_ne];exact hkk
 have Z:=Qq (fun w=>J8 k k' w)
 generalize ord k k'=r at Z ⊢
 clear N I J G hkk
 go_enter Tryz.func23,Tryz.ntmps23
 go_wp2_with (go_at_call 70;refine (Z.out _).mono ?_;rintro e w' ⟨rfl,rfl⟩)
 go_ret
 exact ⟨rfl,Vo _ _ _⟩
theorem rcmpAt:∀ x:Val,Nc x
 | .mk k n s ns ks=>Aa k n s ns ks fun x _=>rcmpAt x
termination_by x=>SizeOf.sizeOf x
decreasing_by
 have:=List.sizeOf_lt_of_mem ‹_ ∈ ks›
 simp only [Val.mk.sizeOf_spec]
 omega
theorem Dv (S S':Nat→Prop) (a b:Val) (ca cb:List Value) (w:World) (ha:Z9 S w ca a) (hb:Z9 S' w cb b):
  Calls Tryz.prog 23 #[ca,cb] w fun e w'=>e=.returned (.int .i64 (Yz a b))∧Gr w w':=rcmpAt a b S S' ca cb w ha hb
open Go.RowKit Go.Shelf Go.Lib Tryz
def On (v:Value) (rvs:List Value):Nat→Prop:=fun b=>v.ownBlock≠some b∧∀ rv ∈ rvs,rv.ownBlock≠some b
def Yc (l:List Rel) (rvs:List Value):List (List Value):=List.zipWith (fun r rv=>[sv r.table,rv]) l rvs
structure U3 (B:Nat) (w:World) (v:Value) (l:List Rel) (rvs:List Value):Prop where
 len:rvs.length=l.length
 row:w.ownsRow B 70 2 v l.length (Yc l rvs).flatten
 tl:∀ r ∈ l,r.table.length≤1000000
 rows:∀ (i:Nat) (r:Rel) (rv:Value),l[i]?=some r→rvs[i]?=some rv→∃ css,Own Ze 36 (On v rvs) B w rv r.rows css
 apart:∀ (i j:Nat) (a b:Value) (g:Nat),rvs[i]?=some a→rvs[j]?=some b→a.ownBlock=some g→b.ownBlock=some g→i=j
theorem Jm {l:List Rel} {rvs:List Value}:∀ c ∈ Yc l rvs,c.length=2:=by
 intro c D
 unfold Yc at D
 rw [List.mem_iff_getElem?] at D
 obtain ⟨i,A⟩:=D
 rw [List.getElem?_zipWith] at A
 split at A
 ·cases A;rfl
 cases A
theorem Kr {l:List Rel} {rvs:List Value} {i:Nat} {r:Rel} {rv:Value} (h1:l[i]?=some r) (h2:rvs[i]?=some rv):(Yc l rvs)[i]?=some [sv r.table,rv]:=by
 unfold Yc
 rw [List.getElem?_zipWith,h1,h2]
theorem Un {l:List Rel} {rvs:List Value} (h:rvs.length=l.length):(Yc l rvs).length=l.length:=by
 unfold Yc;rw [List.length_zipWith,h,Nat.min_self]
theorem Oe {l:List Rel} {rvs:List Value} {i:Nat} {r:Rel} (rv':Value) (zs:List Val) (hi:l[i]?=some r) (h:rvs.length=l.length):
  (Yc l rvs).flatten.set (i*2+1) rv'=(Yc (l.set i ⟨r.table,zs⟩) (rvs.set i rv')).flatten:=by
 induction l generalizing i rvs with
 | nil=>simp at hi
 | cons a l ih=>
  cases rvs with
  | nil=>simp at h
  | cons b rvs=>
   cases i with
   | zero=>
    simp at hi;subst hi
    simp [Yc]
   | succ i=>
    have:=ih (rvs:=rvs) (i:=i) (by simpa using hi) (by simpa using h)
    simp only [Yc,List.zipWith_cons_cons,List.flatten_cons,List.set_cons_succ] at this ⊢
    rw [← this,show (i+1)*2+1=([sv a.table,b]:List Value).length+(i*2+1) by simp;omega,List.set_append_right _ _ (Nat.le_add_right _ _),Nat.add_sub_cancel_left]
theorem U3.below {B:Nat} {w w':World} {v:Value} {l:List Rel} {rvs:List Value} (h:U3 B w v l rvs) (hb:Below w w w'):U3 B w' v l rvs:=
 ⟨h.len,Kf h.row hb,h.tl,fun i r rv h1 h2=>(h.rows i r rv h1 h2).imp fun _ ho=>ho.below hb,h.apart⟩
theorem U3.sl {B:Nat} {w:World} {v:Value} {l:List Rel} {rvs:List Value} (h:U3 B w v l rvs) (hl:l.length≤1000000) (hr:∀ r ∈ l,r.rows.length≤1000000) (S':Nat→Prop) (h1:∀ b,B≤b→S' b) (h2:∀ b,b<w.heap.size→On v rvs b→S' b):Sl Y7 S' w v l:=by
 have G:Cs Y7 S' w (Yc l rvs) l:=by
  refine ⟨Un h.len,fun i c x hc D=>?_⟩
  have hi:=(Qj D).1
  obtain ⟨rv,A⟩:∃ rv,rvs[i]?=some rv:=⟨_,Qx (by rw [h.len];exact hi)⟩
  rw [Kr D A] at hc
  cases hc
  obtain ⟨css,ho⟩:=h.rows i x rv D A
  exact ⟨rv,rfl,h.tl x (Qy D),ho.sl (hr x (Qy D)) h1 h2⟩
 rcases h.row.2 with ⟨rfl,h0⟩ | ⟨g,cap,I,rfl,hB,hg,_,_,_,ht⟩
 ·rw [Zy h0];exact Sl.nil _ _ _
 refine Sl.of_css (css:=Yc l rvs) hl G (h1 g hB) (Array.getElem?_eq_some_iff.1 hg).1 (fun j u hu=>?_)
 rw [Nat.zero_add];exact E7 hg ht hu
theorem U3.put {B:Nat} {w w1:World} {g cap:Nat} {l:List Rel} {rvs:List Value} {i:Nat} {r:Rel} {rv rv':Value} {zs:List Val} (h:U3 B w (.slice (some ⟨g,0,none⟩) l.length cap) l rvs) (hi:l[i]?=some r) (hrv:rvs[i]?=some rv)
  (ho:∃ css,Own Ze 36 (On (.slice (some ⟨g,0,none⟩) l.length cap) rvs) B w1 rv' zs css) (hg:w.grownBy w1 rv.ownBlock) (hat:rv'.ownBlock=rv.ownBlock∨∀ g',rv'.ownBlock=some g'→w.heap.size≤g'):
  U3 B (w1.setCell ⟨g,i*2+1,none⟩ rv') (.slice (some ⟨g,0,none⟩) l.length cap) (l.set i ⟨r.table,zs⟩) (rvs.set i rv'):=by
 have I:=(Qj hi).1
 have aD:=(h.row.lt g rfl).2
 have aH:=(h.row.lt g rfl).1
 obtain ⟨aG,aE⟩:=h.rows i r rv hi hrv
 have Z:some g≠rv.ownBlock:=fun e=>Ym h.row aE.row Qqx rfl e.symm
 have aA:some g≠rv'.ownBlock:=by
  intro e
  rcases hat with A | A
  ·exact Z (e.trans A)
  have:=A g e.symm
  omega
 have T:w1.ownsRow B 70 2 (.slice (some ⟨g,0,none⟩) l.length cap) l.length (Yc l rvs).flatten:=by
  refine ⟨h.row.1,?_⟩
  rcases h.row.2 with hn | ⟨g',cap',cur,e,hB,hh,rest⟩
  ·exact .inl hn
  simp only [Qr,Zv,Addr.mk.injEq] at e
  obtain ⟨⟨rfl,_⟩,_,rfl⟩:=e
  exact .inr ⟨_,_,cur,rfl,hB,(hg.block _ aD Z).trans hh,rest⟩
 have O:∀ b,b<w.heap.size→On (.slice (some ⟨g,0,none⟩) l.length cap) rvs b→On (.slice (some ⟨g,0,none⟩) l.length cap) (rvs.set i rv') b:=by
  rintro b hb ⟨f1,f2⟩
  refine ⟨f1,fun u J=>?_⟩
  rcases List.mem_or_eq_of_mem_set J with A | rfl
  ·exact f2 u A
  intro e
  rcases hat with A | A
  ·exact f2 rv (Qy hrv) (A ▸ e)
  have:=A b e;omega
 refine ⟨by rw [List.length_set,List.length_set];exact h.len,?_,?_,?_,?_⟩
 ·rw [List.length_set,← Oe rv' zs hi h.len]
  exact (T.stored (i*2+1) rv').1
 ·intro x G
  rcases List.mem_or_eq_of_mem_set G with A | rfl
  ·exact h.tl x A
  exact h.tl r (Qy hi)
 ·intro j x u G J
  by_cases e:j=i
  ·subst e
   rw [List.getElem?_set_self (by exact I)] at G
   rw [List.getElem?_set_self (by rw [h.len];exact I)] at J
   cases G;cases J
   obtain ⟨css,ho⟩:=ho
   refine ⟨css,⟨?_,?_⟩⟩
   ·refine ⟨ho.row.1,?_⟩
    rcases ho.row.2 with hn | ⟨g',cap',cur,e,hB,hh,rest⟩
    ·exact .inl hn
    refine .inr ⟨g',cap',cur,e,hB,?_,rest⟩
    rw [Za (by intro U;subst e;have e3:g'=g:=U;exact aA (by rw [← e3];rfl))];exact hh
   refine ho.cs.move (fun b D Y=>Za (fun e=>D.1.1 (by rw [e];rfl))) (fun b hb D=>⟨⟨D.1.1,fun u J=>?_⟩,D.2⟩)
   rcases List.mem_or_eq_of_mem_set J with A | rfl
   ·exact D.1.2 u A
   exact fun e=>D.2 e.symm
  rw [List.getElem?_set_ne (Ne.symm e)] at G J
  obtain ⟨css,M⟩:=h.rows j x u G J
  have aF:u.ownBlock≠some g:=Ym h.row M.row Qqx rfl
  refine ⟨css,⟨?_,?_⟩⟩
  ·refine ⟨M.row.1,?_⟩
   rcases M.row.2 with hn | ⟨g',cap',cur,e1,hB,hh,rest⟩
   ·exact .inl hn
   refine .inr ⟨g',cap',cur,e1,hB,?_,rest⟩
   have aC:g'<w.heap.size:=(Array.getElem?_eq_some_iff.1 hh).1
   rw [Za (by intro U;subst e1;have e3:g'=g:=U;exact aF (by rw [← e3];rfl)),hg.block g' aC (fun U=>e (h.apart j i u rv g' J hrv (by rw [e1];rfl) U.symm))]
   exact hh
  refine M.cs.move (fun b D Y=>?_) (fun b hb D=>⟨O b hb D.1,D.2⟩)
  rw [Za (fun e=>D.1.1 (by rw [e];rfl)),hg.block b Y (fun e=>D.1.2 rv (Qy hrv) e.symm)]
 intro j k a b g' N hb A V
 by_cases ej:j=i
 ·by_cases ek:k=i
  ·omega
  subst ej
  rw [List.getElem?_set_self (by rw [h.len];exact I)] at N
  rw [List.getElem?_set_ne (Ne.symm ek)] at hb
  cases N
  obtain ⟨x,G⟩:∃ x,l[k]?=some x:=⟨_,Qx (by rw [← h.len];exact (Qj hb).1)⟩
  obtain ⟨css,M⟩:=h.rows k x b G hb
  have:=(M.row.lt g' V).2
  rcases hat with h3 | h3
  ·exact h.apart j k rv b g' hrv hb (h3 ▸ A) V
  have:=h3 g' A;omega
 rw [List.getElem?_set_ne (Ne.symm ej)] at N
 by_cases ek:k=i
 ·subst ek
  rw [List.getElem?_set_self (by rw [h.len];exact I)] at hb
  cases hb
  obtain ⟨x,G⟩:∃ x,l[j]?=some x:=⟨_,Qx (by rw [← h.len];exact (Qj N).1)⟩
  obtain ⟨css,M⟩:=h.rows j x a G N
  have:=(M.row.lt g' A).2
  rcases hat with h3 | h3
  ·exact h.apart j k a rv g' N hrv A (h3 ▸ V)
  have:=h3 g' V;omega
 rw [List.getElem?_set_ne (Ne.symm ek)] at hb
 exact h.apart j k a b g' N hb A V
def G6 (S:Nat→Prop) (w:World) (v:Val) (e:Ending) (w':World):Prop:=∃ cs',e=.returned (.agg cs'.toArray)∧Z9 S w' cs' v∧Below w w w'
def Xr (b:Bool):Val:=.mk 2 (if b then 1 else 0) [] [] []
theorem Lb (S:Nat→Prop) (w:World) (b:Bool):Z9 S w [.int .i64 2,.int .i64 (if b then 1 else 0),Qqe,Qqf,Qqf] (Xr b):=
 Y8 (s:=[]) Qqk (Sl.nil _ _ _) (Sl.nil _ _ _)
theorem X8 (w:World):Calls prog 134 #[.bool true] w fun e w'=>e=.returned (.tuple #[])∧w=w':=by
 go_enter func134,ntmps134
 go_wp2_with fail
 go_end0
 exact ⟨rfl,rfl⟩
theorem Uv (b:Bool) (S:Nat→Prop) (w:World):Calls prog 135 #[.bool b] w (G6 S w (Xr b)):=by
 cases b
 ·go_enter func135,ntmps135
  go_wp2_with fail
  generalize A:w.alloc _=W
  have hb:=eqB A (Zg _ _)
  have D:=eqH (b:=w.heap.size) A (Qw _ _)
  refine Q7 (v:=.agg #[.int .i64 2,Qqd,Qqe,Qqf,Qqf]) (by simp [results,results135,go_sem,Qk _ _ _ _ _ _ D]) rfl ⟨_,rfl,Lb _ _ false,hb⟩
 go_enter func135,ntmps135
 go_wp2_with fail
 generalize A:w.alloc _=W
 have hb:=eqB A (Zg _ _)
 have D:=eqH (b:=w.heap.size) A (Qw _ _)
 refine Q7 (v:=.agg #[.int .i64 2,.int .i64 1,Qqe,Qqf,Qqf]) (by simp [results,results135,go_sem,Qk _ _ _ _ _ _ D]) rfl ⟨_,rfl,Lb _ _ true,hb⟩
theorem Hc (k:Int) (S:Nat→Prop) (v:Val) (cs:List Value) (w:World) (h:Z9 S w cs v) (hk:v.kind=k):Calls prog 131 #[k,cs] w fun e w'=>e=.returned (.agg cs.toArray)∧Below w w w':=by
 have HM:=Qq X8
 obtain ⟨p3,k3,p4,k4,A,_⟩:=Z9.cells h
 simp only [vcs] at A
 subst A
 subst hk
 clear h
 go_enter func131,ntmps131
 go_wp2_with (go_at_call 134;refine (HM.out _).mono ?_;rintro e w' ⟨rfl,rfl⟩)
 generalize hW:(w.alloc _).alloc _=W
 have hb:=eqB hW (Zt _ _ _)
 have hR:=eqH (b:=w.heap.size+1) hW (Q6 _ _ _)
 refine Q7 (v:=.agg (Qqg v p3 k3 p4 k4)) (by simp [results,results131,go_sem,Qk _ _ _ _ _ _ hR]) rfl ⟨rfl,hb⟩
theorem fld1 (a b c d e:Value) (w:World):(Instr.field 36 (.agg #[a,b,c,d,e]) 1).run prog w=.ok b w:=by
 simp [Instr.field,go_sem,part,asAgg]
theorem truth_ok (b:Bool) (S:Nat→Prop) (cs:List Value) (w:World) (h:Z9 S w cs (Xr b)):Calls prog 90 #[cs] w fun e w'=>e=.returned (.bool b)∧Below w w w':=by
 have D:=Qq (fun W (hb:Below w w W)=>Hc 2 S (Xr b) cs W (Z9.move h (.of_below hb) Qzx) rfl)
 obtain ⟨N,J,O,M,A,_⟩:=Z9.cells h
 simp only [vcs] at A
 subst A
 clear h
 have I:(Xr b).kind=2:=rfl
 have hn:((Xr b).n==1)=b:=by cases b <;> rfl
 generalize Xr b=v at I hn D ⊢
 subst hn
 rw [I] at D ⊢
 clear I
 have G:Hid (∀ W,Below w w W→Calls prog 131 #[.int .i64 2,.agg #[.int .i64 2,v.n,v.s,.slice N v.names.length J,.slice O v.kids.length M]] W fun e w'=>e=.returned (.agg #[.int .i64 2,v.n,v.s,.slice N v.names.length J,.slice O v.kids.length M])∧Below W W w'):=D
 clear D
 have hf:=fld1 (.int .i64 2) (.int .i64 v.n) (.string ⟨v.s.toArray⟩) (.slice N v.names.length J) (.slice O v.kids.length M)
 go_enter func90,ntmps90
 go_wp2_with (go_at_call 131;refine (G.out _ (Zg _ _)).mono ?_;rintro e w' ⟨rfl,hw⟩)
 go_ret
 exact ⟨rfl,(Zg _ _).thn hw⟩
def noVal:List PanicEntry:=[{ v:=.iface 121 (.agg #[]),recovered:=false }]
def Bd (w:World) (e:Ending) (w':World):Prop:=e=.panicked noVal∧Below w w w'
def Xy (S:Nat→Prop) (w:World):Option Val→Ending→World→Prop
 | some v=>G6 S w v
 | none=>Bd w
theorem Fu (w:World):Calls prog 134 #[.bool false] w fun e w'=>e=.panicked noVal∧w=w':=by
 go_enter func134,ntmps134
 go_wp2_with fail
 exact ⟨rfl,rfl,rfl⟩
theorem of_no (k:Int) (S:Nat→Prop) (v:Val) (cs:List Value) (w:World) (h:Z9 S w cs v) (hk:v.kind≠k):Calls prog 131 #[k,cs] w (Bd w):=by
 have HM:=Qq Fu
 obtain ⟨p3,k3,p4,k4,A,_⟩:=Z9.cells h
 simp only [vcs] at A
 subst A
 have hq:(v.kind==k)=false:=by rw [beq_eq_false_iff_ne];exact hk
 clear h hk
 go_enter func131,ntmps131
 go_wp2_with (go_at_call 134;refine (HM.out _).mono ?_;rintro e w' ⟨rfl,rfl⟩)
 exact ⟨rfl,rfl,Zt _ _ _⟩
theorem Uf (S:Nat→Prop) (v:Val) (cs:List Value) (w:World) (h:Z9 S w cs v) (hk:v.kind=2):Calls prog 90 #[cs] w fun e w'=>e=.returned (.bool (v.n==1))∧Below w w w':=by
 have HO:=Qq (fun W (hb:Below w w W)=>Hc 2 S v cs W (Z9.move h (.of_below hb) Qzx) hk)
 obtain ⟨p3,k3,p4,k4,A,_⟩:=Z9.cells h
 simp only [vcs] at A
 subst A
 clear h hk
 obtain ⟨b,hb⟩:=eX ((v.n==1))
 rw [hb]
 have hf:=fun W=>fld1 (.int .i64 v.kind) (.int .i64 v.n) (.string ⟨v.s.toArray⟩) (.slice p3 v.names.length k3) (.slice p4 v.kids.length k4) W
 go_enter func90,ntmps90
 go_wp2_with (go_at_call 131;refine (HO.out _ (Zg _ _)).mono ?_;rintro e w' ⟨rfl,hw⟩;have HW:=Qq ((Zg w _).thn hw);clear hw)
 go_ret
 exact ⟨rfl,HW.out⟩
theorem O1 (S:Nat→Prop) (v:Val) (cs:List Value) (w:World) (h:Z9 S w cs v) (hk:v.kind≠2):Calls prog 90 #[cs] w (Bd w):=by
 have HO:=Qq (fun W (hb:Below w w W)=>of_no 2 S v cs W (Z9.move h (.of_below hb) Qzx) hk)
 obtain ⟨p3,k3,p4,k4,A,_⟩:=Z9.cells h
 simp only [vcs] at A
 subst A
 clear h hk
 go_enter func90,ntmps90
 go_wp2_with (go_at_call 131;refine (HO.out _ (Zg _ _)).mono ?_;rintro e w' ⟨rfl,hw⟩;have HW:=Qq ((Zg w _).thn hw);clear hw)
 exact ⟨rfl,rfl,HW.out⟩
end Go.Proofs.YtdpibdpbgokmoaaGreatDoor
