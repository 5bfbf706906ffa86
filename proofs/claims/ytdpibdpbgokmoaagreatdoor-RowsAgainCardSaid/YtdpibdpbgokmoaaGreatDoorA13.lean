import Derived.Test.YtdpibdpbgokmoaaGreatDoorA10
import Derived.Test.YtdpibdpbgokmoaaGreatDoorA12
set_option maxRecDepth 100000
set_option maxHeartbeats 400000000
namespace Go.Proofs.YtdpibdpbgokmoaaGreatDoor
open Go.RowKit
theorem Ju (x y:Int) (w:World):Calls Tryz.prog 70 #[x,y] w λe w'=>e=.returned (.int .i64 (ord x y))/\w=w':=by
 have key:∀ r,ord x y=r->Calls Tryz.prog 70 #[x,y] w λe w'=>e=.returned (.int .i64 r)/\w=w':=by
  intro r A
  by_cases h1:x<y
  ·have:r=-1:=by rw [<- A];unfold ord;rw [if_pos h1]
   subst this
   clear A
   go_enter Tryz.func70,Tryz.ntmps70
   go_wp2_with fail
   go_ret
   exact ⟨rfl,rfl⟩
  by_cases h2:y<x
  ·have:r=1:=by rw [<- A];unfold ord;rw [if_neg h1,if_pos h2]
   subst this
   clear A
   go_enter Tryz.func70,Tryz.ntmps70
   go_wp2_with fail
   go_ret
   exact ⟨rfl,rfl⟩
  have:r=0:=by rw [<- A];unfold ord;rw [if_neg h1,if_neg h2]
  subst this
  clear A
  go_enter Tryz.func70,Tryz.ntmps70
  go_wp2_with fail
  go_ret
  exact ⟨rfl,rfl⟩
 exact key _ rfl
theorem M1 (x y:ByteArray) (w:World):Calls Tryz.prog 71 #[.string x,.string y] w λe w'=>e=.returned (.int .i64 (Yi (bl x) (bl y)))/\w=w':=by
 obtain ⟨A,D,G⟩:=Vn (bl x) (bl y)
 obtain ⟨M,N,O⟩:=Vn (bl y) (bl x)
 have J:Yi (bl x) (bl y)=- Yi (bl y) (bl x):=by
  have:=Ux (bl x) (bl y) [] []
  have h:=Ux (bl y) (bl x) [] []
  simp only [List.append_nil,lex,Km] at this h
  rw [<- this,<- h];exact Kp _ _
 rw [<- Fb x,<- Fb y] at A D G M N O J |-
 obtain ⟨c,T⟩:=eX (Yi x.toList y.toList)
 obtain ⟨d,U⟩:=eX (Yi y.toList x.toList)
 rw [T] at A D G J |-
 rw [U] at M N O J
 have HC:=Qq T;have HD:=Qq U
 clear T U
 rcases G with G | G | G <;> subst G
 ·have k1:Op.bytesLess x.toList y.toList=true:=A.trans Ih
  clear A D M N O J
  go_enter Tryz.func71,Tryz.ntmps71
  go_wp2_with fail
  go_ret
  exact ⟨rfl,rfl⟩
 ·have k1:Op.bytesLess x.toList y.toList=false:=A.trans Ih
  have I:d=0:=Ia
  subst I
  have k2:(x.toList==y.toList)=true:=D.trans Ih
  clear A D M N O J
  go_enter Tryz.func71,Tryz.ntmps71
  go_wp2_with fail
  go_ret
  exact ⟨rfl,rfl⟩
 have k1:Op.bytesLess x.toList y.toList=false:=A.trans Ih
 have I:d=-1:=Ia
 subst I
 have k2:(x.toList==y.toList)=false:=D.trans Ih
 clear A D M N O J
 go_enter Tryz.func71,Tryz.ntmps71
 go_wp2_with fail
 go_ret
 exact ⟨rfl,rfl⟩
theorem cmpN_end {a b:List Bs} {k:Nat} (ha:k<=a.length) (hb:k<=b.length) (h:k=a.length\/k=b.length):Ks (a.drop k) (b.drop k)=ord a.length b.length:=by
 by_cases h1:k=a.length
 ·rw [Qu (by omega:a.length<=k)]
  by_cases h2:k=b.length
  ·rw [Qu Ia];unfold ord;rw [if_neg Ia,if_neg Ia];rfl
  rw [Qp (by omega:k<b.length)];unfold ord;rw [if_pos Ia];rfl
 have h2:k=b.length:=Ia
 rw [Qu (by omega:b.length<=k),Qp (by omega:k<a.length)];unfold ord;rw [if_neg Ia,if_pos Ia];rfl
theorem Qjd {a b:List Val} {k:Nat} (ha:k<=a.length) (hb:k<=b.length) (h:k=a.length\/k=b.length):V8 (a.drop k) (b.drop k)=ord a.length b.length:=by
 by_cases h1:k=a.length
 ·rw [Qu (by omega:a.length<=k)]
  by_cases h2:k=b.length
  ·rw [Qu Ia];unfold ord;rw [if_neg Ia,if_neg Ia];simp [V8]
  rw [Qp (by omega:k<b.length)];unfold ord;rw [if_pos Ia];simp [V8]
 have h2:k=b.length:=Ia
 rw [Qu (by omega:b.length<=k),Qp (by omega:k<a.length)];unfold ord;rw [if_neg Ia,if_pos Ia];simp [V8]
theorem Si (S S':Nat->Prop) (av bv:Value) (a b:List Bs) (w:World) (ha:Sl Zh S w av a) (hb:Sl Zh S' w bv b):
  Calls Tryz.prog 72 #[av,bv] w λe w'=>e=.returned (.int .i64 (Ks a b))/\Gr w w':=by
 obtain ⟨pa,ca,rfl,aL⟩:=ha.len
 obtain ⟨pb,cb,rfl,aM⟩:=hb.len
 have HA:=Qq ha;have HB:=Qq hb
 obtain ⟨r,hr⟩:=eX (Ks a b)
 rw [hr]
 have HR:=Qq hr
 have HO:=Qq (λW=>Ju a.length b.length W)
 clear ha hb hr
 go_enter Tryz.func72,Tryz.ntmps72
 go_wp2_with fail
 go_loopw [5,6] (λi _ wr=>∃ k:Nat,k<=a.length/\k<=b.length/\i=.int .i64 k/\Aside (Ks (a.drop k) (b.drop k)=r)/\Aside (Gr w wr)) (λi _ _=>a.length - (intOf i).toNat)
 case atStart=>exact ⟨0,Q8 _,Q8 _,rfl,HR.o,Gr.refl _⟩
 obtain ⟨k,aG,aH,rfl,U,V⟩:=hrel
 have G:=Qq (show Gr w wr from V)
 clear V
 by_cases D:k<a.length/\k<b.length
 ·obtain ⟨D,J⟩:=D
  obtain ⟨x,hx⟩:∃ x,a[k]?=some x:=⟨_,Qx D⟩
  have N:a.drop k=x::a.drop (k+1):=by
   rw [Qp D];rw [Qx D] at hx;cases hx;rfl
  obtain ⟨ga,oa,rfl,c1,l1⟩:=(HA.o.below G.o.bl).str hx
  obtain ⟨y,hy⟩:∃ y,b[k]?=some y:=⟨_,Qx J⟩
  have O:b.drop k=y::b.drop (k+1):=by
   rw [Qp J];rw [Qx J] at hy;cases hy;rfl
  obtain ⟨gb,ob,rfl,c2,l2⟩:=(HB.o.below G.o.bl).str hy
  have M:Ks (a.drop k) (b.drop k)=r:=U
  rw [N,O] at M
  have HS:=Qq (M1 ⟨x.toArray⟩ ⟨y.toArray⟩)
  have T:Yi (bl ⟨x.toArray⟩) (bl ⟨y.toArray⟩)=Yi x y:=rfl
  rw [T] at HS
  have I:thn (Yi x y) (Ks (a.drop (k+1)) (b.drop (k+1)))=r:=M
  generalize Yi x y=c at HS I
  have aJ:(0:Int)<=(k:Int):=Ia
  have Y:(k:Int)<a.length:=Ia
  have aK:(k:Int)<b.length:=Ia
  by_cases hc0:c=0
  ·subst hc0
   have HC:=Qq I
   clear U I M N O hx hy T
   go_wp2_with fail
   go_quiet ((go_at_call 71;exact Calls.quiet_of_same ((HS.o _).mono λ_ _ h=>⟨h.1,h.2.symm⟩)))
   go_wp2_with fail
   go_roundw
   case rel=>exact ⟨k+1,Ia,Ia,by go_num,HC.o,G.o.n ⟨_,#[],by rw [Sort.grow_empty]⟩⟩
   case measure=>simp [intOf];omega
  have aN:(c != 0)=true:=by rw [bne_iff_ne];exact hc0
  have aE:c=r:=by rw [<- I];unfold thn;rw [if_neg hc0]
  subst aE
  clear U I M N O hx hy T hc0
  go_wp2_with fail
  go_quiet ((go_at_call 71;exact Calls.quiet_of_same ((HS.o _).mono λ_ _ h=>⟨h.1,h.2.symm⟩)))
  go_wp2_with fail
  go_ret
  exact ⟨rfl,G.o.n ⟨_,#[],by rw [Sort.grow_empty]⟩⟩
 have A:k=a.length\/k=b.length:=Ia
 have Z:r=ord a.length b.length:=by rw [<- cmpN_end aG aH A];exact (show Ks (a.drop k) (b.drop k)=r from U).symm
 generalize ord a.length b.length=r2 at Z HO
 subst Z
 rcases A with A | A
 ·have Y:¬ (k:Int)<a.length:=Ia
  have aF:decide (k<a.length)=false:=by simp;omega
  clear U D A
  go_wp2_with (go_at_call 70;refine (HO.o _).mono ?_;rintro e w' ⟨rfl,rfl⟩)
  go_ret
  exact ⟨rfl,G.o⟩
 have Y:¬ (k:Int)<b.length:=Ia
 have aF:decide (k<b.length)=false:=by simp;omega
 clear U D A
 go_wp2_with (go_at_call 70;refine (HO.o _).mono ?_;rintro e w' ⟨rfl,rfl⟩)
 all_goals (go_ret;exact ⟨rfl,G.o⟩)
def O5 (x:Val):Prop:=∀ (y:Val) (S S':Nat->Prop) (cx cy:List Value) (w:World),Z9 S w cx x->Z9 S' w cy y ->
 Calls Tryz.prog 23 #[cx,cy] w λe w'=>e=.returned (.int .i64 (Zu x y))/\Gr w w'
theorem rkids_of (S S':Nat->Prop) (av bv:Value) (a b:List Val) (hC:∀ x ∈ a,O5 x) (w:World) (ha:Sl Zc S w av a) (hb:Sl Zc S' w bv b):
  Calls Tryz.prog 73 #[av,bv] w λe w'=>e=.returned (.int .i64 (V8 a b))/\Gr w w':=by
 obtain ⟨pa,ca,rfl,aR⟩:=ha.len
 obtain ⟨pb,cb,rfl,aS⟩:=hb.len
 obtain ⟨HA,HB,HC⟩:=Im ha hb hC
 obtain ⟨r,hr⟩:=eX (V8 a b)
 rw [hr]
 have HR:=Qq hr
 have HO:=Qq (λW=>Ju a.length b.length W)
 have mixed:Tryz.prog.follows .mixedOrders=true:=Ir
 clear ha hb hr hC
 go_enter Tryz.func73,Tryz.ntmps73
 go_wp2_with fail
 go_loopw [5,6] (λi _ wr=>∃ k:Nat,k<=a.length/\k<=b.length/\i=.int .i64 k/\Aside (V8 (a.drop k) (b.drop k)=r)/\Aside (Gr w wr)) (λi _ _=>a.length - (intOf i).toNat)
 case atStart=>exact ⟨0,Q8 _,Q8 _,rfl,HR.o,Gr.refl _⟩
 obtain ⟨k,aM,aN,rfl,V,U⟩:=hrel
 have G:=Qq (show Gr w wr from U)
 clear U
 by_cases D:k<a.length/\k<b.length
 ·obtain ⟨D,N⟩:=D
  obtain ⟨x,hx⟩:∃ x,a[k]?=some x:=⟨_,Qx D⟩
  have Y:a.drop k=x::a.drop (k+1):=by
   rw [Qp D];rw [Qx D] at hx;cases hx;rfl
  obtain ⟨ga,oa,p3,k3,p4,k4,rfl,J,aC,d0,d1,d2,d3,d4⟩:=(HA.o.below G.o.bl).val hx
  obtain ⟨y,hy⟩:∃ y,b[k]?=some y:=⟨_,Qx N⟩
  have Z:b.drop k=y::b.drop (k+1):=by
   rw [Qp N];rw [Qx N] at hy;cases hy;rfl
  obtain ⟨gb,ob,q3,l3,q4,l4,rfl,M,aD,e0,e1,e2,e3,e4⟩:=(HB.o.below G.o.bl).val hy
  have O:V8 (a.drop k) (b.drop k)=r:=V
  rw [Y,Z] at O
  have I:thn (Zu x y) (V8 (a.drop (k+1)) (b.drop (k+1)))=r:=by simpa [V8] using O
  have HX:=Qq (HC.o x (Qy hx) y S S')
  have aI:=Qq aC;have aJ:=Qq aD
  generalize Zu x y=c at HX I
  have aP:(0:Int)<=(k:Int):=Ia
  have aA:(k:Int)<a.length:=Ia
  have aQ:(k:Int)<b.length:=Ia
  clear aC aD V O Y Z hx hy
  have T:∀ n os,Calls Tryz.prog 23 #[.agg (Il x p3 k3 p4 k4).toArray,.agg (Il y q3 l3 q4 l4).toArray] (Sort.grow (wr.drewN n) os) λe w'=>e=.returned (.int .i64 c)/\Gr (Sort.grow (wr.drewN n) os) w':=λn os=>HX.o _ _ _ (aI.o.move (.f (Yh _ _ _).bl) Ij) (aJ.o.move (.f (Yh _ _ _).bl) Ij)
  unfold Il at T
  have D0:=Zt J d0;have D1:=Zt J d1;have D2:=Zt J d2;have D3:=Zt J d3;have D4:=Zt J d4
  have E0:=Zt M e0;have E1:=Zt M e1;have E2:=Zt M e2;have E3:=Zt M e3;have E4:=Zt M e4
  clear d0 d1 d2 d3 d4 e0 e1 e2 e3 e4
  by_cases hc0:c=0
  ·subst hc0
   have aG:=Qq I
   clear I
   go_wp2_with fail
   go_quiet_grown (first | (go_at_call 23;refine Calls.grown_of (T _ _)))
   go_wp2_with fail
   go_roundw
   case rel=>exact ⟨k+1,Ia,Ia,by go_num,aG.o,G.o.n (Yh _ _ _)⟩
   case measure=>simp [intOf];omega
  have aT:(c != 0)=true:=by rw [bne_iff_ne];exact hc0
  have aK:c=r:=by rw [<- I];unfold thn;rw [if_neg hc0]
  subst aK
  clear I hc0
  go_wp2_with fail
  go_quiet_grown (first | (go_at_call 23;refine Calls.grown_of (T _ _)))
  go_wp2_with fail
  go_ret
  exact ⟨rfl,G.o.n (Yh _ _ _)⟩
 have A:k=a.length\/k=b.length:=Ia
 have aB:r=ord a.length b.length:=by rw [<- Qjd aM aN A];exact (show V8 (a.drop k) (b.drop k)=r from V).symm
 generalize ord a.length b.length=r2 at aB HO
 subst aB
 rcases A with A | A
 ·have aA:¬ (k:Int)<a.length:=Ia
  have aL:decide (k<a.length)=false:=by simp;omega
  clear V D A
  go_wp2_with (go_at_call 70;refine (HO.o _).mono ?_;rintro e w' ⟨rfl,rfl⟩)
  go_ret
  exact ⟨rfl,G.o⟩
 have aA:¬ (k:Int)<b.length:=Ia
 have aL:decide (k<b.length)=false:=by simp;omega
 clear V D A
 go_wp2_with (go_at_call 70;refine (HO.o _).mono ?_;rintro e w' ⟨rfl,rfl⟩)
 all_goals (go_ret;exact ⟨rfl,G.o⟩)
theorem Qjg (k n:Int) (s:Bs) (ns:List Bs) (ks:List Val) (ih:∀ x ∈ ks,O5 x):O5 (.mk k n s ns ks):=by
 rintro ⟨k',M,T,D,A⟩ S S' cx cy w hx hy
 obtain ⟨nv,kv,rfl,hs,hn,hk⟩:=Uq.1 hx
 obtain ⟨aH,aG,rfl,aQ,aF,aE⟩:=Uq.1 hy
 have hN:∀ w',Below w w w'->Calls Tryz.prog 72 #[nv,aH] w' λe V=>e=.returned (.int .i64 (Ks ns D))/\Gr w' V:=
  λw' hb=>Si S S' nv aH ns D w' (hn.below hb) (aF.below hb)
 have hK:∀ w',Below w w w'->Calls Tryz.prog 73 #[kv,aG] w' λe V=>e=.returned (.int .i64 (V8 ks A))/\Gr w' V:=
  λw' hb=>rkids_of S S' kv aG ks A ih w' (hk.below hb) (aE.below hb)
 have hS:∀ w',Calls Tryz.prog 71 #[sv s,sv T] w' λe V=>e=.returned (.int .i64 (Yi s T))/\w'=V:=λw'=>M1 _ _ w'
 obtain ⟨HN,HK,HS⟩:=Im hN hK hS
 obtain ⟨cb,I⟩:=eX (Yi s T)
 obtain ⟨cn,J⟩:=eX (Ks ns D)
 obtain ⟨cv,G⟩:=eX (V8 ks A)
 rw [I] at HS;rw [J] at HN;rw [G] at HK
 have aP:=Qq (λo1 o2=>Zs w o1 o2)
 clear hN hK hS hx hy ih hn aF hk aE
 by_cases hkk:k=k'
 ·subst hkk
  by_cases h0:k=0
  ·subst h0
   rw [show Zu (.mk 0 n s ns ks) (.mk 0 M T D A)=ord n M by simp [Zu]]
   have Z:=Qq (λw=>Ju n M w)
   generalize ord n M=r at Z |-
   clear I J G
   go_enter Tryz.func23,Tryz.ntmps23
   go_wp2_with (go_at_call 70;refine (Z.o _).mono ?_;rintro e w' ⟨rfl,rfl⟩)
   go_ret
   exact ⟨rfl,Uj _ _ _⟩
  by_cases h2:k=2
  ·subst h2
   rw [show Zu (.mk 2 n s ns ks) (.mk 2 M T D A)=ord n M by simp [Zu]]
   have Z:=Qq (λw=>Ju n M w)
   generalize ord n M=r at Z |-
   clear I J G h0
   go_enter Tryz.func23,Tryz.ntmps23
   go_wp2_with (go_at_call 70;refine (Z.o _).mono ?_;rintro e w' ⟨rfl,rfl⟩)
   go_ret
   exact ⟨rfl,Uj _ _ _⟩
  by_cases h1:k=1
  ·subst h1
   rw [show Zu (.mk 1 n s ns ks) (.mk 1 M T D A)=cb by simp [Zu,I]]
   clear I J G h0 h2
   go_enter Tryz.func23,Tryz.ntmps23
   go_wp2_with (go_at_call 71;refine (HS.o _).mono ?_;rintro e w' ⟨rfl,rfl⟩)
   go_ret
   exact ⟨rfl,Uj _ _ _⟩
  by_cases h3:k=3
  ·subst h3
   have N:Zu (.mk 3 n s ns ks) (.mk 3 M T D A)=thn cb cv:=by simp [Zu,I,G]
   clear I J G h0 h2 h1
   by_cases hz:cb=0
   ·subst hz
    rw [N,Jv]
    clear N
    go_enter Tryz.func23,Tryz.ntmps23
    go_wp2_with (first | (go_at_call 71;refine (HS.o _).mono ?_;rintro e w' ⟨rfl,rfl⟩) | (go_at_call 73;refine (HK.o _ (Zs _ _ _)).mono ?_;rintro e w' ⟨rfl,hw⟩;have HW:=Qq ((Uj w _ _).n hw);clear hw))
    go_ret
    exact ⟨rfl,HW.o⟩
   have hq:(cb != 0)=true:=by rw [bne_iff_ne];exact hz
   have U:Zu (.mk 3 n s ns ks) (.mk 3 M T D A)=cb:=by rw [N];unfold thn;rw [if_neg hz]
   rw [U]
   clear N U hz
   go_enter Tryz.func23,Tryz.ntmps23
   go_wp2_with (go_at_call 71;refine (HS.o _).mono ?_;rintro e w' ⟨rfl,rfl⟩)
   go_ret
   exact ⟨rfl,Uj _ _ _⟩
  by_cases h4:k=4
  ·subst h4
   have N:Zu (.mk 4 n s ns ks) (.mk 4 M T D A)=thn cn cv:=by simp [Zu,J,G]
   clear I J G h0 h2 h1 h3
   by_cases hz:cn=0
   ·subst hz
    rw [N,Jv]
    clear N
    go_enter Tryz.func23,Tryz.ntmps23
    go_wp2_with (first | (go_at_call 72;refine (HN.o _ (Zs _ _ _)).mono ?_;rintro e wn ⟨rfl,O⟩;have Y:=Qq ((Uj w _ _).n O);obtain ⟨aN,aO⟩:=Lh O.bl;clear O) | (go_at_call 73;refine (HK.o _ Y.o.bl).mono ?_;rintro e w' ⟨rfl,hw⟩;have HW:=Qq (Y.o.n hw);clear hw))
    go_ret
    exact ⟨rfl,HW.o⟩
   have hq:(cn != 0)=true:=by rw [bne_iff_ne];exact hz
   have U:Zu (.mk 4 n s ns ks) (.mk 4 M T D A)=cn:=by rw [N];unfold thn;rw [if_neg hz]
   rw [U]
   clear N U hz
   go_enter Tryz.func23,Tryz.ntmps23
   go_wp2_with (go_at_call 72;refine (HN.o _ (Zs _ _ _)).mono ?_;rintro e wn ⟨rfl,O⟩;have Y:=Qq ((Uj w _ _).n O);obtain ⟨aN,aO⟩:=Lh O.bl;clear O)
   go_ret
   exact ⟨rfl,Y.o⟩
  by_cases h5:k=5
  ·subst h5
   rw [show Zu (.mk 5 n s ns ks) (.mk 5 M T D A)=cv by simp [Zu,G]]
   clear I J G h0 h2 h1 h3 h4
   go_enter Tryz.func23,Tryz.ntmps23
   go_wp2_with (go_at_call 73;refine (HK.o _ (Zs _ _ _)).mono ?_;rintro e w' ⟨rfl,hw⟩;have HW:=Qq ((Uj w _ _).n hw);clear hw)
   go_ret
   exact ⟨rfl,HW.o⟩
  have N:Zu (.mk k n s ns ks) (.mk k M T D A)=0:=by simp [Zu,h0,h1,h2,h3,h4,h5]
  rw [N]
  have q0:(k==0)=false:=by simpa using h0
  have q1:(k==1)=false:=by simpa using h1
  have q2:(k==2)=false:=by simpa using h2
  have q3:(k==3)=false:=by simpa using h3
  have q4:(k==4)=false:=by simpa using h4
  have q5:(k==5)=false:=by simpa using h5
  clear N I J G h0 h1 h2 h3 h4 h5
  go_enter Tryz.func23,Tryz.ntmps23
  go_wp2_with fail
  go_ret
  exact ⟨rfl,Uj _ _ _⟩
 have N:Zu (.mk k n s ns ks) (.mk k' M T D A)=ord k k':=by simp [Zu,hkk]
 rw [N]
 have hq:(k != k')=true:=by rw [bne_iff_ne];exact hkk
 have Z:=Qq (λw=>Ju k k' w)
 generalize ord k k'=r at Z |-
 clear N I J G hkk
 go_enter Tryz.func23,Tryz.ntmps23
 go_wp2_with (go_at_call 70;refine (Z.o _).mono ?_;rintro e w' ⟨rfl,rfl⟩)
 go_ret
 exact ⟨rfl,Uj _ _ _⟩
theorem rcmpAt:∀ x:Val,O5 x
 | .mk k n s ns ks=>Qjg k n s ns ks λx _=>rcmpAt x
termination_by x=>SizeOf.sizeOf x
decreasing_by
 have:=List.sizeOf_lt_of_mem ‹_ ∈ ks›
 simp only [Val.mk.sizeOf_spec]
 omega
theorem Mz (S S':Nat->Prop) (a b:Val) (ca cb:List Value) (w:World) (ha:Z9 S w ca a) (hb:Z9 S' w cb b):
  Calls Tryz.prog 23 #[ca,cb] w λe w'=>e=.returned (.int .i64 (Zu a b))/\Gr w w':=rcmpAt a b S S' ca cb w ha hb
open Go.RowKit Go.Shelf Go.Lib Tryz
def Uw (v:Val) (x:Bs):Int:=if Xb v (X6 v x) then X6 v x else -1
theorem Hc (S:Nat->Prop) (v:Val) (cs:List Value) (x:Bs) (w:World) (h:Z9 S w cs v):
  Calls prog 95 #[cs,sv x] w λe w'=>e=.returned (.int .i64 (Uw v x))/\Below w w w':=by
 obtain ⟨p3,k3,p4,k4,N,U,T,_⟩:=Z9.cells h
 simp only [Il] at N
 subst N
 have hl:v.kids.length<=1000000:=by obtain ⟨_,_,_,h⟩:=T.len;exact h
 obtain ⟨_,_,_,Z⟩:=U.len
 obtain ⟨r,O⟩:=eX (Uw v x)
 rw [O]
 by_cases h4:v.kind=4
 ·have V:(v.kind != 4)=false:=by rw [h4];rfl
  have HS:=Qq (U.below (Zg w (.cells #[.int .i64 4,v.n,v.s,.slice p3 v.names.length k3,.slice p4 v.kids.length k4] 36)))
  have Y:=Qq O
  have H4:=Qq h4
  rw [h4]
  clear h U T O h4 V
  obtain ⟨n,I⟩:=eX (v.names.length)
  rw [I] at HS Z |-
  have HN:=Qq I
  clear I
  unfold sv
  go_enter func95,ntmps95
  go_wp2_with fail
  go_loop [5] (λi=>∃ k:Nat,k<=n/\i=.int .i64 k/\Aside (∀ (j:Nat) (y:Bs),j<k->v.names[j]?=some y->decide (y=x)=false)) (λi=>n - (intOf i).toNat)
  case atStart=>exact ⟨0,Q8 _,rfl,λj _ hj=>absurd hj (Z6 _)⟩
  obtain ⟨k,T,rfl,A⟩:=hrel
  by_cases hlt:k<n
  ·have aD:(0:Int)<=(k:Int):=Ia
   have aE:(k:Int)<(n:Int):=Ia
   obtain ⟨y,J⟩:∃ y,v.names[k]?=some y:=⟨_,Qx (by rw [HN.o];exact hlt)⟩
   obtain ⟨b,aF,rfl,hc,-⟩:=HS.o.str J
   have HY:=Qq J
   clear J
   by_cases he:y=x
   ·have V:(y==x)=true:=by rw [he];simp
    have G:X6 v x=k:=by unfold X6;exact Jk HY.o (by rw [he];simp) A.o
    have M:=Qq G
    clear he G
    by_cases hkl:k<v.kids.length
    ·have D:r=k:=by
      rw [<- Y.o];unfold Uw;rw [M.o]
      have:Xb v (k:Int)=true:=by unfold Xb;simp [H4.o,hkl]
      rw [this];rfl
     subst D
     go_wp2_with fail
     go_ret
     exact ⟨rfl,Zg _ _⟩
    have D:r=-1:=by
     rw [<- Y.o];unfold Uw;rw [M.o]
     have:Xb v (k:Int)=false:=by unfold Xb;simp [hkl]
     rw [this];rfl
    subst D
    have aB:¬ (k:Int)<(v.kids.length:Int):=Ia
    go_wp2_with fail
    go_ret
    exact ⟨rfl,Zg _ _⟩
   have V:(y==x)=false:=by rw [<- Qt,beq_iff_eq];exact he
   have HE:=Qq he
   clear he
   go_wp2_with fail
   go_round
   case measure=>simp [intOf];omega
   case rel=>
    refine ⟨k+1,Ia,by go_num,(show Aside _ from λj z hj hz=>?_)⟩
    by_cases e:j=k
    ·subst e
     have:=HY.o
     rw [this] at hz
     cases hz
     simpa using HE.o
    exact A.o j z Ia hz
  have aC:¬ (k:Int)<(n:Int):=Ia
  have:k=n:=Ia
  subst this
  have G:X6 v x=-1:=by unfold X6;exact U9 (λj y J=>A.o j y (by have:=(Qj J).1;have:=HN.o;omega) J)
  have D:r=-1:=by
   rw [<- Y.o];unfold Uw;rw [G]
   have:Xb v (-1)=false:=by unfold Xb;simp
   rw [this];rfl
  subst D
  clear G
  go_wp2_with fail
  go_ret
  exact ⟨rfl,Zg _ _⟩
 have D:r=-1:=by
  rw [<- O];unfold Uw
  have:Xb v (X6 v x)=false:=by unfold Xb;simp [h4]
  rw [this];rfl
 subst D
 have V:(v.kind != 4)=true:=by rw [bne_iff_ne];exact h4
 clear h U T O h4
 unfold sv
 go_enter func95,ntmps95
 go_wp2_with fail
 go_ret
 exact ⟨rfl,Zg _ _⟩
def RGetIs (S:Nat->Prop) (w:World) (o:Option Val) (e:Ending) (w':World):Prop:=
 ∃ cs',e=.returned (.tuple #[.agg cs'.toArray,.bool o.isSome])/\Z9 S w' cs' (o.getD Val.zero)/\Below w w w'
theorem Gh {v:Val} {x:Bs} (h:Yp v x=none):Uw v x=-1:=by unfold Uw;rw [N6 h];rfl
theorem Bq {v u:Val} {x:Bs} (h:Yp v x=some u):∃ i:Nat,Uw v x=i/\v.kids[i]?=some u:=by
 obtain ⟨i,hi,hu,hb⟩:=F9 h
 exact ⟨i,by unfold Uw;rw [hb,hi];rfl,hu⟩
theorem Ht (S:Nat->Prop) (v:Val) (cs:List Value) (x:Bs) (w:World) (h0:Z9 S w cs v):
  Calls prog 43 #[cs,sv x] w (RGetIs S w (Yp v x)):=by
 have h:Z9 (λb=>S b/\b<w) w cs v:=h0.move (.refl _ _) (λb hb hs=>⟨hs,hb⟩)
 clear h0
 have N:=Qq (λW (hb:Below w w W)=>Hc _ v cs x W (h.move (.f hb) Ij))
 obtain ⟨p3,k3,p4,k4,O,hn,hk,_⟩:=Z9.cells h
 simp only [Il] at O
 subst O
 have HK:=Qq hk
 clear h hn hk
 unfold sv at N |-
 cases hg:Yp v x with
 | none=>
  rw [Gh hg] at N
  clear hg
  go_enter func43,ntmps43
  go_wp2_with fail
  refine (N.o _ (Zs _ _ _)).mono ?_
  rintro e Y ⟨rfl,I⟩
  have HW:=Qq I
  have G:=(I.block (w+1) Ib).trans (Q6 _ _ _)
  have V:=Qq G
  have f:=λj=>Qn _ _ j _ _ G
  have y:=λj=>Qk _ _ j _ _ _ G
  obtain ⟨Z,y1,y2,y3,y4⟩:=Iw y
  obtain ⟨f0,f1,f2,f3,f4⟩:=Iw f
  simp only [Qf,Qg,Qh] at Z y1 y2 y3 y4
  clear I G f y
  go_wp2_with fail
  show bodyPost _ _ _ _ _ (Zl Y _ _ _ _ _ _)
  refine Q7 (v:=.tuple #[.agg zV,.bool false]) (by simp [results,results43,go_sem,Ze V.o]) rfl ⟨_,rfl,Y2 _ _,?_⟩
  exact Zd ((Zs w _ _).n HW.o) Ia
 | some u=>
  obtain ⟨i,hi,J⟩:=Bq hg
  rw [hi] at N
  obtain ⟨b,aE,q3,l3,q4,l4,rfl,D,U,d0,d1,d2,d3,d4⟩:=HK.o.val J
  have T:i<v.kids.length:=(Qj J).1
  have aB:(0:Int)<=(i:Int):=Ia
  have aC:(i:Int)<(v.kids.length:Int):=Ia
  have aD:decide ((i:Int)<0)=false:=Ib
  have HV:=Qq U
  clear hg hi J U
  go_enter func43,ntmps43
  go_wp2_with fail
  refine (N.o _ (Zs _ _ _)).mono ?_
  rintro e Y ⟨rfl,I⟩
  have A:=(Zs w _ _).n I
  have G:=(I.block (w+1) Ib).trans (Q6 _ _ _)
  have hX:=(I.block w (by simp;omega)).trans (Q5 _ _ _)
  have e0:=kD A D d0;have e1:=kD A D d1;have e2:=kD A D d2;have e3:=kD A D d3;have e4:=kD A D d4
  have x4:=Qk _ _ 4 _ _ _ hX
  have f:=λj=>Qn _ _ j _ _ G
  have y:=λj=>Qk _ _ j _ _ _ G
  obtain ⟨Z,y1,y2,y3,y4⟩:=Iw y
  obtain ⟨f0,f1,f2,f3,f4⟩:=Iw f
  simp only [Qf,Qg,Qh] at x4 Z y1 y2 y3 y4
  have M:=Qq A;have V:=Qq G
  clear I A hX G d0 d1 d2 d3 d4 f y
  go_wp2_with fail
  show bodyPost _ _ _ _ _ (Zl Y _ _ _ _ _ _)
  refine Q7 (v:=.tuple #[.agg (Is u q3 l3 q4 l4),.bool true]) (by simp [results,results43,go_sem,Ze V.o]) rfl ⟨_,rfl,?_,Zd M.o Ia⟩
  refine Z9.move HV.o (λb hb T=>(Zf ?_).trans (M.o.block b T)) (λb _ hb=>hb.1)
  have:=hb.2
  omega
def lkP (ks:List Bs) (key:List Val) (v:Val):Bool:=Iu eqv ((keyOf ks v).getD []) key
theorem Cx (X K:Nat) (S:Nat->Prop) (x:Tbl) (ct:List Value) (kv:Value) (key:List Val) (rows:List Val) (w:World) (hct:∀ j u,ct[j]?=some u->w.cell? ⟨X,j,none⟩=some u) (hXl:X<w)
  (hx:Zn.R S w ct x) (hkl:x.key.length<=1000) (hk:w.cell? ⟨K,0,none⟩=some kv) (hkey:Sl Zc S w kv key):
  Uv prog 127 #[Iv X,Iv K] Zc S rows (lkP x.key key) w:=by
 intro W v cs hb _ hr
 have bN:=Qv w _ hk
 obtain ⟨kp,kc,rfl,_⟩:=hkey.len
 have Y:=Zn.frame hx (.f hb)
 obtain ⟨aE,aD,aO,aN,aW,aV,k9,aX,n9,aY,aS,aP,aA,aT,aQ,aB,aU,aR,aC,a9,z9,I,_⟩:=Yq Y
 simp only [AL] at I
 subst I
 obtain ⟨p3,k3,p4,k4,I,_⟩:=Z9.cells (show Z9 S W cs v from hr)
 simp only [Il] at I
 subst I
 have aL:=hkey.below hb
 have d:=λj u hj=>(hb.cell (p:=⟨X,j,none⟩) hXl).trans (hct j u hj)
 have dk:W.cell? ⟨K,0,none⟩=some (.slice kp key.length kc):=kD hb bN hk
 have d0:=d 0 (.string ⟨x.name.toArray⟩) rfl
 have d1:=d 1 (.slice aE x.columns.length aD) rfl
 have d2:=d 2 (.slice aO x.key.length aN) rfl
 have d3:=d 3 (.slice aW x.refs.length aV) rfl
 have d4:=d 4 (.int .i64 k9) rfl
 have d5:=d 5 (.string aX) rfl
 have d6:=d 6 (.int .i64 n9) rfl
 have d7:=d 7 (.string aY) rfl
 have d8:=d 8 (.slice aS aP aA) rfl
 have d9:=d 9 (.slice aT aQ aB) rfl
 have aF:=d 10 (.slice aU aR aC) rfl
 have aG:=d 11 (.int .i64 a9) rfl
 have aH:=d 12 (.int .i64 z9) rfl
 have A:X<W.heap.size:=Qv W _ d0
 have bM:K<W.heap.size:=Qv W _ dk
 obtain ⟨Z,N⟩:=eX (W.alloc (.cells (Is v p3 k3 p4 k4) 36))
 have U:=Iq N (Zg _ _)
 have bS:Z=W.heap.size+1:=by rw [<- N];simp
 refine let_mvar% ?Lq1:=λw':World=>(BT w' X x.name (.slice aE x.columns.length aD) (.slice aO x.key.length aN) (.slice aW x.refs.length aV) k9 (.string aX) n9 (.string aY) (.slice aS aP aA) (.slice aT aQ aB) (.slice aU aR aC) a9 z9 (Ii w' K 0 (.slice kp key.length kc)/\AQ w' W v.kind v.n v.s (.slice p3 v.names.length k3) (.slice p4 v.kids.length k4) (Below (W+1) Z w')):Prop);?_
 have HS:∀ w',Below (W+1) Z w'->?Lq1 w':=by
  intro w' h
  have D:∀ {b j:Nat} {u:Value},b<W->W.cell? ⟨b,j,none⟩=some u->w'.cell? ⟨b,j,none⟩=some u:=λaM hc=>kD h (Nat.lt_succ_of_lt aM) (kD U aM hc)
  have J:w'.heap[W.heap.size]?=some (.cells (Is v p3 k3 p4 k4) 36 (0,0)):=kE h (Nat.lt_succ_self _) (by rw [<- N];exact Qw _ _)
  exact ⟨D A d0,D A d1,D A d2,D A d3,D A d4,D A d5,D A d6,D A d7,D A d8,D A d9,D A aF,D A aG,D A aH,D bM dk,Qk _ _ 0 _ _ _ J,Qk _ _ 1 _ _ _ J,Qk _ _ 2 _ _ _ J,Qk _ _ 3 _ _ _ J,Qk _ _ 4 _ _ _ J,h⟩
 have M:∀ w',?Lq1 w'->Below (W+1) Z w':=λw' h=>h.2.2.2.2.2.2.2.2.2.2.2.2.2.2.2.2.2.2.2
 have T:∀ w' O,?Lq1 w'->Below w' w' O->?Lq1 O:=λw' O h h2=>HS O ((M w' h).trans (h2.mono (by have:=(M w' h).size;omega)))
 have G:∀ w',?Lq1 w'->Below W W w':=λw' h=>U.trans ((M w' h).mono (Nat.le_succ _))
 have HK:=Qq (λW' (h':?Lq1 W')=>(Ai S S x v _ _ W' (Zn.frame Y (.f (G _ h'))) (Zc.frame hr (.f (G _ h'))) hkl).mono (R':=λe w2=>∃ p n cap,e=.returned (.slice p n cap)/\Sl Zc (λ_=>True) w2 (.slice p n cap) ((keyOf x.key v).getD [])/\?Lq1 w2) (by
  rintro e w2 ⟨p,n,cap,rfl,_,h3,h4⟩
  exact ⟨p,n,cap,rfl,h3.mono (λ_ _ _=>trivial),T _ _ h' h4⟩))
 have HE:=Qq (λW' p n cap (h':?Lq1 W') (h2:Sl Zc (λ_=>True) W' (.slice p n cap) ((keyOf x.key v).getD []))=>(N5 53 #[] (enters_of func53 Ir rfl) (λ_=>True) (.slice p n cap) (.slice kp key.length kc) ((keyOf x.key v).getD []) key W' h2 ((aL.below (G _ h')).mono (λ_ _ _=>trivial)) eqv (λV a b ca cb hV _ _ h3 h4=>Gu (λ_=>True) a b ca cb V h3 h4)).mono (R':=λe w2=>e=.returned (.bool (Iu eqv ((keyOf x.key v).getD []) key))/\?Lq1 w2) (by
  rintro e w2 ⟨rfl,h4⟩
  exact ⟨rfl,T _ _ h' h4⟩))
 have bF:=Qq HS
 have bE:=Qq G
 clear HS d dk d0 d1 d2 d3 d4 d5 d6 d7 d8 d9 aF aG aH hct hk hkey aL hx Y hr U hb M T G
 show Calls prog 127 #[.agg (Is v p3 k3 p4 k4),Iv X,Iv K] W (λe w'=>e=.returned (.bool (Iu eqv ((keyOf x.key v).getD []) key))/\Below W W w')
 generalize Iu eqv ((keyOf x.key v).getD []) key=res at HE |-
 go_enter func127,ntmps127
 go_upto_region 1 with fail
 clear N
 have bL:Below (W+1) Z Z:=.refl _ _
 go_region_held3 ?Lq1 (first | exact bF.o _ (Below.drew bL) | assumption)
  (first
   | (go_at_call 83;refine (HK.o _ AN).mono ?_;rintro e w2 ⟨bV,bU,bT,rfl,aK,bO⟩)
   | (go_at_call 56;refine (HE.o _ _ _ _ AN aK).mono ?_;rintro e w3 ⟨rfl,aJ⟩))
 have bD:=Qq (bE.o _ aJ)
 clear aJ aK bO
 go_wp2_with fail
 go_ret
 exact ⟨rfl,bD.o⟩
theorem ev_less (n:Int) (s:Bs) (names binds:List Bs) (x y:Ex) (a z:Int) (env:List (Bs × Val)) (u v:Val) (hx:EvV x env u) (hy:EvV y env v):EvV (.mk 14 [60] n s names binds [x,y] a z) env (Vq (decide (Zu u v<0))):=by
 intro V S' cs p w U T
 have he:Xy (λb=>V b/\b<w) w p env:=T.move (.refl _ _) (λb hb h=>⟨h,hb⟩)
 obtain ⟨nv,bv,kv,rfl,_,_,hn,hb,hk⟩:=Yy.1 U
 obtain ⟨np,nc,rfl,_⟩:=hn.len
 obtain ⟨bp,bc,rfl,_⟩:=hb.len
 obtain ⟨kp,kc,rfl,_⟩:=hk.len
 obtain ⟨q,rfl⟩:=he.ptr
 obtain ⟨HE,HK,HX,HY⟩:=It he hk hx hy
 clear U he T hn hb hk hx hy
 unfold sv
 obtain ⟨r,hr⟩:=eX (Vq (decide (Zu u v<0)))
 rw [hr]
 have I:=Qq hr
 clear hr
 rw [show [x,y].length=2 from rfl]
 show Calls prog 91 #[.agg #[.int .i64 14,.string ⟨#[60]⟩,n,s,.slice np names.length nc,.slice bp binds.length bc,.slice kp 2 kc,a,z],.pointer q] w (Bv V w r)
 go_enter func91,ntmps91
 go_upto_region 3 with fail
 generalize D:((w.alloc _).alloc _).alloc _=Z
 have G:=Iq D (Xt _ _ _ _)
 have N:=Ik (b:=w.heap.size) D (Zp _ _ _ _)
 have h1:=Ik (b:=w.heap.size+1) D (Zo _ _ _ _)
 have h2:=Ik (b:=w.heap.size+1+1) D (Zi _ _ _ _)
 have aH:w.heap.size+1+1<Z.heap.size:=Z8 h2
 have A:=Qq (λ(k:Nat) e t (hke:[x,y][k]?=some e) (hev:EvV e env t) W (hbw:Below Z Z W)=>kid_any w (w+1) k (λb=>V b/\b<w) S' kp kc [x,y] e (.pointer q) env t W
  ((Qk _ _ 6 _ _ _ (kB hbw N)).trans rfl) ((HK.o.below G).below hbw) ((Qk _ _ 0 _ _ _ (kB hbw h1)).trans rfl) ((HE.o.move (.f G) Ij).move (.f hbw) Ij) hke hev)
 have HL:=Qq (less_any 132 #[Iv w,Iv (w+1)] (enters_of func132 Ir rfl) (λb=>V b/\b<w) u v Z (λb hb=>by have:=hb.2;omega)
  (A.o 0 x u rfl HX.o) (A.o 1 y v rfl HY.o))
 rw [I.o] at HL
 have c0:=AB N;have c1:=AA N;have c6:=AK N
 have H2:=Qq h2;have aA:=Qq G
 clear N h1 h2 G D HE HK HX HY A I
 go_wp2_with fail
 refine HL.o.mono ?_
 rintro e w4 ⟨cr,rfl,M,J⟩
 obtain ⟨q3,l3,q4,l4,O,_⟩:=Z9.cells M
 simp only [Il] at O
 subst O
 have Y:=kB J H2.o
 obtain ⟨aB,aC,HR⟩:=Im (aA.o.n J) M Y
 have fz:=λj=>Qn _ _ j _ _ Y
 obtain ⟨f0,f1,f2,f3,f4⟩:=Iw fz
 have rr:=λj=>Qk _ _ j _ _ _ Y
 obtain ⟨r0,r1,r2,r3,r4⟩:=Iw rr
 simp only [Qf,Qg,Qh] at r0 r1 r2 r3 r4
 clear fz rr M J Y
 go_wp2_with fail
 show bodyPost _ _ _ _ _ (AI w4 (w+1+1) r q3 l3 q4 l4)
 refine Q7 (v:=.agg (Is r q3 l3 q4 l4)) (by simp [results,results91,go_sem,Ze HR.o]) rfl ⟨_,rfl,?_,Zd aB.o Ia⟩
 exact Z9.move aC.o (λb hb _=>Zf (by have:=hb.2;omega)) (λ_ _ h=>h.1)
theorem N1 (p:Addr) (w:World):
  CallsD prog 89 #[.pointer (some p)] .returning w λe u' w'=>e=.returned (.tuple #[])/\u'=.returning/\w'=w:=by
 refine callsD_of_wpS func89 rfl λc₀ cs hu=>?_
 apply wpS_seq
 apply wpS_region
 simp [wpOpsS,go_sem,recoverD,hu,ntmps89,Exit.thenS]
 rw [show (#[Value.pointer (some p)]++(Array.replicate 9 undef).setIfInBounds 3 Value.nilIface)=#[.pointer (some p),undef,undef,undef,.nilIface,undef,undef,undef,undef,undef] from rfl]
 refine wpS_of_wp ?_
 go_wp2_with fail
 cases c₀
 simp_all [bodyPostS,results,results89]
def Fg (v:Val):List (Bs × Val):=(v.names.zip v.kids).reverse
theorem Gi (l:List Bs) (m:List Val):l.zip (m.take l.length)=l.zip m:=by
 induction l generalizing m with
 | nil=>rfl
 | cons a l ih=>cases m with
  | nil=>rfl
  | cons b m=>simp [ih]
theorem Pk (l:List Bs) (m:List Val) (k:Nat) (x:Bs) (u:Val) (hx:l[k]?=some x) (hu:m[k]?=some u):((l.take (k+1)).zip (m.take (k+1))).reverse=(x,u)::((l.take k).zip (m.take k)).reverse:=by
 rw [List.take_add_one,List.take_add_one,hx,hu]
 have h1:k<l.length:=(Qj hx).1
 have h2:k<m.length:=(Qj hu).1
 rw [List.zip_append (by rw [Qm,Qm];omega)]
 simp
theorem sat_ok (S0 S1:Nat->Prop) (t:Tbl) (v:Val) (ct cr:List Value) (b:Bool) (w:World) (ht0:Zn.R S0 w ct t) (hr0:Z9 S1 w cr v) (hsi:Vw t.check=true) (hev:EvV t.check (Fg v) (Vq b)) (hln:v.names.length<=v.kids.length):
  Calls prog 37 #[ct,cr] w λe w'=>e=.returned (.bool b)/\Below w w w':=by
 have bM:∀ (fn:Fn) (first cap:Array Value) (w:World),(Instr.makeFunc fn first cap).run prog w=.ok (.func fn first cap) w:=λ_ _ _ _=>rfl
 have ht:Zn.R (λb=>b<w) w ct t:=Zn.mono ht0 (λb hb _=>hb)
 have hr:Z9 (λb=>b<w) w cr v:=hr0.move (.refl _ _) (λb hb _=>hb)
 obtain ⟨bG,bF,bQ,bP,bY,bX,k9,bZ,n9,cA,bU,bR,bC,bV,bS,bD,bW,bT,bE,a9,z9,D,_,_,_,_,T⟩:=Yq ht
 simp only [AL] at D
 subst D
 obtain ⟨p3,k3,p4,k4,D,U,aC,_⟩:=Z9.cells hr
 simp only [Il] at D
 subst D
 have aB:=Qq (λW (hb:Below w w W)=>hsi ▸ Ot t.check _ _ W (Yx.move T (.f hb) Ij))
 have Z:=Qq (λp W (hb:Below w w W) (he:Xy (λ_=>True) W p (Fg v))=>hev (λ_=>True) _ _ p W (Yx.move T (.f hb) Ij) he)
 have aA:=Qq U;have aR:=Qq aC
 obtain ⟨n,hn⟩:=eX (v.names.length)
 have bO:n<=1000000:=by rw [<- hn];obtain ⟨_,_,_,h⟩:=U.len;exact h
 rw [hn] at aA hln |-
 have HN:=Qq hn;have aS:=Qq hln
 clear ht ht0 hr hr0 T U aC hsi hev hn hln
 go_enter_defers func37,ntmps37
 go_wp2_with fail
 refine (aB.o _ (Xt _ _ _ _)).mono ?_
 rintro e w1 ⟨rfl,I⟩
 have h0:=(I.block w (by simp;omega)).trans (Zp w _ _ _)
 have h1:=(I.block (w+1) Ib).trans (Zo w _ _ _)
 have h2:=(I.block (w+1+1) Ib).trans (Zi w _ _ _)
 have aN:=Qq ((Xt w _ _ _).n I)
 obtain ⟨H0,H1,H2⟩:=Im h0 h1 h2
 have x3:=AH h1;have x4:=Iz h1
 clear I h0 h1 h2 aB
 go_wp2_with fail
 go_loopw [5,16] (λp i wr=>∃ k:Nat,k<=n/\i=.int .i64 k/\Xy (λ_=>True) wr p ((v.names.take k).zip (v.kids.take k)).reverse/\Below w1 w1 wr) (λ_ i _=>n - (intOf i).toNat)
 case atStart=>exact ⟨0,Q8 _,rfl,by simp only [List.take_zero,List.zip_nil_left,List.reverse_nil];exact .nil,Qz _ _⟩
 obtain ⟨k,bL,rfl,hE,G⟩:=hrel
 have Y:=Qq G
 have J:=Qq (aN.o.n G)
 have A:=Qq (kB G H0.o)
 have aK:=Qq (kB G H2.o)
 have y4:=Iz ((kB G H1.o))
 obtain ⟨q,rfl⟩:=hE.ptr
 have HE:=Qq hE
 clear G hE
 by_cases hlt:k<n
 ·have bH:(0:Int)<=(k:Int):=Ia
  have bI:(k:Int)<(n:Int):=Ia
  have aE:k<v.kids.length:=Ix aS.o
  have bJ:(k:Int)<(v.kids.length:Int):=Ia
  obtain ⟨x,hx⟩:∃ x,v.names[k]?=some x:=⟨_,Qx (by rw [HN.o];exact hlt)⟩
  obtain ⟨u,hu⟩:∃ u,v.kids[k]?=some u:=⟨_,Qx aE⟩
  obtain ⟨nb,bB,rfl,bN,aG⟩:=(aA.o.below J.o).str hx
  obtain ⟨kb,bA,q3,l3,q4,l4,rfl,bK,aF,d0,d1,d2,d3,d4⟩:=(aR.o.below J.o).val hu
  have HZ:=Qq (Pk v.names v.kids k x u hx hu)
  have aV:=Qq aG;have aU:=Qq aF
  clear hx hu aF aG aE
  go_wp2_with fail
  go_roundw
  case measure=>simp [intOf];omega
  case rel=>
   refine ⟨k+1,Ia,by go_num,?_,Y.o.alloc (Ix Y.o.size) _⟩
   rw [HZ.o]
   exact .cons _ q x u q3 l3 q4 l4 _ trivial (Qw _ _) aV.o (Z9.move aU.o (.f (Zg _ _)) (λ_ _ _=>trivial)) (HE.o.move (.f (Zg _ _)) Ij)
 have aD:k=n:=Ia
 have hd:decide ((k:Int)<(n:Int))=false:=by simpa using hlt
 have hz:((v.names.take k).zip (v.kids.take k)).reverse=Fg v:=by
  unfold Fg
  rw [aD,<- HN.o,List.take_length,Gi]
 rw [hz] at HE
 have aQ:=Qq (Z.o (.pointer q) wr J.o HE.o)
 have z4:=Iz A.o;have z5:=AY A.o;have z6:=AK A.o;have z7:=rA7 A.o;have z8:=rA8 A.o;have cF:=rA9 A.o;have cC:=BQ A.o;have cD:=BR A.o;have cE:=BS A.o
 clear hz aD HE Z
 go_wp2_with fail
 refine aQ.o.mono ?_
 rintro e w5 ⟨aW,rfl,V,N⟩
 have aT:=Qq (truth_ok b _ aW w5 V)
 obtain ⟨q3,l3,q4,l4,D,_⟩:=Z9.cells V
 simp only [Il] at D
 subst D
 have aL:=Qq (kB N aK.o)
 have aO:=Qq (J.o.n N)
 clear V N
 go_wp2_with fail
 refine aT.o.mono ?_
 rintro e w6 ⟨rfl,O⟩
 have M:=kB O aL.o
 have aP:=Qq (aO.o.n O)
 have f0:=fA 0 M;have r0:=AB M
 have aM:=Qq M
 clear O M
 go_wp2_with fail
 refine leaves_cons (f:=89) (args:=#[.pointer (some ⟨w+1+1,0,none⟩)]) Ib (by simp [go_sem]) ?_
 refine (N1 ⟨w+1+1,0,none⟩ _).mono ?_
 rintro e u' cB ⟨rfl,rfl,rfl⟩
 have hc:(w6.setCell ⟨w+1+1,0,none⟩ (.bool b)).cell? ⟨w+1+1,0,none⟩=some (.bool b):=by
  rw [Qk _ _ 0 _ _ _ (Qi _ _ _ _ _ _ aM.o)]
  rfl
 have hb:Below w w (w6.setCell ⟨w+1+1,0,none⟩ (.bool b)):=aP.o.setCell (by show w<=w.heap.size+1+1;omega) _
 refine ⟨.bool b,by simp [results,results37,go_sem,hc],rfl,hb⟩
theorem Eb (nm:Bs) (n:Int) (s:Bs) (names binds:List Bs) (kids:List Ex) (a z:Int) (env:List (Bs × Val)) (r:Option Val)
  (hop:∀ (lb:Array Value) (S0:Nat->Prop) (W:World),(∀ b,S0 b->b≠W.heap.size)->(∀ (k:Nat) (e:Ex) (t:Option Val),kids[k]?=some e->EvO e env t->∀ W',Below W W W'->W<W'.heap.size->Calls prog 132 (#[.int .i64 k]++lb) W' (Xw S0 W' t)) ->
   Calls prog 140 #[nm,.func (.func 132) #[] lb,kids.length] W (Xw S0 W r)):EvO (.mk 14 nm n s names binds kids a z) env r:=by
 intro S0 S' cs p w aN aC aB aA
 have aH:=Qq aC
 clear aC
 have he:Xy (λb=>S0 b/\b<w.heap.size) w p env:=aA.move (.refl _ _) (λb hb h=>⟨h,hb⟩)
 obtain ⟨nv,bv,kv,rfl,aT,aU,hn,hb,hk⟩:=Yy.1 aB
 obtain ⟨np,nc,rfl,_⟩:=hn.len
 obtain ⟨bp,bc,rfl,_⟩:=hb.len
 obtain ⟨kp,kc,rfl,aQ⟩:=hk.len
 obtain ⟨q,rfl⟩:=he.ptr
 obtain ⟨HE,HK,aJ,aF⟩:=It he hk hn hb
 obtain ⟨kl,A⟩:=eX (kids.length)
 rw [A] at HK aQ
 have N:=Qq A
 clear aB he aA hn hb hk
 unfold sv
 rw [A]
 clear A
 go_enter func91,ntmps91
 go_upto_region 3 with fail
 generalize G:((w.alloc _).alloc _).alloc _=V
 have D:=Iq G (Xt _ _ _ _)
 have J:=Ik (b:=w.heap.size) G (Zp _ _ _ _)
 have h1:=Ik (b:=w.heap.size+1) G (Zo _ _ _ _)
 have h2:=Ik (b:=w.heap.size+1+1) G (Zi _ _ _ _)
 have aV:w.heap.size+1+1<V.heap.size:=Z8 h2
 have c0:=AB J;have c1:=AA J;have c2:=AM J;have c3:=AH J;have c4:=Iz J;have c5:=AY J;have c6:=AK J
 obtain ⟨H0,H1,H2,Y⟩:=It J h1 h2 D
 have M:=Qq (λ(k:Nat) e9 r9 (T:kids[k]?=some e9) (O:EvO e9 env r9) W (hbw:Below V V W) (x9:Nat) (hxl:w<=x9) (hxW:x9<W)=>D8 w (w+1) k (λb=>S0 b/\b≠w.heap.size+1+1/\b≠x9) S' kp kc kids e9 (.pointer q) env r9 W
  (by rw [N.o];exact (Qk _ _ 6 _ _ _ (kB hbw J)).trans rfl) (by rw [N.o];exact (HK.o.below D).below hbw) ((Qk _ _ 0 _ _ _ (kB hbw h1)).trans rfl) (λb hb=>⟨aN b (BC D.size hbw.size),by have:=hbw.size;omega,Ia⟩) (aH.o.below (D.n hbw)) ((HE.o.move (.f D) Ij).move (.f hbw) (λb _ h=>⟨h.1,by have:=h.2;omega,by have:=h.2;omega⟩)) T O)
 have HL:=Qq (hop #[Iv w,Iv (w+1)] (λb=>S0 b/\b≠w.heap.size+1+1/\b≠V.heap.size) V (λb hb=>hb.2.2) (λk e t T O W' hW aR=>M.o k e t T O W' hW V Ia aR))
 rw [N.o] at HL
 clear J h1 h2 D G HE HK M hop c2 c3 c4 c5 aJ aF
 cases r with
 | none=>
  go_wp2_with fail
  refine HL.o.mono ?_
  rintro e w4 ⟨rfl,I⟩
  exact ⟨rfl,rfl,Y.o.n I⟩
 | some r=>
  go_wp2_with fail
  refine HL.o.mono ?_
  rintro e w4 ⟨cr,rfl,U,I⟩
  obtain ⟨q3,l3,q4,l4,Z,_⟩:=Z9.cells U
  simp only [Il] at Z
  subst Z
  have hR:=kB I H2.o
  have aE:=Qq (Y.o.n I)
  have aK:=Qq U
  have HR:=Qq hR
  have fz:=λj=>Qn _ _ j _ _ hR
  obtain ⟨f0,f1,f2,f3,f4⟩:=Iw fz
  have rr:=λj=>Qk _ _ j _ _ _ hR
  obtain ⟨r0,r1,r2,r3,r4⟩:=Iw rr
  simp only [Qf,Qg,Qh] at r0 r1 r2 r3 r4
  clear fz rr U I hR
  go_wp2_with fail
  show bodyPost _ _ _ _ _ (AI w4 (w+1+1) r q3 l3 q4 l4)
  refine Q7 (v:=.agg (Is r q3 l3 q4 l4)) (by simp [results,results91,go_sem,Ze HR.o]) rfl ⟨_,rfl,?_,Zd aE.o Ia⟩
  exact Z9.move aK.o (λb hb _=>Zf (by have:=hb.2.1;omega)) (λ_ _ h=>h.1)
theorem ev_int (nm:Bs) (n:Int) (s:Bs) (names binds:List Bs) (kids:List Ex) (a z:Int) (env:List (Bs × Val)) :EvO (.mk 0 nm n s names binds kids a z) env (some (.mk 0 n [] [] [])):=by
 intro S0 S' cs p w aE O N M
 have aD:=Qq O
 clear O
 have Y:Xy (λb=>S0 b/\b<w) w p env:=M.move (.refl _ _) (λb hb h=>⟨h,hb⟩)
 obtain ⟨nv,bv,kv,rfl,aF,aG,hn,hb,Z⟩:=Yy.1 N
 obtain ⟨np,nc,rfl,_⟩:=hn.len
 obtain ⟨bp,bc,rfl,_⟩:=hb.len
 obtain ⟨kp,kc,rfl,aA⟩:=Z.len
 obtain ⟨q,rfl⟩:=Y.ptr
 obtain ⟨HE,HK,V,U⟩:=It Y Z hn hb
 obtain ⟨kl,A⟩:=eX (kids.length)
 rw [A] at HK aA
 have aC:=Qq A
 clear N Y M hn hb Z
 unfold sv
 rw [A]
 clear A
 go_enter func91,ntmps91
 go_upto_region 3 with fail
 generalize D:((w.alloc _).alloc _).alloc _=w3
 have J:=Iq D (Xt _ _ _ _)
 have G:=Ik (b:=w.heap.size) D (Zp _ _ _ _)
 have h1:=Ik (b:=w.heap.size+1) D (Zo _ _ _ _)
 have I:=Ik (b:=w.heap.size+1+1) D (Zi _ _ _ _)
 have aH:w.heap.size+1+1<w3.heap.size:=Z8 I
 have c0:=AB G;have c1:=AA G;have c2:=AM G;have c3:=AH G;have c4:=Iz G;have c5:=AY G;have c6:=AK G
 obtain ⟨H0,H1,H2,T⟩:=It G h1 I J
 have fz:=λj=>Qn _ _ j _ _ I;obtain ⟨f0,f1,f2,f3,f4⟩:=Iw fz;have rr:=λj=>Qk _ _ j _ _ _ I;obtain ⟨r0,r1,r2,r3,r4⟩:=Iw rr
 simp only [Qf,Qg,Qh] at r0 r1 r2 r3 r4
 clear G h1 I J D HE HK c1 c3 c4 c5 c6 V U fz rr
 go_wp2_with fail
 show bodyPost _ _ _ _ _ (Zl w3 (w+1+1) Ic n Ig Ie Ie)
 refine Q7 (v:=.agg #[Ic,n,Ig,Ie,Ie]) (by simp [results,results91,go_sem,Ze H2.o]) rfl ⟨_,rfl,Yb (s:=[]) Ib (Sl.nil _ _ _) (Sl.nil _ _ _),Zd T.o Ia⟩
theorem ev_text (nm:Bs) (n:Int) (s:Bs) (names binds:List Bs) (kids:List Ex) (a z:Int) (env:List (Bs × Val)) (hs:s.length<=4096):EvO (.mk 1 nm n s names binds kids a z) env (some (.mk 1 0 s [] [])):=by
 intro S0 S' cs p w aE O N M
 have aD:=Qq O
 clear O
 have Y:Xy (λb=>S0 b/\b<w) w p env:=M.move (.refl _ _) (λb hb h=>⟨h,hb⟩)
 obtain ⟨nv,bv,kv,rfl,aF,aH,hn,hb,Z⟩:=Yy.1 N
 obtain ⟨np,nc,rfl,_⟩:=hn.len
 obtain ⟨bp,bc,rfl,_⟩:=hb.len
 obtain ⟨kp,kc,rfl,aA⟩:=Z.len
 obtain ⟨q,rfl⟩:=Y.ptr
 obtain ⟨HE,HK,V,U⟩:=It Y Z hn hb
 obtain ⟨kl,A⟩:=eX (kids.length)
 rw [A] at HK aA
 have aC:=Qq A
 clear N Y M hn hb Z
 unfold sv
 rw [A]
 clear A
 go_enter func91,ntmps91
 go_upto_region 3 with fail
 generalize D:((w.alloc _).alloc _).alloc _=w3
 have J:=Iq D (Xt _ _ _ _)
 have G:=Ik (b:=w.heap.size) D (Zp _ _ _ _)
 have h1:=Ik (b:=w.heap.size+1) D (Zo _ _ _ _)
 have I:=Ik (b:=w.heap.size+1+1) D (Zi _ _ _ _)
 have aI:w.heap.size+1+1<w3.heap.size:=Z8 I
 have c0:=AB G;have c1:=AA G;have c2:=AM G;have c3:=AH G;have c4:=Iz G;have c5:=AY G;have c6:=AK G
 obtain ⟨H0,H1,H2,T⟩:=It G h1 I J
 have aG:(s.length:Int)<=4096:=Ia
 have HM:=Qq Xf
 have fz:=λj=>Qn _ _ j _ _ I;obtain ⟨f0,f1,f2,f3,f4⟩:=Iw fz;have rr:=λj=>Qk _ _ j _ _ _ I;obtain ⟨r0,r1,r2,r3,r4⟩:=Iw rr
 simp only [Qf,Qg,Qh] at r0 r1 r2 r3 r4
 clear G h1 I J D HE HK c1 c2 c4 c5 c6 V U fz rr
 go_wp2_with (go_at_call 134;refine (HM.o _).mono ?_;rintro e w' ⟨rfl,rfl⟩)
 show bodyPost _ _ _ _ _ (Zl w3 (w+1+1) (.int .i64 1) Ic s Ie Ie)
 refine Q7 (v:=.agg #[.int .i64 1,Ic,s,Ie,Ie]) (by simp [results,results91,go_sem,Ze H2.o]) rfl ⟨_,rfl,Yb Ia (Sl.nil _ _ _) (Sl.nil _ _ _),Zd T.o Ia⟩
end Go.Proofs.YtdpibdpbgokmoaaGreatDoor
