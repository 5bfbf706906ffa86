import Derived.Test.YtcljcblceodciaaGreatDoorU07
set_option maxRecDepth 100000
set_option maxHeartbeats 400000000
namespace Go.Proofs.YtcljcblceodciaaGreatDoor
open Go.RowKit Go.Shelf Go.Lib Tryz
theorem Zs {w:World} {b o:Nat} {v:Value} (hb:b<w) (h:w.cell? ⟨b,o,none⟩=some v):∀ n os,(Sort.grow (w.drewN n) os).cell? ⟨b,o,none⟩=some v:=fun n os=>cell_grown hb h n os
theorem Yb (w:World) (n:Nat) (os:Array Obj):Gr w (Sort.grow (w.drewN n) os):=⟨n,os,rfl⟩
open Go.RowKit
theorem J3 (x y:Int) (w:World):Calls Tryz.prog 91 #[x,y] w fun e w'=>e=.returned (.int .i64 (ord x y))∧w=w':=by
 have key:∀ r,ord x y=r→Calls Tryz.prog 91 #[x,y] w fun e w'=>e=.returned (.int .i64 r)∧w=w':=by
  intro r A
  by_cases h1:x<y
  ·have:r=-1:=by rw [← A];unfold ord;rw [if_pos h1]
   subst this
   clear A
   go_enter Tryz.func91,Tryz.ntmps91
   go_wp2_with fail
   go_ret
   exact ⟨rfl,rfl⟩
  by_cases h2:y<x
  ·have:r=1:=by rw [← A];unfold ord;rw [if_neg h1,if_pos h2]
   subst this
   clear A
   go_enter Tryz.func91,Tryz.ntmps91
   go_wp2_with fail
   go_ret
   exact ⟨rfl,rfl⟩
  have:r=0:=by rw [← A];unfold ord;rw [if_neg h1,if_neg h2]
  subst this
  clear A
  go_enter Tryz.func91,Tryz.ntmps91
  go_wp2_with fail
  go_ret
  exact ⟨rfl,rfl⟩
 exact key _ rfl
theorem Eb (x y:ByteArray) (w:World):Calls Tryz.prog 92 #[.string x,.string y] w fun e w'=>e=.returned (.int .i64 (Yc (bl x) (bl y)))∧w=w':=by
 obtain ⟨A,D,G⟩:=Vc (bl x) (bl y)
 obtain ⟨M,N,O⟩:=Vc (bl y) (bl x)
 have J:Yc (bl x) (bl y)=- Yc (bl y) (bl x):=by
  have:=Vl (bl x) (bl y) [] []
  have h:=Vl (bl y) (bl x) [] []
  simp only [List.append_nil,lex,Jr] at this h
  rw [← this,← h];exact Kp _ _
 rw [← Dz x,← Dz y] at A D G M N O J ⊢
 obtain ⟨c,T⟩:=eX (Yc x.toList y.toList)
 obtain ⟨d,U⟩:=eX (Yc y.toList x.toList)
 rw [T] at A D G J ⊢
 rw [U] at M N O J
 have HC:=Qq T;have HD:=Qq U
 clear T U
 rcases G with G | G | G <;> subst G
 ·have k1:Op.bytesLess x.toList y.toList=true:=A.trans Cc
  clear A D M N O J
  go_enter Tryz.func92,Tryz.ntmps92
  go_wp2_with fail
  go_ret
  exact ⟨rfl,rfl⟩
 ·have k1:Op.bytesLess x.toList y.toList=false:=A.trans Cc
  have I:d=0:=C7
  subst I
  have k2:(x.toList==y.toList)=true:=D.trans Cc
  clear A D M N O J
  go_enter Tryz.func92,Tryz.ntmps92
  go_wp2_with fail
  go_ret
  exact ⟨rfl,rfl⟩
 have k1:Op.bytesLess x.toList y.toList=false:=A.trans Cc
 have I:d=-1:=C7
 subst I
 have k2:(x.toList==y.toList)=false:=D.trans Cc
 clear A D M N O J
 go_enter Tryz.func92,Tryz.ntmps92
 go_wp2_with fail
 go_ret
 exact ⟨rfl,rfl⟩
theorem cmpN_end {a b:List Bs} {k:Nat} (ha:k≤a.length) (hb:k≤b.length) (h:k=a.length∨k=b.length):Jg (a.drop k) (b.drop k)=ord a.length b.length:=by
 by_cases h1:k=a.length
 ·rw [Qu (by omega:a.length≤k)]
  by_cases h2:k=b.length
  ·rw [Qu C7];unfold ord;rw [if_neg C7,if_neg C7];rfl
  rw [Qp (by omega:k<b.length)];unfold ord;rw [if_pos C7];rfl
 have h2:k=b.length:=C7
 rw [Qu (by omega:b.length≤k),Qp (by omega:k<a.length)];unfold ord;rw [if_neg C7,if_pos C7];rfl
theorem Wn {a b:List Val} {k:Nat} (ha:k≤a.length) (hb:k≤b.length) (h:k=a.length∨k=b.length):Vq (a.drop k) (b.drop k)=ord a.length b.length:=by
 by_cases h1:k=a.length
 ·rw [Qu (by omega:a.length≤k)]
  by_cases h2:k=b.length
  ·rw [Qu C7];unfold ord;rw [if_neg C7,if_neg C7];simp [Vq]
  rw [Qp (by omega:k<b.length)];unfold ord;rw [if_pos C7];simp [Vq]
 have h2:k=b.length:=C7
 rw [Qu (by omega:b.length≤k),Qp (by omega:k<a.length)];unfold ord;rw [if_neg C7,if_pos C7];simp [Vq]
theorem Rg (S S':Nat→Prop) (av bv:Value) (a b:List Bs) (w:World) (ha:Sl Zh S w av a) (hb:Sl Zh S' w bv b):
  Calls Tryz.prog 93 #[av,bv] w fun e w'=>e=.returned (.int .i64 (Jg a b))∧Gr w w':=by
 obtain ⟨pa,ca,rfl,aL⟩:=ha.len
 obtain ⟨pb,cb,rfl,aM⟩:=hb.len
 have HA:=Qq ha;have HB:=Qq hb
 obtain ⟨r,hr⟩:=eX (Jg a b)
 rw [hr]
 have HR:=Qq hr
 have HO:=Qq (fun W=>J3 a.length b.length W)
 clear ha hb hr
 go_enter Tryz.func93,Tryz.ntmps93
 go_wp2_with fail
 go_loopw [5,6] (fun i _ wr=>∃ k:Nat,k≤a.length∧k≤b.length∧i=.int .i64 k∧Aside (Jg (a.drop k) (b.drop k)=r)∧Aside (Gr w wr)) (fun i _ _=>a.length - (intOf i).toNat)
 case atStart=>exact ⟨0,Q8 _,Q8 _,rfl,HR.out,Gr.refl _⟩
 obtain ⟨k,aG,aH,rfl,U,V⟩:=hrel
 have G:=Qq (show Gr w wr from V)
 clear V
 by_cases D:k<a.length∧k<b.length
 ·obtain ⟨D,J⟩:=D
  obtain ⟨x,hx⟩:∃ x,a[k]?=some x:=⟨_,Qx D⟩
  have N:a.drop k=x::a.drop (k+1):=by
   rw [Qp D];rw [Qx D] at hx;cases hx;rfl
  obtain ⟨ga,oa,rfl,c1,l1⟩:=(HA.out.below G.out.bl).str hx
  obtain ⟨y,hy⟩:∃ y,b[k]?=some y:=⟨_,Qx J⟩
  have O:b.drop k=y::b.drop (k+1):=by
   rw [Qp J];rw [Qx J] at hy;cases hy;rfl
  obtain ⟨gb,ob,rfl,c2,l2⟩:=(HB.out.below G.out.bl).str hy
  have M:Jg (a.drop k) (b.drop k)=r:=U
  rw [N,O] at M
  have HS:=Qq (Eb ⟨x.toArray⟩ ⟨y.toArray⟩)
  have T:Yc (bl ⟨x.toArray⟩) (bl ⟨y.toArray⟩)=Yc x y:=rfl
  rw [T] at HS
  have I:thn (Yc x y) (Jg (a.drop (k+1)) (b.drop (k+1)))=r:=M
  generalize Yc x y=c at HS I
  have aJ:(0:Int)≤(k:Int):=C7
  have Y:(k:Int)<a.length:=C7
  have aK:(k:Int)<b.length:=C7
  by_cases hc0:c=0
  ·subst hc0
   have HC:=Qq I
   clear U I M N O hx hy T
   go_wp2_with fail
   go_quiet ((go_at_call 92;exact Calls.quiet_of_same ((HS.out _).mono fun _ _ h=>⟨h.1,h.2.symm⟩)))
   go_wp2_with fail
   go_roundw
   case rel=>exact ⟨k+1,C7,C7,by go_num,HC.out,G.out.thn ⟨_,#[],by rw [Sort.grow_empty]⟩⟩
   case measure=>simp [intOf];omega
  have aN:(c != 0)=true:=by rw [bne_iff_ne];exact hc0
  have aE:c=r:=by rw [← I];unfold thn;rw [if_neg hc0]
  subst aE
  clear U I M N O hx hy T hc0
  go_wp2_with fail
  go_quiet ((go_at_call 92;exact Calls.quiet_of_same ((HS.out _).mono fun _ _ h=>⟨h.1,h.2.symm⟩)))
  go_wp2_with fail
  go_ret
  exact ⟨rfl,G.out.thn ⟨_,#[],by rw [Sort.grow_empty]⟩⟩
 have A:k=a.length∨k=b.length:=C7
 have Z:r=ord a.length b.length:=by rw [← cmpN_end aG aH A];exact (show Jg (a.drop k) (b.drop k)=r from U).symm
 generalize ord a.length b.length=r2 at Z HO
 subst Z
 rcases A with A | A
 ·have Y:¬ (k:Int)<a.length:=C7
  have aF:decide (k<a.length)=false:=by simp;omega
  clear U D A
  go_wp2_with (go_at_call 91;refine (HO.out _).mono ?_;rintro e w' ⟨rfl,rfl⟩)
  go_ret
  exact ⟨rfl,G.out⟩
 have Y:¬ (k:Int)<b.length:=C7
 have aF:decide (k<b.length)=false:=by simp;omega
 clear U D A
 go_wp2_with (go_at_call 91;refine (HO.out _).mono ?_;rintro e w' ⟨rfl,rfl⟩)
 all_goals (go_ret;exact ⟨rfl,G.out⟩)
def Ll (x:Val):Prop:=∀ (y:Val) (S S':Nat→Prop) (cx cy:List Value) (w:World),Z9 S w cx x→Z9 S' w cy y →
 Calls Tryz.prog 32 #[cx,cy] w fun e w'=>e=.returned (.int .i64 (Yv x y))∧Gr w w'
theorem rkids_of (S S':Nat→Prop) (av bv:Value) (a b:List Val) (hC:∀ x ∈ a,Ll x) (w:World) (ha:Sl Zd S w av a) (hb:Sl Zd S' w bv b):
  Calls Tryz.prog 94 #[av,bv] w fun e w'=>e=.returned (.int .i64 (Vq a b))∧Gr w w':=by
 obtain ⟨pa,ca,rfl,aR⟩:=ha.len
 obtain ⟨pb,cb,rfl,aS⟩:=hb.len
 obtain ⟨HA,HB,HC⟩:=Qjq ha hb hC
 obtain ⟨r,hr⟩:=eX (Vq a b)
 rw [hr]
 have HR:=Qq hr
 have HO:=Qq (fun W=>J3 a.length b.length W)
 have mixed:Tryz.prog.follows .mixedOrders=true:=Cd
 clear ha hb hr hC
 go_enter Tryz.func94,Tryz.ntmps94
 go_wp2_with fail
 go_loopw [5,6] (fun i _ wr=>∃ k:Nat,k≤a.length∧k≤b.length∧i=.int .i64 k∧Aside (Vq (a.drop k) (b.drop k)=r)∧Aside (Gr w wr)) (fun i _ _=>a.length - (intOf i).toNat)
 case atStart=>exact ⟨0,Q8 _,Q8 _,rfl,HR.out,Gr.refl _⟩
 obtain ⟨k,aM,aN,rfl,V,U⟩:=hrel
 have G:=Qq (show Gr w wr from U)
 clear U
 by_cases D:k<a.length∧k<b.length
 ·obtain ⟨D,N⟩:=D
  obtain ⟨x,hx⟩:∃ x,a[k]?=some x:=⟨_,Qx D⟩
  have Y:a.drop k=x::a.drop (k+1):=by
   rw [Qp D];rw [Qx D] at hx;cases hx;rfl
  obtain ⟨ga,oa,p3,k3,p4,k4,rfl,J,aC,d0,d1,d2,d3,d4⟩:=(HA.out.below G.out.bl).val hx
  obtain ⟨y,hy⟩:∃ y,b[k]?=some y:=⟨_,Qx N⟩
  have Z:b.drop k=y::b.drop (k+1):=by
   rw [Qp N];rw [Qx N] at hy;cases hy;rfl
  obtain ⟨gb,ob,q3,l3,q4,l4,rfl,M,aD,e0,e1,e2,e3,e4⟩:=(HB.out.below G.out.bl).val hy
  have O:Vq (a.drop k) (b.drop k)=r:=V
  rw [Y,Z] at O
  have I:thn (Yv x y) (Vq (a.drop (k+1)) (b.drop (k+1)))=r:=by simpa [Vq] using O
  have HX:=Qq (HC.out x (Qy hx) y S S')
  have aI:=Qq aC;have aJ:=Qq aD
  generalize Yv x y=c at HX I
  have aP:(0:Int)≤(k:Int):=C7
  have aA:(k:Int)<a.length:=C7
  have aQ:(k:Int)<b.length:=C7
  clear aC aD V O Y Z hx hy
  have T:∀ n os,Calls Tryz.prog 32 #[.agg (vcs x p3 k3 p4 k4).toArray,.agg (vcs y q3 l3 q4 l4).toArray] (Sort.grow (wr.drewN n) os) fun e w'=>e=.returned (.int .i64 c)∧Gr (Sort.grow (wr.drewN n) os) w':=fun n os=>HX.out _ _ _ (aI.out.move (.of_below (Yb _ _ _).bl) Qje) (aJ.out.move (.of_below (Yb _ _ _).bl) Qje)
  unfold vcs at T
  have D0:=Zs J d0;have D1:=Zs J d1;have D2:=Zs J d2;have D3:=Zs J d3;have D4:=Zs J d4
  have E0:=Zs M e0;have E1:=Zs M e1;have E2:=Zs M e2;have E3:=Zs M e3;have E4:=Zs M e4
  clear d0 d1 d2 d3 d4 e0 e1 e2 e3 e4
  by_cases hc0:c=0
  ·subst hc0
   have aG:=Qq I
   clear I
   go_wp2_with fail
   go_quiet_grown (first | (go_at_call 32;refine Calls.grown_of (T _ _)))
   go_wp2_with fail
   go_roundw
   case rel=>exact ⟨k+1,C7,C7,by go_num,aG.out,G.out.thn (Yb _ _ _)⟩
   case measure=>simp [intOf];omega
  have aT:(c != 0)=true:=by rw [bne_iff_ne];exact hc0
  have aK:c=r:=by rw [← I];unfold thn;rw [if_neg hc0]
  subst aK
  clear I hc0
  go_wp2_with fail
  go_quiet_grown (first | (go_at_call 32;refine Calls.grown_of (T _ _)))
  go_wp2_with fail
  go_ret
  exact ⟨rfl,G.out.thn (Yb _ _ _)⟩
 have A:k=a.length∨k=b.length:=C7
 have aB:r=ord a.length b.length:=by rw [← Wn aM aN A];exact (show Vq (a.drop k) (b.drop k)=r from V).symm
 generalize ord a.length b.length=r2 at aB HO
 subst aB
 rcases A with A | A
 ·have aA:¬ (k:Int)<a.length:=C7
  have aL:decide (k<a.length)=false:=by simp;omega
  clear V D A
  go_wp2_with (go_at_call 91;refine (HO.out _).mono ?_;rintro e w' ⟨rfl,rfl⟩)
  go_ret
  exact ⟨rfl,G.out⟩
 have aA:¬ (k:Int)<b.length:=C7
 have aL:decide (k<b.length)=false:=by simp;omega
 clear V D A
 go_wp2_with (go_at_call 91;refine (HO.out _).mono ?_;rintro e w' ⟨rfl,rfl⟩)
 all_goals (go_ret;exact ⟨rfl,G.out⟩)
theorem Wo (k n:Int) (s:Bs) (ns:List Bs) (ks:List Val) (ih:∀ x ∈ ks,Ll x):Ll (.mk k n s ns ks):=by
 rintro ⟨k',M,T,D,A⟩ S S' cx cy w hx hy
 obtain ⟨nv,kv,rfl,hs,hn,hk⟩:=Vg.1 hx
 obtain ⟨aH,aG,rfl,aQ,aF,aE⟩:=Vg.1 hy
 have hN:∀ w',Below w w w'→Calls Tryz.prog 93 #[nv,aH] w' fun e V=>e=.returned (.int .i64 (Jg ns D))∧Gr w' V:=
  fun w' hb=>Rg S S' nv aH ns D w' (hn.below hb) (aF.below hb)
 have hK:∀ w',Below w w w'→Calls Tryz.prog 94 #[kv,aG] w' fun e V=>e=.returned (.int .i64 (Vq ks A))∧Gr w' V:=
  fun w' hb=>rkids_of S S' kv aG ks A ih w' (hk.below hb) (aE.below hb)
 have hS:∀ w',Calls Tryz.prog 92 #[sv s,sv T] w' fun e V=>e=.returned (.int .i64 (Yc s T))∧w'=V:=fun w'=>Eb _ _ w'
 obtain ⟨HN,HK,HS⟩:=Qjq hN hK hS
 obtain ⟨cb,I⟩:=eX (Yc s T)
 obtain ⟨cn,J⟩:=eX (Jg ns D)
 obtain ⟨cv,G⟩:=eX (Vq ks A)
 rw [I] at HS;rw [J] at HN;rw [G] at HK
 have aP:=Qq (fun o1 o2=>Zu w o1 o2)
 clear hN hK hS hx hy ih hn aF hk aE
 by_cases hkk:k=k'
 ·subst hkk
  by_cases h0:k=0
  ·subst h0
   rw [show Yv (.mk 0 n s ns ks) (.mk 0 M T D A)=ord n M by simp [Yv]]
   have Z:=Qq (fun w=>J3 n M w)
   generalize ord n M=r at Z ⊢
   clear I J G
   go_enter Tryz.func32,Tryz.ntmps32
   go_wp2_with (go_at_call 91;refine (Z.out _).mono ?_;rintro e w' ⟨rfl,rfl⟩)
   go_ret
   exact ⟨rfl,Ve _ _ _⟩
  by_cases h2:k=2
  ·subst h2
   rw [show Yv (.mk 2 n s ns ks) (.mk 2 M T D A)=ord n M by simp [Yv]]
   have Z:=Qq (fun w=>J3 n M w)
   generalize ord n M=r at Z ⊢
   clear I J G h0
   go_enter Tryz.func32,Tryz.ntmps32
   go_wp2_with (go_at_call 91;refine (Z.out _).mono ?_;rintro e w' ⟨rfl,rfl⟩)
   go_ret
   exact ⟨rfl,Ve _ _ _⟩
  by_cases h1:k=1
  ·subst h1
   rw [show Yv (.mk 1 n s ns ks) (.mk 1 M T D A)=cb by simp [Yv,I]]
   clear I J G h0 h2
   go_enter Tryz.func32,Tryz.ntmps32
   go_wp2_with (go_at_call 92;refine (HS.out _).mono ?_;rintro e w' ⟨rfl,rfl⟩)
   go_ret
   exact ⟨rfl,Ve _ _ _⟩
  by_cases h3:k=3
  ·subst h3
   have N:Yv (.mk 3 n s ns ks) (.mk 3 M T D A)=thn cb cv:=by simp [Yv,I,G]
   clear I J G h0 h2 h1
   by_cases hz:cb=0
   ·subst hz
    rw [N,Uc]
    clear N
    go_enter Tryz.func32,Tryz.ntmps32
    go_wp2_with (first | (go_at_call 92;refine (HS.out _).mono ?_;rintro e w' ⟨rfl,rfl⟩) | (go_at_call 94;refine (HK.out _ (Zu _ _ _)).mono ?_;rintro e w' ⟨rfl,hw⟩;have HW:=Qq ((Ve w _ _).thn hw);clear hw))
    go_ret
    exact ⟨rfl,HW.out⟩
   have hq:(cb != 0)=true:=by rw [bne_iff_ne];exact hz
   have U:Yv (.mk 3 n s ns ks) (.mk 3 M T D A)=cb:=by rw [N];unfold thn;rw [if_neg hz]
   rw [U]
   clear N U hz
   go_enter Tryz.func32,Tryz.ntmps32
   go_wp2_with (go_at_call 92;refine (HS.out _).mono ?_;rintro e w' ⟨rfl,rfl⟩)
   go_ret
   exact ⟨rfl,Ve _ _ _⟩
  by_cases h4:k=4
  ·subst h4
   have N:Yv (.mk 4 n s ns ks) (.mk 4 M T D A)=thn cn cv:=by simp [Yv,J,G]
   clear I J G h0 h2 h1 h3
   by_cases hz:cn=0
   ·subst hz
    rw [N,Uc]
    clear N
    go_enter Tryz.func32,Tryz.ntmps32
    go_wp2_with (first | (go_at_call 93;refine (HN.out _ (Zu _ _ _)).mono ?_;rintro e wn ⟨rfl,O⟩;have Y:=Qq ((Ve w _ _).thn O);obtain ⟨aN,aO⟩:=Hw O.bl;clear O) | (go_at_call 94;refine (HK.out _ Y.out.bl).mono ?_;rintro e w' ⟨rfl,hw⟩;have HW:=Qq (Y.out.thn hw);clear hw))
    go_ret
    exact ⟨rfl,HW.out⟩
   have hq:(cn != 0)=true:=by rw [bne_iff_ne];exact hz
   have U:Yv (.mk 4 n s ns ks) (.mk 4 M T D A)=cn:=by rw [N];unfold thn;rw [if_neg hz]
   rw [U]
   clear N U hz
   go_enter Tryz.func32,Tryz.ntmps32
   go_wp2_with (go_at_call 93;refine (HN.out _ (Zu _ _ _)).mono ?_;rintro e wn ⟨rfl,O⟩;have Y:=Qq ((Ve w _ _).thn O);obtain ⟨aN,aO⟩:=Hw O.bl;clear O)
   go_ret
   exact ⟨rfl,Y.out⟩
  by_cases h5:k=5
  ·subst h5
   rw [show Yv (.mk 5 n s ns ks) (.mk 5 M T D A)=cv by simp [Yv,G]]
   clear I J G h0 h2 h1 h3 h4
   go_enter Tryz.func32,Tryz.ntmps32
   go_wp2_with (go_at_call 94;refine (HK.out _ (Zu _ _ _)).mono ?_;rintro e w' ⟨rfl,hw⟩;have HW:=Qq ((Ve w _ _).thn hw);clear hw)
   go_ret
   exact ⟨rfl,HW.out⟩
  have N:Yv (.mk k n s ns ks) (.mk k M T D A)=0:=by simp [Yv,h0,h1,h2,h3,h4,h5]
  rw [N]
  have q0:(k==0)=false:=by simpa using h0
  have q1:(k==1)=false:=by simpa using h1
  have q2:(k==2)=false:=by simpa using h2
  have q3:(k==3)=false:=by simpa using h3
  have q4:(k==4)=false:=by simpa using h4
  have q5:(k==5)=false:=by simpa using h5
  clear N I J G h0 h1 h2 h3 h4 h5
  go_enter Tryz.func32,Tryz.ntmps32
  go_wp2_with fail
  go_ret
  exact ⟨rfl,Ve _ _ _⟩
 have N:Yv (.mk k n s ns ks) (.mk k' M T D A)=ord k k':=by simp [Yv,hkk]
 rw [N]
 have hq:(k != k')=true:=by rw [bne_iff_ne];exact hkk
 have Z:=Qq (fun w=>J3 k k' w)
 generalize ord k k'=r at Z ⊢
 clear N I J G hkk
 go_enter Tryz.func32,Tryz.ntmps32
 go_wp2_with (go_at_call 91;refine (Z.out _).mono ?_;rintro e w' ⟨rfl,rfl⟩)
 go_ret
 exact ⟨rfl,Ve _ _ _⟩
theorem rcmpAt:∀ x:Val,Ll x
 | .mk k n s ns ks=>Wo k n s ns ks fun x _=>rcmpAt x
termination_by x=>SizeOf.sizeOf x
decreasing_by
 have:=List.sizeOf_lt_of_mem ‹_ ∈ ks›
 simp only [Val.mk.sizeOf_spec]
 omega
theorem Eh (S S':Nat→Prop) (a b:Val) (ca cb:List Value) (w:World) (ha:Z9 S w ca a) (hb:Z9 S' w cb b):
  Calls Tryz.prog 32 #[ca,cb] w fun e w'=>e=.returned (.int .i64 (Yv a b))∧Gr w w':=rcmpAt a b S S' ca cb w ha hb
def U8 (v:Val) (x:Bs):Int:=if X7 v (Xf v x) then Xf v x else -1
theorem Ec (S:Nat→Prop) (v:Val) (cs:List Value) (x:Bs) (w:World) (h:Z9 S w cs v):
  Calls prog 107 #[cs,sv x] w fun e w'=>e=.returned (.int .i64 (U8 v x))∧Below w w w':=by
 obtain ⟨p3,k3,p4,k4,N,U,T,_⟩:=Z9.cells h
 simp only [vcs] at N
 subst N
 have hl:v.kids.length≤1000000:=by obtain ⟨_,_,_,h⟩:=T.len;exact h
 obtain ⟨_,_,_,Z⟩:=U.len
 obtain ⟨r,O⟩:=eX (U8 v x)
 rw [O]
 by_cases h4:v.kind=4
 ·have V:(v.kind != 4)=false:=by rw [h4];rfl
  have HS:=Qq (U.below (Zg w (.cells #[.int .i64 4,v.n,v.s,.slice p3 v.names.length k3,.slice p4 v.kids.length k4] 36)))
  have Y:=Qq O
  have H4:=Qq h4
  rw [h4]
  clear h U T O h4 V
  obtain ⟨n,I⟩:=eX (v.names.length)
  rw [I] at HS Z ⊢
  have HN:=Qq I
  clear I
  unfold sv
  go_enter func107,ntmps107
  go_wp2_with fail
  go_loop [5] (fun i=>∃ k:Nat,k≤n∧i=.int .i64 k∧Aside (∀ (j:Nat) (y:Bs),j<k→v.names[j]?=some y→decide (y=x)=false)) (fun i=>n - (intOf i).toNat)
  case atStart=>exact ⟨0,Q8 _,rfl,fun j _ hj=>absurd hj (Z6 _)⟩
  obtain ⟨k,T,rfl,A⟩:=hrel
  by_cases hlt:k<n
  ·have aD:(0:Int)≤(k:Int):=C7
   have aE:(k:Int)<(n:Int):=C7
   obtain ⟨y,J⟩:∃ y,v.names[k]?=some y:=⟨_,Qx (by rw [HN.out];exact hlt)⟩
   obtain ⟨b,aF,rfl,hc,-⟩:=HS.out.str J
   have HY:=Qq J
   clear J
   by_cases he:y=x
   ·have V:(y==x)=true:=by rw [he];simp
    have G:Xf v x=k:=by unfold Xf;exact Je HY.out (by rw [he];simp) A.out
    have M:=Qq G
    clear he G
    by_cases hkl:k<v.kids.length
    ·have D:r=k:=by
      rw [← Y.out];unfold U8;rw [M.out]
      have:X7 v (k:Int)=true:=by unfold X7;simp [H4.out,hkl]
      rw [this];rfl
     subst D
     go_wp2_with fail
     go_ret
     exact ⟨rfl,Zg _ _⟩
    have D:r=-1:=by
     rw [← Y.out];unfold U8;rw [M.out]
     have:X7 v (k:Int)=false:=by unfold X7;simp [hkl]
     rw [this];rfl
    subst D
    have aB:¬ (k:Int)<(v.kids.length:Int):=C7
    go_wp2_with fail
    go_ret
    exact ⟨rfl,Zg _ _⟩
   have V:(y==x)=false:=by rw [← Qt,beq_iff_eq];exact he
   have HE:=Qq he
   clear he
   go_wp2_with fail
   go_round
   case measure=>simp [intOf];omega
   case rel=>
    refine ⟨k+1,C7,by go_num,(show Aside _ from fun j z hj hz=>?_)⟩
    by_cases e:j=k
    ·subst e
     have:=HY.out
     rw [this] at hz
     cases hz
     simpa using HE.out
    exact A.out j z C7 hz
  have aC:¬ (k:Int)<(n:Int):=C7
  have:k=n:=C7
  subst this
  have G:Xf v x=-1:=by unfold Xf;exact U4 (fun j y J=>A.out j y (by have:=(Qj J).1;have:=HN.out;omega) J)
  have D:r=-1:=by
   rw [← Y.out];unfold U8;rw [G]
   have:X7 v (-1)=false:=by unfold X7;simp
   rw [this];rfl
  subst D
  clear G
  go_wp2_with fail
  go_ret
  exact ⟨rfl,Zg _ _⟩
 have D:r=-1:=by
  rw [← O];unfold U8
  have:X7 v (Xf v x)=false:=by unfold X7;simp [h4]
  rw [this];rfl
 subst D
 have V:(v.kind != 4)=true:=by rw [bne_iff_ne];exact h4
 clear h U T O h4
 unfold sv
 go_enter func107,ntmps107
 go_wp2_with fail
 go_ret
 exact ⟨rfl,Zg _ _⟩
def RGetIs (S:Nat→Prop) (w:World) (o:Option Val) (e:Ending) (w':World):Prop:=
 ∃ cs',e=.returned (.tuple #[.agg cs'.toArray,.bool o.isSome])∧Z9 S w' cs' (o.getD Val.zero)∧Below w w w'
theorem Fw {v:Val} {x:Bs} (h:Yt v x=none):U8 v x=-1:=by unfold U8;rw [Hr h];rfl
theorem Fe {v u:Val} {x:Bs} (h:Yt v x=some u):∃ i:Nat,U8 v x=i∧v.kids[i]?=some u:=by
 obtain ⟨i,hi,hu,hb⟩:=Gy h
 exact ⟨i,by unfold U8;rw [hb,hi];rfl,hu⟩
theorem Bu (S:Nat→Prop) (v:Val) (cs:List Value) (x:Bs) (w:World) (h0:Z9 S w cs v):
  Calls prog 49 #[cs,sv x] w (RGetIs S w (Yt v x)):=by
 have h:Z9 (fun b=>S b∧b<w) w cs v:=h0.move (.refl _ _) (fun b hb hs=>⟨hs,hb⟩)
 clear h0
 have N:=Qq (fun W (hb:Below w w W)=>Ec _ v cs x W (h.move (.of_below hb) Qje))
 obtain ⟨p3,k3,p4,k4,O,hn,hk,_⟩:=Z9.cells h
 simp only [vcs] at O
 subst O
 have HK:=Qq hk
 clear h hn hk
 unfold sv at N ⊢
 cases hg:Yt v x with
 | none=>
  rw [Fw hg] at N
  clear hg
  go_enter func49,ntmps49
  go_wp2_with fail
  refine (N.out _ (Zu _ _ _)).mono ?_
  rintro e Y ⟨rfl,I⟩
  have HW:=Qq I
  have G:=(I.block (w+1) Ca).trans (Q6 _ _ _)
  have V:=Qq G
  have f:=fun j=>Qn _ _ j _ _ G
  have y:=fun j=>Qk _ _ j _ _ _ G
  obtain ⟨Z,y1,y2,y3,y4⟩:=Qjw y
  obtain ⟨f0,f1,f2,f3,f4⟩:=Qjw f
  simp only [Qf,Qg,Qh] at Z y1 y2 y3 y4
  clear I G f y
  go_wp2_with fail
  show bodyPost _ _ _ _ _ (Zi Y _ _ _ _ _ _)
  refine Q7 (v:=.tuple #[.agg zV,.bool false]) (by simp [results,results49,go_sem,Ze V.out]) rfl ⟨_,rfl,Yi _ _,?_⟩
  exact Zc ((Zu w _ _).thn HW.out) C7
 | some u=>
  obtain ⟨i,hi,J⟩:=Fe hg
  rw [hi] at N
  obtain ⟨b,aE,q3,l3,q4,l4,rfl,D,U,d0,d1,d2,d3,d4⟩:=HK.out.val J
  have T:i<v.kids.length:=(Qj J).1
  have aB:(0:Int)≤(i:Int):=C7
  have aC:(i:Int)<(v.kids.length:Int):=C7
  have aD:decide ((i:Int)<0)=false:=Ca
  have HV:=Qq U
  clear hg hi J U
  go_enter func49,ntmps49
  go_wp2_with fail
  refine (N.out _ (Zu _ _ _)).mono ?_
  rintro e Y ⟨rfl,I⟩
  have A:=(Zu w _ _).thn I
  have G:=(I.block (w+1) Ca).trans (Q6 _ _ _)
  have hX:=(I.block w (by simp;omega)).trans (Q5 _ _ _)
  have e0:=kD A D d0;have e1:=kD A D d1;have e2:=kD A D d2;have e3:=kD A D d3;have e4:=kD A D d4
  have x4:=Qk _ _ 4 _ _ _ hX
  have f:=fun j=>Qn _ _ j _ _ G
  have y:=fun j=>Qk _ _ j _ _ _ G
  obtain ⟨Z,y1,y2,y3,y4⟩:=Qjw y
  obtain ⟨f0,f1,f2,f3,f4⟩:=Qjw f
  simp only [Qf,Qg,Qh] at x4 Z y1 y2 y3 y4
  have M:=Qq A;have V:=Qq G
  clear I A hX G d0 d1 d2 d3 d4 f y
  go_wp2_with fail
  show bodyPost _ _ _ _ _ (Zi Y _ _ _ _ _ _)
  refine Q7 (v:=.tuple #[.agg (Cn u q3 l3 q4 l4),.bool true]) (by simp [results,results49,go_sem,Ze V.out]) rfl ⟨_,rfl,?_,Zc M.out C7⟩
  refine Z9.move HV.out (fun b hb T=>(Zf ?_).trans (M.out.block b T)) (fun b _ hb=>hb.1)
  have:=hb.2
  omega
def Nx (v:Value) (rvs:List Value):Nat→Prop:=fun b=>v.ownBlock≠some b∧∀ rv ∈ rvs,rv.ownBlock≠some b
def Y9 (l:List Rel) (rvs:List Value):List (List Value):=List.zipWith (fun r rv=>[sv r.table,rv]) l rvs
structure Uj (B:Nat) (w:World) (v:Value) (l:List Rel) (rvs:List Value):Prop where
 len:rvs.length=l.length
 row:w.ownsRow B 80 2 v l.length (Y9 l rvs).flatten
 tl:∀ r ∈ l,r.table.length≤1000000
 rows:∀ (i:Nat) (r:Rel) (rv:Value),l[i]?=some r→rvs[i]?=some rv→∃ css,Own Zd 36 (Nx v rvs) B w rv r.rows css
 apart:∀ (i j:Nat) (a b:Value) (g:Nat),rvs[i]?=some a→rvs[j]?=some b→a.ownBlock=some g→b.ownBlock=some g→i=j
theorem J5 {l:List Rel} {rvs:List Value}:∀ c ∈ Y9 l rvs,c.length=2:=by
 intro c D
 unfold Y9 at D
 rw [List.mem_iff_getElem?] at D
 obtain ⟨i,A⟩:=D
 rw [List.getElem?_zipWith] at A
 split at A
 ·cases A;rfl
 cases A
theorem Kb {l:List Rel} {rvs:List Value} {i:Nat} {r:Rel} {rv:Value} (h1:l[i]?=some r) (h2:rvs[i]?=some rv):(Y9 l rvs)[i]?=some [sv r.table,rv]:=by
 unfold Y9
 rw [List.getElem?_zipWith,h1,h2]
theorem Ue {l:List Rel} {rvs:List Value} (h:rvs.length=l.length):(Y9 l rvs).length=l.length:=by
 unfold Y9;rw [List.length_zipWith,h,Nat.min_self]
theorem Ny {l:List Rel} {rvs:List Value} {i:Nat} {r:Rel} (rv':Value) (zs:List Val) (hi:l[i]?=some r) (h:rvs.length=l.length):
  (Y9 l rvs).flatten.set (i*2+1) rv'=(Y9 (l.set i ⟨r.table,zs⟩) (rvs.set i rv')).flatten:=by
 induction l generalizing i rvs with
 | nil=>simp at hi
 | cons a l ih=>
  cases rvs with
  | nil=>simp at h
  | cons b rvs=>
   cases i with
   | zero=>
    simp at hi;subst hi
    simp [Y9]
   | succ i=>
    have:=ih (rvs:=rvs) (i:=i) (by simpa using hi) (by simpa using h)
    simp only [Y9,List.zipWith_cons_cons,List.flatten_cons,List.set_cons_succ] at this ⊢
    rw [← this,show (i+1)*2+1=([sv a.table,b]:List Value).length+(i*2+1) by simp;omega,List.set_append_right _ _ (Nat.le_add_right _ _),Nat.add_sub_cancel_left]
theorem Uj.below {B:Nat} {w w':World} {v:Value} {l:List Rel} {rvs:List Value} (h:Uj B w v l rvs) (hb:Below w w w'):Uj B w' v l rvs:=
 ⟨h.len,Kx h.row hb,h.tl,fun i r rv h1 h2=>(h.rows i r rv h1 h2).imp fun _ ho=>ho.below hb,h.apart⟩
theorem Uj.sl {B:Nat} {w:World} {v:Value} {l:List Rel} {rvs:List Value} (h:Uj B w v l rvs) (hl:l.length≤1000000) (hr:∀ r ∈ l,r.rows.length≤1000000) (S':Nat→Prop) (h1:∀ b,B≤b→S' b) (h2:∀ b,b<w.heap.size→Nx v rvs b→S' b):Sl Y6 S' w v l:=by
 have G:Cs Y6 S' w (Y9 l rvs) l:=by
  refine ⟨Ue h.len,fun i c x hc D=>?_⟩
  have hi:=(Qj D).1
  obtain ⟨rv,A⟩:∃ rv,rvs[i]?=some rv:=⟨_,Qx (by rw [h.len];exact hi)⟩
  rw [Kb D A] at hc
  cases hc
  obtain ⟨css,ho⟩:=h.rows i x rv D A
  exact ⟨rv,rfl,h.tl x (Qy D),ho.sl (hr x (Qy D)) h1 h2⟩
 rcases h.row.2 with ⟨rfl,h0⟩ | ⟨g,cap,I,rfl,hB,hg,_,_,_,ht⟩
 ·rw [Zy h0];exact Sl.nil _ _ _
 refine Sl.of_css (css:=Y9 l rvs) hl G (h1 g hB) (Array.getElem?_eq_some_iff.1 hg).1 (fun j u hu=>?_)
 rw [Nat.zero_add];exact B5 hg ht hu
theorem Uj.put {B:Nat} {w w1:World} {g cap:Nat} {l:List Rel} {rvs:List Value} {i:Nat} {r:Rel} {rv rv':Value} {zs:List Val} (h:Uj B w (.slice (some ⟨g,0,none⟩) l.length cap) l rvs) (hi:l[i]?=some r) (hrv:rvs[i]?=some rv)
  (ho:∃ css,Own Zd 36 (Nx (.slice (some ⟨g,0,none⟩) l.length cap) rvs) B w1 rv' zs css) (hg:w.grownBy w1 rv.ownBlock) (hat:rv'.ownBlock=rv.ownBlock∨∀ g',rv'.ownBlock=some g'→w.heap.size≤g'):
  Uj B (w1.setCell ⟨g,i*2+1,none⟩ rv') (.slice (some ⟨g,0,none⟩) l.length cap) (l.set i ⟨r.table,zs⟩) (rvs.set i rv'):=by
 have I:=(Qj hi).1
 have aD:=(h.row.lt g rfl).2
 have aH:=(h.row.lt g rfl).1
 obtain ⟨aG,aE⟩:=h.rows i r rv hi hrv
 have Z:some g≠rv.ownBlock:=fun e=>Yh h.row aE.row Cc rfl e.symm
 have aA:some g≠rv'.ownBlock:=by
  intro e
  rcases hat with A | A
  ·exact Z (e.trans A)
  have:=A g e.symm
  omega
 have T:w1.ownsRow B 80 2 (.slice (some ⟨g,0,none⟩) l.length cap) l.length (Y9 l rvs).flatten:=by
  refine ⟨h.row.1,?_⟩
  rcases h.row.2 with hn | ⟨g',cap',cur,e,hB,hh,rest⟩
  ·exact .inl hn
  simp only [Qr,Zv,Addr.mk.injEq] at e
  obtain ⟨⟨rfl,_⟩,_,rfl⟩:=e
  exact .inr ⟨_,_,cur,rfl,hB,(hg.block _ aD Z).trans hh,rest⟩
 have O:∀ b,b<w.heap.size→Nx (.slice (some ⟨g,0,none⟩) l.length cap) rvs b→Nx (.slice (some ⟨g,0,none⟩) l.length cap) (rvs.set i rv') b:=by
  rintro b hb ⟨f1,f2⟩
  refine ⟨f1,fun u J=>?_⟩
  rcases List.mem_or_eq_of_mem_set J with A | rfl
  ·exact f2 u A
  intro e
  rcases hat with A | A
  ·exact f2 rv (Qy hrv) (A ▸ e)
  have:=A b e;omega
 refine ⟨by rw [List.length_set,List.length_set];exact h.len,?_,?_,?_,?_⟩
 ·rw [List.length_set,← Ny rv' zs hi h.len]
  exact (T.stored (i*2+1) rv').1
 ·intro x G
  rcases List.mem_or_eq_of_mem_set G with A | rfl
  ·exact h.tl x A
  exact h.tl r (Qy hi)
 ·intro j x u G J
  by_cases e:j=i
  ·subst e
   rw [List.getElem?_set_self (by exact I)] at G
   rw [List.getElem?_set_self (by rw [h.len];exact I)] at J
   cases G;cases J
   obtain ⟨css,ho⟩:=ho
   refine ⟨css,⟨?_,?_⟩⟩
   ·refine ⟨ho.row.1,?_⟩
    rcases ho.row.2 with hn | ⟨g',cap',cur,e,hB,hh,rest⟩
    ·exact .inl hn
    refine .inr ⟨g',cap',cur,e,hB,?_,rest⟩
    rw [Za (by intro U;subst e;have e3:g'=g:=U;exact aA (by rw [← e3];rfl))];exact hh
   refine ho.cs.move (fun b D Y=>Za (fun e=>D.1.1 (by rw [e];rfl))) (fun b hb D=>⟨⟨D.1.1,fun u J=>?_⟩,D.2⟩)
   rcases List.mem_or_eq_of_mem_set J with A | rfl
   ·exact D.1.2 u A
   exact fun e=>D.2 e.symm
  rw [List.getElem?_set_ne (Ne.symm e)] at G J
  obtain ⟨css,M⟩:=h.rows j x u G J
  have aF:u.ownBlock≠some g:=Yh h.row M.row Cc rfl
  refine ⟨css,⟨?_,?_⟩⟩
  ·refine ⟨M.row.1,?_⟩
   rcases M.row.2 with hn | ⟨g',cap',cur,e1,hB,hh,rest⟩
   ·exact .inl hn
   refine .inr ⟨g',cap',cur,e1,hB,?_,rest⟩
   have aC:g'<w.heap.size:=(Array.getElem?_eq_some_iff.1 hh).1
   rw [Za (by intro U;subst e1;have e3:g'=g:=U;exact aF (by rw [← e3];rfl)),hg.block g' aC (fun U=>e (h.apart j i u rv g' J hrv (by rw [e1];rfl) U.symm))]
   exact hh
  refine M.cs.move (fun b D Y=>?_) (fun b hb D=>⟨O b hb D.1,D.2⟩)
  rw [Za (fun e=>D.1.1 (by rw [e];rfl)),hg.block b Y (fun e=>D.1.2 rv (Qy hrv) e.symm)]
 intro j k a b g' N hb A V
 by_cases ej:j=i
 ·by_cases ek:k=i
  ·omega
  subst ej
  rw [List.getElem?_set_self (by rw [h.len];exact I)] at N
  rw [List.getElem?_set_ne (Ne.symm ek)] at hb
  cases N
  obtain ⟨x,G⟩:∃ x,l[k]?=some x:=⟨_,Qx (by rw [← h.len];exact (Qj hb).1)⟩
  obtain ⟨css,M⟩:=h.rows k x b G hb
  have:=(M.row.lt g' V).2
  rcases hat with h3 | h3
  ·exact h.apart j k rv b g' hrv hb (h3 ▸ A) V
  have:=h3 g' A;omega
 rw [List.getElem?_set_ne (Ne.symm ej)] at N
 by_cases ek:k=i
 ·subst ek
  rw [List.getElem?_set_self (by rw [h.len];exact I)] at hb
  cases hb
  obtain ⟨x,G⟩:∃ x,l[j]?=some x:=⟨_,Qx (by rw [← h.len];exact (Qj N).1)⟩
  obtain ⟨css,M⟩:=h.rows j x a G N
  have:=(M.row.lt g' A).2
  rcases hat with h3 | h3
  ·exact h.apart j k a rv g' N hrv A (h3 ▸ V)
  have:=h3 g' V;omega
 rw [List.getElem?_set_ne (Ne.symm ek)] at hb
 exact h.apart j k a b g' N hb A V
def Vi (code:Int) (p:Val→Bool) (rows:List Val):Ft:=match rows.findIdx? (fun r=>!p r) with
 | none=>Ft.zero
 | some i=>⟨code,[],rows.getD i Val.zero,Val.zero⟩
theorem bad1_any (h:Nat) (lbh:Array Value) (eh:∀ args w,(callFunc h args).run prog w=.ok (.enter h args) w) (G:Nat) (S:Nat→Prop) (rows:List Val) (p:Val→Bool) (w:World) (hp:Vo prog h lbh Zd S rows p w) (hc:w.cell? ⟨G,0,none⟩=some (.func (.func h) #[] lbh)):
  Vo prog 97 #[Ch G] Zd S rows (fun r=>!p r) w:=by
 intro W x cs hb hx J
 have I:W.cell? ⟨G,0,none⟩=some (.func (.func h) #[] lbh):=kD hb (Qv w _ hc) hc
 have D:=Qv W _ I
 have hG:G<W.heap.size:=D
 have HP:=Qq (fun W' (h':Below W W W')=>hp W' x cs (hb.thn h') hx (Zd.frame J (.of_below h')))
 obtain ⟨p3,k3,p4,k4,A,_⟩:=Z9.cells (show Z9 S W cs x from J)
 simp only [vcs] at A
 subst A
 show Calls prog 97 #[.agg (Cn x p3 k3 p4 k4),Ch G] W (fun e w'=>e=.returned (.bool (!p x))∧Below W W w')
 generalize p x=b at HP ⊢
 clear hp hc hb hx J D
 go_enter func97,ntmps97
 go_wp2_with (go_at_fn h;refine (HP.out _ (Zg _ _)).mono ?_;rintro e w' ⟨rfl,hw⟩)
 go_ret
 exact ⟨rfl,(Zg _ _).thn hw⟩
theorem Li (code:Int) (h:Nat) (lbh:Array Value) (eh:∀ args w,(callFunc h args).run prog w=.ok (.enter h args) w) (S0:Nat→Prop) (v:Value) (rows:List Val) (p:Val→Bool) (w:World) (hv0:Sl Zd S0 w v rows) (hp:Vo prog h lbh Zd (fun b=>S0 b∧b<w) rows p w):
  Calls prog 36 #[code,v,.func (.func h) #[] lbh] w (Dg S0 w (Vi code p rows)):=by
 have hv:=hv0.up
 obtain ⟨vp,bX,rfl,hl⟩:=hv.len
 have HI:=Qq (fun W (hb:Below w w W) (hc:W.cell? ⟨w,0,none⟩=some (.func (.func h) #[] lbh))=>Bg Tryz.ixVal Zd isAgg36 sizeOf36 97 #[Ch w] (enters_of func97 Cd rfl) _ _ rows W _ (hv.below hb)
  (bad1_any h lbh eh w _ rows p W (fun W' x cs h1 h2 h3=>hp W' x cs (hb.thn h1) h2 h3) hc))
 have HV:=Qq hv
 clear hv hv0 hp
 have hB:∃ r,Vi code p rows=r:=⟨_,rfl⟩
 obtain ⟨r,hr⟩:=hB
 rw [hr]
 have A:Vx (fun r=>!p r) rows=(match rows.findIdx? (fun r=>!p r) with | some i=>(i:Int) | none=>-1):=by unfold Vx;cases rows.findIdx? (fun r=>!p r) <;> rfl
 cases hf:rows.findIdx? (fun r=>!p r) with
 | none=>
  have M:r=Ft.zero:=by rw [← hr];unfold Vi;rw [hf]
  rw [hf] at A
  simp only at A
  rw [A] at HI
  have HR:=Qq M
  clear M hr A hf
  go_enter func36,ntmps36
  go_wp2_with fail
  refine (HI.out _ (Zu _ _ _) Ca).mono ?_
  rintro e w5 ⟨rfl,hw⟩
  have D:=(hw.block (w+1) Ca).trans (Q6 w _ _)
  have fz:=fun j=>Qn _ _ j _ _ D
  have rr:=fun j=>Qk _ _ j _ _ _ D
  obtain ⟨f0,f1,f2,f3,f4,f5,f6,f7,f8,f9,aC,aD⟩:=Qjb fz
  obtain ⟨r0,r1,r2,r3,r4,r5,r6,r7,r8,r9,U,V⟩:=Qjb rr
  simp only [Qf,Qg,Qh] at r0 r1 r2 r3 r4 r5 r6 r7 r8 r9 U V
  have Z:=Qq ((Zu w _ _).thn hw);have aB:=Qq D
  clear fz rr D hw
  go_wp2_with fail
  obtain ⟨W,Y⟩:=eX (Yd w5 (w+1) Ci Cl Ci Ci Cl Cm Cm Ci Ci Cl Cm Cm)
  have q:∀ j,W.cell? ⟨w+1,j,none⟩=zF[j]?:=fun j=>by rw [← Y];exact Y8 aB.out j
  have G:Below w w W:=by rw [← Y];exact Y1 Z.out C7
  show bodyPost _ _ _ _ _ (Yd w5 (w+1) Ci Cl Ci Ci Cl Cm Cm Ci Ci Cl Cm Cm)
  rw [Y]
  have J:=Qq G
  obtain ⟨q0,q1,q2,q3,q4,q5,q6,q7,q8,q9,O,T⟩:=Qjb q
  simp only [Qf,Qg,Qh] at q0 q1 q2 q3 q4 q5 q6 q7 q8 q9 O T
  clear Y G q r0 r1 r2 r3 r4 r5 r6 r7 r8 r9 U V f0 f1 f2 f3 f4 f5 f6 f7 f8 f9 aC aD
  refine Q7 (v:=.agg zF) (by simp [results,results36,go_sem,q0,q1,q2,q3,q4,q5,q6,q7,q8,q9,O,T]) rfl ⟨[Ci,Cl,Ci,Ci,Cl,Cm,Cm,Ci,Ci,Cl,Cm,Cm],rfl,by rw [HR.out];exact Jh _ _,J.out⟩
 | some i=>
  obtain ⟨bU,_,_⟩:=List.findIdx?_eq_some_iff_getElem.1 hf
  obtain ⟨x,hx⟩:∃ x,rows[i]?=some x:=⟨_,Qx bU⟩
  have M:r=⟨code,[],x,Val.zero⟩:=by rw [← hr];unfold Vi;rw [hf];simp only;rw [Qs,hx];rfl
  rw [hf] at A
  simp only at A
  rw [A] at HI
  obtain ⟨xb,bY,p3,k3,p4,k4,rfl,N,aJ,d0,d1,d2,d3,d4⟩:=HV.out.val hx
  have bZ:(0:Int)≤(i:Int):=C7
  have cA:(i:Int)<(rows.length:Int):=C7
  have HR:=Qq M;have bM:=Qq aJ
  clear M hr A hf hx aJ
  go_enter func36,ntmps36
  go_wp2_with fail
  refine (HI.out _ (Zu _ _ _) Ca).mono ?_
  rintro e w5 ⟨rfl,hw⟩
  have D:=(hw.block (w+1) Ca).trans (Q6 w _ _)
  have I:=(Zu w _ _).thn hw
  have e0:=kD I N d0;have e1:=kD I N d1;have e2:=kD I N d2;have e3:=kD I N d3;have e4:=kD I N d4
  have fz:=fun j=>Qn _ _ j _ _ D
  have rr:=fun j=>Qk _ _ j _ _ _ D
  obtain ⟨f0,f1,f2,f3,f4,f5,f6,f7,f8,f9,aC,aD⟩:=Qjb fz
  obtain ⟨r0,r1,r2,r3,r4,r5,r6,r7,r8,r9,U,V⟩:=Qjb rr
  simp only [Qf,Qg,Qh] at r0 r1 r2 r3 r4 r5 r6 r7 r8 r9 U V
  have Z:=Qq I;have aB:=Qq D
  clear fz rr D hw I d0 d1 d2 d3 d4
  go_wp2_with fail
  obtain ⟨W,Y⟩:=eX (Yd w5 (w+1) code Cl x.kind x.n x.s (.slice p3 x.names.length k3) (.slice p4 x.kids.length k4) Ci Ci Cl Cm Cm)
  have q:∀ j,W.cell? ⟨w+1,j,none⟩=#[.int .i64 code,.string ⟨#[]⟩,.int .i64 x.kind,.int .i64 x.n,.string ⟨x.s.toArray⟩,.slice p3 x.names.length k3,.slice p4 x.kids.length k4,.int .i64 0,.int .i64 0,.string ⟨#[]⟩,.slice none 0 0,.slice none 0 0][j]?:=fun j=>by rw [← Y];exact Y8 aB.out j
  have aA:∀ b,b<w.heap.size→W.heap[b]?=w5.heap[b]?:=fun b hb=>by rw [← Y];exact Ys C7
  have G:Below w w W:=by rw [← Y];exact Y1 Z.out C7
  show bodyPost _ _ _ _ _ (Yd w5 (w+1) code Cl x.kind x.n x.s (.slice p3 x.names.length k3) (.slice p4 x.kids.length k4) Ci Ci Cl Cm Cm)
  rw [Y]
  have J:=Qq G;have aG:=Qq aA
  obtain ⟨q0,q1,q2,q3,q4,q5,q6,q7,q8,q9,O,T⟩:=Qjb q
  simp only [Qf,Qg,Qh] at q0 q1 q2 q3 q4 q5 q6 q7 q8 q9 O T
  clear Y G aA q r0 r1 r2 r3 r4 r5 r6 r7 r8 r9 U V f0 f1 f2 f3 f4 f5 f6 f7 f8 f9 aC aD e0 e1 e2 e3 e4
  refine Q7 (v:=.agg #[code,Cl,x.kind,x.n,x.s,.slice p3 x.names.length k3,.slice p4 x.kids.length k4,Ci,Ci,Cl,Cm,Cm]) (by simp [results,results36,go_sem,q0,q1,q2,q3,q4,q5,q6,q7,q8,q9,O,T]) rfl ⟨_,rfl,?_,J.out⟩
  rw [HR.out]
  refine ⟨vcs x p3 k3 p4 k4,_,rfl,Ca,?_,Yi _ _⟩
  exact Z9.move (S':=S0) bM.out (fun b hb bV=>(aG.out b hb.2).trans (Z.out.block b bV)) (fun _ _ h=>h.1)
theorem Sl.int {S:Nat→Prop} {w:World} {p:Option Addr} {n cap:Nat} {xs:List Int} (h:Sl D9 S w (.slice p n cap) xs) {i:Nat} {x:Int} (hx:xs[i]?=some x):
  ∃ b off,p=some ⟨b,off,none⟩∧Cf w b (off+i) x∧True:=by
 obtain ⟨p',c',h1,_,h3⟩:=h
 simp only [Qr] at h1
 obtain ⟨rfl,_,_⟩:=h1
 obtain ⟨b,off,e,_,_,hc⟩:=h3 (by intro e;subst e;simp at hx)
 obtain ⟨cs,h4,h5⟩:=hc i x hx
 refine ⟨b,off,e,?_,trivial⟩
 have:=h4 0 (.int .i64 x) (by rw [h5];rfl)
 rwa [Nat.add_zero,show D9.k=1 from rfl,Nat.mul_one] at this
theorem Og (S:Nat→Prop) (v:Value) (l:List Int) (x:Int) (w:World) (hs:Sl D9 S w v l):
  Calls prog 168 #[v,x] w fun e w'=>e=.returned (.int .i64 (Vx (fun y=>decide (y=x)) l))∧w=w':=by
 obtain ⟨p,cap,rfl,hl⟩:=hs.len
 have HS:=Qq hs
 clear hs
 obtain ⟨n,G⟩:=eX (l.length)
 rw [G] at HS hl;rw [G]
 have HN:=Qq G
 clear G
 go_enter func168,ntmps168
 go_wp2_with fail
 go_loop [8] (fun i=>∃ k:Nat,k≤n∧i=.int .i64 k∧Aside (∀ (j:Nat) (y:Int),j<k→l[j]?=some y→decide (y=x)=false)) (fun i=>n - (intOf i).toNat)
 case atStart=>exact ⟨0,Q8 _,rfl,fun j _ hj=>absurd hj (Z6 _)⟩
 obtain ⟨k,hk,rfl,A⟩:=hrel
 by_cases hlt:k<n
 ·have O:(0:Int)≤(k:Int):=C7
  have T:(k:Int)<(n:Int):=C7
  obtain ⟨y,D⟩:∃ y,l[k]?=some y:=⟨_,Qx (by rw [HN.out];exact hlt)⟩
  obtain ⟨b,U,rfl,hc,-⟩:=HS.out.int D
  have HY:=Qq D
  clear D
  by_cases he:y=x
  ·have hq:(x==y)=true:=by rw [he];simp
   have J:decide (x=y)=true:=by rw [he];simp
   have I:=Qq he
   clear he
   go_wp2_with fail
   go_ret
   refine ⟨?_,rfl⟩
   rw [Je HY.out (by rw [I.out];simp) A.out]
   rfl
  have hq:(x==y)=false:=by rw [← Qt,beq_iff_eq];exact fun e=>he e.symm
  have J:decide (x=y)=false:=by simpa using fun e=>he e.symm
  have I:=Qq he
  clear he
  go_wp2_with fail
  go_round
  case measure=>simp [intOf];omega
  case rel=>
   refine ⟨k+1,C7,by go_num,(show Aside _ from fun j z hj M=>?_)⟩
   by_cases e:j=k
   ·subst e
    have:=HY.out
    rw [this] at M
    cases M
    simpa using I.out
   exact A.out j z C7 M
 have N:¬ (k:Int)<(n:Int):=C7
 have:k=n:=C7
 subst this
 go_wp2_with fail
 go_ret
 refine ⟨?_,rfl⟩
 rw [U4 (fun j y D=>A.out j y (by have:=(Qj D).1;have:=HN.out;omega) D)]
 rfl
theorem Pr (S:Nat→Prop) (v:Value) (l:List Int) (x:Int) (w:World) (hs:Sl D9 S w v l):
  Calls prog 136 #[v,x] w fun e w'=>e=.returned (.bool (l.any fun y=>decide (y=x)))∧w=w':=by
 rw [← Km]
 have HI:=Qq (fun W=>Og S v l x W)
 have HS:=Qq hs
 clear hs
 generalize Vx _ l=i at HI ⊢
 go_enter func136,ntmps136
 go_wp2_with (go_at_call 168;refine (HI.out _ HS.out).mono ?_;rintro e w' ⟨rfl,rfl⟩)
 go_ret
 exact ⟨rfl,rfl⟩
mutual
def Uy:Ex→Bool
 | .mk k _ _ _ _ _ kids _ _=>!([4,10,15,16].any fun y=>decide (y=k))&&Mr kids
def Mr:List Ex→Bool
 | []=>true
 | e::l=>Uy e&&Mr l
end
theorem Rk (l:List Ex):Mr l=!(l.any fun e=>!Uy e):=by
 induction l with
 | nil=>rfl
 | cons e l ih=>simp only [Mr,ih,List.any_cons,Bool.not_or,Bool.not_not]
def Mc (e:Ex):Prop:=∀ (S:Nat→Prop) (cs:List Value) (w:World),Yx S w cs e →
 Calls prog 100 #[cs] w fun r w'=>r=.returned (.bool (Uy e))∧Below w w w'
theorem Ta (S:Nat→Prop) (kids:List Ex) (ih:∀ x ∈ kids,Mc x) (w:World):Vo prog 138 #[] Xp S kids (fun e=>!Uy e) w:=by
 intro W x cs hb hx D
 have HI:=Qq (fun W' (h':Below W W W')=>ih x hx S cs W' (Xp.frame D (.of_below h')))
 obtain ⟨k,s1,n,s2,p1,n1,c1,p2,n2,c2,p3,n3,c3,a,z,A⟩:=Yx.cells (show Yx S W cs x from D)
 subst A
 show Calls prog 138 #[.agg (Cp k s1 n s2 p1 n1 c1 p2 n2 c2 p3 n3 c3 a z)] W (fun e w'=>e=.returned (.bool (!Uy x))∧Below W W w')
 generalize Uy x=b at HI ⊢
 clear hb hx D ih
 go_enter func138,ntmps138
 go_wp2_with (go_at_call 100;refine (HI.out _ (Zg _ _)).mono ?_;rintro e w' ⟨rfl,hw⟩)
 go_ret
 exact ⟨rfl,(Zg _ _).thn hw⟩
theorem sl_ints4 (w:World) (a b c d:Int) (g:Nat) (E:TypeId) (h:w.heap[g]?=some (.cells #[a,b,c,d] E (0,0))):Sl D9 (fun _=>True) w (.slice (some ⟨g,0,none⟩) 4 4) [a,b,c,d]:=by
 refine Sl.of_css (r:=D9) (xs:=[a,b,c,d]) (css:=[[.int .i64 a],[b],[c],[d]]) Ca ?_ trivial (Z8 h) (fun j u hu=>?_)
 ·exact (Cs.one (r:=D9) rfl).app ((Cs.one (r:=D9) rfl).app ((Cs.one (r:=D9) rfl).app (Cs.one (r:=D9) rfl)))
 rw [Nat.zero_add,Qk _ _ _ _ _ _ h]
 simpa using hu
theorem Wh (k:Int) (nm:Bs) (n:Int) (s:Bs) (names binds:List Bs) (kids:List Ex) (a z:Int) (ih:∀ x ∈ kids,Mc x):Mc (.mk k nm n s names binds kids a z):=by
 intro S cs w h
 obtain ⟨nv,bv,kv,rfl,hm,hs,hn,hb,G⟩:=Yy.1 h
 obtain ⟨np,nc,rfl,_⟩:=hn.len
 obtain ⟨bp,bc,rfl,_⟩:=hb.len
 obtain ⟨kp,kc,rfl,J⟩:=G.len
 have HC:=Qq (fun W (hb:Below w w W)=>conFn Tryz.cfExpr Xp isAgg46 sizeOf46 138 #[] (enters_of func138 Cd rfl) S (.slice kp kids.length kc) kids W (fun e=>!Uy e) (G.below hb) (Ta S kids ih W))
 have D:=Qq (fun W g (h:W.heap[g]?=some (.cells #[.int .i64 4,.int .i64 10,.int .i64 15,.int .i64 16] 3 (0,0)))=>Pr _ (.slice (some ⟨g,0,none⟩) 4 4) [4,10,15,16] k W (sl_ints4 W 4 10 15 16 g _ h))
 have hF:Uy (.mk k nm n s names binds kids a z)=(!([4,10,15,16].any fun y=>decide (y=k))&&!(kids.any fun e=>!Uy e)):=by rw [Uy,Rk]
 rw [hF]
 obtain ⟨q,I⟩:=eX (([4,10,15,16].any fun y=>decide (y=k)))
 obtain ⟨q2,A⟩:=eX ((kids.any fun e=>!Uy e))
 rw [I] at D
 rw [A] at HC
 rw [I,A]
 clear hF I A h hn hb G ih
 unfold sv
 cases q
 ·rw [Bool.not_false,Bool.true_and]
  go_enter func100,ntmps100
  go_wp2_with fail
  refine (D.out _ (w+1) (Q6 _ _ _)).mono ?_
  rintro e w1 ⟨rfl,rfl⟩
  go_wp2_with (go_at_call 137;refine (HC.out _ (Zu _ _ _)).mono ?_;rintro e w' ⟨rfl,hw⟩)
  go_ret
  exact ⟨rfl,(Zu _ _ _).thn hw⟩
 go_enter func100,ntmps100
 go_wp2_with fail
 refine (D.out _ (w+1) (Q6 _ _ _)).mono ?_
 rintro e w1 ⟨rfl,rfl⟩
 go_wp2_with fail
 go_ret
 exact ⟨rfl,Zu _ _ _⟩
theorem My:∀ x:Ex,Mc x
 | .mk k nm n s names binds kids a z=>Wh k nm n s names binds kids a z fun x _=>My x
termination_by x=>SizeOf.sizeOf x
decreasing_by
 have:=List.sizeOf_lt_of_mem ‹_ ∈ kids›
 simp only [Ex.mk.sizeOf_spec]
 omega
end Go.Proofs.YtcljcblceodciaaGreatDoor
