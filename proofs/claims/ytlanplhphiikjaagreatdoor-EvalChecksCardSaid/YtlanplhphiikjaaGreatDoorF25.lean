import Derived.Test.YtlanplhphiikjaaGreatDoorF18
set_option maxRecDepth 100000
set_option maxHeartbeats 400000000
namespace Go.Proofs.YtlanplhphiikjaaGreatDoor
open Go.RowKit Go.Shelf Go.Lib Tryz
theorem Xa {w:World} {b o:Nat} {v:Value} (hb:b<w) (h:w.cell? ⟨b,o,none⟩=some v):∀ n os,(Sort.grow (w.drewN n) os).cell? ⟨b,o,none⟩=some v:=fun n os=>cell_grown hb h n os
theorem Uj (w:World) (n:Nat) (os:Array Obj):Gr w (Sort.grow (w.drewN n) os):=⟨n,os,rfl⟩
open Go.RowKit
theorem Ve (x y:Int) (w:World):Calls Tryz.prog 126 #[x,y] w fun e w'=>e=.returned (.int .i64 (ord x y))/\w=w':=by
 have key:∀ r,ord x y=r->Calls Tryz.prog 126 #[x,y] w fun e w'=>e=.returned (.int .i64 r)/\w=w':=by
  intro r D
  by_cases h1:x<y
  ·have:r=-1:=by rw [<- D];unfold ord;rw [if_pos h1]
   subst this
   clear D
   go_enter Tryz.func126,Tryz.ntmps126
   go_wp2_with fail
   go_ret
   exact ⟨rfl,rfl⟩
  by_cases h2:y<x
  ·have:r=1:=by rw [<- D];unfold ord;rw [if_neg h1,if_pos h2]
   subst this
   clear D
   go_enter Tryz.func126,Tryz.ntmps126
   go_wp2_with fail
   go_ret
   exact ⟨rfl,rfl⟩
  have:r=0:=by rw [<- D];unfold ord;rw [if_neg h1,if_neg h2]
  subst this
  clear D
  go_enter Tryz.func126,Tryz.ntmps126
  go_wp2_with fail
  go_ret
  exact ⟨rfl,rfl⟩
 exact key _ rfl
theorem Fw (x y:ByteArray) (w:World):Calls Tryz.prog 127 #[.string x,.string y] w fun e w'=>e=.returned (.int .i64 (Y7 (bl x) (bl y)))/\w=w':=by
 obtain ⟨D,G,I⟩:=Vc (bl x) (bl y)
 obtain ⟨M,N,O⟩:=Vc (bl y) (bl x)
 have L:Y7 (bl x) (bl y)=- Y7 (bl y) (bl x):=by
  have:=Vd (bl x) (bl y) [] []
  have h:=Vd (bl y) (bl x) [] []
  simp only [List.append_nil,lex,Ka] at this h
  rw [<- this,<- h];exact Uh _ _
 rw [<- Uu x,<- Uu y] at D G I M N O L |-
 obtain ⟨c,T⟩:=eX (Y7 x.toList y.toList)
 obtain ⟨d,U⟩:=eX (Y7 y.toList x.toList)
 rw [T] at D G I L |-
 rw [U] at M N O L
 have HC:=Qq T;have HD:=Qq U
 clear T U
 rcases I with I | I | I <;> subst I
 ·have k1:Op.bytesLess x.toList y.toList=true:=D.trans Of
  clear D G M N O L
  go_enter Tryz.func127,Tryz.ntmps127
  go_wp2_with fail
  go_ret
  exact ⟨rfl,rfl⟩
 ·have k1:Op.bytesLess x.toList y.toList=false:=D.trans Of
  have J:d=0:=Oa
  subst J
  have k2:(x.toList==y.toList)=true:=G.trans Of
  clear D G M N O L
  go_enter Tryz.func127,Tryz.ntmps127
  go_wp2_with fail
  go_ret
  exact ⟨rfl,rfl⟩
 have k1:Op.bytesLess x.toList y.toList=false:=D.trans Of
 have J:d=-1:=Oa
 subst J
 have k2:(x.toList==y.toList)=false:=G.trans Of
 clear D G M N O L
 go_enter Tryz.func127,Tryz.ntmps127
 go_wp2_with fail
 go_ret
 exact ⟨rfl,rfl⟩
theorem cmpN_end {a b:List Bs} {k:Nat} (ha:k<=a.length) (hb:k<=b.length) (h:k=a.length\/k=b.length):U5 (a.drop k) (b.drop k)=ord a.length b.length:=by
 by_cases h1:k=a.length
 ·rw [Qo (by omega:a.length<=k)]
  by_cases h2:k=b.length
  ·rw [Qo Oa];unfold ord;rw [if_neg Oa,if_neg Oa];rfl
  rw [Qi (by omega:k<b.length)];unfold ord;rw [if_pos Oa];rfl
 have h2:k=b.length:=Oa
 rw [Qo (by omega:b.length<=k),Qi (by omega:k<a.length)];unfold ord;rw [if_neg Oa,if_pos Oa];rfl
theorem Nu {a b:List Val} {k:Nat} (ha:k<=a.length) (hb:k<=b.length) (h:k=a.length\/k=b.length):Xz (a.drop k) (b.drop k)=ord a.length b.length:=by
 by_cases h1:k=a.length
 ·rw [Qo (by omega:a.length<=k)]
  by_cases h2:k=b.length
  ·rw [Qo Oa];unfold ord;rw [if_neg Oa,if_neg Oa];simp [Xz]
  rw [Qi (by omega:k<b.length)];unfold ord;rw [if_pos Oa];simp [Xz]
 have h2:k=b.length:=Oa
 rw [Qo (by omega:b.length<=k),Qi (by omega:k<a.length)];unfold ord;rw [if_neg Oa,if_pos Oa];simp [Xz]
theorem Lw (S S':Nat->Prop) (av bv:Value) (a b:List Bs) (w:World) (ha:Sl Zi S w av a) (hb:Sl Zi S' w bv b):
  Calls Tryz.prog 128 #[av,bv] w fun e w'=>e=.returned (.int .i64 (U5 a b))/\Gr w w':=by
 obtain ⟨pa,ca,rfl,aL⟩:=ha.len
 obtain ⟨pb,cb,rfl,aM⟩:=hb.len
 have HA:=Qq ha;have HB:=Qq hb
 obtain ⟨r,hr⟩:=eX (U5 a b)
 rw [hr]
 have HR:=Qq hr
 have HO:=Qq (fun W=>Ve a.length b.length W)
 clear ha hb hr
 go_enter Tryz.func128,Tryz.ntmps128
 go_wp2_with fail
 go_loopw [5,6] (fun i _ wr=>∃ k:Nat,k<=a.length/\k<=b.length/\i=.int .i64 k/\Aside (U5 (a.drop k) (b.drop k)=r)/\Aside (Gr w wr)) (fun i _ _=>a.length - (intOf i).toNat)
 case atStart=>exact ⟨0,Q3 _,Q3 _,rfl,HR.out,Gr.refl _⟩
 obtain ⟨k,aG,aH,rfl,U,V⟩:=hrel
 have I:=Qq (show Gr w wr from V)
 clear V
 by_cases G:k<a.length/\k<b.length
 ·obtain ⟨G,L⟩:=G
  obtain ⟨x,hx⟩:∃ x,a[k]?=some x:=⟨_,Qx G⟩
  have N:a.drop k=x::a.drop (k+1):=by
   rw [Qi G];rw [Qx G] at hx;cases hx;rfl
  obtain ⟨ga,oa,rfl,c1,l1⟩:=(HA.out.below I.out.bl).str hx
  obtain ⟨y,hy⟩:∃ y,b[k]?=some y:=⟨_,Qx L⟩
  have O:b.drop k=y::b.drop (k+1):=by
   rw [Qi L];rw [Qx L] at hy;cases hy;rfl
  obtain ⟨gb,ob,rfl,c2,l2⟩:=(HB.out.below I.out.bl).str hy
  have M:U5 (a.drop k) (b.drop k)=r:=U
  rw [N,O] at M
  have HS:=Qq (Fw ⟨x.toArray⟩ ⟨y.toArray⟩)
  have T:Y7 (bl ⟨x.toArray⟩) (bl ⟨y.toArray⟩)=Y7 x y:=rfl
  rw [T] at HS
  have J:thn (Y7 x y) (U5 (a.drop (k+1)) (b.drop (k+1)))=r:=M
  generalize Y7 x y=c at HS J
  have aJ:(0:Int)<=(k:Int):=Oa
  have Y:(k:Int)<a.length:=Oa
  have aK:(k:Int)<b.length:=Oa
  by_cases hc0:c=0
  ·subst hc0
   have HC:=Qq J
   clear U J M N O hx hy T
   go_wp2_with fail
   go_quiet ((go_at_call 127;exact Calls.quiet_of_same ((HS.out _).mono fun _ _ h=>⟨h.1,h.2.symm⟩)))
   go_wp2_with fail
   go_roundw
   case rel=>exact ⟨k+1,Oa,Oa,by go_num,HC.out,I.out.thn ⟨_,#[],by rw [Sort.grow_empty]⟩⟩
   case measure=>simp [intOf];omega
  have aN:(c != 0)=true:=by rw [bne_iff_ne];exact hc0
  have aE:c=r:=by rw [<- J];unfold thn;rw [if_neg hc0]
  subst aE
  clear U J M N O hx hy T hc0
  go_wp2_with fail
  go_quiet ((go_at_call 127;exact Calls.quiet_of_same ((HS.out _).mono fun _ _ h=>⟨h.1,h.2.symm⟩)))
  go_wp2_with fail
  go_ret
  exact ⟨rfl,I.out.thn ⟨_,#[],by rw [Sort.grow_empty]⟩⟩
 have D:k=a.length\/k=b.length:=Oa
 have Z:r=ord a.length b.length:=by rw [<- cmpN_end aG aH D];exact (show U5 (a.drop k) (b.drop k)=r from U).symm
 generalize ord a.length b.length=r2 at Z HO
 subst Z
 rcases D with D | D
 ·have Y:¬ (k:Int)<a.length:=Oa
  have aF:decide (k<a.length)=false:=by simp;omega
  clear U G D
  go_wp2_with (go_at_call 126;refine (HO.out _).mono ?_;rintro e w' ⟨rfl,rfl⟩)
  go_ret
  exact ⟨rfl,I.out⟩
 have Y:¬ (k:Int)<b.length:=Oa
 have aF:decide (k<b.length)=false:=by simp;omega
 clear U G D
 go_wp2_with (go_at_call 126;refine (HO.out _).mono ?_;rintro e w' ⟨rfl,rfl⟩)
 all_goals (go_ret;exact ⟨rfl,I.out⟩)
def Bd (x:Val):Prop:=∀ (y:Val) (S S':Nat->Prop) (cx cy:List Value) (w:World),Z5 S w cx x->Z5 S' w cy y ->
 Calls Tryz.prog 74 #[cx,cy] w fun e w'=>e=.returned (.int .i64 (Zt x y))/\Gr w w'
theorem rkids_of (S S':Nat->Prop) (av bv:Value) (a b:List Val) (hC:∀ x ∈ a,Bd x) (w:World) (ha:Sl Zc S w av a) (hb:Sl Zc S' w bv b):
  Calls Tryz.prog 129 #[av,bv] w fun e w'=>e=.returned (.int .i64 (Xz a b))/\Gr w w':=by
 obtain ⟨pa,ca,rfl,aR⟩:=ha.len
 obtain ⟨pb,cb,rfl,aS⟩:=hb.len
 obtain ⟨HA,HB,HC⟩:=Px ha hb hC
 obtain ⟨r,hr⟩:=eX (Xz a b)
 rw [hr]
 have HR:=Qq hr
 have HO:=Qq (fun W=>Ve a.length b.length W)
 have mixed:Tryz.prog.follows .mixedOrders=true:=Og
 clear ha hb hr hC
 go_enter Tryz.func129,Tryz.ntmps129
 go_wp2_with fail
 go_loopw [5,6] (fun i _ wr=>∃ k:Nat,k<=a.length/\k<=b.length/\i=.int .i64 k/\Aside (Xz (a.drop k) (b.drop k)=r)/\Aside (Gr w wr)) (fun i _ _=>a.length - (intOf i).toNat)
 case atStart=>exact ⟨0,Q3 _,Q3 _,rfl,HR.out,Gr.refl _⟩
 obtain ⟨k,aM,aN,rfl,V,U⟩:=hrel
 have I:=Qq (show Gr w wr from U)
 clear U
 by_cases G:k<a.length/\k<b.length
 ·obtain ⟨G,N⟩:=G
  obtain ⟨x,hx⟩:∃ x,a[k]?=some x:=⟨_,Qx G⟩
  have Y:a.drop k=x::a.drop (k+1):=by
   rw [Qi G];rw [Qx G] at hx;cases hx;rfl
  obtain ⟨ga,oa,p3,k3,p4,k4,rfl,L,aC,d0,d1,d2,d3,d4⟩:=(HA.out.below I.out.bl).val hx
  obtain ⟨y,hy⟩:∃ y,b[k]?=some y:=⟨_,Qx N⟩
  have Z:b.drop k=y::b.drop (k+1):=by
   rw [Qi N];rw [Qx N] at hy;cases hy;rfl
  obtain ⟨gb,ob,q3,l3,q4,l4,rfl,M,aD,e0,e1,e2,e3,e4⟩:=(HB.out.below I.out.bl).val hy
  have O:Xz (a.drop k) (b.drop k)=r:=V
  rw [Y,Z] at O
  have J:thn (Zt x y) (Xz (a.drop (k+1)) (b.drop (k+1)))=r:=by simpa [Xz] using O
  have HX:=Qq (HC.out x (Qy hx) y S S')
  have aI:=Qq aC;have aJ:=Qq aD
  generalize Zt x y=c at HX J
  have aP:(0:Int)<=(k:Int):=Oa
  have aA:(k:Int)<a.length:=Oa
  have aQ:(k:Int)<b.length:=Oa
  clear aC aD V O Y Z hx hy
  have T:∀ n os,Calls Tryz.prog 74 #[.agg (vcs x p3 k3 p4 k4).toArray,.agg (vcs y q3 l3 q4 l4).toArray] (Sort.grow (wr.drewN n) os) fun e w'=>e=.returned (.int .i64 c)/\Gr (Sort.grow (wr.drewN n) os) w':=fun n os=>HX.out _ _ _ (aI.out.move (.of_below (Uj _ _ _).bl) P8) (aJ.out.move (.of_below (Uj _ _ _).bl) P8)
  unfold vcs at T
  have D0:=Xa L d0;have D1:=Xa L d1;have D2:=Xa L d2;have D3:=Xa L d3;have D4:=Xa L d4
  have E0:=Xa M e0;have E1:=Xa M e1;have E2:=Xa M e2;have E3:=Xa M e3;have E4:=Xa M e4
  clear d0 d1 d2 d3 d4 e0 e1 e2 e3 e4
  by_cases hc0:c=0
  ·subst hc0
   have aG:=Qq J
   clear J
   go_wp2_with fail
   go_quiet_grown (first | (go_at_call 74;refine Calls.grown_of (T _ _)))
   go_wp2_with fail
   go_roundw
   case rel=>exact ⟨k+1,Oa,Oa,by go_num,aG.out,I.out.thn (Uj _ _ _)⟩
   case measure=>simp [intOf];omega
  have aT:(c != 0)=true:=by rw [bne_iff_ne];exact hc0
  have aK:c=r:=by rw [<- J];unfold thn;rw [if_neg hc0]
  subst aK
  clear J hc0
  go_wp2_with fail
  go_quiet_grown (first | (go_at_call 74;refine Calls.grown_of (T _ _)))
  go_wp2_with fail
  go_ret
  exact ⟨rfl,I.out.thn (Uj _ _ _)⟩
 have D:k=a.length\/k=b.length:=Oa
 have aB:r=ord a.length b.length:=by rw [<- Nu aM aN D];exact (show Xz (a.drop k) (b.drop k)=r from V).symm
 generalize ord a.length b.length=r2 at aB HO
 subst aB
 rcases D with D | D
 ·have aA:¬ (k:Int)<a.length:=Oa
  have aL:decide (k<a.length)=false:=by simp;omega
  clear V G D
  go_wp2_with (go_at_call 126;refine (HO.out _).mono ?_;rintro e w' ⟨rfl,rfl⟩)
  go_ret
  exact ⟨rfl,I.out⟩
 have aA:¬ (k:Int)<b.length:=Oa
 have aL:decide (k<b.length)=false:=by simp;omega
 clear V G D
 go_wp2_with (go_at_call 126;refine (HO.out _).mono ?_;rintro e w' ⟨rfl,rfl⟩)
 all_goals (go_ret;exact ⟨rfl,I.out⟩)
theorem Oy (k n:Int) (s:Bs) (ns:List Bs) (ks:List Val) (ih:∀ x ∈ ks,Bd x):Bd (.mk k n s ns ks):=by
 rintro ⟨k',M,T,G,D⟩ S S' cx cy w hx hy
 obtain ⟨nv,kv,rfl,hs,hn,hk⟩:=Xs.1 hx
 obtain ⟨aH,aG,rfl,aQ,aF,aE⟩:=Xs.1 hy
 have hN:∀ w',Below w w w'->Calls Tryz.prog 128 #[nv,aH] w' fun e V=>e=.returned (.int .i64 (U5 ns G))/\Gr w' V:=
  fun w' hb=>Lw S S' nv aH ns G w' (hn.below hb) (aF.below hb)
 have hK:∀ w',Below w w w'->Calls Tryz.prog 129 #[kv,aG] w' fun e V=>e=.returned (.int .i64 (Xz ks D))/\Gr w' V:=
  fun w' hb=>rkids_of S S' kv aG ks D ih w' (hk.below hb) (aE.below hb)
 have hS:∀ w',Calls Tryz.prog 127 #[sv s,sv T] w' fun e V=>e=.returned (.int .i64 (Y7 s T))/\w'=V:=fun w'=>Fw _ _ w'
 obtain ⟨HN,HK,HS⟩:=Px hN hK hS
 obtain ⟨cb,J⟩:=eX (Y7 s T)
 obtain ⟨cn,L⟩:=eX (U5 ns G)
 obtain ⟨cv,I⟩:=eX (Xz ks D)
 rw [J] at HS;rw [L] at HN;rw [I] at HK
 have aP:=Qq (fun o1 o2=>Zl w o1 o2)
 clear hN hK hS hx hy ih hn aF hk aE
 by_cases hkk:k=k'
 ·subst hkk
  by_cases h0:k=0
  ·subst h0
   rw [show Zt (.mk 0 n s ns ks) (.mk 0 M T G D)=ord n M by simp [Zt]]
   have Z:=Qq (fun w=>Ve n M w)
   generalize ord n M=r at Z |-
   clear J L I
   go_enter Tryz.func74,Tryz.ntmps74
   go_wp2_with (go_at_call 126;refine (Z.out _).mono ?_;rintro e w' ⟨rfl,rfl⟩)
   go_ret
   exact ⟨rfl,Vw _ _ _⟩
  by_cases h2:k=2
  ·subst h2
   rw [show Zt (.mk 2 n s ns ks) (.mk 2 M T G D)=ord n M by simp [Zt]]
   have Z:=Qq (fun w=>Ve n M w)
   generalize ord n M=r at Z |-
   clear J L I h0
   go_enter Tryz.func74,Tryz.ntmps74
   go_wp2_with (go_at_call 126;refine (Z.out _).mono ?_;rintro e w' ⟨rfl,rfl⟩)
   go_ret
   exact ⟨rfl,Vw _ _ _⟩
  by_cases h1:k=1
  ·subst h1
   rw [show Zt (.mk 1 n s ns ks) (.mk 1 M T G D)=cb by simp [Zt,J]]
   clear J L I h0 h2
   go_enter Tryz.func74,Tryz.ntmps74
   go_wp2_with (go_at_call 127;refine (HS.out _).mono ?_;rintro e w' ⟨rfl,rfl⟩)
   go_ret
   exact ⟨rfl,Vw _ _ _⟩
  by_cases h3:k=3
  ·subst h3
   have N:Zt (.mk 3 n s ns ks) (.mk 3 M T G D)=thn cb cv:=by simp [Zt,J,I]
   clear J L I h0 h2 h1
   by_cases hz:cb=0
   ·subst hz
    rw [N,Vb]
    clear N
    go_enter Tryz.func74,Tryz.ntmps74
    go_wp2_with (first | (go_at_call 127;refine (HS.out _).mono ?_;rintro e w' ⟨rfl,rfl⟩) | (go_at_call 129;refine (HK.out _ (Zl _ _ _)).mono ?_;rintro e w' ⟨rfl,hw⟩;have HW:=Qq ((Vw w _ _).thn hw);clear hw))
    go_ret
    exact ⟨rfl,HW.out⟩
   have hq:(cb != 0)=true:=by rw [bne_iff_ne];exact hz
   have U:Zt (.mk 3 n s ns ks) (.mk 3 M T G D)=cb:=by rw [N];unfold thn;rw [if_neg hz]
   rw [U]
   clear N U hz
   go_enter Tryz.func74,Tryz.ntmps74
   go_wp2_with (go_at_call 127;refine (HS.out _).mono ?_;rintro e w' ⟨rfl,rfl⟩)
   go_ret
   exact ⟨rfl,Vw _ _ _⟩
  by_cases h4:k=4
  ·subst h4
   have N:Zt (.mk 4 n s ns ks) (.mk 4 M T G D)=thn cn cv:=by simp [Zt,L,I]
   clear J L I h0 h2 h1 h3
   by_cases hz:cn=0
   ·subst hz
    rw [N,Vb]
    clear N
    go_enter Tryz.func74,Tryz.ntmps74
    go_wp2_with (first | (go_at_call 128;refine (HN.out _ (Zl _ _ _)).mono ?_;rintro e wn ⟨rfl,O⟩;have Y:=Qq ((Vw w _ _).thn O);obtain ⟨aN,aO⟩:=Di O.bl;clear O) | (go_at_call 129;refine (HK.out _ Y.out.bl).mono ?_;rintro e w' ⟨rfl,hw⟩;have HW:=Qq (Y.out.thn hw);clear hw))
    go_ret
    exact ⟨rfl,HW.out⟩
   have hq:(cn != 0)=true:=by rw [bne_iff_ne];exact hz
   have U:Zt (.mk 4 n s ns ks) (.mk 4 M T G D)=cn:=by rw [N];unfold thn;rw [if_neg hz]
   rw [U]
   clear N U hz
   go_enter Tryz.func74,Tryz.ntmps74
   go_wp2_with (go_at_call 128;refine (HN.out _ (Zl _ _ _)).mono ?_;rintro e wn ⟨rfl,O⟩;have Y:=Qq ((Vw w _ _).thn O);obtain ⟨aN,aO⟩:=Di O.bl;clear O)
   go_ret
   exact ⟨rfl,Y.out⟩
  by_cases h5:k=5
  ·subst h5
   rw [show Zt (.mk 5 n s ns ks) (.mk 5 M T G D)=cv by simp [Zt,I]]
   clear J L I h0 h2 h1 h3 h4
   go_enter Tryz.func74,Tryz.ntmps74
   go_wp2_with (go_at_call 129;refine (HK.out _ (Zl _ _ _)).mono ?_;rintro e w' ⟨rfl,hw⟩;have HW:=Qq ((Vw w _ _).thn hw);clear hw)
   go_ret
   exact ⟨rfl,HW.out⟩
  have N:Zt (.mk k n s ns ks) (.mk k M T G D)=0:=by simp [Zt,h0,h1,h2,h3,h4,h5]
  rw [N]
  have q0:(k==0)=false:=by simpa using h0
  have q1:(k==1)=false:=by simpa using h1
  have q2:(k==2)=false:=by simpa using h2
  have q3:(k==3)=false:=by simpa using h3
  have q4:(k==4)=false:=by simpa using h4
  have q5:(k==5)=false:=by simpa using h5
  clear N J L I h0 h1 h2 h3 h4 h5
  go_enter Tryz.func74,Tryz.ntmps74
  go_wp2_with fail
  go_ret
  exact ⟨rfl,Vw _ _ _⟩
 have N:Zt (.mk k n s ns ks) (.mk k' M T G D)=ord k k':=by simp [Zt,hkk]
 rw [N]
 have hq:(k != k')=true:=by rw [bne_iff_ne];exact hkk
 have Z:=Qq (fun w=>Ve k k' w)
 generalize ord k k'=r at Z |-
 clear N J L I hkk
 go_enter Tryz.func74,Tryz.ntmps74
 go_wp2_with (go_at_call 126;refine (Z.out _).mono ?_;rintro e w' ⟨rfl,rfl⟩)
 go_ret
 exact ⟨rfl,Vw _ _ _⟩
theorem rcmpAt:∀ x:Val,Bd x
 | .mk k n s ns ks=>Oy k n s ns ks fun x _=>rcmpAt x
termination_by x=>SizeOf.sizeOf x
decreasing_by
 have:=List.sizeOf_lt_of_mem ‹_ ∈ ks›
 simp only [Val.mk.sizeOf_spec]
 omega
theorem Fb (S S':Nat->Prop) (a b:Val) (ca cb:List Value) (w:World) (ha:Z5 S w ca a) (hb:Z5 S' w cb b):
  Calls Tryz.prog 74 #[ca,cb] w fun e w'=>e=.returned (.int .i64 (Zt a b))/\Gr w w':=rcmpAt a b S S' ca cb w ha hb
def OpO (e:Ex) (env:List (Bs × Val)) (l:Nat) (r:Except Int (Val × Nat)):Prop:=∀ (S0 S1:Nat->Prop) (g m:Nat) (ms:ByteArray) (ev:Value) (cs:List Value) (w:World),Yj S0 w cs e->Sl Zs S1 w ev env->(∀ b,S0 b->b≠g)->(∀ b,S1 b->b≠g)->MAt g m w l ->
 Calls prog 161 #[Om g,.agg #[.string ms,ev],cs] w (Fz S1 g m w r)
def TwoMid (w3:World) (u v:Val) (t8 t9:Value) (wx:World):Prop:=∃ A B p3 k3 p4 k4 q3 l3 q4 l4,t8=.pointer (some ⟨A,0,none⟩)/\t9=.pointer (some ⟨B,0,none⟩) /\
 wx.heap[A]?=some (.cells (vcs u p3 k3 p4 k4).toArray 48 (0,0))/\wx.heap[B]?=some (.cells (vcs v q3 l3 q4 l4).toArray 48 (0,0))/\Z5 (fun b=>b<w3) wx (vcs u p3 k3 p4 k4) u/\Z5 (fun b=>b<w3) wx (vcs v q3 l3 q4 l4) v/\Below w3 w3 wx
theorem op_err (o:Bs) (env:List (Bs × Val)) (l:Nat) (x y:Ex) (c:Int) (ho:o=[60]\/o=[43]) (hA:Jp env [x,y] l (.error c)):OpO (Gen.op o [x,y]) env l (.error c):=by
 intro S0 S1 g m ms ev cs w U O J L Z
 have hx:Yj (fun b=>S0 b/\b<w) w cs _:=U.move (.refl _ _) (fun b hb h=>⟨h,hb⟩)
 have he:=O.up
 have HN:=Qq U2
 have aE:=Z.lt
 obtain ⟨nv,bv,kv,rfl,_,_,T,N,I⟩:=Yz.1 hx
 have V:=Qq (fun W (hb:Below w w W)=>Ji _ _ g m ms _ _ [x,y] env l _ W (I.below hb) (he.below hb) (fun b h=>J b h.1) (fun b h=>L b h.1) (Z.below hb) hA)
 obtain ⟨np,nc,rfl,_⟩:=T.len
 obtain ⟨bp,bc,rfl,_⟩:=N.len
 obtain ⟨kp,kc,rfl,aB⟩:=I.len
 obtain ⟨p,cap,rfl,hl⟩:=he.len
 clear hx he U O J L Z T N I hA
 unfold sv
 go_enter func161,ntmps161
 go_upto_region 1 with fail
 generalize D:((w.alloc _).alloc _).alloc _=w3
 have M:=eqB D (Yr _ _ _ _)
 have h0:=eqH (b:=w.heap.size) D (Ze _ _ _ _)
 have G:=eqH (b:=w.heap.size+1) D (Zf _ _ _ _)
 have Y:=eqH (b:=w.heap.size+1+1) D (Z9 _ _ _ _)
 have c0:=rA0 G;have c1:=rA1 G;have c2:=rA2 G;have c3:=rA3 G;have c4:=rA4 G;have c5:=rA5 G;have c6:=rA6 G
 obtain ⟨d0,d1⟩:=row2 h0
 obtain ⟨H1,H2,HB⟩:=Px G Y M
 have aD:=Z3 Y
 have aC:=Z3 G
 clear h0 G Y M D c0 c2 c3 c4 c5
 have aF:(o==[110,111,116])=false:=by rcases ho with rfl | rfl <;> rfl
 have aG:(o==[97,110,100])=false:=by rcases ho with rfl | rfl <;> rfl
 have aH:(o==[111,114])=false:=by rcases ho with rfl | rfl <;> rfl
 clear ho
 go_wp2_with (go_at_call 155;refine (HN.out _).mono ?_;rintro e w' ⟨rfl,rfl⟩)
 refine (V.out _ HB.out).mono ?_
 rintro e w4 ⟨rfl,hs⟩
 exact ⟨rfl,rfl,(Z6.of_below HB.out Oa).trans hs⟩
theorem op_less (env:List (Bs × Val)) (l j:Nat) (x y:Ex) (u v:Val) (hA:Jp env [x,y] l (.ok ([u,v],j))):OpO (Gen.op [60] [x,y]) env l (.ok (Yb (decide (Zt u v<0)),j)):=by
 obtain ⟨c,hc⟩:=eX (Zt u v)
 obtain ⟨r,hr⟩:=eX (Yb (decide (c<0)))
 rw [hc,hr]
 have HC:=Qq hc;have bJ:=Qq hr
 clear hc hr
 intro S0 S1 g m ms ev cs w aX aQ aL aM hM
 have hx:Yj (fun b=>S0 b/\b<w) w cs _:=aX.move (.refl _ _) (fun b hb h=>⟨h,hb⟩)
 have he:=aQ.up
 have HN:=Qq U2
 have bR:=hM.lt
 obtain ⟨nv,bv,kv,rfl,_,_,aT,aO,Z⟩:=Yz.1 hx
 have bF:=Qq (fun W (hb:Below w w W)=>Ji _ _ g m ms _ _ [x,y] env l _ W (Z.below hb) (he.below hb) (fun b h=>aL b h.1) (fun b h=>aM b h.1) (hM.below hb) hA)
 obtain ⟨np,nc,rfl,_⟩:=aT.len
 obtain ⟨bp,bc,rfl,_⟩:=aO.len
 obtain ⟨kp,kc,rfl,bV⟩:=Z.len
 obtain ⟨p,cap,rfl,hl⟩:=he.len
 clear hx he aX aQ aL aM hM aT aO Z hA
 unfold sv
 go_enter func161,ntmps161
 go_upto_region 1 with fail
 generalize I:((w.alloc _).alloc _).alloc _=w3
 have aN:=eqB I (Yr _ _ _ _)
 have h0:=eqH (b:=w.heap.size) I (Ze _ _ _ _)
 have G:=eqH (b:=w.heap.size+1) I (Zf _ _ _ _)
 have h2:=eqH (b:=w.heap.size+1+1) I (Z9 _ _ _ _)
 have c0:=rA0 G;have c1:=rA1 G;have c2:=rA2 G;have c3:=rA3 G;have c4:=rA4 G;have c5:=rA5 G;have c6:=rA6 G
 obtain ⟨d0,d1⟩:=row2 h0
 obtain ⟨H1,H2,HB⟩:=Px G h2 aN
 have bX:=Z3 h2
 have bW:=Z3 G
 clear h0 G h2 aN I c0 c2 c3 c4 c5
 go_wp2_with (go_at_call 155;refine (HN.out _).mono ?_;rintro e w' ⟨rfl,rfl⟩)
 refine (bF.out _ HB.out).mono ?_
 rintro e L ⟨ap,ac,css,rfl,hO,aS,O⟩
 have aA:=hO.sl (S':=fun _=>True) Od (fun _ _=>trivial) (fun _ _ _=>trivial)
 obtain ⟨ub,uo,p3,k3,p4,k4,rfl,bZ,hu,u0,u1,u2,u3,u4⟩:=aA.val (i:=0) (x:=u) rfl
 obtain ⟨vb,vo,q3,l3,q4,l4,aW,cA,hv,v0,v1,v2,v3,v4⟩:=aA.val (i:=1) (x:=v) rfl
 obtain ⟨rfl,rfl,-⟩:ub=vb/\uo=vo/\True:=by simpa using aW
 have G:=(O.keep _ (Z3 H1.out) (by show w+1≠g;omega)).trans H1.out
 have h2:=(O.keep _ (Z3 H2.out) (by show w+1+1≠g;omega)).trans H2.out
 obtain ⟨bC,bE,bG,aI⟩:=Py G h2 aS O
 have hU:Z5 (fun b=>b<L) L (vcs u p3 k3 p4 k4) u:=hu.move (.refl _ _) (fun _ hb _=>hb)
 have hV:Z5 (fun b=>b<L) L (vcs v q3 l3 q4 l4) v:=hv.move (.refl _ _) (fun _ hb _=>hb)
 have HU:=Qq hU;have HV:=Qq hV
 simp only [Nat.zero_mul,Nat.one_mul,Nat.add_zero] at u0 u1 u2 u3 u4 v0 v1 v2 v3 v4
 clear hO aS O aA hu hv hU hV G h2 c1 c6 d0 d1 aW
 go_wp2_with fail
 go_cut [8,9] (fun t8 t9 wx=>TwoMid L u v t8 t9 wx)
 case first=>
  go_region
  all_goals
   go_wp2_with fail
   go_meet
   generalize J:World.drew _=wx
   have D:Below L L wx:=by rw [<- J];exact (Zl _ _ _).drew
   first
   | exact ⟨L.heap.size,L.heap.size+1,_,_,_,_,_,_,_,_,rfl,rfl,by rw [<- J];exact Q0 _ _ _,by rw [<- J];exact Q1 _ _ _,HU.out.move (.of_below D) P8,HV.out.move (.of_below D) P8,D⟩
   | exact ⟨L.heap.size+1,L.heap.size,_,_,_,_,_,_,_,_,rfl,rfl,by rw [<- J];exact Q1 _ _ _,by rw [<- J];exact Q0 _ _ _,HU.out.move (.of_below D) P8,HV.out.move (.of_below D) P8,D⟩
 obtain ⟨A,B,cF,cB,cG,cC,cH,cD,cI,cE,rfl,rfl,hA,hB,hu,hv,D⟩:=hcut
 simp only [vcs] at hA hB
 obtain ⟨w6,rfl⟩:∃ w6,w6=wc:=⟨_,rfl⟩
 obtain ⟨a0,a1,a2,a3,a4⟩:=row5 hA
 obtain ⟨b0,b1,b2,b3,b4⟩:=row5 hB
 have aF:=Qq (Jm _ u v _ _ _ hu hv)
 have aE:=Qq (Kk (decide (c<0)) (fun _=>False))
 rw [HC.out] at aF
 rw [bJ.out] at aE
 have V:=kB D bC.out
 have aK:=kB D bE.out
 have U:=Qq ((Z6.of_below HB.out Oa).trans (aI.out.trans (Z6.of_below D (Ob aI.out.size))):Z6 (fun b=>b=g) g w w6)
 have bH:=Qq (bG.out.below D);have aG:=Qq aK
 have e1:=rA1 V
 have bD:=Qq V
 clear hA hB hu hv V aK
 go_wp2_with fail
 refine aF.out.mono ?_
 rintro e w7 ⟨rfl,aR⟩
 have N:=aR.bl
 have aJ:=kB N bD.out
 have e1:=rA1 aJ
 have T:=Qq N
 have bI:=Qq (kB N aG.out)
 clear aR N aJ
 go_wp2_with (go_at_call 216;refine (aE.out _).mono ?_;rintro e w8 ⟨bY,rfl,aB,Y⟩;obtain ⟨q3,l3,q4,l4,aP,_⟩:=Z5.cells aB;simp only [vcs] at aP;subst aP;have M:=kB Y bI.out;obtain ⟨aH,bK,aD⟩:=Px M aB Y;obtain ⟨f0,f1,f2,f3,f4⟩:=frz5 M;obtain ⟨r0,r1,r2,r3,r4⟩:=row5 M;clear M aB Y)
 show bodyPost _ _ _ _ _ (Pk w8 (w+1+1) r q3 l3 q4 l4)
 have bN:=(bH.out.below T.out).below aD.out
 have bO:=(Z6.of_below T.out (Ob U.out.size)).trans (Z6.of_below (B:=g) aD.out (Oc U.out.size T.out.size):Z6 (fun b=>b=g) g w7 w8)
 exact Q2 (v:=.agg (Ou r q3 l3 q4 l4)) (by simp [results,results161,go_sem,Z8 aH.out]) rfl ⟨_,rfl,Vn (S':=fun _=>False) Oa (Z3 aG.out) U.out (fun b h=>h.elim) (bK.out.move (.refl _ _) (fun _ _ h=>h.elim)) bN bO aH.out bR⟩
theorem op_plus (env:List (Bs × Val)) (l j:Nat) (x y:Ex) (u v:Val) (hku:u.kind=0) (hkv:v.kind=0) (hn1:-1000000<=u.n) (hn2:u.n<=1000000) (hn3:-1000000<=v.n) (hn4:v.n<=1000000) (hA:Jp env [x,y] l (.ok ([u,v],j))):OpO (Gen.op [43] [x,y]) env l (.ok (Yx (u.n+v.n),j)):=by
 have bC:=Qq hku;have bD:=Qq hkv
 clear hku hkv
 intro S0 S1 g m ms ev cs w aT aM aI aJ hM
 have hx:Yj (fun b=>S0 b/\b<w) w cs _:=aT.move (.refl _ _) (fun b hb h=>⟨h,hb⟩)
 have he:=aM.up
 have HN:=Qq U2
 have bJ:=hM.lt
 obtain ⟨nv,bv,kv,rfl,_,_,aP,aL,U⟩:=Yz.1 hx
 have aY:=Qq (fun W (hb:Below w w W)=>Ji _ _ g m ms _ _ [x,y] env l _ W (U.below hb) (he.below hb) (fun b h=>aI b h.1) (fun b h=>aJ b h.1) (hM.below hb) hA)
 obtain ⟨np,nc,rfl,_⟩:=aP.len
 obtain ⟨bp,bc,rfl,_⟩:=aL.len
 obtain ⟨kp,kc,rfl,bL⟩:=U.len
 obtain ⟨p,cap,rfl,hl⟩:=he.len
 clear hx he aT aM aI aJ hM aP aL U hA
 unfold sv
 go_enter func161,ntmps161
 go_upto_region 1 with fail
 generalize J:((w.alloc _).alloc _).alloc _=w3
 have aK:=eqB J (Yr _ _ _ _)
 have h0:=eqH (b:=w.heap.size) J (Ze _ _ _ _)
 have G:=eqH (b:=w.heap.size+1) J (Zf _ _ _ _)
 have Y:=eqH (b:=w.heap.size+1+1) J (Z9 _ _ _ _)
 have c0:=rA0 G;have c1:=rA1 G;have c2:=rA2 G;have c3:=rA3 G;have c4:=rA4 G;have c5:=rA5 G;have c6:=rA6 G
 obtain ⟨d0,d1⟩:=row2 h0
 obtain ⟨H1,H2,HB⟩:=Px G Y aK
 have bN:=Z3 Y
 have bM:=Z3 G
 clear h0 G Y aK J c0 c2 c3 c4 c5
 go_wp2_with (go_at_call 155;refine (HN.out _).mono ?_;rintro e w' ⟨rfl,rfl⟩)
 refine (aY.out _ HB.out).mono ?_
 rintro e M ⟨ap,ac,css,rfl,hO,aO,O⟩
 have V:=hO.sl (S':=fun _=>True) Od (fun _ _=>trivial) (fun _ _ _=>trivial)
 obtain ⟨ub,uo,p3,k3,p4,k4,rfl,bO,hu,u0,u1,u2,u3,u4⟩:=V.val (i:=0) (x:=u) rfl
 obtain ⟨vb,vo,q3,l3,q4,l4,aS,bP,hv,v0,v1,v2,v3,v4⟩:=V.val (i:=1) (x:=v) rfl
 obtain ⟨rfl,rfl,-⟩:ub=vb/\uo=vo/\True:=by simpa using aS
 have G:=(O.keep _ (Z3 H1.out) (by show w+1≠g;omega)).trans H1.out
 have Y:=(O.keep _ (Z3 H2.out) (by show w+1+1≠g;omega)).trans H2.out
 obtain ⟨aV,aX,bA,aD⟩:=Py G Y aO O
 have hU:Z5 (fun b=>b<M) M (vcs u p3 k3 p4 k4) u:=hu.move (.refl _ _) (fun _ hb _=>hb)
 have hV:Z5 (fun b=>b<M) M (vcs v q3 l3 q4 l4) v:=hv.move (.refl _ _) (fun _ hb _=>hb)
 have HU:=Qq hU;have HV:=Qq hV
 simp only [Nat.zero_mul,Nat.one_mul,Nat.add_zero] at u0 u1 u2 u3 u4 v0 v1 v2 v3 v4
 clear hO aO O V hu hv hU hV G Y c1 c6 d0 d1 aS
 go_wp2_with fail
 go_cut [8,9] (fun t8 t9 wx=>TwoMid M u v t8 t9 wx)
 case first=>
  go_region
  all_goals
   go_wp2_with fail
   go_meet
   generalize L:World.drew _=wx
   have D:Below M M wx:=by rw [<- L];exact (Zl _ _ _).drew
   first
   | exact ⟨M.heap.size,M.heap.size+1,_,_,_,_,_,_,_,_,rfl,rfl,by rw [<- L];exact Q0 _ _ _,by rw [<- L];exact Q1 _ _ _,HU.out.move (.of_below D) P8,HV.out.move (.of_below D) P8,D⟩
   | exact ⟨M.heap.size+1,M.heap.size,_,_,_,_,_,_,_,_,rfl,rfl,by rw [<- L];exact Q1 _ _ _,by rw [<- L];exact Q0 _ _ _,HU.out.move (.of_below D) P8,HV.out.move (.of_below D) P8,D⟩
 obtain ⟨A,B,bU,bQ,bV,bR,bW,bS,bX,bT,rfl,rfl,hA,T,hu,hv,D⟩:=hcut
 simp only [vcs] at hA T
 obtain ⟨w6,rfl⟩:∃ w6,w6=wc:=⟨_,rfl⟩
 obtain ⟨a0,a1,a2,a3,a4⟩:=row5 hA
 obtain ⟨b0,b1,b2,b3,b4⟩:=row5 T
 have aA:=Qq (Jm _ u v _ _ _ hu hv)
 generalize Zt u v=c at aA
 have aF:=kB D aV.out
 have aH:=kB D aX.out
 have aE:=Qq ((Z6.of_below HB.out Oa).trans (aD.out.trans (Z6.of_below D (Ob aD.out.size))):Z6 (fun b=>b=g) g w w6)
 have bB:=Qq (bA.out.below D);have aB:=Qq aH
 obtain ⟨aW,HA,aZ⟩:=Px aF hA T
 clear hA T hu hv aF aH
 go_wp2_with fail
 refine aA.out.mono ?_
 rintro e w7 ⟨rfl,aN⟩
 have I:=aN.bl
 have aG:=kB I aW.out
 have e1:=rA1 aG
 have hA:=kB I HA.out
 have T:=kB I aZ.out
 clear a0 a1 a2 a3 a4 b0 b1 b2 b3 b4
 obtain ⟨a0,a1⟩:=row2 hA
 obtain ⟨b0,b1⟩:=row2 T
 rw [bC.out] at a0;rw [bD.out] at b0
 have Z:=Qq I
 have N:=kB I aB.out
 obtain ⟨r0,r1,r2,r3,r4⟩:=row5 N
 obtain ⟨f0,f1,f2,f3,f4⟩:=frz5 N
 have aC:=Qq N
 clear aN I aG hA T N
 go_wp2_with (go_at_call 155;refine (HN.out _).mono ?_;rintro e w' ⟨rfl,rfl⟩)
 show bodyPost _ _ _ _ _ (Zn w7 (w+1+1) On (.int .i64 (u.n+v.n)) Oo Ot Ot)
 have bG:=bB.out.below Z.out
 have bH:=(Z6.of_below (B:=g) Z.out (Ob aE.out.size):Z6 (fun b=>b=g) g w6 w7)
 exact Q2 (v:=.agg #[On,.int .i64 (u.n+v.n),Oo,Ot,Ot]) (by simp [results,results161,go_sem,Z8 aC.out]) rfl ⟨_,rfl,Vn (v:=Yx (u.n+v.n)) (S':=fun _=>False) Oa (Z3 aB.out) aE.out (fun b h=>h.elim) (Zu (s:=[]) Od (Sl.nil _ _ _) (Sl.nil _ _ _)) bG bH aC.out bJ⟩
theorem Bn (nm:Bs) (n:Int) (s:Bs) (names binds:List Bs) (kids:List Ex) (a z:Int) (env:List (Bs × Val)) (l:Nat) (r:Except Int (Val × Nat)) (hs:OpO (.mk 14 nm n s names binds kids a z) env l r):Vx (.mk 14 nm n s names binds kids a z) env (l+1) r:=by
 intro S0 S1 g m ms ev cs w aL aF N O hM
 have hx:Yj (fun b=>S0 b/\b<w) w cs _:=aL.move (.refl _ _) (fun b hb h=>⟨h,hb⟩)
 have he:=aF.up
 have aM:=Qq (fun W (hb:Below w w W)=>Jt g m W l (hM.below hb))
 have M:=Qq (fun W (hb:Z6 (fun b=>b=g) g w W) (hm:MAt g m W l)=>hs _ _ g m ms ev cs W (hx.move (hb.agree (fun b h=>N b h.1)) P8) (he.frame (hb.agree (fun b h=>O b h.1))) (fun b h=>N b h.1) (fun b h=>O b h.1) hm)
 have aS:=hM.lt
 obtain ⟨nv,bv,kv,rfl,_,_,aJ,aD,aG⟩:=Yz.1 hx
 obtain ⟨np,nc,rfl,_⟩:=aJ.len
 obtain ⟨bp,bc,rfl,_⟩:=aD.len
 obtain ⟨kp,kc,rfl,_⟩:=aG.len
 obtain ⟨p,cap,rfl,hl⟩:=he.len
 clear hx he aL aF N O hM aJ aD aG hs
 unfold sv at M |-
 go_enter func107,ntmps107
 go_upto_region 1 with fail
 generalize D:((w.alloc _).alloc _).alloc _=w3
 have aC:=eqB D (Yr _ _ _ _)
 have h0:=eqH (b:=w.heap.size) D (Ze _ _ _ _)
 have h1:=eqH (b:=w.heap.size+1) D (Zf _ _ _ _)
 have G:=eqH (b:=w.heap.size+1+1) D (Z9 _ _ _ _)
 obtain ⟨H0,H1,H2,HB⟩:=Py h0 h1 G aC
 clear h0 h1 G aC D
 go_upto_region 2 with (go_at_call 152;refine (aM.out _ HB.out).mono ?_;rintro e w4 ⟨rfl,aH,aK⟩;have V:=Qq aH;have I:=Qq aK;clear aH aK)
 have h0:=(I.out.keep _ (Z3 H0.out) (by show w≠g;omega)).trans H0.out
 have h1:=(I.out.keep _ (Z3 H1.out) (by show w+1≠g;omega)).trans H1.out
 have G:=(I.out.keep _ (Z3 H2.out) (by show w+1+1≠g;omega)).trans H2.out
 obtain ⟨c0,c1,c2,c3,c4,c5,c6,c7,c8⟩:=row9 h1
 obtain ⟨d0,d1⟩:=row2 h0
 have Y:=Qq G;have J:=Qq ((Z6.of_below HB.out Oa).trans I.out:Z6 (fun b=>b=g) g w w4)
 clear h0 h1 G
 have L:=Z3 Y.out
 cases r with
 | error c=>
  go_wp2_with fail
  refine (M.out _ J.out V.out).mono ?_
  rintro e w5 ⟨rfl,hs⟩
  exact ⟨rfl,rfl,J.out.trans hs⟩
 | ok o=>
  obtain ⟨v,k⟩:=o
  go_wp2_with fail
  refine (M.out _ J.out V.out).mono ?_
  rintro e w5 ⟨aU,rfl,U,aI,T⟩
  obtain ⟨q3,l3,q4,l4,aE,_⟩:=Z5.cells U
  simp only [vcs] at aE
  subst aE
  have G:=(T.keep _ L (by show w+1+1≠g;omega)).trans Y.out
  obtain ⟨Z,aP,aN,aO⟩:=Py G U aI T
  obtain ⟨r0,r1,r2,r3,r4⟩:=row5 G
  obtain ⟨f0,f1,f2,f3,f4⟩:=frz5 G
  clear U aI T G
  go_wp2_with fail
  show bodyPost _ _ _ _ _ (Pk w5 (w+1+1) v q3 l3 q4 l4)
  exact Q2 (v:=.agg (Ou v q3 l3 q4 l4)) (by simp [results,results107,go_sem,Z8 Z.out]) rfl ⟨_,rfl,Vn Oa L J.out (fun b h=>h) aP.out aN.out aO.out Z.out aS⟩
theorem Nd (p q s:Addr) (w:World):
  CallsD prog 151 #[.pointer (some p),.pointer (some q),.pointer (some s)] .returning w fun e u' w'=>e=.returned (.tuple #[])/\u'=.returning/\w'=w:=by
 refine callsD_of_wpS func151 rfl fun c₀ cs hu=>?_
 apply wpS_seq
 apply wpS_region
 simp [wpOpsS,go_sem,recoverD,hu,ntmps151,Exit.thenS]
 rw [show (#[Value.pointer (some p),.pointer (some q),.pointer (some s)]++((Array.replicate 17 undef).setIfInBounds 3 Value.nilIface).setIfInBounds 0 Value.nilIface)=#[.pointer (some p),.pointer (some q),.pointer (some s),.nilIface,undef,undef,.nilIface,undef,undef,undef,undef,undef,undef,undef,undef,undef,undef,undef,undef,undef] from rfl]
 refine wpS_of_wp ?_
 go_wp2_with fail
 cases c₀
 simp_all [bodyPostS,results,results151]
structure Ef (c:Int) (P Q T:Nat) (w w':World):Prop where
 val:w'.heap[P]?=some (.cells zV 48 (0,0))
 used:w'.heap[Q]?=some (.cells #[On] 3 (0,0))
 err:w'.heap[T]?=some (.cells #[c] 32 (0,0))
 below:Below P w w'
theorem Hy (c:Int) (P Q T:Nat) (hPQ:P<Q) (hQT:Q<T) (x0 x1 x2 x3 x4 y0 z0:Value) (older:List PanicEntry) (w:World) (h1:w.heap[P]?=some (.cells #[x0,x1,x2,x3,x4] 48 (0,0))) (h2:w.heap[Q]?=some (.cells #[y0] 3 (0,0))) (h3:w.heap[T]?=some (.cells #[z0] 32 (0,0))):
  CallsD prog 151 #[Om P,Om Q,Om T] (.panicking ({ v:=.iface 210 (.agg #[c]),recovered:=false }::older)) w fun e u' w'=>
   e=.returned (.tuple #[])/\u'=.panicking ({ v:=.iface 210 (.agg #[c]),recovered:=true }::older)/\Ef c P Q T w w':=by
 refine callsD_of_wpS func151 rfl fun c₀ cs hu=>?_
 apply wpS_seq
 apply wpS_region
 simp [wpOpsS,go_sem,recoverD,hu,ntmps151,Exit.thenS]
 have N:∀ w,(Instr.typeAssert (.iface 210 (.agg #[c])) 20 210 true).run prog w=.ok (.tuple #[.agg #[c],.bool true]) w:=by
  intro w
  simp [Instr.typeAssert,go_sem]
 refine wpS_of_wp ?_
 rw [show (#[Value.pointer (some ⟨P,0,none⟩),.pointer (some ⟨Q,0,none⟩),.pointer (some ⟨T,0,none⟩)]++((Array.replicate 17 undef).setIfInBounds 3 (.iface 210 (.agg #[c]))).setIfInBounds 0 (.iface 210 (.agg #[c])))=#[.pointer (some ⟨P,0,none⟩),.pointer (some ⟨Q,0,none⟩),.pointer (some ⟨T,0,none⟩),.iface 210 (.agg #[c]),undef,undef,.iface 210 (.agg #[c]),undef,undef,undef,undef,undef,undef,undef,undef,undef,undef,undef,undef,undef] from rfl]
 go_upto_region 5 with fail
 generalize M:World.alloc w _=w1
 have G:=eqB M (Zb _ _)
 have hk:=eqH (b:=w.heap.size) M (Qw _ _)
 have l1:=Z3 h1;have l2:=Z3 h2;have l3:=Z3 h3
 replace h1:=kE G l1 h1;replace h2:=kE G l2 h2;replace h3:=kE G l3 h3
 have k0:=rA0 hk;have q0:=rA0 h2;have t0:=rA0 h3
 obtain ⟨r0,r1,r2,r3,r4⟩:=row5 h1
 obtain ⟨f0,f1,f2,f3,f4⟩:=frz5 h1
 have g2:=fA 0 h2;have g3:=fA 0 h3
 have n1:P≠Q:=Oa
 have n2:P≠T:=Oa
 have n3:Q≠T:=Oa
 have n4:w.heap.size≠P:=Oa
 have n5:w.heap.size≠Q:=Oa
 have n6:w.heap.size≠T:=Oa
 obtain ⟨H1,H2,H3,HB⟩:=Py h1 h2 h3 G
 clear h1 h2 h3 G hk M
 go_region
 have L:=Qd _ _ 4 _ _ (.slice none 0 0) (Qd _ _ 3 _ _ (.slice none 0 0) (Qd _ _ 2 _ _ (.string ⟨#[]⟩) (Qd _ _ 1 _ _ (.int .i64 0) (Qd _ _ 0 _ _ (.int .i64 0) H1.out))))
 have I:Below P w w1:=HB.out.mono Oa
 have J:=((((((I.setCell (p:=⟨P,0,none⟩) (Q4 _) (.int .i64 0)).setCell (p:=⟨P,1,none⟩) (Q4 _) (.int .i64 0)).setCell (p:=⟨P,2,none⟩) (Q4 _) (.string ⟨#[]⟩)).setCell (p:=⟨P,3,none⟩) (Q4 _) (.slice none 0 0)).setCell (p:=⟨P,4,none⟩) (Q4 _) (.slice none 0 0)).setCell (p:=⟨Q,0,none⟩) (by show P<=Q;omega) (.int .i64 0)).setCell (p:=⟨T,0,none⟩) (by show P<=T;omega) (.int .i64 c)
 generalize D:World.drew _=wx
 have hc:Ef c P Q T w wx:=by
  refine ⟨?_,?_,?_,by rw [<- D];exact J.drew⟩
  ·rw [<- D,heap_drew,Z4 (show P≠T by omega),Z4 (show P≠Q by omega)];exact L
  ·rw [<- D,heap_drew,Z4 (show Q≠T by omega)];exact Qd _ _ 0 _ _ _ ((Y1 Oa).trans H2.out)
  rw [<- D,heap_drew];exact Qd _ _ 0 _ _ _ ((Z4 (show T≠Q by omega)).trans ((Y1 Oa).trans H3.out))
 clear D J L I k0 q0 t0 r0 r1 r2 r3 r4 f0 f1 f2 f3 f4 g2 g3
 go_wp2_with fail
 cases c₀
 simp_all [bodyPostS,results,results151]
theorem EvIs.drew {S:Nat->Prop} {w W:World} {r:Option Val} {e:Ending} (h:EvIs S w r e W):EvIs S w r e W.drew:=by
 obtain ⟨k,n,s,p3,n3,k3,p4,n4,k4,b,he,hv,hb⟩:=h
 exact ⟨k,n,s,p3,n3,k3,p4,n4,k4,b,he,hv.map fun v h1=>h1.move (fun _ _ _=>rfl) P8,hb.drew⟩
end Go.Proofs.YtlanplhphiikjaaGreatDoor
