import Derived.Test.YtlanplhphiikjaaGreatDoorE04
import Derived.Test.YtlanplhphiikjaaGreatDoorE05
set_option maxRecDepth 100000
set_option maxHeartbeats 400000000
namespace Go.Proofs.YtlanplhphiikjaaGreatDoor
open Go.RowKit
theorem Ji (x y:Int) (w:World):Calls Tryz.prog 126 #[x,y] w fun e w'=>e=.returned (.int .i64 (ord x y))/\w=w':=by
 have key:∀ r,ord x y=r->Calls Tryz.prog 126 #[x,y] w fun e w'=>e=.returned (.int .i64 r)/\w=w':=by
  intro r A
  by_cases h1:x<y
  ·have:r=-1:=by rw [<- A];unfold ord;rw [if_pos h1]
   subst this
   clear A
   go_enter Tryz.func126,Tryz.ntmps126
   go_wp2_with fail
   go_ret
   exact ⟨rfl,rfl⟩
  by_cases h2:y<x
  ·have:r=1:=by rw [<- A];unfold ord;rw [if_neg h1,if_pos h2]
   subst this
   clear A
   go_enter Tryz.func126,Tryz.ntmps126
   go_wp2_with fail
   go_ret
   exact ⟨rfl,rfl⟩
  have:r=0:=by rw [<- A];unfold ord;rw [if_neg h1,if_neg h2]
  subst this
  clear A
  go_enter Tryz.func126,Tryz.ntmps126
  go_wp2_with fail
  go_ret
  exact ⟨rfl,rfl⟩
 exact key _ rfl
theorem Mm (x y:ByteArray) (w:World):Calls Tryz.prog 127 #[.string x,.string y] w fun e w'=>e=.returned (.int .i64 (Yg (bl x) (bl y)))/\w=w':=by
 obtain ⟨A,D,I⟩:=Vc (bl x) (bl y)
 obtain ⟨N,O,T⟩:=Vc (bl y) (bl x)
 have M:Yg (bl x) (bl y)=- Yg (bl y) (bl x):=by
  have:=Uj (bl x) (bl y) [] []
  have h:=Uj (bl y) (bl x) [] []
  simp only [List.append_nil,lex,Ko] at this h
  rw [<- this,<- h];exact Du _ _
 rw [<- F8 x,<- F8 y] at A D I N O T M |-
 obtain ⟨c,U⟩:=eX (Yg x.toList y.toList)
 obtain ⟨d,V⟩:=eX (Yg y.toList x.toList)
 rw [U] at A D I M |-
 rw [V] at N O T M
 have HC:=Qq U;have HD:=Qq V
 clear U V
 rcases I with I | I | I <;> subst I
 ·have k1:Op.bytesLess x.toList y.toList=true:=A.trans Qxv
  clear A D N O T M
  go_enter Tryz.func127,Tryz.ntmps127
  go_wp2_with fail
  go_ret
  exact ⟨rfl,rfl⟩
 ·have k1:Op.bytesLess x.toList y.toList=false:=A.trans Qxv
  have J:d=0:=Qvu
  subst J
  have k2:(x.toList==y.toList)=true:=D.trans Qxv
  clear A D N O T M
  go_enter Tryz.func127,Tryz.ntmps127
  go_wp2_with fail
  go_ret
  exact ⟨rfl,rfl⟩
 have k1:Op.bytesLess x.toList y.toList=false:=A.trans Qxv
 have J:d=-1:=Qvu
 subst J
 have k2:(x.toList==y.toList)=false:=D.trans Qxv
 clear A D N O T M
 go_enter Tryz.func127,Tryz.ntmps127
 go_wp2_with fail
 go_ret
 exact ⟨rfl,rfl⟩
theorem cmpN_end {a b:List Bs} {k:Nat} (ha:k<=a.length) (hb:k<=b.length) (h:k=a.length\/k=b.length):Kl (a.drop k) (b.drop k)=ord a.length b.length:=by
 by_cases h1:k=a.length
 ·rw [Qu (by omega:a.length<=k)]
  by_cases h2:k=b.length
  ·rw [Qu Qvu];unfold ord;rw [if_neg Qvu,if_neg Qvu];rfl
  rw [Qp (by omega:k<b.length)];unfold ord;rw [if_pos Qvu];rfl
 have h2:k=b.length:=Qvu
 rw [Qu (by omega:b.length<=k),Qp (by omega:k<a.length)];unfold ord;rw [if_neg Qvu,if_pos Qvu];rfl
theorem Qzw {a b:List Val} {k:Nat} (ha:k<=a.length) (hb:k<=b.length) (h:k=a.length\/k=b.length):Xu (a.drop k) (b.drop k)=ord a.length b.length:=by
 by_cases h1:k=a.length
 ·rw [Qu (by omega:a.length<=k)]
  by_cases h2:k=b.length
  ·rw [Qu Qvu];unfold ord;rw [if_neg Qvu,if_neg Qvu];simp [Xu]
  rw [Qp (by omega:k<b.length)];unfold ord;rw [if_pos Qvu];simp [Xu]
 have h2:k=b.length:=Qvu
 rw [Qu (by omega:b.length<=k),Qp (by omega:k<a.length)];unfold ord;rw [if_neg Qvu,if_pos Qvu];simp [Xu]
theorem Td (S S':Nat->Prop) (av bv:Value) (a b:List Bs) (w:World) (ha:Sl Zg S w av a) (hb:Sl Zg S' w bv b):
  Calls Tryz.prog 128 #[av,bv] w fun e w'=>e=.returned (.int .i64 (Kl a b))/\Gr w w':=by
 obtain ⟨pa,ca,rfl,aM⟩:=ha.len
 obtain ⟨pb,cb,rfl,aN⟩:=hb.len
 have HA:=Qq ha;have HB:=Qq hb
 obtain ⟨r,hr⟩:=eX (Kl a b)
 rw [hr]
 have HR:=Qq hr
 have HO:=Qq (fun W=>Ji a.length b.length W)
 clear ha hb hr
 go_enter Tryz.func128,Tryz.ntmps128
 go_wp2_with fail
 go_loopw [5,6] (fun i _ wr=>∃ k:Nat,k<=a.length/\k<=b.length/\i=.int .i64 k/\Aside (Kl (a.drop k) (b.drop k)=r)/\Aside (Gr w wr)) (fun i _ _=>a.length - (intOf i).toNat)
 case atStart=>exact ⟨0,Q8 _,Q8 _,rfl,HR.out,Gr.refl _⟩
 obtain ⟨k,aH,aI,rfl,V,Y⟩:=hrel
 have I:=Qq (show Gr w wr from Y)
 clear Y
 by_cases D:k<a.length/\k<b.length
 ·obtain ⟨D,M⟩:=D
  obtain ⟨x,hx⟩:∃ x,a[k]?=some x:=⟨_,Qx D⟩
  have O:a.drop k=x::a.drop (k+1):=by
   rw [Qp D];rw [Qx D] at hx;cases hx;rfl
  obtain ⟨ga,oa,rfl,c1,l1⟩:=(HA.out.below I.out.bl).str hx
  obtain ⟨y,hy⟩:∃ y,b[k]?=some y:=⟨_,Qx M⟩
  have T:b.drop k=y::b.drop (k+1):=by
   rw [Qp M];rw [Qx M] at hy;cases hy;rfl
  obtain ⟨gb,ob,rfl,c2,l2⟩:=(HB.out.below I.out.bl).str hy
  have N:Kl (a.drop k) (b.drop k)=r:=V
  rw [O,T] at N
  have HS:=Qq (Mm ⟨x.toArray⟩ ⟨y.toArray⟩)
  have U:Yg (bl ⟨x.toArray⟩) (bl ⟨y.toArray⟩)=Yg x y:=rfl
  rw [U] at HS
  have J:thn (Yg x y) (Kl (a.drop (k+1)) (b.drop (k+1)))=r:=N
  generalize Yg x y=c at HS J
  have aK:(0:Int)<=(k:Int):=Qvu
  have Z:(k:Int)<a.length:=Qvu
  have aL:(k:Int)<b.length:=Qvu
  by_cases hc0:c=0
  ·subst hc0
   have HC:=Qq J
   clear V J N O T hx hy U
   go_wp2_with fail
   go_quiet ((go_at_call 127;exact Calls.quiet_of_same ((HS.out _).mono fun _ _ h=>⟨h.1,h.2.symm⟩)))
   go_wp2_with fail
   go_roundw
   case rel=>exact ⟨k+1,Qvu,Qvu,by go_num,HC.out,I.out.thn ⟨_,#[],by rw [Sort.grow_empty]⟩⟩
   case measure=>simp [intOf];omega
  have aO:(c != 0)=true:=by rw [bne_iff_ne];exact hc0
  have aF:c=r:=by rw [<- J];unfold thn;rw [if_neg hc0]
  subst aF
  clear V J N O T hx hy U hc0
  go_wp2_with fail
  go_quiet ((go_at_call 127;exact Calls.quiet_of_same ((HS.out _).mono fun _ _ h=>⟨h.1,h.2.symm⟩)))
  go_wp2_with fail
  go_ret
  exact ⟨rfl,I.out.thn ⟨_,#[],by rw [Sort.grow_empty]⟩⟩
 have A:k=a.length\/k=b.length:=Qvu
 have aA:r=ord a.length b.length:=by rw [<- cmpN_end aH aI A];exact (show Kl (a.drop k) (b.drop k)=r from V).symm
 generalize ord a.length b.length=r2 at aA HO
 subst aA
 rcases A with A | A
 ·have Z:¬ (k:Int)<a.length:=Qvu
  have aG:decide (k<a.length)=false:=by simp;omega
  clear V D A
  go_wp2_with (go_at_call 126;refine (HO.out _).mono ?_;rintro e w' ⟨rfl,rfl⟩)
  go_ret
  exact ⟨rfl,I.out⟩
 have Z:¬ (k:Int)<b.length:=Qvu
 have aG:decide (k<b.length)=false:=by simp;omega
 clear V D A
 go_wp2_with (go_at_call 126;refine (HO.out _).mono ?_;rintro e w' ⟨rfl,rfl⟩)
 all_goals (go_ret;exact ⟨rfl,I.out⟩)
def Pa (x:Val):Prop:=∀ (y:Val) (S S':Nat->Prop) (cx cy:List Value) (w:World),Za S w cx x->Za S' w cy y ->
 Calls Tryz.prog 74 #[cx,cy] w fun e w'=>e=.returned (.int .i64 (Yk x y))/\Gr w w'
theorem rkids_of (S S':Nat->Prop) (av bv:Value) (a b:List Val) (hC:∀ x ∈ a,Pa x) (w:World) (ha:Sl Zc S w av a) (hb:Sl Zc S' w bv b):
  Calls Tryz.prog 129 #[av,bv] w fun e w'=>e=.returned (.int .i64 (Xu a b))/\Gr w w':=by
 obtain ⟨pa,ca,rfl,aS⟩:=ha.len
 obtain ⟨pb,cb,rfl,aT⟩:=hb.len
 obtain ⟨HA,HB,HC⟩:=Qxn ha hb hC
 obtain ⟨r,hr⟩:=eX (Xu a b)
 rw [hr]
 have HR:=Qq hr
 have HO:=Qq (fun W=>Ji a.length b.length W)
 have mixed:Tryz.prog.follows .mixedOrders=true:=Qxx
 clear ha hb hr hC
 go_enter Tryz.func129,Tryz.ntmps129
 go_wp2_with fail
 go_loopw [5,6] (fun i _ wr=>∃ k:Nat,k<=a.length/\k<=b.length/\i=.int .i64 k/\Aside (Xu (a.drop k) (b.drop k)=r)/\Aside (Gr w wr)) (fun i _ _=>a.length - (intOf i).toNat)
 case atStart=>exact ⟨0,Q8 _,Q8 _,rfl,HR.out,Gr.refl _⟩
 obtain ⟨k,aN,aO,rfl,Y,V⟩:=hrel
 have I:=Qq (show Gr w wr from V)
 clear V
 by_cases D:k<a.length/\k<b.length
 ·obtain ⟨D,O⟩:=D
  obtain ⟨x,hx⟩:∃ x,a[k]?=some x:=⟨_,Qx D⟩
  have Z:a.drop k=x::a.drop (k+1):=by
   rw [Qp D];rw [Qx D] at hx;cases hx;rfl
  obtain ⟨ga,oa,p3,k3,p4,k4,rfl,M,aD,d0,d1,d2,d3,d4⟩:=(HA.out.below I.out.bl).val hx
  obtain ⟨y,hy⟩:∃ y,b[k]?=some y:=⟨_,Qx O⟩
  have aA:b.drop k=y::b.drop (k+1):=by
   rw [Qp O];rw [Qx O] at hy;cases hy;rfl
  obtain ⟨gb,ob,q3,l3,q4,l4,rfl,N,aE,e0,e1,e2,e3,e4⟩:=(HB.out.below I.out.bl).val hy
  have T:Xu (a.drop k) (b.drop k)=r:=Y
  rw [Z,aA] at T
  have J:thn (Yk x y) (Xu (a.drop (k+1)) (b.drop (k+1)))=r:=by simpa [Xu] using T
  have HX:=Qq (HC.out x (Qy hx) y S S')
  have aJ:=Qq aD;have aK:=Qq aE
  generalize Yk x y=c at HX J
  have aQ:(0:Int)<=(k:Int):=Qvu
  have aB:(k:Int)<a.length:=Qvu
  have aR:(k:Int)<b.length:=Qvu
  clear aD aE Y T Z aA hx hy
  have U:∀ n os,Calls Tryz.prog 74 #[.agg (vcs x p3 k3 p4 k4).toArray,.agg (vcs y q3 l3 q4 l4).toArray] (Sort.grow (wr.drewN n) os) fun e w'=>e=.returned (.int .i64 c)/\Gr (Sort.grow (wr.drewN n) os) w':=fun n os=>HX.out _ _ _ (aJ.out.move (.of_below (Y7 _ _ _).bl) Qyv) (aK.out.move (.of_below (Y7 _ _ _).bl) Qyv)
  unfold vcs at U
  have D0:=Zm M d0;have D1:=Zm M d1;have D2:=Zm M d2;have D3:=Zm M d3;have D4:=Zm M d4
  have E0:=Zm N e0;have E1:=Zm N e1;have E2:=Zm N e2;have E3:=Zm N e3;have E4:=Zm N e4
  clear d0 d1 d2 d3 d4 e0 e1 e2 e3 e4
  by_cases hc0:c=0
  ·subst hc0
   have aH:=Qq J
   clear J
   go_wp2_with fail
   go_quiet_grown (first | (go_at_call 74;refine Calls.grown_of (U _ _)))
   go_wp2_with fail
   go_roundw
   case rel=>exact ⟨k+1,Qvu,Qvu,by go_num,aH.out,I.out.thn (Y7 _ _ _)⟩
   case measure=>simp [intOf];omega
  have aU:(c != 0)=true:=by rw [bne_iff_ne];exact hc0
  have aL:c=r:=by rw [<- J];unfold thn;rw [if_neg hc0]
  subst aL
  clear J hc0
  go_wp2_with fail
  go_quiet_grown (first | (go_at_call 74;refine Calls.grown_of (U _ _)))
  go_wp2_with fail
  go_ret
  exact ⟨rfl,I.out.thn (Y7 _ _ _)⟩
 have A:k=a.length\/k=b.length:=Qvu
 have aC:r=ord a.length b.length:=by rw [<- Qzw aN aO A];exact (show Xu (a.drop k) (b.drop k)=r from Y).symm
 generalize ord a.length b.length=r2 at aC HO
 subst aC
 rcases A with A | A
 ·have aB:¬ (k:Int)<a.length:=Qvu
  have aM:decide (k<a.length)=false:=by simp;omega
  clear Y D A
  go_wp2_with (go_at_call 126;refine (HO.out _).mono ?_;rintro e w' ⟨rfl,rfl⟩)
  go_ret
  exact ⟨rfl,I.out⟩
 have aB:¬ (k:Int)<b.length:=Qvu
 have aM:decide (k<b.length)=false:=by simp;omega
 clear Y D A
 go_wp2_with (go_at_call 126;refine (HO.out _).mono ?_;rintro e w' ⟨rfl,rfl⟩)
 all_goals (go_ret;exact ⟨rfl,I.out⟩)
theorem Qvc (k n:Int) (s:Bs) (ns:List Bs) (ks:List Val) (ih:∀ x ∈ ks,Pa x):Pa (.mk k n s ns ks):=by
 rintro ⟨k',N,U,D,A⟩ S S' cx cy w hx hy
 obtain ⟨nv,kv,rfl,hs,hn,hk⟩:=Jf.1 hx
 obtain ⟨aI,aH,rfl,aR,aG,aF⟩:=Jf.1 hy
 have hN:∀ w',Below w w w'->Calls Tryz.prog 128 #[nv,aI] w' fun e Y=>e=.returned (.int .i64 (Kl ns D))/\Gr w' Y:=
  fun w' hb=>Td S S' nv aI ns D w' (hn.below hb) (aG.below hb)
 have hK:∀ w',Below w w w'->Calls Tryz.prog 129 #[kv,aH] w' fun e Y=>e=.returned (.int .i64 (Xu ks A))/\Gr w' Y:=
  fun w' hb=>rkids_of S S' kv aH ks A ih w' (hk.below hb) (aF.below hb)
 have hS:∀ w',Calls Tryz.prog 127 #[sv s,sv U] w' fun e Y=>e=.returned (.int .i64 (Yg s U))/\w'=Y:=fun w'=>Mm _ _ w'
 obtain ⟨HN,HK,HS⟩:=Qxn hN hK hS
 obtain ⟨cb,J⟩:=eX (Yg s U)
 obtain ⟨cn,M⟩:=eX (Kl ns D)
 obtain ⟨cv,I⟩:=eX (Xu ks A)
 rw [J] at HS;rw [M] at HN;rw [I] at HK
 have aQ:=Qq (fun o1 o2=>Zu w o1 o2)
 clear hN hK hS hx hy ih hn aG hk aF
 by_cases hkk:k=k'
 ·subst hkk
  by_cases h0:k=0
  ·subst h0
   rw [show Yk (.mk 0 n s ns ks) (.mk 0 N U D A)=ord n N by simp [Yk]]
   have HI:=Qq (fun w=>Ji n N w)
   generalize ord n N=r at HI |-
   clear J M I
   go_enter Tryz.func74,Tryz.ntmps74
   go_wp2_with (go_at_call 126;refine (HI.out _).mono ?_;rintro e w' ⟨rfl,rfl⟩)
   go_ret
   exact ⟨rfl,Vs _ _ _⟩
  by_cases h2:k=2
  ·subst h2
   rw [show Yk (.mk 2 n s ns ks) (.mk 2 N U D A)=ord n N by simp [Yk]]
   have HI:=Qq (fun w=>Ji n N w)
   generalize ord n N=r at HI |-
   clear J M I h0
   go_enter Tryz.func74,Tryz.ntmps74
   go_wp2_with (go_at_call 126;refine (HI.out _).mono ?_;rintro e w' ⟨rfl,rfl⟩)
   go_ret
   exact ⟨rfl,Vs _ _ _⟩
  by_cases h1:k=1
  ·subst h1
   rw [show Yk (.mk 1 n s ns ks) (.mk 1 N U D A)=cb by simp [Yk,J]]
   clear J M I h0 h2
   go_enter Tryz.func74,Tryz.ntmps74
   go_wp2_with (go_at_call 127;refine (HS.out _).mono ?_;rintro e w' ⟨rfl,rfl⟩)
   go_ret
   exact ⟨rfl,Vs _ _ _⟩
  by_cases h3:k=3
  ·subst h3
   have O:Yk (.mk 3 n s ns ks) (.mk 3 N U D A)=thn cb cv:=by simp [Yk,J,I]
   clear J M I h0 h2 h1
   by_cases hz:cb=0
   ·subst hz
    rw [O,Jk]
    clear O
    go_enter Tryz.func74,Tryz.ntmps74
    go_wp2_with (first | (go_at_call 127;refine (HS.out _).mono ?_;rintro e w' ⟨rfl,rfl⟩) | (go_at_call 129;refine (HK.out _ (Zu _ _ _)).mono ?_;rintro e w' ⟨rfl,hw⟩;have HW:=Qq ((Vs w _ _).thn hw);clear hw))
    go_ret
    exact ⟨rfl,HW.out⟩
   have hq:(cb != 0)=true:=by rw [bne_iff_ne];exact hz
   have V:Yk (.mk 3 n s ns ks) (.mk 3 N U D A)=cb:=by rw [O];unfold thn;rw [if_neg hz]
   rw [V]
   clear O V hz
   go_enter Tryz.func74,Tryz.ntmps74
   go_wp2_with (go_at_call 127;refine (HS.out _).mono ?_;rintro e w' ⟨rfl,rfl⟩)
   go_ret
   exact ⟨rfl,Vs _ _ _⟩
  by_cases h4:k=4
  ·subst h4
   have O:Yk (.mk 4 n s ns ks) (.mk 4 N U D A)=thn cn cv:=by simp [Yk,M,I]
   clear J M I h0 h2 h1 h3
   by_cases hz:cn=0
   ·subst hz
    rw [O,Jk]
    clear O
    go_enter Tryz.func74,Tryz.ntmps74
    go_wp2_with (first | (go_at_call 128;refine (HN.out _ (Zu _ _ _)).mono ?_;rintro e wn ⟨rfl,T⟩;have Z:=Qq ((Vs w _ _).thn T);obtain ⟨aO,aP⟩:=Rh T.bl;clear T) | (go_at_call 129;refine (HK.out _ Z.out.bl).mono ?_;rintro e w' ⟨rfl,hw⟩;have HW:=Qq (Z.out.thn hw);clear hw))
    go_ret
    exact ⟨rfl,HW.out⟩
   have hq:(cn != 0)=true:=by rw [bne_iff_ne];exact hz
   have V:Yk (.mk 4 n s ns ks) (.mk 4 N U D A)=cn:=by rw [O];unfold thn;rw [if_neg hz]
   rw [V]
   clear O V hz
   go_enter Tryz.func74,Tryz.ntmps74
   go_wp2_with (go_at_call 128;refine (HN.out _ (Zu _ _ _)).mono ?_;rintro e wn ⟨rfl,T⟩;have Z:=Qq ((Vs w _ _).thn T);obtain ⟨aO,aP⟩:=Rh T.bl;clear T)
   go_ret
   exact ⟨rfl,Z.out⟩
  by_cases h5:k=5
  ·subst h5
   rw [show Yk (.mk 5 n s ns ks) (.mk 5 N U D A)=cv by simp [Yk,I]]
   clear J M I h0 h2 h1 h3 h4
   go_enter Tryz.func74,Tryz.ntmps74
   go_wp2_with (go_at_call 129;refine (HK.out _ (Zu _ _ _)).mono ?_;rintro e w' ⟨rfl,hw⟩;have HW:=Qq ((Vs w _ _).thn hw);clear hw)
   go_ret
   exact ⟨rfl,HW.out⟩
  have O:Yk (.mk k n s ns ks) (.mk k N U D A)=0:=by simp [Yk,h0,h1,h2,h3,h4,h5]
  rw [O]
  have q0:(k==0)=false:=by simpa using h0
  have q1:(k==1)=false:=by simpa using h1
  have q2:(k==2)=false:=by simpa using h2
  have q3:(k==3)=false:=by simpa using h3
  have q4:(k==4)=false:=by simpa using h4
  have q5:(k==5)=false:=by simpa using h5
  clear O J M I h0 h1 h2 h3 h4 h5
  go_enter Tryz.func74,Tryz.ntmps74
  go_wp2_with fail
  go_ret
  exact ⟨rfl,Vs _ _ _⟩
 have O:Yk (.mk k n s ns ks) (.mk k' N U D A)=ord k k':=by simp [Yk,hkk]
 rw [O]
 have hq:(k != k')=true:=by rw [bne_iff_ne];exact hkk
 have HI:=Qq (fun w=>Ji k k' w)
 generalize ord k k'=r at HI |-
 clear O J M I hkk
 go_enter Tryz.func74,Tryz.ntmps74
 go_wp2_with (go_at_call 126;refine (HI.out _).mono ?_;rintro e w' ⟨rfl,rfl⟩)
 go_ret
 exact ⟨rfl,Vs _ _ _⟩
theorem rcmpAt:∀ x:Val,Pa x
 | .mk k n s ns ks=>Qvc k n s ns ks fun x _=>rcmpAt x
termination_by x=>SizeOf.sizeOf x
decreasing_by
 have:=List.sizeOf_lt_of_mem ‹_ ∈ ks›
 simp only [Val.mk.sizeOf_spec]
 omega
theorem Lt (S S':Nat->Prop) (a b:Val) (ca cb:List Value) (w:World) (ha:Za S w ca a) (hb:Za S' w cb b):
  Calls Tryz.prog 74 #[ca,cb] w fun e w'=>e=.returned (.int .i64 (Yk a b))/\Gr w w':=rcmpAt a b S S' ca cb w ha hb
open Go.RowKit Go.Shelf Go.Lib Tryz
structure V8 (x:Bs):Prop where
 pos:0<x.length
 len:x.length<=16
 head:∀ c,x[0]?=some c->Dl c=true
 all:tk Jw x=x.length
 kw:Ff x=false
structure Bq (x:Bs):Prop where
 pos:0<x.length
 len:x.length<=16
 head:∀ c,x[0]?=some c->Bx c=true
 all:tk Bl x=x.length
theorem lo_not (c:UInt8) (h:Dl c=true):Fe c=false/\((c.toNat:Int)==35)=false:=by
 rw [Bc] at h
 simp only [Bool.and_eq_true,decide_eq_true_eq] at h
 rw [Gg]
 constructor
 ·simp;omega
 simp;omega
theorem up_not (c:UInt8) (h:Bx c=true):Fe c=false/\((c.toNat:Int)==35)=false/\Dl c=false:=by
 rw [Lw] at h
 simp only [Bool.and_eq_true,decide_eq_true_eq] at h
 rw [Gg,Bc]
 refine ⟨?_,?_,?_⟩
 ·simp;omega
 ·simp;omega
 simp;omega
theorem Xn (x:Bs):(⟨x.toArray⟩:ByteArray).size=x.length:=by
 show x.toArray.size=_
 simp
theorem Bn (x:Bs) (i:Nat) (h:i<(⟨x.toArray⟩:ByteArray).size):x[i]?=some ((⟨x.toArray⟩:ByteArray)[i]'h):=by
 have:=Ew ⟨x.toArray⟩ i h
 rwa [B5] at this
theorem Hv (x:Bs):(⟨x.toArray⟩:ByteArray).extract 0 x.length=⟨x.toArray⟩:=by
 rw [ba_ext]
 simp [bl,ByteArray.data_extract]
theorem Qky (x:Bs) (h:V8 x) (w:World) (hT:Vp w):
  Calls prog 295 #[sv x] w fun e w'=>e=.returned (.tuple #[.int .i64 2,x.length])/\Below w w w':=by
 obtain ⟨hp,hl,hh,ha,hk⟩:=h
 have M:0<(⟨x.toArray⟩:ByteArray).size:=by rw [Xn];exact hp
 have D:=hh _ (Bn x 0 M)
 obtain ⟨c,hc⟩:=eX ((⟨x.toArray⟩:ByteArray)[0]'M)
 rw [hc] at D
 obtain ⟨n1,n2⟩:=lo_not c D
 have hR:∀ w,Calls prog 296 #[x,.func (.func 312) #[] #[]] w fun e w'=>e=.returned (.int .i64 (x.length:Nat))/\w=w':=fun w=>by
  have:=Tx ⟨x.toArray⟩ w (by rw [Xn];unfold maxLen;omega)
  rwa [B5,ha] at this
 have hK:∀ w,Vp w->Calls prog 313 #[.string ((⟨x.toArray⟩:ByteArray).extract 0 x.length)] w fun e w'=>e=.returned (.bool false)/\∃ q,w'=w.drewN q:=fun w hT=>by
  have:=Fo ⟨x.toArray⟩ w hT
  rwa [B5,hk,<- Hv x] at this
 obtain ⟨J,I,HT⟩:=Qxn hR hK hT
 have hs:(⟨x.toArray⟩:ByteArray).size=x.length:=Xn x
 have A:x.length<=(⟨x.toArray⟩:ByteArray).size:=Qvu
 unfold sv
 generalize (⟨x.toArray⟩:ByteArray)=s at M hc A J I |-
 generalize x.length=n at J I A hl |-
 clear hR hK hT ha hk hh hs hp
 go_enter func295,ntmps295
 go_wp2_with (first | (go_at_call 296;refine (J.out _).mono ?_;rintro e w' ⟨rfl,rfl⟩) | (go_at_call 313;refine (I.out _ HT.out).mono ?_;rintro e w' ⟨rfl,q,rfl⟩) | (go_at_call 310;refine (Xm _ _).mono ?_;rintro e w' ⟨rfl,rfl⟩) | (go_at_call 311;refine (Vk _ _).mono ?_;rintro e w' ⟨rfl,rfl⟩))
 go_ret2
 exact ⟨rfl,Zn _ _⟩
theorem good_cap (x:Bs) (h:Bq x) (w:World):
  Calls prog 295 #[sv x] w fun e w'=>e=.returned (.tuple #[.int .i64 3,x.length])/\Below w w w':=by
 obtain ⟨hp,hl,hh,ha⟩:=h
 have I:0<(⟨x.toArray⟩:ByteArray).size:=by rw [Xn];exact hp
 have A:=hh _ (Bn x 0 I)
 obtain ⟨c,hc⟩:=eX ((⟨x.toArray⟩:ByteArray)[0]'I)
 rw [hc] at A
 obtain ⟨n1,n2,n3⟩:=up_not c A
 have hR:∀ w,Calls prog 296 #[x,.func (.func 315) #[] #[]] w fun e w'=>e=.returned (.int .i64 (x.length:Nat))/\w=w':=fun w=>by
  have:=Sz ⟨x.toArray⟩ w (by rw [Xn];unfold maxLen;omega)
  rwa [B5,ha] at this
 have D:=Qq hR
 unfold sv
 generalize (⟨x.toArray⟩:ByteArray)=s at I hc D |-
 generalize x.length=n at D hl |-
 clear hR ha hh hp
 go_enter func295,ntmps295
 go_wp2_with (first | (go_at_call 296;refine (D.out _).mono ?_;rintro e w' ⟨rfl,rfl⟩) | (go_at_call 314;refine (Jg _ _).mono ?_;rintro e w' ⟨rfl,rfl⟩) | (go_at_call 310;refine (Xm _ _).mono ?_;rintro e w' ⟨rfl,rfl⟩) | (go_at_call 311;refine (Vk _ _).mono ?_;rintro e w' ⟨rfl,rfl⟩))
 go_ret2
 exact ⟨rfl,Qz _ _⟩
def Wl (x:Bs) (k:Int) (w:World):Prop:=∀ W,Below w w W->Calls prog 295 #[sv x] W fun e w'=>e=.returned (.tuple #[k,x.length])/\Below W W w'
theorem next_at (x:Bs) (k:Int) (w:World) (hg:Wl x k w) (hp:0<x.length) (W:World) (hW:Below w w W):
  Calls prog 279 #[sv x] W fun e w'=>e=.returned (.tuple #[k,x.length])/\Below W W w':=by
 have A:=Qq (hg W hW)
 have D:(0:Int)<x.length:=Qvu
 clear hg hW
 unfold sv at A |-
 generalize x.length=n at A hp D |-
 go_enter func279,ntmps279
 go_wp2_with (go_at_call 295;refine A.out.mono ?_;rintro e w' ⟨rfl,hw⟩)
 go_ret2
 exact ⟨rfl,hw⟩
theorem Qvi (x:Bs) (k:Int) (w:World) (hg:Wl x k w) (hp:0<x.length) (W:World) (hW:Below w w W):
  Calls prog 251 #[sv x] W fun e w'=>e=.returned (.tuple #[k,.bool true])/\Below W W w':=by
 have A:=Qq (next_at x k w hg hp W hW)
 have h0:0<(⟨x.toArray⟩:ByteArray).size:=by rw [Xn];exact hp
 have D:(⟨x.toArray⟩:ByteArray).toList.isEmpty=false:=by
  rw [Lib.toList_data]
  show (bl ⟨x.toArray⟩).isEmpty=false
  rw [B5]
  cases x with
  | nil=>simp at hp
  | cons=>rfl
 have hs:((x.length:Int)==((⟨x.toArray⟩:ByteArray).size:Int))=true:=by rw [Xn];simp
 clear hg hW h0
 unfold sv at A |-
 generalize (⟨x.toArray⟩:ByteArray)=s at A D hs |-
 generalize x.length=n at A hs |-
 go_enter func251,ntmps251
 go_wp2_with (go_at_call 279;refine A.out.mono ?_;rintro e w' ⟨rfl,hw⟩)
 go_ret2
 exact ⟨rfl,hw⟩
theorem Qjc (x:Bs) (k at':Int) (w:World) (hk:k=2\/k=3) (hg:Wl x k w) (hp:0<x.length) (hl:x.length<=16):
  Calls prog 204 #[.agg #[k,sv x,at']] w fun e w'=>e=.returned (.bool true)/\Below w w w':=by
 have D:=Qq (fun W h=>Qvi x k w hg hp W h)
 have I:((⟨x.toArray⟩:ByteArray).size:Int)<=16:=by rw [Xn];omega
 clear hg
 unfold sv at D |-
 generalize (⟨x.toArray⟩:ByteArray)=s at D I |-
 rcases hk with rfl | rfl
 all_goals
  go_enter func204,ntmps204
  go_wp2_with fail
  refine (D.out _ (Ze _ _)).mono ?_
  rintro e w1 ⟨rfl,A⟩
  have c0:=(A.cell (p:=⟨w,0,none⟩) Qxz).trans (Qk _ _ 0 _ _ _ (Qw w _))
  have c1:=(A.cell (p:=⟨w,1,none⟩) Qxz).trans (Qk _ _ 1 _ _ _ (Qw w _))
  simp only [Qf,Qg,Qh] at c0 c1
  have HW:=Qq ((Ze w _).thn A)
  clear A
  go_wp2_with fail
  go_ret
  exact ⟨rfl,HW.out⟩
theorem Vp.below {w w':World} (h:Vp w) (hb:Below w w w'):Vp w':=fun j v hv=>(hb.cell (p:=⟨_,0+j,none⟩) (Qv w _ (h j v hv))).trans (h j v hv)
theorem Wb (x:Bs) (h:V8 x) (w:World) (hT:Vp w):Calls prog 138 #[sv x] w fun e w'=>e=.returned (.bool true)/\Below w w w':=by
 have A:=Qq (fun W (hb:Below w w W)=>Qjc x 2 0 W (.inl rfl) (fun W' h'=>Qky x h W' ((hT.below hb).below h')) h.pos h.len)
 clear hT h
 unfold sv at A |-
 generalize (⟨x.toArray⟩:ByteArray)=s at A |-
 go_enter func138,ntmps138
 go_wp2_with (go_at_call 204;refine (A.out _ (Qz _ _)).mono ?_;rintro e w' ⟨rfl,hw⟩)
 go_ret
 exact ⟨rfl,hw⟩
theorem Qka (x:Bs) (h:Bq x) (w:World):Calls prog 137 #[sv x] w fun e w'=>e=.returned (.bool true)/\Below w w w':=by
 have A:=Qq (fun W=>Qjc x 3 0 W (.inr rfl) (fun W' _=>good_cap x h W') h.pos h.len)
 clear h
 unfold sv at A |-
 generalize (⟨x.toArray⟩:ByteArray)=s at A |-
 go_enter func137,ntmps137
 go_wp2_with (go_at_call 204;refine (A.out _).mono ?_;rintro e w' ⟨rfl,hw⟩)
 go_ret
 exact ⟨rfl,hw⟩
end Go.Proofs.YtlanplhphiikjaaGreatDoor
