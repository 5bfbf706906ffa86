import Derived.Test.YtdpibdpbgokmoaaGreatDoorA05
set_option maxRecDepth 100000
set_option maxHeartbeats 400000000
namespace Go.Proofs.YtdpibdpbgokmoaaGreatDoor
open Go.RowKit Go.Shelf Go.Lib Tryz
theorem Wh (c lo hi:Int) (w:World):Calls prog 233 #[.int .u8 c,.int .u8 lo,.int .u8 hi] w λe w'=>e=.returned (.bool (decide (lo<=c)&&decide (c<=hi)))/\w=w':=by
 go_enter func233,ntmps233
 go_wp2
 all_goals (go_ret;exact ⟨by simp [*] <;> omega,rfl⟩)
theorem N4 (a b:UInt8):decide (a<=b)=decide ((a.toNat:Int)<=(b.toNat:Int)):=by
 simp [UInt8.le_iff_toNat_le]
theorem R7 (c:UInt8):Om c=(decide ((48:Int)<=(c.toNat:Int))&&decide ((c.toNat:Int)<=57)):=by
 unfold Om;rw [N4,N4];rfl
theorem Gd (c:UInt8):Gx c=(decide ((97:Int)<=(c.toNat:Int))&&decide ((c.toNat:Int)<=122)):=by
 unfold Gx;rw [N4,N4];rfl
theorem L8 (c:UInt8):Hu c=(decide ((65:Int)<=(c.toNat:Int))&&decide ((c.toNat:Int)<=90)):=by
 unfold Hu;rw [N4,N4];rfl
theorem Mh (c:UInt8) (w:World):Calls prog 222 #[.int .u8 c.toNat] w λe w'=>e=.returned (.bool (Om c))/\w=w':=by
 rw [R7]
 go_enter func222,ntmps222
 go_wp2_with (go_at_call 233;refine (Wh _ _ _ _).mono ?_;rintro e w' ⟨rfl,rfl⟩)
 go_ret
 exact ⟨rfl,rfl⟩
theorem Fx (c:UInt8) (w:World):Calls prog 217 #[.int .u8 c.toNat] w λe w'=>e=.returned (.bool (Gx c))/\w=w':=by
 rw [Gd]
 go_enter func217,ntmps217
 go_wp2_with (go_at_call 233;refine (Wh _ _ _ _).mono ?_;rintro e w' ⟨rfl,rfl⟩)
 go_ret
 exact ⟨rfl,rfl⟩
theorem Nb (c:UInt8) (w:World):Calls prog 220 #[.int .u8 c.toNat] w λe w'=>e=.returned (.bool (Hu c))/\w=w':=by
 rw [L8]
 go_enter func220,ntmps220
 go_wp2_with (go_at_call 233;refine (Wh _ _ _ _).mono ?_;rintro e w' ⟨rfl,rfl⟩)
 go_ret
 exact ⟨rfl,rfl⟩
theorem N3 (a b:UInt8):(a==b)=((a.toNat:Int)==(b.toNat:Int)):=by
 rw [Bool.eq_iff_iff,beq_iff_eq,beq_iff_eq,<- UInt8.toNat_inj];omega
theorem Bk (c:UInt8):Pz c=((c.toNat:Int)==9||(c.toNat:Int)==10||(c.toNat:Int)==13||(c.toNat:Int)==32):=by
 unfold Pz;rw [N3,N3,N3,N3];rfl
theorem Nv (c:UInt8) (w:World):Calls prog 216 #[.int .u8 c.toNat] w λe w'=>e=.returned (.bool (Pz c))/\w=w':=by
 rw [Bk]
 go_enter func216,ntmps216
 go_wp2
 all_goals (go_ret;exact ⟨by simp [*],rfl⟩)
theorem Pe (c:UInt8) (w:World):Calls prog 218 #[.int .u8 c.toNat] w λe w'=>e=.returned (.bool (Fp c))/\w=w':=by
 have h:Fp c=(Gx c||Om c||((c.toNat:Int)==95)):=by unfold Fp;rw [N3];rfl
 rw [h]
 go_enter func218,ntmps218
 go_wp2_with (first | (go_at_call 217;refine (Fx _ _).mono ?_;rintro e w' ⟨rfl,rfl⟩) | (go_at_call 222;refine (Mh _ _).mono ?_;rintro e w' ⟨rfl,rfl⟩))
 all_goals (go_ret;exact ⟨by simp [*],rfl⟩)
theorem Pw (c:UInt8) (w:World):Calls prog 221 #[.int .u8 c.toNat] w λe w'=>e=.returned (.bool (Hy c))/\w=w':=by
 unfold Hy
 go_enter func221,ntmps221
 go_wp2_with (first | (go_at_call 217;refine (Fx _ _).mono ?_;rintro e w' ⟨rfl,rfl⟩) | (go_at_call 222;refine (Mh _ _).mono ?_;rintro e w' ⟨rfl,rfl⟩) | (go_at_call 220;refine (Nb _ _).mono ?_;rintro e w' ⟨rfl,rfl⟩))
 all_goals (go_ret;exact ⟨by simp [*],rfl⟩)
def svs (ls:List Bs):List Value:=ls.map sv
def Xs (w:World):Prop:=w.rangeAt 5 0 (svs kws)
theorem E8 (l:Bs):bl ⟨l.toArray⟩=l:=rfl
theorem Sd (s:ByteArray) (n:Nat) (h:n<s.size):(bl s)[n]?=some s[n]:=by
 simp only [bl,Array.getElem?_toList]
 exact Array.getElem?_eq_getElem h
theorem bl_len (s:ByteArray):(bl s).length=s.size:=Array.length_toList
theorem At {p:UInt8->Bool} {s:ByteArray} {n:Nat} (hn:n<=tk p (bl s)) (h:n<s.size) (hp:p s[n]=true):n+1<=tk p (bl s):=by
 rcases Nat.lt_or_ge n (tk p (bl s)) with h' | h'
 ·omega
 have e:tk p (bl s)=n:=Ia
 have:=Ab (p:=p) (l:=bl s) (c:=s[n]) (by rw [e];exact Sd s n h)
 rw [hp] at this;cases this
theorem tk_end {p:UInt8->Bool} {s:ByteArray} {n:Nat} (hn:n<=tk p (bl s)) (h:n<s.size) (hp:p s[n]=false):tk p (bl s)=n:=by
 rcases Nat.lt_or_ge n (tk p (bl s)) with h' | h'
 ·have:=Oc h' (Sd s n h);rw [hp] at this;cases this
 omega
theorem tk_out {p:UInt8->Bool} {s:ByteArray} {n:Nat} (hn:n<=tk p (bl s)) (h:¬ n<s.size):tk p (bl s)=n:=by
 have:=tk_le p (bl s);rw [bl_len] at this;omega
theorem Dz {k:IntKind} {a b:Int} (h:a=b):Ending.returned (.int k a)=.returned (.int k b):=by rw [h]
theorem run_word (s:ByteArray) (w:World) (hs:s.size<=maxLen):
  Calls prog 203 #[.string s,.func (.func 218) #[] #[]] w λe w'=>e=.returned (.int .i64 (tk Fp (bl s)))/\w=w':=by
 unfold maxLen at hs
 go_enter func203,ntmps203
 go_wp2
 go_loop [5] (λi=>∃ k:Nat,k<=tk Fp (bl s)/\i=.int .i64 k) (λi=>s.size - (intOf i).toNat)
 case atStart=>exact ⟨0,Q8 _,rfl⟩
 obtain ⟨n,hn,rfl⟩:=hrel
 have D:=Qq hn;clear hn
 by_cases hlt:n<s.size
 ·by_cases hp:Fp s[n]=true
  ·have A:=Qq (At D.o hlt hp)
   go_wp2_with (go_at_call 218;refine (Pe _ _).mono ?_;rintro e w' ⟨rfl,rfl⟩)
   go_round
   case rel=>exact ⟨n+1,A.o,by go_num⟩
   case measure=>simp [intOf];omega
  have G:Fp s[n]=false:=by simpa using hp
  have A:=Qq (tk_end D.o hlt G);clear hp
  go_wp2_with (go_at_call 218;refine (Pe _ _).mono ?_;rintro e w' ⟨rfl,rfl⟩)
  go_ret
  exact ⟨Dz (by rw [A.o]),rfl⟩
 have A:=Qq (tk_out D.o hlt)
 go_wp2
 go_ret
 exact ⟨Dz (by rw [A.o]),rfl⟩
theorem run_name (s:ByteArray) (w:World) (hs:s.size<=maxLen):
  Calls prog 203 #[.string s,.func (.func 221) #[] #[]] w λe w'=>e=.returned (.int .i64 (tk Hy (bl s)))/\w=w':=by
 unfold maxLen at hs
 go_enter func203,ntmps203
 go_wp2
 go_loop [5] (λi=>∃ k:Nat,k<=tk Hy (bl s)/\i=.int .i64 k) (λi=>s.size - (intOf i).toNat)
 case atStart=>exact ⟨0,Q8 _,rfl⟩
 obtain ⟨n,hn,rfl⟩:=hrel
 have D:=Qq hn;clear hn
 by_cases hlt:n<s.size
 ·by_cases hp:Hy s[n]=true
  ·have A:=Qq (At D.o hlt hp)
   go_wp2_with (go_at_call 221;refine (Pw _ _).mono ?_;rintro e w' ⟨rfl,rfl⟩)
   go_round
   case rel=>exact ⟨n+1,A.o,by go_num⟩
   case measure=>simp [intOf];omega
  have G:Hy s[n]=false:=by simpa using hp
  have A:=Qq (tk_end D.o hlt G);clear hp
  go_wp2_with (go_at_call 221;refine (Pw _ _).mono ?_;rintro e w' ⟨rfl,rfl⟩)
  go_ret
  exact ⟨Dz (by rw [A.o]),rfl⟩
 have A:=Qq (tk_out D.o hlt)
 go_wp2
 go_ret
 exact ⟨Dz (by rw [A.o]),rfl⟩
theorem Fo (f g:Nat->Bool):∀ (n lo hi:Nat),(∀ t,t<hi->f t=g t)->Lib.bsGo f n lo hi=Lib.bsGo g n lo hi
 | 0,_,_,_=>rfl
 | n+1,lo,hi,h=>by
  unfold Lib.bsGo
  by_cases hl:lo<hi
  ·rw [if_pos hl,if_pos hl,h ((lo+hi) / 2) Ia,Fo f g n _ hi h,Fo f g n lo _ (λt ht=>h t Ia)]
  rw [if_neg hl,if_neg hl]
theorem J8:∀ (x y:List UInt8),Op.bytesLess x y=decide (x<y)
 | [],[]=>by simp [Op.bytesLess]
 | _::_,[]=>by simp [Op.bytesLess]
 | [],_::_=>by simp [Op.bytesLess]
 | a::x,b::y=>by
  rw [Op.bytesLess,J8 x y]
  simp only [List.cons_lt_cons_iff]
  by_cases h1:a<b <;> by_cases h2:a=b <;> by_cases h3:x<y <;> simp [h1,h2,h3]
theorem split_at (f:Nat->Bool) (n:Nat) (hd:∀ i j,i<j->j<n->f j=true->f i=true):∃ k,k<=n/\(∀ t,t<k->f t=true)/\(∀ t,k<=t->t<n->f t=false):=by
 induction n with
 | zero=>exact ⟨0,Q9 _,λt h=>Ia,λt _ h=>Ia⟩
 | succ n ih=>
  obtain ⟨k,h1,h2,h3⟩:=ih (λi j A hj=>hd i j A Ia)
  cases hn:f n with
  | true=>exact ⟨n+1,Q9 _,λt ht=>by
    by_cases e:t=n
    ·rw [e];exact hn
    exact hd t n Ia Ia hn,λt _ _=>Ia⟩
  | false=>exact ⟨k,Ia,h2,λt ht D=>by
    by_cases e:t=n
    ·rw [e];exact hn
    exact h3 t ht Ia⟩
theorem bs_ok (S:Nat->Bs) (n:Nat) (x:Bs) (hs:∀ i j,i<j->j<n->S i<S j) (k:Nat) (hk:Lib.bsGo (λt=>Op.bytesLess (S t) x) n 0 n=k):
  (k<n/\S k=x)↔∃ t,t<n/\S t=x:=by
 obtain ⟨k0,h1,h2,h3⟩:=split_at (λt=>Op.bytesLess (S t) x) n (λi j D hj h=>by
  simp only [J8,decide_eq_true_eq] at h |-
  exact List.lt_trans (hs i j D hj) h)
 have e:Lib.bsGo (λt=>Op.bytesLess (S t) x) n 0 n=k0:=by
  rw [Fo _ (λt=>decide (t<n)&&Op.bytesLess (S t) x) n 0 n (λt A=>by simp [A])]
  exact Lib.bsGo_spec _ k0 (λt A=>by simp [show t<n by omega,h2 t A]) (λt A=>by
   by_cases htn:t<n
   ·simp [h3 t A htn]
   simp [htn]) n 0 n Ia Ia h1
 rw [hk] at e;subst e
 constructor
 ·rintro ⟨a,b⟩;exact ⟨k,a,b⟩
 rintro ⟨t,A,rfl⟩
 have G:k=t:=by
  rcases Nat.lt_trichotomy k t with h | h | h
  ·have:=h3 k (Q9 _) Ia
   simp only [J8,decide_eq_false_iff_not] at this
   exact absurd (hs k t h A) this
  ·exact h
  have:=h2 t h
  simp only [J8,decide_eq_true_eq] at this
  exact absurd this (List.lt_irrefl _)
 subst G;exact ⟨A,rfl⟩
theorem Sh:∀ i j,i<j->j<26->kws.getD i []<kws.getD j []:=by
 have:∀ j,j<26->∀ i,i<j->kws.getD i []<kws.getD j []:=Ih
 exact λi j h1 h2=>this j h2 i h1
theorem isKw_iff (x:Bs):Hz x=true↔∃ t,t<26/\kws.getD t []=x:=by
 have hl:kws.length=26:=rfl
 unfold Hz
 rw [List.contains_iff_mem]
 constructor
 ·intro h
  obtain ⟨j,hj,e⟩:=List.getElem_of_mem h
  exact ⟨j,Ia,by rw [Qs,Qx hj];exact e⟩
 rintro ⟨t,ht,e⟩
 rw [Qs,Qx Ia] at e
 rw [<- e];exact Qd _
theorem ba_ext {a b:ByteArray}:a=b↔bl a=bl b:=by
 constructor
 ·rintro rfl;rfl
 intro h
 apply ByteArray.ext
 exact Array.toList_inj.1 h
theorem Qzx (s:ByteArray) (w:World) (hT:Xs w) (c:Nat):
  Calls prog 168 #[Io 5 0 26 c,.string s] w λe w'=>(∃ n:Int,e=.returned (.tuple #[n,.bool (Hz (bl s))]))/\∃ q,w'=w.drewN q:=by
 refine (Any2.slices_BinarySearch_string Tryz.laysBS 5 0 26 c (λt=>⟨(kws.getD t []).toArray⟩) s w Ia (λj hj=>?_)).mono ?_
 ·have hl:kws.length=26:=rfl
  refine hT j _ ?_
  simp only [svs,List.getElem?_map,Qx (show j<kws.length by omega),Option.map_some,Qs,Option.getD_some]
  rfl
 rintro e w' ⟨rfl,hq⟩
 refine ⟨⟨((Lib.bsGo (λt=>Op.bytesLess (ByteArray.toList ⟨(kws.getD t []).toArray⟩) s.toList) 26 0 26:Nat):Int),?_⟩,hq⟩
 simp only [ByteArray.toList_mk]
 rw [Lib.toList_data]
 have:=bs_ok (λt=>kws.getD t []) 26 (bl s) Sh _ rfl
 congr 6
 rw [Bool.eq_iff_iff,decide_eq_true_iff,isKw_iff,<- this]
 simp only [ba_ext,E8]
theorem M9 (s:ByteArray) (w:World) (hT:Xs w):
  Calls prog 219 #[.string s] w λe w'=>e=.returned (.bool (Hz (bl s)))/\∃ q,w'=w.drewN q:=by
 have HK:=Qq (λc=>Qzx s w hT c)
 go_enter func219,ntmps219
 go_wp2_with (go_at_call 168;refine (HK.o _).mono ?_;rintro e w' ⟨⟨n,rfl⟩,q,rfl⟩)
 go_ret
 exact ⟨rfl,_,rfl⟩
structure Vi (x:Bs):Prop where
 pos:0<x.length
 len:x.length<=16
 head:∀ c,x[0]?=some c->Gx c=true
 all:tk Fp x=x.length
 kw:Hz x=false
structure Eu (x:Bs):Prop where
 pos:0<x.length
 len:x.length<=16
 head:∀ c,x[0]?=some c->Hu c=true
 all:tk Hy x=x.length
theorem lo_not (c:UInt8) (h:Gx c=true):Pz c=false/\((c.toNat:Int)==35)=false:=by
 rw [Gd] at h
 simp only [Bool.and_eq_true,decide_eq_true_eq] at h
 rw [Bk]
 constructor
 ·simp;omega
 simp;omega
theorem up_not (c:UInt8) (h:Hu c=true):Pz c=false/\((c.toNat:Int)==35)=false/\Gx c=false:=by
 rw [L8] at h
 simp only [Bool.and_eq_true,decide_eq_true_eq] at h
 rw [Bk,Gd]
 refine ⟨?_,?_,?_⟩
 ·simp;omega
 ·simp;omega
 simp;omega
theorem Vc (x:Bs):(⟨x.toArray⟩:ByteArray).size=x.length:=by
 show x.toArray.size=_
 simp
theorem Ej (x:Bs) (i:Nat) (h:i<(⟨x.toArray⟩:ByteArray).size):x[i]?=some ((⟨x.toArray⟩:ByteArray)[i]'h):=by
 have:=Sd ⟨x.toArray⟩ i h
 rwa [E8] at this
theorem Eg (x:Bs):(⟨x.toArray⟩:ByteArray).extract 0 x.length=⟨x.toArray⟩:=by
 rw [ba_ext]
 simp [bl,ByteArray.data_extract]
theorem C1 (x:Bs) (h:Vi x) (w:World) (hT:Xs w):
  Calls prog 202 #[sv x] w λe w'=>e=.returned (.tuple #[.int .i64 2,x.length])/\Below w w w':=by
 obtain ⟨hp,hl,hh,ha,hk⟩:=h
 have J:0<(⟨x.toArray⟩:ByteArray).size:=by rw [Vc];exact hp
 have D:=hh _ (Ej x 0 J)
 obtain ⟨c,hc⟩:=eX ((⟨x.toArray⟩:ByteArray)[0]'J)
 rw [hc] at D
 obtain ⟨n1,n2⟩:=lo_not c D
 have hR:∀ w,Calls prog 203 #[x,.func (.func 218) #[] #[]] w λe w'=>e=.returned (.int .i64 (x.length:Nat))/\w=w':=λw=>by
  have:=run_word ⟨x.toArray⟩ w (by rw [Vc];unfold maxLen;omega)
  rwa [E8,ha] at this
 have hK:∀ w,Xs w->Calls prog 219 #[.string ((⟨x.toArray⟩:ByteArray).extract 0 x.length)] w λe w'=>e=.returned (.bool false)/\∃ q,w'=w.drewN q:=λw hT=>by
  have:=M9 ⟨x.toArray⟩ w hT
  rwa [E8,hk,<- Eg x] at this
 obtain ⟨I,G,HT⟩:=Im hR hK hT
 have hs:(⟨x.toArray⟩:ByteArray).size=x.length:=Vc x
 have A:x.length<=(⟨x.toArray⟩:ByteArray).size:=Ia
 unfold sv
 generalize (⟨x.toArray⟩:ByteArray)=s at J hc A I G |-
 generalize x.length=n at I G A hl |-
 clear hR hK hT ha hk hh hs hp
 go_enter func202,ntmps202
 go_wp2_with (first | (go_at_call 203;refine (I.o _).mono ?_;rintro e w' ⟨rfl,rfl⟩) | (go_at_call 219;refine (G.o _ HT.o).mono ?_;rintro e w' ⟨rfl,q,rfl⟩) | (go_at_call 216;refine (Nv _ _).mono ?_;rintro e w' ⟨rfl,rfl⟩) | (go_at_call 217;refine (Fx _ _).mono ?_;rintro e w' ⟨rfl,rfl⟩))
 go_ret2
 exact ⟨rfl,Yz _ _⟩
theorem good_cap (x:Bs) (h:Eu x) (w:World):
  Calls prog 202 #[sv x] w λe w'=>e=.returned (.tuple #[.int .i64 3,x.length])/\Below w w w':=by
 obtain ⟨hp,hl,hh,ha⟩:=h
 have G:0<(⟨x.toArray⟩:ByteArray).size:=by rw [Vc];exact hp
 have A:=hh _ (Ej x 0 G)
 obtain ⟨c,hc⟩:=eX ((⟨x.toArray⟩:ByteArray)[0]'G)
 rw [hc] at A
 obtain ⟨n1,n2,n3⟩:=up_not c A
 have hR:∀ w,Calls prog 203 #[x,.func (.func 221) #[] #[]] w λe w'=>e=.returned (.int .i64 (x.length:Nat))/\w=w':=λw=>by
  have:=run_name ⟨x.toArray⟩ w (by rw [Vc];unfold maxLen;omega)
  rwa [E8,ha] at this
 have D:=Qq hR
 unfold sv
 generalize (⟨x.toArray⟩:ByteArray)=s at G hc D |-
 generalize x.length=n at D hl |-
 clear hR ha hh hp
 go_enter func202,ntmps202
 go_wp2_with (first | (go_at_call 203;refine (D.o _).mono ?_;rintro e w' ⟨rfl,rfl⟩) | (go_at_call 220;refine (Nb _ _).mono ?_;rintro e w' ⟨rfl,rfl⟩) | (go_at_call 216;refine (Nv _ _).mono ?_;rintro e w' ⟨rfl,rfl⟩) | (go_at_call 217;refine (Fx _ _).mono ?_;rintro e w' ⟨rfl,rfl⟩))
 go_ret2
 exact ⟨rfl,Qz _ _⟩
def Tb (x:Bs) (k:Int) (w:World):Prop:=∀ W,Below w w W->Calls prog 202 #[sv x] W λe w'=>e=.returned (.tuple #[k,x.length])/\Below W W w'
theorem next_at (x:Bs) (k:Int) (w:World) (hg:Tb x k w) (hp:0<x.length) (W:World) (hW:Below w w W):
  Calls prog 190 #[sv x] W λe w'=>e=.returned (.tuple #[k,x.length])/\Below W W w':=by
 have A:=Qq (hg W hW)
 have D:(0:Int)<x.length:=Ia
 clear hg hW
 unfold sv at A |-
 generalize x.length=n at A hp D |-
 go_enter func190,ntmps190
 go_wp2_with (go_at_call 202;refine A.o.mono ?_;rintro e w' ⟨rfl,hw⟩)
 go_ret2
 exact ⟨rfl,hw⟩
theorem Qzu (x:Bs) (k:Int) (w:World) (hg:Tb x k w) (hp:0<x.length) (W:World) (hW:Below w w W):
  Calls prog 177 #[sv x] W λe w'=>e=.returned (.tuple #[k,.bool true])/\Below W W w':=by
 have A:=Qq (next_at x k w hg hp W hW)
 have h0:0<(⟨x.toArray⟩:ByteArray).size:=by rw [Vc];exact hp
 have D:(⟨x.toArray⟩:ByteArray).toList.isEmpty=false:=by
  rw [Lib.toList_data]
  show (bl ⟨x.toArray⟩).isEmpty=false
  rw [E8]
  cases x with
  | nil=>simp at hp
  | cons=>rfl
 have hs:((x.length:Int)==((⟨x.toArray⟩:ByteArray).size:Int))=true:=by rw [Vc];simp
 clear hg hW h0
 unfold sv at A |-
 generalize (⟨x.toArray⟩:ByteArray)=s at A D hs |-
 generalize x.length=n at A hs |-
 go_enter func177,ntmps177
 go_wp2_with (go_at_call 190;refine A.o.mono ?_;rintro e w' ⟨rfl,hw⟩)
 go_ret2
 exact ⟨rfl,hw⟩
theorem Ak (x:Bs) (k at':Int) (w:World) (hk:k=2\/k=3) (hg:Tb x k w) (hp:0<x.length) (hl:x.length<=16):
  Calls prog 158 #[.agg #[k,sv x,at']] w λe w'=>e=.returned (.bool true)/\Below w w w':=by
 have D:=Qq (λW h=>Qzu x k w hg hp W h)
 have G:((⟨x.toArray⟩:ByteArray).size:Int)<=16:=by rw [Vc];omega
 clear hg
 unfold sv at D |-
 generalize (⟨x.toArray⟩:ByteArray)=s at D G |-
 rcases hk with rfl | rfl
 all_goals
  go_enter func158,ntmps158
  go_wp2_with fail
  refine (D.o _ (Zg _ _)).mono ?_
  rintro e w1 ⟨rfl,A⟩
  have c0:=(A.cell (p:=⟨w,0,none⟩) Ib).trans (Qk _ _ 0 _ _ _ (Qw w _))
  have c1:=(A.cell (p:=⟨w,1,none⟩) Ib).trans (Qk _ _ 1 _ _ _ (Qw w _))
  simp only [Qf,Qg,Qh] at c0 c1
  have HW:=Qq ((Zg w _).n A)
  clear A
  go_wp2_with fail
  go_ret
  exact ⟨rfl,HW.o⟩
theorem Xs.below {w w':World} (h:Xs w) (hb:Below w w w'):Xs w':=λj v hv=>(hb.cell (p:=⟨_,0+j,none⟩) (Qv w _ (h j v hv))).trans (h j v hv)
theorem L5 (x:Bs) (h:Vi x) (w:World) (hT:Xs w):Calls prog 112 #[sv x] w λe w'=>e=.returned (.bool true)/\Below w w w':=by
 have A:=Qq (λW (hb:Below w w W)=>Ak x 2 0 W (.inl rfl) (λW' h'=>C1 x h W' ((hT.below hb).below h')) h.pos h.len)
 clear hT h
 unfold sv at A |-
 generalize (⟨x.toArray⟩:ByteArray)=s at A |-
 go_enter func112,ntmps112
 go_wp2_with (go_at_call 158;refine (A.o _ (Qz _ _)).mono ?_;rintro e w' ⟨rfl,hw⟩)
 go_ret
 exact ⟨rfl,hw⟩
theorem Qql (x:Bs) (h:Eu x) (w:World):Calls prog 111 #[sv x] w λe w'=>e=.returned (.bool true)/\Below w w w':=by
 have A:=Qq (λW=>Ak x 3 0 W (.inr rfl) (λW' _=>good_cap x h W') h.pos h.len)
 clear h
 unfold sv at A |-
 generalize (⟨x.toArray⟩:ByteArray)=s at A |-
 go_enter func111,ntmps111
 go_wp2_with (go_at_call 158;refine (A.o _).mono ?_;rintro e w' ⟨rfl,hw⟩)
 go_ret
 exact ⟨rfl,hw⟩
inductive Y7:Val->Prop
 | int (n:Int) (hb:-1000000<=n/\n<=1000000):Y7 (.mk 0 n [] [] [])
 | text (s:Bs):Y7 (.mk 1 0 s [] [])
 | bool (n:Int) (hn:n=0\/n=1):Y7 (.mk 2 n [] [] [])
 | make (s:Bs) (kids:List Val) (hs:Eu s) (hl:kids.length<=1) (hk:∀ k ∈ kids,Y7 k):Y7 (.mk 3 0 s [] kids)
 | record (names:List Bs) (kids:List Val) (hl:names.length=kids.length) (hn:∀ x ∈ names,Vi x) (hs:∀ (i:Nat) (x y:Bs),names[i]?=some x->names[i+1]?=some y->Yi x y<0) (hk:∀ k ∈ kids,Y7 k):Y7 (.mk 4 0 [] names kids)
 | list (kids:List Val) (hk:∀ k ∈ kids,Y7 k):Y7 (.mk 5 0 [] [] kids)
def Od (v:Val):Prop:=∀ (S:Nat->Prop) (cs:List Value) (w:World),Z9 S w cs v->Xs w->Calls prog 81 #[cs] w λe w'=>e=.returned (.bool true)/\Below w w w'
theorem Wv (v:Val) (hv:Od v) (S:Nat->Prop) (cs:List Value) (w:World) (h:Z9 S w cs v) (hT:Xs w):
  Calls prog 113 #[cs] w λe w'=>e=.returned (.bool false)/\Below w w w':=by
 have HV:=Qq (λW (hb:Below w w W)=>hv S cs W (h.move (.f hb) Ij) (hT.below hb))
 obtain ⟨p3,k3,p4,k4,A,_⟩:=Z9.cells h
 simp only [Il] at A
 subst A
 clear h hv hT
 go_enter func113,ntmps113
 go_wp2_with (go_at_call 81;refine (HV.o _ (Zg _ _)).mono ?_;rintro e w' ⟨rfl,hw⟩)
 go_ret
 exact ⟨rfl,(Zg _ _).n hw⟩
theorem Je (kids:List Val) (hk:∀ k ∈ kids,Od k) (S:Nat->Prop) (v:Value) (w:World) (h:Sl Zc S w v kids) (hT:Xs w):
  Calls prog 57 #[v,.func (.func 113) #[] #[]] w λe w'=>e=.returned (.bool false)/\Below w w w':=by
 have:=Ph Tryz.cfVal Zc isAgg36 sizeOf36 113 #[] (enters_of func113 Ir rfl) S v kids w (λ_=>false) h
  (λW x cs hb hx hr=>Wv x (hk x hx) S cs W hr (hT.below hb))
 rwa [show kids.any (λ_=>false)=false by induction kids <;> simp_all] at this
theorem Md (a b:Bs) (h:Yi a b<0):Op.bytesLess a b=true:=by
 rw [(Vn a b).1];simpa using h
theorem Qze (v:Val) (hv:Y7 v):Od v:=by
 induction hv with
 | int n=>
  intro S cs w h J
  obtain ⟨p3,k3,p4,k4,A,_,D,_⟩:=Z9.cells h
  simp only [Il,Val.kind,Val.n,Val.s,Val.names,Val.kids,List.length_nil] at A
  subst A
  have I:=Qq (λW (hb:Below w w W)=>Je [] (λk D=>by simp at D) S _ W (D.below hb) (J.below hb))
  simp only [Val.kids,List.length_nil] at I
  clear h D J
  go_enter func81,ntmps81
  go_wp2_with (go_at_call 57;refine (I.o _ (Zg _ _)).mono ?_;rintro e w' ⟨rfl,G⟩)
  go_ret
  exact ⟨rfl,(Zg _ _).n G⟩
 | text s=>
  intro S cs w h J
  obtain ⟨p3,k3,p4,k4,A,_,D,_⟩:=Z9.cells h
  simp only [Il,Val.kind,Val.n,Val.s,Val.names,Val.kids,List.length_nil] at A
  subst A
  have I:=Qq (λW (hb:Below w w W)=>Je [] (λk D=>by simp at D) S _ W (D.below hb) (J.below hb))
  simp only [Val.kids,List.length_nil] at I
  clear h D J
  go_enter func81,ntmps81
  go_wp2_with (go_at_call 57;refine (I.o _ (Zg _ _)).mono ?_;rintro e w' ⟨rfl,G⟩)
  go_ret
  exact ⟨rfl,(Zg _ _).n G⟩
 | bool n hn=>
  intro S cs w h J
  obtain ⟨p3,k3,p4,k4,A,_,D,_⟩:=Z9.cells h
  simp only [Il,Val.kind,Val.n,Val.s,Val.names,Val.kids,List.length_nil] at A
  subst A
  have I:=Qq (λW (hb:Below w w W)=>Je [] (λk D=>by simp at D) S _ W (D.below hb) (J.below hb))
  simp only [Val.kids,List.length_nil] at I
  clear h D J
  rcases hn with rfl | rfl
  all_goals
   go_enter func81,ntmps81
   go_wp2_with (go_at_call 57;refine (I.o _ (Zg _ _)).mono ?_;rintro e w' ⟨rfl,G⟩)
   go_ret
   exact ⟨rfl,(Zg _ _).n G⟩
 | make s kids hs hl hkk ih=>
  intro S cs w h J
  obtain ⟨p3,k3,p4,k4,A,_,D,_⟩:=Z9.cells h
  simp only [Il,Val.kind,Val.n,Val.s,Val.names,Val.kids,List.length_nil] at A
  subst A
  have I:=Qq (λW (hb:Below w w W)=>Je kids ih S _ W (D.below hb) (J.below hb))
  have HC:=Qq (λW=>Qql s hs W)
  simp only [Val.kids] at I
  unfold sv at HC
  have bB:decide ((kids.length:Int)<=1)=true:=by simp;omega
  clear h D J ih hkk hs
  go_enter func81,ntmps81
  go_wp2_with fail
  refine (HC.o _).mono ?_
  rintro e w1 ⟨rfl,G⟩
  have c4:=(G.cell (p:=⟨w,4,none⟩) Ib).trans (Qk _ _ 4 _ _ _ (Qw w _))
  simp only [Qf,Qg,Qh] at c4
  have HW:=Qq ((Zg w _).n G)
  clear G
  go_wp2_with (go_at_call 57;refine (I.o _ HW.o).mono ?_;rintro e w' ⟨rfl,G⟩)
  go_ret
  exact ⟨rfl,HW.o.n G⟩
 | list kids hkk ih=>
  intro S cs w h J
  obtain ⟨p3,k3,p4,k4,A,_,D,_⟩:=Z9.cells h
  simp only [Il,Val.kind,Val.n,Val.s,Val.names,Val.kids,List.length_nil] at A
  subst A
  have I:=Qq (λW (hb:Below w w W)=>Je kids ih S _ W (D.below hb) (J.below hb))
  simp only [Val.kids] at I
  clear h D J ih hkk
  go_enter func81,ntmps81
  go_wp2_with (go_at_call 57;refine (I.o _ (Zg _ _)).mono ?_;rintro e w' ⟨rfl,G⟩)
  go_ret
  exact ⟨rfl,(Zg _ _).n G⟩
 | record names kids hl hn hs hkk ih=>
  intro S cs w h J
  obtain ⟨p3,k3,p4,k4,A,O,D,_⟩:=Z9.cells h
  simp only [Il,Val.kind,Val.n,Val.s,Val.names,Val.kids] at A O
  rw [hl] at A O
  subst A
  have I:=Qq (λW (hb:Below w w W)=>Je kids ih S _ W (D.below hb) (J.below hb))
  obtain ⟨HN,HW,HS,HL,HT⟩:=AO O hn hs hl J
  simp only [Val.kids] at I
  have aU:kids.length<=1000000:=by obtain ⟨_,_,_,h⟩:=O.len;omega
  clear h D J ih hkk hn hs hl O
  generalize kids.length=n at I HN HL aU |-
  go_enter func81,ntmps81
  go_wp2_with fail
  obtain ⟨W1,U⟩:=eX (w.alloc (.cells #[.int .i64 4,Ic,Ig,.slice p3 n k3,.slice p4 n k4] 36))
  rw [U]
  have aF:=Iq U (Zg _ _)
  have aE:=Ik (b:=w.heap.size) U (Qw _ _)
  have aK:=Qq aF;have aN:=Qq aE
  clear U aF aE
  go_loopw [3,93] (λok i wr=>∃ k:Nat,k<=n/\i=.int .i64 k/\ok=.bool true/\Below W1 W1 wr) (λ_ i _=>n - (intOf i).toNat)
  case atStart=>exact ⟨0,Q8 _,rfl,rfl,Qz _ _⟩
  obtain ⟨k,bA,rfl,rfl,T⟩:=hrel
  have V:=kB T aN.o
  have aO:=Z8 V
  have c4:=Iz V;have c3:=AH V
  have N:=Qq (aK.o.n T);have Y:=Qq T
  clear T V
  by_cases hlt:k<n
  ·have aR:(0:Int)<=(k:Int):=Ia
   have aS:(k:Int)<(n:Int):=Ia
   obtain ⟨x,hx⟩:∃ x,names[k]?=some x:=⟨_,Qx (by rw [HL.o];exact hlt)⟩
   obtain ⟨b,aW,rfl,hc,-⟩:=(HN.o.below N.o).str hx
   have M:=Qq (L5 x (HW.o x (Qy hx)) wr (HT.o.below N.o))
   unfold sv at M
   cases k with
   | zero=>
    clear hx
    rw [show ((0:Nat):Int)=0 from rfl] at aR aS |-
    rw [Nat.add_zero] at hc
    go_wp2_with (go_at_call 112;refine M.o.mono ?_;rintro e w' ⟨rfl,G⟩;have Z:=Qq G;clear G)
    go_roundw
    case measure=>simp [intOf];omega
    case rel=>exact ⟨1,Ia,rfl,rfl,Y.o.n Z.o⟩
   | succ k'=>
    obtain ⟨y,hy⟩:∃ y,names[k']?=some y:=⟨_,Qx (by rw [HL.o];omega)⟩
    obtain ⟨b',aI,he,aQ,-⟩:=(HN.o.below N.o).str hy
    obtain ⟨rfl,rfl,-⟩:b=b'/\aW=aI/\True:=by simpa using he
    have aT:=Md y x (HS.o k' y x hy hx)
    have aP:=Qv wr _ hc
    have aX:(0:Int)<=(k':Int):=Ia
    have aY:(k':Int)<(n:Int):=Ia
    have aZ:((k':Int)+1==0)=false:=by simp;omega
    clear hx hy he
    go_wp2_with fail
    refine M.o.mono ?_
    rintro e w2 ⟨rfl,G⟩
    have d3:=kD G aO c3
    have dc:=kD G aP aQ
    have Z:=Qq G
    clear G
    go_wp2_with fail
    go_roundw
    case measure=>simp [intOf];omega
    case rel=>exact ⟨k'+1+1,Ia,by go_num,rfl,Y.o.n Z.o⟩
  have aG:k=n:=Ia
  subst aG
  go_wp2_with (go_at_call 57;refine (I.o _ N.o).mono ?_;rintro e w' ⟨rfl,G⟩)
  go_ret
  exact ⟨rfl,N.o.n G⟩
def Iu {A B:Type} (p:A->B->Bool):List A->List B->Bool
 | [],[]=>true
 | x::s,y::t=>p x y&&Iu p s t
 | _,_=>false
theorem Ky {A B:Type} (p:A->B->Bool):∀ (a:List A) (b:List B),a.length≠b.length->Iu p a b=false
 | [],[],h=>absurd rfl h
 | [],_::_,_=>rfl
 | _::_,[],_=>rfl
 | x::s,y::t,h=>by unfold Iu;rw [Ky p s t (λe=>h (by simp [e])),Bool.and_false]
theorem Be {S:Nat->Prop} {w:World} {cs:List Value} {x:Rel} (h:Yk.R S w cs x):∃ p c,cs=[.string ⟨x.table.toArray⟩,.slice p x.rows.length c]:=by
 obtain ⟨v,rfl,_,h2⟩:=h
 obtain ⟨p,c,rfl,_⟩:=h2.len
 exact ⟨p,c,rfl⟩
theorem eqFValTy (g:Nat) (lb:Array Value) (eg:∀ args w,(callFunc g args).run prog w=.ok (.enter g args) w) (S:Nat->Prop) (va vb:Value) (a:List Val) (b:List Ty) (w:World) (ha:Sl Zc S w va a) (hb:Sl Jl S w vb b) (p:Val->Ty->Bool)
  (hp:∀ (W:World) (x:Val) (y:Ty) (cx cy:List Value),Below w w W->x ∈ a->y ∈ b->Zc.R S W cx x->Jl.R S W cy y->Calls prog g (#[.agg cx.toArray,.agg cy.toArray]++lb) W λe w'=>e=.returned (.bool (p x y))/\Below W W w'):
  Calls prog 116 #[va,vb,.func (.func g) #[] lb] w λe w'=>e=.returned (.bool (Iu p a b))/\Below w w w':=by
 obtain ⟨pa,ca,rfl,aJ⟩:=ha.len
 obtain ⟨pb,cb,rfl,aK⟩:=hb.len
 obtain ⟨HA,HB,HP⟩:=Im ha hb hp
 clear ha hb hp
 by_cases hn:a.length=b.length
 ·obtain ⟨n,O⟩:=eX (b.length)
  rw [O] at hn aK HB
  rw [hn] at HA aJ
  rw [hn,O]
  obtain ⟨r,hr⟩:=eX (Iu p a b)
  rw [hr]
  obtain ⟨HR,Y,Z⟩:=Im hr hn O
  clear hr hn O
  go_enter func116,ntmps116
  go_wp2_with fail
  go_loopw [17] (λi wr=>∃ k:Nat,k<=n/\i=.int .i64 k/\Aside (Iu p (a.drop k) (b.drop k)=r)/\Below w w wr) (λi _=>n - (intOf i).toNat)
  case atStart=>exact ⟨0,Q8 _,rfl,HR.o,Qz _ _⟩
  obtain ⟨k,aT,rfl,hE,aA⟩:=hrel
  have D:=Qq aA
  clear aA
  by_cases hlt:k<n
  ·have aR:(0:Int)<=(k:Int):=Ia
   have aS:(k:Int)<(n:Int):=Ia
   have M:k<a.length:=by rw [Y.o];exact hlt
   have N:k<b.length:=by rw [Z.o];exact hlt
   obtain ⟨x,hx⟩:∃ x,a[k]?=some x:=⟨_,Qx M⟩
   obtain ⟨y,hy⟩:∃ y,b[k]?=some y:=⟨_,Qx N⟩
   have aC:a.drop k=x::a.drop (k+1):=by rw [Qp M];rw [Qx M] at hx;cases hx;rfl
   have aD:b.drop k=y::b.drop (k+1):=by rw [Qp N];rw [Qx N] at hy;cases hy;rfl
   obtain ⟨ba,oa,cx,rfl,aP,-,-,U,G⟩:=(HA.o.below D.o).elem hx
   obtain ⟨bb,ob,cy,rfl,aQ,-,-,V,I⟩:=(HB.o.below D.o).elem hy
   have A:=Qq (λW (h:Below wr wr W)=>HP.o W x y cx cy (D.o.n h) (Qy hx) (Qy hy) (Zc.frame U (.f h)) (Jl.frame V (.f h)))
   obtain ⟨bA,aU,bC,aW,T,_⟩:=Z9.cells U;simp only [Il] at T;subst T
   obtain ⟨ky,sy,ny,bB,aY,aV,bD,aZ,aX,rfl⟩:=Xl.cells V
   have d0:=G 0 _ rfl;have d1:=G 1 _ rfl;have d2:=G 2 _ rfl;have d3:=G 3 _ rfl;have d4:=G 4 _ rfl
   have e0:=I 0 _ rfl;have e1:=I 1 _ rfl;have e2:=I 2 _ rfl;have e3:=I 3 _ rfl;have e4:=I 4 _ rfl
   simp only [show Zc.k=5 from rfl,Nat.add_zero] at d0 d1 d2 d3 d4
   simp only [show Jl.k=5 from rfl,Nat.add_zero] at e0 e1 e2 e3 e4
   have aB:(p x y&&Iu p (a.drop (k+1)) (b.drop (k+1)))=r:=by have:=hE.o;rw [aC,aD] at this;exact this
   have J:=Qq aB
   clear hE aB aC aD M N hx hy U V G I
   cases hq:p x y with
   | true=>
    rw [hq] at A J
    go_wp2_with (go_at_fn g;refine (A.o _ (Zs _ _ _)).mono ?_;rintro e w' ⟨rfl,hw⟩;have HW:=Qq (D.o.n ((Zs wr _ _).n hw));clear hw)
    go_roundw
    case measure=>simp [intOf];omega
    case rel=>exact ⟨k+1,Ia,by go_num,(show Aside _ from by have:=J.o;rwa [Bool.true_and] at this),HW.o⟩
   | false=>
    rw [hq] at A J
    have aN:r=false:=by have:=J.o;rw [Bool.false_and] at this;exact this.symm
    subst aN
    go_wp2_with (go_at_fn g;refine (A.o _ (Zs _ _ _)).mono ?_;rintro e w' ⟨rfl,hw⟩;have HW:=Qq (D.o.n ((Zs wr _ _).n hw));clear hw)
    go_ret
    exact ⟨rfl,HW.o⟩
  have aO:r=true:=by
   have:=hE.o
   rw [Qu (by rw [Y.o];omega),Qu (by rw [Z.o];omega)] at this
   exact this.symm
  subst aO
  clear hE
  go_wp2_with fail
  go_ret
  exact ⟨rfl,D.o⟩
 rw [Ky p a b hn]
 have hq:((a.length:Int) != (b.length:Int))=true:=by rw [bne_iff_ne];omega
 clear hn
 go_enter func116,ntmps116
 go_wp2_with fail
 go_ret
 exact ⟨rfl,Qz _ _⟩
theorem N5 (g:Nat) (lb:Array Value) (eg:∀ args w,(callFunc g args).run prog w=.ok (.enter g args) w) (S:Nat->Prop) (va vb:Value) (a:List Val) (b:List Val) (w:World) (ha:Sl Zc S w va a) (hb:Sl Zc S w vb b) (p:Val->Val->Bool)
  (hp:∀ (W:World) (x:Val) (y:Val) (cx cy:List Value),Below w w W->x ∈ a->y ∈ b->Zc.R S W cx x->Zc.R S W cy y->Calls prog g (#[.agg cx.toArray,.agg cy.toArray]++lb) W λe w'=>e=.returned (.bool (p x y))/\Below W W w'):
  Calls prog 56 #[va,vb,.func (.func g) #[] lb] w λe w'=>e=.returned (.bool (Iu p a b))/\Below w w w':=by
 obtain ⟨pa,ca,rfl,aK⟩:=ha.len
 obtain ⟨pb,cb,rfl,aL⟩:=hb.len
 obtain ⟨HA,HB,HP⟩:=Im ha hb hp
 clear ha hb hp
 by_cases hn:a.length=b.length
 ·obtain ⟨n,O⟩:=eX (b.length)
  rw [O] at hn aL HB
  rw [hn] at HA aK
  rw [hn,O]
  obtain ⟨r,hr⟩:=eX (Iu p a b)
  rw [hr]
  obtain ⟨HR,Z,aA⟩:=Im hr hn O
  clear hr hn O
  go_enter func56,ntmps56
  go_wp2_with fail
  go_loopw [17] (λi wr=>∃ k:Nat,k<=n/\i=.int .i64 k/\Aside (Iu p (a.drop k) (b.drop k)=r)/\Below w w wr) (λi _=>n - (intOf i).toNat)
  case atStart=>exact ⟨0,Q8 _,rfl,HR.o,Qz _ _⟩
  obtain ⟨k,aU,rfl,hE,aB⟩:=hrel
  have D:=Qq aB
  clear aB
  by_cases hlt:k<n
  ·have aS:(0:Int)<=(k:Int):=Ia
   have aT:(k:Int)<(n:Int):=Ia
   have M:k<a.length:=by rw [Z.o];exact hlt
   have N:k<b.length:=by rw [aA.o];exact hlt
   obtain ⟨x,hx⟩:∃ x,a[k]?=some x:=⟨_,Qx M⟩
   obtain ⟨y,hy⟩:∃ y,b[k]?=some y:=⟨_,Qx N⟩
   have aD:a.drop k=x::a.drop (k+1):=by rw [Qp M];rw [Qx M] at hx;cases hx;rfl
   have aE:b.drop k=y::b.drop (k+1):=by rw [Qp N];rw [Qx N] at hy;cases hy;rfl
   obtain ⟨ba,oa,cx,rfl,aQ,-,-,V,G⟩:=(HA.o.below D.o).elem hx
   obtain ⟨bb,ob,cy,rfl,aR,-,-,Y,I⟩:=(HB.o.below D.o).elem hy
   have A:=Qq (λW (h:Below wr wr W)=>HP.o W x y cx cy (D.o.n h) (Qy hx) (Qy hy) (Zc.frame V (.f h)) (Zc.frame Y (.f h)))
   obtain ⟨aZ,aV,bB,aX,T,_⟩:=Z9.cells V;simp only [Il] at T;subst T
   obtain ⟨bA,aW,bC,aY,U,_⟩:=Z9.cells Y;simp only [Il] at U;subst U
   have d0:=G 0 _ rfl;have d1:=G 1 _ rfl;have d2:=G 2 _ rfl;have d3:=G 3 _ rfl;have d4:=G 4 _ rfl
   have e0:=I 0 _ rfl;have e1:=I 1 _ rfl;have e2:=I 2 _ rfl;have e3:=I 3 _ rfl;have e4:=I 4 _ rfl
   simp only [show Zc.k=5 from rfl,Nat.add_zero] at d0 d1 d2 d3 d4
   simp only [show Zc.k=5 from rfl,Nat.add_zero] at e0 e1 e2 e3 e4
   have aC:(p x y&&Iu p (a.drop (k+1)) (b.drop (k+1)))=r:=by have:=hE.o;rw [aD,aE] at this;exact this
   have J:=Qq aC
   clear hE aC aD aE M N hx hy V Y G I
   cases hq:p x y with
   | true=>
    rw [hq] at A J
    go_wp2_with (go_at_fn g;refine (A.o _ (Zs _ _ _)).mono ?_;rintro e w' ⟨rfl,hw⟩;have HW:=Qq (D.o.n ((Zs wr _ _).n hw));clear hw)
    go_roundw
    case measure=>simp [intOf];omega
    case rel=>exact ⟨k+1,Ia,by go_num,(show Aside _ from by have:=J.o;rwa [Bool.true_and] at this),HW.o⟩
   | false=>
    rw [hq] at A J
    have aO:r=false:=by have:=J.o;rw [Bool.false_and] at this;exact this.symm
    subst aO
    go_wp2_with (go_at_fn g;refine (A.o _ (Zs _ _ _)).mono ?_;rintro e w' ⟨rfl,hw⟩;have HW:=Qq (D.o.n ((Zs wr _ _).n hw));clear hw)
    go_ret
    exact ⟨rfl,HW.o⟩
  have aP:r=true:=by
   have:=hE.o
   rw [Qu (by rw [Z.o];omega),Qu (by rw [aA.o];omega)] at this
   exact this.symm
  subst aP
  clear hE
  go_wp2_with fail
  go_ret
  exact ⟨rfl,D.o⟩
 rw [Ky p a b hn]
 have hq:((a.length:Int) != (b.length:Int))=true:=by rw [bne_iff_ne];omega
 clear hn
 go_enter func56,ntmps56
 go_wp2_with fail
 go_ret
 exact ⟨rfl,Qz _ _⟩
theorem Qqi (g:Nat) (lb:Array Value) (eg:∀ args w,(callFunc g args).run prog w=.ok (.enter g args) w) (S:Nat->Prop) (va vb:Value) (a:List Tbl) (b:List Rel) (w:World) (ha:Sl Zn S w va a) (hb:Sl Yk S w vb b) (p:Tbl->Rel->Bool)
  (hp:∀ (W:World) (x:Tbl) (y:Rel) (cx cy:List Value),Below w w W->x ∈ a->y ∈ b->Zn.R S W cx x->Yk.R S W cy y->Calls prog g (#[.agg cx.toArray,.agg cy.toArray]++lb) W λe w'=>e=.returned (.bool (p x y))/\Below W W w'):
  Calls prog 74 #[va,vb,.func (.func g) #[] lb] w λe w'=>e=.returned (.bool (Iu p a b))/\Below w w w':=by
 obtain ⟨pa,ca,rfl,aM⟩:=ha.len
 obtain ⟨pb,cb,rfl,aN⟩:=hb.len
 obtain ⟨HA,HB,HP⟩:=Im ha hb hp
 clear ha hb hp
 by_cases hn:a.length=b.length
 ·obtain ⟨n,N⟩:=eX (b.length)
  rw [N] at hn aN HB
  rw [hn] at HA aM
  rw [hn,N]
  obtain ⟨r,hr⟩:=eX (Iu p a b)
  rw [hr]
  obtain ⟨HR,Y,Z⟩:=Im hr hn N
  clear hr hn N
  go_enter func74,ntmps74
  go_wp2_with fail
  go_loopw [17] (λi wr=>∃ k:Nat,k<=n/\i=.int .i64 k/\Aside (Iu p (a.drop k) (b.drop k)=r)/\Below w w wr) (λi _=>n - (intOf i).toNat)
  case atStart=>exact ⟨0,Q8 _,rfl,HR.o,Qz _ _⟩
  obtain ⟨k,bB,rfl,hE,aA⟩:=hrel
  have G:=Qq aA
  clear aA
  by_cases hlt:k<n
  ·have aZ:(0:Int)<=(k:Int):=Ia
   have bA:(k:Int)<(n:Int):=Ia
   have J:k<a.length:=by rw [Y.o];exact hlt
   have M:k<b.length:=by rw [Z.o];exact hlt
   obtain ⟨x,hx⟩:∃ x,a[k]?=some x:=⟨_,Qx J⟩
   obtain ⟨y,hy⟩:∃ y,b[k]?=some y:=⟨_,Qx M⟩
   have aC:a.drop k=x::a.drop (k+1):=by rw [Qp J];rw [Qx J] at hx;cases hx;rfl
   have aD:b.drop k=y::b.drop (k+1):=by rw [Qp M];rw [Qx M] at hy;cases hy;rfl
   obtain ⟨ba,oa,cx,rfl,aX,-,-,U,A⟩:=(HA.o.below G.o).elem hx
   obtain ⟨bb,ob,cy,rfl,aY,-,-,V,T⟩:=(HB.o.below G.o).elem hy
   have D:=Qq (λW (h:Below wr wr W)=>HP.o W x y cx cy (G.o.n h) (Qy hx) (Qy hy) (Zn.frame U (.f h)) (Yk.frame V (.f h)))
   obtain ⟨aW,aV,bD,bC,bM,bK,kx,bO,nx,bP,bH,bE,aS,bI,bF,aT,bJ,bG,aU,ax,zx,O,_⟩:=Yq U;simp only [AL] at O;subst O
   obtain ⟨bN,bL,rfl⟩:=Be V
   have d0:=A 0 _ rfl;have d1:=A 1 _ rfl;have d2:=A 2 _ rfl;have d3:=A 3 _ rfl;have d4:=A 4 _ rfl;have d5:=A 5 _ rfl;have d6:=A 6 _ rfl;have d7:=A 7 _ rfl;have d8:=A 8 _ rfl;have d9:=A 9 _ rfl;have aJ:=A 10 _ rfl;have aK:=A 11 _ rfl;have aL:=A 12 _ rfl
   have e0:=T 0 _ rfl;have e1:=T 1 _ rfl
   simp only [show Zn.k=13 from rfl,Nat.add_zero] at d0 d1 d2 d3 d4 d5 d6 d7 d8 d9 aJ aK aL
   simp only [show Yk.k=2 from rfl,Nat.add_zero] at e0 e1
   have aB:(p x y&&Iu p (a.drop (k+1)) (b.drop (k+1)))=r:=by have:=hE.o;rw [aC,aD] at this;exact this
   have I:=Qq aB
   clear hE aB aC aD J M hx hy U V A T
   cases hq:p x y with
   | true=>
    rw [hq] at D I
    go_wp2_with (go_at_fn g;refine (D.o _ (Zs _ _ _)).mono ?_;rintro e w' ⟨rfl,hw⟩;have HW:=Qq (G.o.n ((Zs wr _ _).n hw));clear hw)
    go_roundw
    case measure=>simp [intOf];omega
    case rel=>exact ⟨k+1,Ia,by go_num,(show Aside _ from by have:=I.o;rwa [Bool.true_and] at this),HW.o⟩
   | false=>
    rw [hq] at D I
    have aQ:r=false:=by have:=I.o;rw [Bool.false_and] at this;exact this.symm
    subst aQ
    go_wp2_with (go_at_fn g;refine (D.o _ (Zs _ _ _)).mono ?_;rintro e w' ⟨rfl,hw⟩;have HW:=Qq (G.o.n ((Zs wr _ _).n hw));clear hw)
    go_ret
    exact ⟨rfl,HW.o⟩
  have aR:r=true:=by
   have:=hE.o
   rw [Qu (by rw [Y.o];omega),Qu (by rw [Z.o];omega)] at this
   exact this.symm
  subst aR
  clear hE
  go_wp2_with fail
  go_ret
  exact ⟨rfl,G.o⟩
 rw [Ky p a b hn]
 have hq:((a.length:Int) != (b.length:Int))=true:=by rw [bne_iff_ne];omega
 clear hn
 go_enter func74,ntmps74
 go_wp2_with fail
 go_ret
 exact ⟨rfl,Qz _ _⟩
theorem Qjt (S:Nat->Prop) (va vb:Value) (a b:List Bs) (w:World) (ha:Sl Zh S w va a) (hb:Sl Zh S w vb b):
  Calls prog 115 #[va,vb] w λe w'=>e=.returned (.bool (Iu (λx y=>decide (x=y)) a b))/\Below w w w':=by
 obtain ⟨pa,ca,rfl,aC⟩:=ha.len
 obtain ⟨pb,cb,rfl,aD⟩:=hb.len
 have HA:=Qq ha;have HB:=Qq hb
 clear ha hb
 by_cases hn:a.length=b.length
 ·obtain ⟨n,I⟩:=eX (b.length)
  rw [I] at hn aD HB
  rw [hn] at HA aC
  rw [hn,I]
  obtain ⟨r,hr⟩:=eX (Iu (λ(x y:Bs)=>decide (x=y)) a b)
  rw [hr]
  obtain ⟨HR,N,O⟩:=Im hr hn I
  clear hr hn I
  go_enter func115,ntmps115
  go_wp2_with fail
  go_loopw [13] (λi wr=>∃ k:Nat,k<=n/\i=.int .i64 k/\Aside (Iu (λ(x y:Bs)=>decide (x=y)) (a.drop k) (b.drop k)=r)/\Below w w wr) (λi _=>n - (intOf i).toNat)
  case atStart=>exact ⟨0,Q8 _,rfl,HR.o,Qz _ _⟩
  obtain ⟨k,aK,rfl,Z,T⟩:=hrel
  have A:=Qq T
  clear T
  by_cases hlt:k<n
  ·have aI:(0:Int)<=(k:Int):=Ia
   have aJ:(k:Int)<(n:Int):=Ia
   have D:k<a.length:=by rw [N.o];exact hlt
   have G:k<b.length:=by rw [O.o];exact hlt
   obtain ⟨x,hx⟩:∃ x,a[k]?=some x:=⟨_,Qx D⟩
   obtain ⟨y,hy⟩:∃ y,b[k]?=some y:=⟨_,Qx G⟩
   have V:a.drop k=x::a.drop (k+1):=by rw [Qp D];rw [Qx D] at hx;cases hx;rfl
   have Y:b.drop k=y::b.drop (k+1):=by rw [Qp G];rw [Qx G] at hy;cases hy;rfl
   obtain ⟨ba,oa,rfl,c1,-⟩:=(HA.o.below A.o).str hx
   obtain ⟨bb,ob,rfl,c2,-⟩:=(HB.o.below A.o).str hy
   have U:(decide (x=y)&&Iu (λ(x y:Bs)=>decide (x=y)) (a.drop (k+1)) (b.drop (k+1)))=r:=by have:=Z.o;rw [V,Y] at this;exact this
   have M:=Qq U
   clear Z U V Y D G hx hy
   by_cases J:x=y
   ·subst J
    have aE:(x != x)=false:=Ib
    go_wp2_with fail
    go_quiet (fail)
    go_wp2
    go_roundw
    case measure=>simp [intOf];omega
    case rel=>exact ⟨k+1,Ia,by go_num,(show Aside _ from by have:=M.o;simp at this;exact this),A.o.n (Yz _ _)⟩
   have aE:(x != y)=true:=by rw [bne_iff_ne];exact J
   have aG:r=false:=by have:=M.o;rw [decide_eq_false J,Bool.false_and] at this;exact this.symm
   subst aG
   have aL:(x==y)=false:=by rw [<- Qt,beq_iff_eq];exact J
   clear J
   go_wp2_with fail
   go_quiet (fail)
   go_wp2
   go_ret
   exact ⟨rfl,A.o.n (Yz _ _)⟩
  have aH:r=true:=by
   have:=Z.o
   rw [Qu (by rw [N.o];omega),Qu (by rw [O.o];omega)] at this
   exact this.symm
  subst aH
  clear Z
  go_wp2_with fail
  go_ret
  exact ⟨rfl,A.o⟩
 rw [Ky _ a b hn]
 have J:((a.length:Int) != (b.length:Int))=true:=by rw [bne_iff_ne];omega
 clear hn
 go_enter func115,ntmps115
 go_wp2_with fail
 go_ret
 exact ⟨rfl,Qz _ _⟩
end Go.Proofs.YtdpibdpbgokmoaaGreatDoor
