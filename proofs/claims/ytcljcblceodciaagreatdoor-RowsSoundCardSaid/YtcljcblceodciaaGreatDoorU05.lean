import Derived.Test.YtcljcblceodciaaGreatDoorU04
set_option maxRecDepth 100000
set_option maxHeartbeats 400000000
namespace Go.Proofs.YtcljcblceodciaaGreatDoor
open Go.RowKit Go.Shelf Go.Lib Tryz
theorem Rs (c lo hi:Int) (w:World):Calls prog 234 #[.int .u8 c,.int .u8 lo,.int .u8 hi] w fun e w'=>e=.returned (.bool (decide (lo≤c)&&decide (c≤hi)))∧w=w':=by
 go_enter func234,ntmps234
 go_wp2
 all_goals (go_ret;exact ⟨by simp [*] <;> omega,rfl⟩)
theorem La (a b:UInt8):decide (a≤b)=decide ((a.toNat:Int)≤(b.toNat:Int)):=by
 simp [UInt8.le_iff_toNat_le]
theorem O8 (c:UInt8):M3 c=(decide ((48:Int)≤(c.toNat:Int))&&decide ((c.toNat:Int)≤57)):=by
 unfold M3;rw [La,La];rfl
theorem Fo (c:UInt8):De c=(decide ((97:Int)≤(c.toNat:Int))&&decide ((c.toNat:Int)≤122)):=by
 unfold De;rw [La,La];rfl
theorem Ej (c:UInt8):Bl c=(decide ((65:Int)≤(c.toNat:Int))&&decide ((c.toNat:Int)≤90)):=by
 unfold Bl;rw [La,La];rfl
theorem Lx (c:UInt8) (w:World):Calls prog 220 #[.int .u8 c.toNat] w fun e w'=>e=.returned (.bool (M3 c))∧w=w':=by
 rw [O8]
 go_enter func220,ntmps220
 go_wp2_with (go_at_call 234;refine (Rs _ _ _ _).mono ?_;rintro e w' ⟨rfl,rfl⟩)
 go_ret
 exact ⟨rfl,rfl⟩
theorem Dx (c:UInt8) (w:World):Calls prog 215 #[.int .u8 c.toNat] w fun e w'=>e=.returned (.bool (De c))∧w=w':=by
 rw [Fo]
 go_enter func215,ntmps215
 go_wp2_with (go_at_call 234;refine (Rs _ _ _ _).mono ?_;rintro e w' ⟨rfl,rfl⟩)
 go_ret
 exact ⟨rfl,rfl⟩
theorem L7 (c:UInt8) (w:World):Calls prog 218 #[.int .u8 c.toNat] w fun e w'=>e=.returned (.bool (Bl c))∧w=w':=by
 rw [Ej]
 go_enter func218,ntmps218
 go_wp2_with (go_at_call 234;refine (Rs _ _ _ _).mono ?_;rintro e w' ⟨rfl,rfl⟩)
 go_ret
 exact ⟨rfl,rfl⟩
theorem L3 (a b:UInt8):(a==b)=((a.toNat:Int)==(b.toNat:Int)):=by
 rw [Bool.eq_iff_iff,beq_iff_eq,beq_iff_eq,← UInt8.toNat_inj];omega
theorem F5 (c:UInt8):O3 c=((c.toNat:Int)==9||(c.toNat:Int)==10||(c.toNat:Int)==13||(c.toNat:Int)==32):=by
 unfold O3;rw [L3,L3,L3,L3];rfl
theorem L6 (c:UInt8) (w:World):Calls prog 214 #[.int .u8 c.toNat] w fun e w'=>e=.returned (.bool (O3 c))∧w=w':=by
 rw [F5]
 go_enter func214,ntmps214
 go_wp2
 all_goals (go_ret;exact ⟨by simp [*],rfl⟩)
theorem N7 (c:UInt8) (w:World):Calls prog 216 #[.int .u8 c.toNat] w fun e w'=>e=.returned (.bool (Dl c))∧w=w':=by
 have h:Dl c=(De c||M3 c||((c.toNat:Int)==95)):=by unfold Dl;rw [L3];rfl
 rw [h]
 go_enter func216,ntmps216
 go_wp2_with (first | (go_at_call 215;refine (Dx _ _).mono ?_;rintro e w' ⟨rfl,rfl⟩) | (go_at_call 220;refine (Lx _ _).mono ?_;rintro e w' ⟨rfl,rfl⟩))
 all_goals (go_ret;exact ⟨by simp [*],rfl⟩)
theorem Oy (c:UInt8) (w:World):Calls prog 219 #[.int .u8 c.toNat] w fun e w'=>e=.returned (.bool (B3 c))∧w=w':=by
 unfold B3
 go_enter func219,ntmps219
 go_wp2_with (first | (go_at_call 215;refine (Dx _ _).mono ?_;rintro e w' ⟨rfl,rfl⟩) | (go_at_call 220;refine (Lx _ _).mono ?_;rintro e w' ⟨rfl,rfl⟩) | (go_at_call 218;refine (L7 _ _).mono ?_;rintro e w' ⟨rfl,rfl⟩))
 all_goals (go_ret;exact ⟨by simp [*],rfl⟩)
def svs (ls:List Bs):List Value:=ls.map sv
def Xh (w:World):Prop:=w.rangeAt 5 0 (svs kws)
theorem Bx (l:Bs):bl ⟨l.toArray⟩=l:=rfl
theorem Pi (s:ByteArray) (n:Nat) (h:n<s.size):(bl s)[n]?=some s[n]:=by
 simp only [bl,Array.getElem?_toList]
 exact Array.getElem?_eq_getElem h
theorem bl_len (s:ByteArray):(bl s).length=s.size:=Array.length_toList
theorem S6 {p:UInt8→Bool} {s:ByteArray} {n:Nat} (hn:n≤tk p (bl s)) (h:n<s.size) (hp:p s[n]=true):n+1≤tk p (bl s):=by
 rcases Nat.lt_or_ge n (tk p (bl s)) with h' | h'
 ·omega
 have e:tk p (bl s)=n:=C7
 have:=T2 (p:=p) (l:=bl s) (c:=s[n]) (by rw [e];exact Pi s n h)
 rw [hp] at this;cases this
theorem tk_end {p:UInt8→Bool} {s:ByteArray} {n:Nat} (hn:n≤tk p (bl s)) (h:n<s.size) (hp:p s[n]=false):tk p (bl s)=n:=by
 rcases Nat.lt_or_ge n (tk p (bl s)) with h' | h'
 ·have:=Mo h' (Pi s n h);rw [hp] at this;cases this
 omega
theorem tk_out {p:UInt8→Bool} {s:ByteArray} {n:Nat} (hn:n≤tk p (bl s)) (h:¬ n<s.size):tk p (bl s)=n:=by
 have:=tk_le p (bl s);rw [bl_len] at this;omega
theorem Jt {k:IntKind} {a b:Int} (h:a=b):Ending.returned (.int k a)=.returned (.int k b):=by rw [h]
theorem run_word (s:ByteArray) (w:World) (hs:s.size≤maxLen):
  Calls prog 199 #[.string s,.func (.func 216) #[] #[]] w fun e w'=>e=.returned (.int .i64 (tk Dl (bl s)))∧w=w':=by
 unfold maxLen at hs
 go_enter func199,ntmps199
 go_wp2
 go_loop [5] (fun i=>∃ k:Nat,k≤tk Dl (bl s)∧i=.int .i64 k) (fun i=>s.size - (intOf i).toNat)
 case atStart=>exact ⟨0,Q8 _,rfl⟩
 obtain ⟨n,hn,rfl⟩:=hrel
 have D:=Qq hn;clear hn
 by_cases hlt:n<s.size
 ·by_cases hp:Dl s[n]=true
  ·have A:=Qq (S6 D.out hlt hp)
   go_wp2_with (go_at_call 216;refine (N7 _ _).mono ?_;rintro e w' ⟨rfl,rfl⟩)
   go_round
   case rel=>exact ⟨n+1,A.out,by go_num⟩
   case measure=>simp [intOf];omega
  have G:Dl s[n]=false:=by simpa using hp
  have A:=Qq (tk_end D.out hlt G);clear hp
  go_wp2_with (go_at_call 216;refine (N7 _ _).mono ?_;rintro e w' ⟨rfl,rfl⟩)
  go_ret
  exact ⟨Jt (by rw [A.out]),rfl⟩
 have A:=Qq (tk_out D.out hlt)
 go_wp2
 go_ret
 exact ⟨Jt (by rw [A.out]),rfl⟩
theorem run_name (s:ByteArray) (w:World) (hs:s.size≤maxLen):
  Calls prog 199 #[.string s,.func (.func 219) #[] #[]] w fun e w'=>e=.returned (.int .i64 (tk B3 (bl s)))∧w=w':=by
 unfold maxLen at hs
 go_enter func199,ntmps199
 go_wp2
 go_loop [5] (fun i=>∃ k:Nat,k≤tk B3 (bl s)∧i=.int .i64 k) (fun i=>s.size - (intOf i).toNat)
 case atStart=>exact ⟨0,Q8 _,rfl⟩
 obtain ⟨n,hn,rfl⟩:=hrel
 have D:=Qq hn;clear hn
 by_cases hlt:n<s.size
 ·by_cases hp:B3 s[n]=true
  ·have A:=Qq (S6 D.out hlt hp)
   go_wp2_with (go_at_call 219;refine (Oy _ _).mono ?_;rintro e w' ⟨rfl,rfl⟩)
   go_round
   case rel=>exact ⟨n+1,A.out,by go_num⟩
   case measure=>simp [intOf];omega
  have G:B3 s[n]=false:=by simpa using hp
  have A:=Qq (tk_end D.out hlt G);clear hp
  go_wp2_with (go_at_call 219;refine (Oy _ _).mono ?_;rintro e w' ⟨rfl,rfl⟩)
  go_ret
  exact ⟨Jt (by rw [A.out]),rfl⟩
 have A:=Qq (tk_out D.out hlt)
 go_wp2
 go_ret
 exact ⟨Jt (by rw [A.out]),rfl⟩
theorem Do (f g:Nat→Bool):∀ (n lo hi:Nat),(∀ t,t<hi→f t=g t)→Lib.bsGo f n lo hi=Lib.bsGo g n lo hi
 | 0,_,_,_=>rfl
 | n+1,lo,hi,h=>by
  unfold Lib.bsGo
  by_cases hl:lo<hi
  ·rw [if_pos hl,if_pos hl,h ((lo+hi) / 2) C7,Do f g n _ hi h,Do f g n lo _ (fun t ht=>h t C7)]
  rw [if_neg hl,if_neg hl]
theorem Jj:∀ (x y:List UInt8),Op.bytesLess x y=decide (x<y)
 | [],[]=>by simp [Op.bytesLess]
 | _::_,[]=>by simp [Op.bytesLess]
 | [],_::_=>by simp [Op.bytesLess]
 | a::x,b::y=>by
  rw [Op.bytesLess,Jj x y]
  simp only [List.cons_lt_cons_iff]
  by_cases h1:a<b <;> by_cases h2:a=b <;> by_cases h3:x<y <;> simp [h1,h2,h3]
theorem split_at (f:Nat→Bool) (n:Nat) (hd:∀ i j,i<j→j<n→f j=true→f i=true):∃ k,k≤n∧(∀ t,t<k→f t=true)∧(∀ t,k≤t→t<n→f t=false):=by
 induction n with
 | zero=>exact ⟨0,Q9 _,fun t h=>C7,fun t _ h=>C7⟩
 | succ n ih=>
  obtain ⟨k,h1,h2,h3⟩:=ih (fun i j A hj=>hd i j A C7)
  cases hn:f n with
  | true=>exact ⟨n+1,Q9 _,fun t ht=>by
    by_cases e:t=n
    ·rw [e];exact hn
    exact hd t n C7 C7 hn,fun t _ _=>C7⟩
  | false=>exact ⟨k,C7,h2,fun t ht D=>by
    by_cases e:t=n
    ·rw [e];exact hn
    exact h3 t ht C7⟩
theorem bs_ok (S:Nat→Bs) (n:Nat) (x:Bs) (hs:∀ i j,i<j→j<n→S i<S j) (k:Nat) (hk:Lib.bsGo (fun t=>Op.bytesLess (S t) x) n 0 n=k):
  (k<n∧S k=x)↔∃ t,t<n∧S t=x:=by
 obtain ⟨k0,h1,h2,h3⟩:=split_at (fun t=>Op.bytesLess (S t) x) n (fun i j D hj h=>by
  simp only [Jj,decide_eq_true_eq] at h ⊢
  exact List.lt_trans (hs i j D hj) h)
 have e:Lib.bsGo (fun t=>Op.bytesLess (S t) x) n 0 n=k0:=by
  rw [Do _ (fun t=>decide (t<n)&&Op.bytesLess (S t) x) n 0 n (fun t A=>by simp [A])]
  exact Lib.bsGo_spec _ k0 (fun t A=>by simp [show t<n by omega,h2 t A]) (fun t A=>by
   by_cases htn:t<n
   ·simp [h3 t A htn]
   simp [htn]) n 0 n C7 C7 h1
 rw [hk] at e;subst e
 constructor
 ·rintro ⟨a,b⟩;exact ⟨k,a,b⟩
 rintro ⟨t,A,rfl⟩
 have G:k=t:=by
  rcases Nat.lt_trichotomy k t with h | h | h
  ·have:=h3 k (Q9 _) C7
   simp only [Jj,decide_eq_false_iff_not] at this
   exact absurd (hs k t h A) this
  ·exact h
  have:=h2 t h
  simp only [Jj,decide_eq_true_eq] at this
  exact absurd this (List.lt_irrefl _)
 subst G;exact ⟨A,rfl⟩
theorem Pw:∀ i j,i<j→j<26→kws.getD i []<kws.getD j []:=by
 have:∀ j,j<26→∀ i,i<j→kws.getD i []<kws.getD j []:=Cc
 exact fun i j h1 h2=>this j h2 i h1
theorem isKw_iff (x:Bs):Bw x=true↔∃ t,t<26∧kws.getD t []=x:=by
 have hl:kws.length=26:=rfl
 unfold Bw
 rw [List.contains_iff_mem]
 constructor
 ·intro h
  obtain ⟨j,hj,e⟩:=List.getElem_of_mem h
  exact ⟨j,C7,by rw [Qs,Qx hj];exact e⟩
 rintro ⟨t,ht,e⟩
 rw [Qs,Qx C7] at e
 rw [← e];exact Qd _
theorem ba_ext {a b:ByteArray}:a=b↔bl a=bl b:=by
 constructor
 ·rintro rfl;rfl
 intro h
 apply ByteArray.ext
 exact Array.toList_inj.1 h
theorem T9 (s:ByteArray) (w:World) (hT:Xh w) (c:Nat):
  Calls prog 170 #[Cg 5 0 26 c,.string s] w fun e w'=>(∃ n:Int,e=.returned (.tuple #[n,.bool (Bw (bl s))]))∧∃ q,w'=w.drewN q:=by
 refine (Any2.slices_BinarySearch_string Tryz.laysBS 5 0 26 c (fun t=>⟨(kws.getD t []).toArray⟩) s w C7 (fun j hj=>?_)).mono ?_
 ·have hl:kws.length=26:=rfl
  refine hT j _ ?_
  simp only [svs,List.getElem?_map,Qx (show j<kws.length by omega),Option.map_some,Qs,Option.getD_some]
  rfl
 rintro e w' ⟨rfl,hq⟩
 refine ⟨⟨((Lib.bsGo (fun t=>Op.bytesLess (ByteArray.toList ⟨(kws.getD t []).toArray⟩) s.toList) 26 0 26:Nat):Int),?_⟩,hq⟩
 simp only [ByteArray.toList_mk]
 rw [Lib.toList_data]
 have:=bs_ok (fun t=>kws.getD t []) 26 (bl s) Pw _ rfl
 congr 6
 rw [Bool.eq_iff_iff,decide_eq_true_iff,isKw_iff,← this]
 simp only [ba_ext,Bx]
theorem Hl (s:ByteArray) (w:World) (hT:Xh w):
  Calls prog 217 #[.string s] w fun e w'=>e=.returned (.bool (Bw (bl s)))∧∃ q,w'=w.drewN q:=by
 have HK:=Qq (fun c=>T9 s w hT c)
 go_enter func217,ntmps217
 go_wp2_with (go_at_call 170;refine (HK.out _).mono ?_;rintro e w' ⟨⟨n,rfl⟩,q,rfl⟩)
 go_ret
 exact ⟨rfl,_,rfl⟩
structure Vy (x:Bs):Prop where
 pos:0<x.length
 len:x.length≤16
 head:∀ c,x[0]?=some c→De c=true
 all:tk Dl x=x.length
 kw:Bw x=false
structure Gf (x:Bs):Prop where
 pos:0<x.length
 len:x.length≤16
 head:∀ c,x[0]?=some c→Bl c=true
 all:tk B3 x=x.length
theorem lo_not (c:UInt8) (h:De c=true):O3 c=false∧((c.toNat:Int)==35)=false:=by
 rw [Fo] at h
 simp only [Bool.and_eq_true,decide_eq_true_eq] at h
 rw [F5]
 constructor
 ·simp;omega
 simp;omega
theorem up_not (c:UInt8) (h:Bl c=true):O3 c=false∧((c.toNat:Int)==35)=false∧De c=false:=by
 rw [Ej] at h
 simp only [Bool.and_eq_true,decide_eq_true_eq] at h
 rw [F5,Fo]
 refine ⟨?_,?_,?_⟩
 ·simp;omega
 ·simp;omega
 simp;omega
theorem Vz (x:Bs):(⟨x.toArray⟩:ByteArray).size=x.length:=by
 show x.toArray.size=_
 simp
theorem Ga (x:Bs) (i:Nat) (h:i<(⟨x.toArray⟩:ByteArray).size):x[i]?=some ((⟨x.toArray⟩:ByteArray)[i]'h):=by
 have:=Pi ⟨x.toArray⟩ i h
 rwa [Bx] at this
theorem Bv (x:Bs):(⟨x.toArray⟩:ByteArray).extract 0 x.length=⟨x.toArray⟩:=by
 rw [ba_ext]
 simp [bl,ByteArray.data_extract]
theorem T6 (x:Bs) (h:Vy x) (w:World) (hT:Xh w):
  Calls prog 198 #[sv x] w fun e w'=>e=.returned (.tuple #[.int .i64 2,x.length])∧Below w w w':=by
 obtain ⟨hp,hl,hh,ha,hk⟩:=h
 have h0:0<(⟨x.toArray⟩:ByteArray).size:=by rw [Vz];exact hp
 have D:=hh _ (Ga x 0 h0)
 obtain ⟨c,hc⟩:=eX ((⟨x.toArray⟩:ByteArray)[0]'h0)
 rw [hc] at D
 obtain ⟨n1,n2⟩:=lo_not c D
 have hR:∀ w,Calls prog 199 #[x,.func (.func 216) #[] #[]] w fun e w'=>e=.returned (.int .i64 (x.length:Nat))∧w=w':=fun w=>by
  have:=run_word ⟨x.toArray⟩ w (by rw [Vz];unfold maxLen;omega)
  rwa [Bx,ha] at this
 have hK:∀ w,Xh w→Calls prog 217 #[.string ((⟨x.toArray⟩:ByteArray).extract 0 x.length)] w fun e w'=>e=.returned (.bool false)∧∃ q,w'=w.drewN q:=fun w hT=>by
  have:=Hl ⟨x.toArray⟩ w hT
  rwa [Bx,hk,← Bv x] at this
 obtain ⟨I,G,HT⟩:=Qjq hR hK hT
 have hs:(⟨x.toArray⟩:ByteArray).size=x.length:=Vz x
 have A:x.length≤(⟨x.toArray⟩:ByteArray).size:=C7
 unfold sv
 generalize (⟨x.toArray⟩:ByteArray)=s at h0 hc A I G ⊢
 generalize x.length=n at I G A hl ⊢
 clear hR hK hT ha hk hh hs hp
 go_enter func198,ntmps198
 go_wp2_with (first | (go_at_call 199;refine (I.out _).mono ?_;rintro e w' ⟨rfl,rfl⟩) | (go_at_call 217;refine (G.out _ HT.out).mono ?_;rintro e w' ⟨rfl,q,rfl⟩) | (go_at_call 214;refine (L6 _ _).mono ?_;rintro e w' ⟨rfl,rfl⟩) | (go_at_call 215;refine (Dx _ _).mono ?_;rintro e w' ⟨rfl,rfl⟩))
 go_ret2
 exact ⟨rfl,Yz _ _⟩
theorem good_cap (x:Bs) (h:Gf x) (w:World):
  Calls prog 198 #[sv x] w fun e w'=>e=.returned (.tuple #[.int .i64 3,x.length])∧Below w w w':=by
 obtain ⟨hp,hl,hh,ha⟩:=h
 have h0:0<(⟨x.toArray⟩:ByteArray).size:=by rw [Vz];exact hp
 have A:=hh _ (Ga x 0 h0)
 obtain ⟨c,hc⟩:=eX ((⟨x.toArray⟩:ByteArray)[0]'h0)
 rw [hc] at A
 obtain ⟨n1,n2,n3⟩:=up_not c A
 have hR:∀ w,Calls prog 199 #[x,.func (.func 219) #[] #[]] w fun e w'=>e=.returned (.int .i64 (x.length:Nat))∧w=w':=fun w=>by
  have:=run_name ⟨x.toArray⟩ w (by rw [Vz];unfold maxLen;omega)
  rwa [Bx,ha] at this
 have D:=Qq hR
 unfold sv
 generalize (⟨x.toArray⟩:ByteArray)=s at h0 hc D ⊢
 generalize x.length=n at D hl ⊢
 clear hR ha hh hp
 go_enter func198,ntmps198
 go_wp2_with (first | (go_at_call 199;refine (D.out _).mono ?_;rintro e w' ⟨rfl,rfl⟩) | (go_at_call 218;refine (L7 _ _).mono ?_;rintro e w' ⟨rfl,rfl⟩) | (go_at_call 214;refine (L6 _ _).mono ?_;rintro e w' ⟨rfl,rfl⟩) | (go_at_call 215;refine (Dx _ _).mono ?_;rintro e w' ⟨rfl,rfl⟩))
 go_ret2
 exact ⟨rfl,Qz _ _⟩
def Pt (x:Bs) (k:Int) (w:World):Prop:=∀ W,Below w w W→Calls prog 198 #[sv x] W fun e w'=>e=.returned (.tuple #[k,x.length])∧Below W W w'
theorem next_at (x:Bs) (k:Int) (w:World) (hg:Pt x k w) (hp:0<x.length) (W:World) (hW:Below w w W):
  Calls prog 187 #[sv x] W fun e w'=>e=.returned (.tuple #[k,x.length])∧Below W W w':=by
 have A:=Qq (hg W hW)
 have D:(0:Int)<x.length:=C7
 clear hg hW
 unfold sv at A ⊢
 generalize x.length=n at A hp D ⊢
 go_enter func187,ntmps187
 go_wp2_with (go_at_call 198;refine A.out.mono ?_;rintro e w' ⟨rfl,hw⟩)
 go_ret2
 exact ⟨rfl,hw⟩
theorem Wt (x:Bs) (k:Int) (w:World) (hg:Pt x k w) (hp:0<x.length) (W:World) (hW:Below w w W):
  Calls prog 174 #[sv x] W fun e w'=>e=.returned (.tuple #[k,.bool true])∧Below W W w':=by
 have A:=Qq (next_at x k w hg hp W hW)
 have h0:0<(⟨x.toArray⟩:ByteArray).size:=by rw [Vz];exact hp
 have D:(⟨x.toArray⟩:ByteArray).toList.isEmpty=false:=by
  rw [Lib.toList_data]
  show (bl ⟨x.toArray⟩).isEmpty=false
  rw [Bx]
  cases x with
  | nil=>simp at hp
  | cons=>rfl
 have hs:((x.length:Int)==((⟨x.toArray⟩:ByteArray).size:Int))=true:=by rw [Vz];simp
 clear hg hW h0
 unfold sv at A ⊢
 generalize (⟨x.toArray⟩:ByteArray)=s at A D hs ⊢
 generalize x.length=n at A hs ⊢
 go_enter func174,ntmps174
 go_wp2_with (go_at_call 187;refine A.out.mono ?_;rintro e w' ⟨rfl,hw⟩)
 go_ret2
 exact ⟨rfl,hw⟩
theorem T0 (x:Bs) (k at':Int) (w:World) (hk:k=2∨k=3) (hg:Pt x k w) (hp:0<x.length) (hl:x.length≤16):
  Calls prog 158 #[.agg #[k,sv x,at']] w fun e w'=>e=.returned (.bool true)∧Below w w w':=by
 have D:=Qq (fun W h=>Wt x k w hg hp W h)
 have G:((⟨x.toArray⟩:ByteArray).size:Int)≤16:=by rw [Vz];omega
 clear hg
 unfold sv at D ⊢
 generalize (⟨x.toArray⟩:ByteArray)=s at D G ⊢
 rcases hk with rfl | rfl
 all_goals
  go_enter func158,ntmps158
  go_wp2_with fail
  refine (D.out _ (Zg _ _)).mono ?_
  rintro e w1 ⟨rfl,A⟩
  have c0:=(A.cell (p:=⟨w,0,none⟩) Ca).trans (Qk _ _ 0 _ _ _ (Qw w _))
  have c1:=(A.cell (p:=⟨w,1,none⟩) Ca).trans (Qk _ _ 1 _ _ _ (Qw w _))
  simp only [Qf,Qg,Qh] at c0 c1
  have HW:=Qq ((Zg w _).thn A)
  clear A
  go_wp2_with fail
  go_ret
  exact ⟨rfl,HW.out⟩
theorem Xh.below {w w':World} (h:Xh w) (hb:Below w w w'):Xh w':=fun j v hv=>(hb.cell (p:=⟨_,0+j,none⟩) (Qv w _ (h j v hv))).trans (h j v hv)
theorem Ep (x:Bs) (h:Vy x) (w:World) (hT:Xh w):Calls prog 116 #[sv x] w fun e w'=>e=.returned (.bool true)∧Below w w w':=by
 have A:=Qq (fun W (hb:Below w w W)=>T0 x 2 0 W (.inl rfl) (fun W' h'=>T6 x h W' ((hT.below hb).below h')) h.pos h.len)
 clear hT h
 unfold sv at A ⊢
 generalize (⟨x.toArray⟩:ByteArray)=s at A ⊢
 go_enter func116,ntmps116
 go_wp2_with (go_at_call 158;refine (A.out _ (Qz _ _)).mono ?_;rintro e w' ⟨rfl,hw⟩)
 go_ret
 exact ⟨rfl,hw⟩
theorem Wk (x:Bs) (h:Gf x) (w:World):Calls prog 115 #[sv x] w fun e w'=>e=.returned (.bool true)∧Below w w w':=by
 have A:=Qq (fun W=>T0 x 3 0 W (.inr rfl) (fun W' _=>good_cap x h W') h.pos h.len)
 clear h
 unfold sv at A ⊢
 generalize (⟨x.toArray⟩:ByteArray)=s at A ⊢
 go_enter func115,ntmps115
 go_wp2_with (go_at_call 158;refine (A.out _).mono ?_;rintro e w' ⟨rfl,hw⟩)
 go_ret
 exact ⟨rfl,hw⟩
inductive Y4:Val→Prop
 | int (n:Int) (hb:-1000000≤n∧n≤1000000):Y4 (.mk 0 n [] [] [])
 | text (s:Bs):Y4 (.mk 1 0 s [] [])
 | bool (n:Int) (hn:n=0∨n=1):Y4 (.mk 2 n [] [] [])
 | make (s:Bs) (kids:List Val) (hs:Gf s) (hl:kids.length≤1) (hk:∀ k ∈ kids,Y4 k):Y4 (.mk 3 0 s [] kids)
 | record (names:List Bs) (kids:List Val) (hl:names.length=kids.length) (hn:∀ x ∈ names,Vy x) (hs:∀ (i:Nat) (x y:Bs),names[i]?=some x→names[i+1]?=some y→Yc x y<0) (hk:∀ k ∈ kids,Y4 k):Y4 (.mk 4 0 [] names kids)
 | list (kids:List Val) (hk:∀ k ∈ kids,Y4 k):Y4 (.mk 5 0 [] [] kids)
def Lp (v:Val):Prop:=∀ (S:Nat→Prop) (cs:List Value) (w:World),Z9 S w cs v→Xh w→Calls prog 64 #[cs] w fun e w'=>e=.returned (.bool true)∧Below w w w'
theorem Oe (v:Val) (hv:Lp v) (S:Nat→Prop) (cs:List Value) (w:World) (h:Z9 S w cs v) (hT:Xh w):
  Calls prog 117 #[cs] w fun e w'=>e=.returned (.bool false)∧Below w w w':=by
 have HV:=Qq (fun W (hb:Below w w W)=>hv S cs W (h.move (.of_below hb) Qje) (hT.below hb))
 obtain ⟨p3,k3,p4,k4,A,_⟩:=Z9.cells h
 simp only [vcs] at A
 subst A
 clear h hv hT
 go_enter func117,ntmps117
 go_wp2_with (go_at_call 64;refine (HV.out _ (Zg _ _)).mono ?_;rintro e w' ⟨rfl,hw⟩)
 go_ret
 exact ⟨rfl,(Zg _ _).thn hw⟩
theorem Jq (kids:List Val) (hk:∀ k ∈ kids,Lp k) (S:Nat→Prop) (v:Value) (w:World) (h:Sl Zd S w v kids) (hT:Xh w):
  Calls prog 80 #[v,.func (.func 117) #[] #[]] w fun e w'=>e=.returned (.bool false)∧Below w w w':=by
 have:=conFn Tryz.cfVal Zd isAgg36 sizeOf36 117 #[] (enters_of func117 Cd rfl) S v kids w (fun _=>false) h
  (fun W x cs hb hx hr=>Oe x (hk x hx) S cs W hr (hT.below hb))
 rwa [show kids.any (fun _=>false)=false by induction kids <;> simp_all] at this
theorem Hd (a b:Bs) (h:Yc a b<0):Op.bytesLess a b=true:=by
 rw [(Vc a b).1];simpa using h
theorem Ae (v:Val) (hv:Y4 v):Lp v:=by
 induction hv with
 | int n=>
  intro S cs w h J
  obtain ⟨p3,k3,p4,k4,A,_,D,_⟩:=Z9.cells h
  simp only [vcs,Val.kind,Val.n,Val.s,Val.names,Val.kids,List.length_nil] at A
  subst A
  have I:=Qq (fun W (hb:Below w w W)=>Jq [] (fun k D=>by simp at D) S _ W (D.below hb) (J.below hb))
  simp only [Val.kids,List.length_nil] at I
  clear h D J
  go_enter func64,ntmps64
  go_wp2_with (go_at_call 80;refine (I.out _ (Zg _ _)).mono ?_;rintro e w' ⟨rfl,G⟩)
  go_ret
  exact ⟨rfl,(Zg _ _).thn G⟩
 | text s=>
  intro S cs w h J
  obtain ⟨p3,k3,p4,k4,A,_,D,_⟩:=Z9.cells h
  simp only [vcs,Val.kind,Val.n,Val.s,Val.names,Val.kids,List.length_nil] at A
  subst A
  have I:=Qq (fun W (hb:Below w w W)=>Jq [] (fun k D=>by simp at D) S _ W (D.below hb) (J.below hb))
  simp only [Val.kids,List.length_nil] at I
  clear h D J
  go_enter func64,ntmps64
  go_wp2_with (go_at_call 80;refine (I.out _ (Zg _ _)).mono ?_;rintro e w' ⟨rfl,G⟩)
  go_ret
  exact ⟨rfl,(Zg _ _).thn G⟩
 | bool n hn=>
  intro S cs w h J
  obtain ⟨p3,k3,p4,k4,A,_,D,_⟩:=Z9.cells h
  simp only [vcs,Val.kind,Val.n,Val.s,Val.names,Val.kids,List.length_nil] at A
  subst A
  have I:=Qq (fun W (hb:Below w w W)=>Jq [] (fun k D=>by simp at D) S _ W (D.below hb) (J.below hb))
  simp only [Val.kids,List.length_nil] at I
  clear h D J
  rcases hn with rfl | rfl
  all_goals
   go_enter func64,ntmps64
   go_wp2_with (go_at_call 80;refine (I.out _ (Zg _ _)).mono ?_;rintro e w' ⟨rfl,G⟩)
   go_ret
   exact ⟨rfl,(Zg _ _).thn G⟩
 | make s kids hs hl hkk ih=>
  intro S cs w h J
  obtain ⟨p3,k3,p4,k4,A,_,D,_⟩:=Z9.cells h
  simp only [vcs,Val.kind,Val.n,Val.s,Val.names,Val.kids,List.length_nil] at A
  subst A
  have I:=Qq (fun W (hb:Below w w W)=>Jq kids ih S _ W (D.below hb) (J.below hb))
  have HC:=Qq (fun W=>Wk s hs W)
  simp only [Val.kids] at I
  unfold sv at HC
  have bB:decide ((kids.length:Int)≤1)=true:=by simp;omega
  clear h D J ih hkk hs
  go_enter func64,ntmps64
  go_wp2_with fail
  refine (HC.out _).mono ?_
  rintro e w1 ⟨rfl,G⟩
  have c4:=(G.cell (p:=⟨w,4,none⟩) Ca).trans (Qk _ _ 4 _ _ _ (Qw w _))
  simp only [Qf,Qg,Qh] at c4
  have HW:=Qq ((Zg w _).thn G)
  clear G
  go_wp2_with (go_at_call 80;refine (I.out _ HW.out).mono ?_;rintro e w' ⟨rfl,G⟩)
  go_ret
  exact ⟨rfl,HW.out.thn G⟩
 | list kids hkk ih=>
  intro S cs w h J
  obtain ⟨p3,k3,p4,k4,A,_,D,_⟩:=Z9.cells h
  simp only [vcs,Val.kind,Val.n,Val.s,Val.names,Val.kids,List.length_nil] at A
  subst A
  have I:=Qq (fun W (hb:Below w w W)=>Jq kids ih S _ W (D.below hb) (J.below hb))
  simp only [Val.kids] at I
  clear h D J ih hkk
  go_enter func64,ntmps64
  go_wp2_with (go_at_call 80;refine (I.out _ (Zg _ _)).mono ?_;rintro e w' ⟨rfl,G⟩)
  go_ret
  exact ⟨rfl,(Zg _ _).thn G⟩
 | record names kids hl hn hs hkk ih=>
  intro S cs w h J
  obtain ⟨p3,k3,p4,k4,A,O,D,_⟩:=Z9.cells h
  simp only [vcs,Val.kind,Val.n,Val.s,Val.names,Val.kids] at A O
  rw [hl] at A O
  subst A
  have I:=Qq (fun W (hb:Below w w W)=>Jq kids ih S _ W (D.below hb) (J.below hb))
  obtain ⟨HN,HW,HS,HL,HT⟩:=Qjk O hn hs hl J
  simp only [Val.kids] at I
  have aU:kids.length≤1000000:=by obtain ⟨_,_,_,h⟩:=O.len;omega
  clear h D J ih hkk hn hs hl O
  generalize kids.length=n at I HN HL aU ⊢
  go_enter func64,ntmps64
  go_wp2_with fail
  obtain ⟨W1,U⟩:=eX (w.alloc (.cells #[.int .i64 4,Ci,Cl,.slice p3 n k3,.slice p4 n k4] 36))
  rw [U]
  have aF:=eqB U (Zg _ _)
  have aE:=eqH (b:=w.heap.size) U (Qw _ _)
  have aK:=Qq aF;have aN:=Qq aE
  clear U aF aE
  go_loopw [3,93] (fun ok i wr=>∃ k:Nat,k≤n∧i=.int .i64 k∧ok=.bool true∧Below W1 W1 wr) (fun _ i _=>n - (intOf i).toNat)
  case atStart=>exact ⟨0,Q8 _,rfl,rfl,Qz _ _⟩
  obtain ⟨k,bA,rfl,rfl,T⟩:=hrel
  have V:=kB T aN.out
  have aO:=Z8 V
  have c4:=rA4 V;have c3:=rA3 V
  have N:=Qq (aK.out.thn T);have Y:=Qq T
  clear T V
  by_cases hlt:k<n
  ·have aR:(0:Int)≤(k:Int):=C7
   have aS:(k:Int)<(n:Int):=C7
   obtain ⟨x,hx⟩:∃ x,names[k]?=some x:=⟨_,Qx (by rw [HL.out];exact hlt)⟩
   obtain ⟨b,aW,rfl,hc,-⟩:=(HN.out.below N.out).str hx
   have M:=Qq (Ep x (HW.out x (Qy hx)) wr (HT.out.below N.out))
   unfold sv at M
   cases k with
   | zero=>
    clear hx
    rw [show ((0:Nat):Int)=0 from rfl] at aR aS ⊢
    rw [Nat.add_zero] at hc
    go_wp2_with (go_at_call 116;refine M.out.mono ?_;rintro e w' ⟨rfl,G⟩;have Z:=Qq G;clear G)
    go_roundw
    case measure=>simp [intOf];omega
    case rel=>exact ⟨1,C7,rfl,rfl,Y.out.thn Z.out⟩
   | succ k'=>
    obtain ⟨y,hy⟩:∃ y,names[k']?=some y:=⟨_,Qx (by rw [HL.out];omega)⟩
    obtain ⟨b',aI,he,aQ,-⟩:=(HN.out.below N.out).str hy
    obtain ⟨rfl,rfl,-⟩:b=b'∧aW=aI∧True:=by simpa using he
    have aT:=Hd y x (HS.out k' y x hy hx)
    have aP:=Qv wr _ hc
    have aX:(0:Int)≤(k':Int):=C7
    have aY:(k':Int)<(n:Int):=C7
    have aZ:((k':Int)+1==0)=false:=by simp;omega
    clear hx hy he
    go_wp2_with fail
    refine M.out.mono ?_
    rintro e w2 ⟨rfl,G⟩
    have d3:=kD G aO c3
    have dc:=kD G aP aQ
    have Z:=Qq G
    clear G
    go_wp2_with fail
    go_roundw
    case measure=>simp [intOf];omega
    case rel=>exact ⟨k'+1+1,C7,by go_num,rfl,Y.out.thn Z.out⟩
  have aG:k=n:=C7
  subst aG
  go_wp2_with (go_at_call 80;refine (I.out _ N.out).mono ?_;rintro e w' ⟨rfl,G⟩)
  go_ret
  exact ⟨rfl,N.out.thn G⟩
def eqL {A B:Type} (p:A→B→Bool):List A→List B→Bool
 | [],[]=>true
 | x::s,y::t=>p x y&&eqL p s t
 | _,_=>false
theorem Ke {A B:Type} (p:A→B→Bool):∀ (a:List A) (b:List B),a.length≠b.length→eqL p a b=false
 | [],[],h=>absurd rfl h
 | [],_::_,_=>rfl
 | _::_,[],_=>rfl
 | x::s,y::t,h=>by unfold eqL;rw [Ke p s t (fun e=>h (by simp [e])),Bool.and_false]
theorem Tg {S:Nat→Prop} {w:World} {cs:List Value} {x:Rel} (h:Y6.R S w cs x):∃ p c,cs=[.string ⟨x.table.toArray⟩,.slice p x.rows.length c]:=by
 obtain ⟨v,rfl,_,h2⟩:=h
 obtain ⟨p,c,rfl,_⟩:=h2.len
 exact ⟨p,c,rfl⟩
theorem eqFValTy (g:Nat) (lb:Array Value) (eg:∀ args w,(callFunc g args).run prog w=.ok (.enter g args) w) (S:Nat→Prop) (va vb:Value) (a:List Val) (b:List Ty) (w:World) (ha:Sl Zd S w va a) (hb:Sl Jk S w vb b) (p:Val→Ty→Bool)
  (hp:∀ (W:World) (x:Val) (y:Ty) (cx cy:List Value),Below w w W→x ∈ a→y ∈ b→Zd.R S W cx x→Jk.R S W cy y→Calls prog g (#[.agg cx.toArray,.agg cy.toArray]++lb) W fun e w'=>e=.returned (.bool (p x y))∧Below W W w'):
  Calls prog 120 #[va,vb,.func (.func g) #[] lb] w fun e w'=>e=.returned (.bool (eqL p a b))∧Below w w w':=by
 obtain ⟨pa,ca,rfl,aJ⟩:=ha.len
 obtain ⟨pb,cb,rfl,aK⟩:=hb.len
 obtain ⟨HA,HB,HP⟩:=Qjq ha hb hp
 clear ha hb hp
 by_cases hn:a.length=b.length
 ·obtain ⟨n,O⟩:=eX (b.length)
  rw [O] at hn aK HB
  rw [hn] at HA aJ
  rw [hn,O]
  obtain ⟨r,hr⟩:=eX (eqL p a b)
  rw [hr]
  obtain ⟨HR,Y,Z⟩:=Qjq hr hn O
  clear hr hn O
  go_enter func120,ntmps120
  go_wp2_with fail
  go_loopw [17] (fun i wr=>∃ k:Nat,k≤n∧i=.int .i64 k∧Aside (eqL p (a.drop k) (b.drop k)=r)∧Below w w wr) (fun i _=>n - (intOf i).toNat)
  case atStart=>exact ⟨0,Q8 _,rfl,HR.out,Qz _ _⟩
  obtain ⟨k,aT,rfl,hE,aA⟩:=hrel
  have D:=Qq aA
  clear aA
  by_cases hlt:k<n
  ·have aR:(0:Int)≤(k:Int):=C7
   have aS:(k:Int)<(n:Int):=C7
   have M:k<a.length:=by rw [Y.out];exact hlt
   have N:k<b.length:=by rw [Z.out];exact hlt
   obtain ⟨x,hx⟩:∃ x,a[k]?=some x:=⟨_,Qx M⟩
   obtain ⟨y,hy⟩:∃ y,b[k]?=some y:=⟨_,Qx N⟩
   have aC:a.drop k=x::a.drop (k+1):=by rw [Qp M];rw [Qx M] at hx;cases hx;rfl
   have aD:b.drop k=y::b.drop (k+1):=by rw [Qp N];rw [Qx N] at hy;cases hy;rfl
   obtain ⟨ba,oa,cx,rfl,aP,-,-,U,G⟩:=(HA.out.below D.out).elem hx
   obtain ⟨bb,ob,cy,rfl,aQ,-,-,V,I⟩:=(HB.out.below D.out).elem hy
   have A:=Qq (fun W (h:Below wr wr W)=>HP.out W x y cx cy (D.out.thn h) (Qy hx) (Qy hy) (Zd.frame U (.of_below h)) (Jk.frame V (.of_below h)))
   obtain ⟨bA,aU,bC,aW,T,_⟩:=Z9.cells U;simp only [vcs] at T;subst T
   obtain ⟨ky,sy,ny,bB,aY,aV,bD,aZ,aX,rfl⟩:=X5.cells V
   have d0:=G 0 _ rfl;have d1:=G 1 _ rfl;have d2:=G 2 _ rfl;have d3:=G 3 _ rfl;have d4:=G 4 _ rfl
   have e0:=I 0 _ rfl;have e1:=I 1 _ rfl;have e2:=I 2 _ rfl;have e3:=I 3 _ rfl;have e4:=I 4 _ rfl
   simp only [show Zd.k=5 from rfl,Nat.add_zero] at d0 d1 d2 d3 d4
   simp only [show Jk.k=5 from rfl,Nat.add_zero] at e0 e1 e2 e3 e4
   have aB:(p x y&&eqL p (a.drop (k+1)) (b.drop (k+1)))=r:=by have:=hE.out;rw [aC,aD] at this;exact this
   have J:=Qq aB
   clear hE aB aC aD M N hx hy U V G I
   cases hq:p x y with
   | true=>
    rw [hq] at A J
    go_wp2_with (go_at_fn g;refine (A.out _ (Zu _ _ _)).mono ?_;rintro e w' ⟨rfl,hw⟩;have HW:=Qq (D.out.thn ((Zu wr _ _).thn hw));clear hw)
    go_roundw
    case measure=>simp [intOf];omega
    case rel=>exact ⟨k+1,C7,by go_num,(show Aside _ from by have:=J.out;rwa [Bool.true_and] at this),HW.out⟩
   | false=>
    rw [hq] at A J
    have aN:r=false:=by have:=J.out;rw [Bool.false_and] at this;exact this.symm
    subst aN
    go_wp2_with (go_at_fn g;refine (A.out _ (Zu _ _ _)).mono ?_;rintro e w' ⟨rfl,hw⟩;have HW:=Qq (D.out.thn ((Zu wr _ _).thn hw));clear hw)
    go_ret
    exact ⟨rfl,HW.out⟩
  have aO:r=true:=by
   have:=hE.out
   rw [Qu (by rw [Y.out];omega),Qu (by rw [Z.out];omega)] at this
   exact this.symm
  subst aO
  clear hE
  go_wp2_with fail
  go_ret
  exact ⟨rfl,D.out⟩
 rw [Ke p a b hn]
 have hq:((a.length:Int) != (b.length:Int))=true:=by rw [bne_iff_ne];omega
 clear hn
 go_enter func120,ntmps120
 go_wp2_with fail
 go_ret
 exact ⟨rfl,Qz _ _⟩
theorem T7 (g:Nat) (lb:Array Value) (eg:∀ args w,(callFunc g args).run prog w=.ok (.enter g args) w) (S:Nat→Prop) (va vb:Value) (a:List Val) (b:List Val) (w:World) (ha:Sl Zd S w va a) (hb:Sl Zd S w vb b) (p:Val→Val→Bool)
  (hp:∀ (W:World) (x:Val) (y:Val) (cx cy:List Value),Below w w W→x ∈ a→y ∈ b→Zd.R S W cx x→Zd.R S W cy y→Calls prog g (#[.agg cx.toArray,.agg cy.toArray]++lb) W fun e w'=>e=.returned (.bool (p x y))∧Below W W w'):
  Calls prog 58 #[va,vb,.func (.func g) #[] lb] w fun e w'=>e=.returned (.bool (eqL p a b))∧Below w w w':=by
 obtain ⟨pa,ca,rfl,aK⟩:=ha.len
 obtain ⟨pb,cb,rfl,aL⟩:=hb.len
 obtain ⟨HA,HB,HP⟩:=Qjq ha hb hp
 clear ha hb hp
 by_cases hn:a.length=b.length
 ·obtain ⟨n,O⟩:=eX (b.length)
  rw [O] at hn aL HB
  rw [hn] at HA aK
  rw [hn,O]
  obtain ⟨r,hr⟩:=eX (eqL p a b)
  rw [hr]
  obtain ⟨HR,Z,aA⟩:=Qjq hr hn O
  clear hr hn O
  go_enter func58,ntmps58
  go_wp2_with fail
  go_loopw [17] (fun i wr=>∃ k:Nat,k≤n∧i=.int .i64 k∧Aside (eqL p (a.drop k) (b.drop k)=r)∧Below w w wr) (fun i _=>n - (intOf i).toNat)
  case atStart=>exact ⟨0,Q8 _,rfl,HR.out,Qz _ _⟩
  obtain ⟨k,aU,rfl,hE,aB⟩:=hrel
  have D:=Qq aB
  clear aB
  by_cases hlt:k<n
  ·have aS:(0:Int)≤(k:Int):=C7
   have aT:(k:Int)<(n:Int):=C7
   have M:k<a.length:=by rw [Z.out];exact hlt
   have N:k<b.length:=by rw [aA.out];exact hlt
   obtain ⟨x,hx⟩:∃ x,a[k]?=some x:=⟨_,Qx M⟩
   obtain ⟨y,hy⟩:∃ y,b[k]?=some y:=⟨_,Qx N⟩
   have aD:a.drop k=x::a.drop (k+1):=by rw [Qp M];rw [Qx M] at hx;cases hx;rfl
   have aE:b.drop k=y::b.drop (k+1):=by rw [Qp N];rw [Qx N] at hy;cases hy;rfl
   obtain ⟨ba,oa,cx,rfl,aQ,-,-,V,G⟩:=(HA.out.below D.out).elem hx
   obtain ⟨bb,ob,cy,rfl,aR,-,-,Y,I⟩:=(HB.out.below D.out).elem hy
   have A:=Qq (fun W (h:Below wr wr W)=>HP.out W x y cx cy (D.out.thn h) (Qy hx) (Qy hy) (Zd.frame V (.of_below h)) (Zd.frame Y (.of_below h)))
   obtain ⟨aZ,aV,bB,aX,T,_⟩:=Z9.cells V;simp only [vcs] at T;subst T
   obtain ⟨bA,aW,bC,aY,U,_⟩:=Z9.cells Y;simp only [vcs] at U;subst U
   have d0:=G 0 _ rfl;have d1:=G 1 _ rfl;have d2:=G 2 _ rfl;have d3:=G 3 _ rfl;have d4:=G 4 _ rfl
   have e0:=I 0 _ rfl;have e1:=I 1 _ rfl;have e2:=I 2 _ rfl;have e3:=I 3 _ rfl;have e4:=I 4 _ rfl
   simp only [show Zd.k=5 from rfl,Nat.add_zero] at d0 d1 d2 d3 d4
   simp only [show Zd.k=5 from rfl,Nat.add_zero] at e0 e1 e2 e3 e4
   have aC:(p x y&&eqL p (a.drop (k+1)) (b.drop (k+1)))=r:=by have:=hE.out;rw [aD,aE] at this;exact this
   have J:=Qq aC
   clear hE aC aD aE M N hx hy V Y G I
   cases hq:p x y with
   | true=>
    rw [hq] at A J
    go_wp2_with (go_at_fn g;refine (A.out _ (Zu _ _ _)).mono ?_;rintro e w' ⟨rfl,hw⟩;have HW:=Qq (D.out.thn ((Zu wr _ _).thn hw));clear hw)
    go_roundw
    case measure=>simp [intOf];omega
    case rel=>exact ⟨k+1,C7,by go_num,(show Aside _ from by have:=J.out;rwa [Bool.true_and] at this),HW.out⟩
   | false=>
    rw [hq] at A J
    have aO:r=false:=by have:=J.out;rw [Bool.false_and] at this;exact this.symm
    subst aO
    go_wp2_with (go_at_fn g;refine (A.out _ (Zu _ _ _)).mono ?_;rintro e w' ⟨rfl,hw⟩;have HW:=Qq (D.out.thn ((Zu wr _ _).thn hw));clear hw)
    go_ret
    exact ⟨rfl,HW.out⟩
  have aP:r=true:=by
   have:=hE.out
   rw [Qu (by rw [Z.out];omega),Qu (by rw [aA.out];omega)] at this
   exact this.symm
  subst aP
  clear hE
  go_wp2_with fail
  go_ret
  exact ⟨rfl,D.out⟩
 rw [Ke p a b hn]
 have hq:((a.length:Int) != (b.length:Int))=true:=by rw [bne_iff_ne];omega
 clear hn
 go_enter func58,ntmps58
 go_wp2_with fail
 go_ret
 exact ⟨rfl,Qz _ _⟩
theorem Ab (g:Nat) (lb:Array Value) (eg:∀ args w,(callFunc g args).run prog w=.ok (.enter g args) w) (S:Nat→Prop) (va vb:Value) (a:List Tbl) (b:List Rel) (w:World) (ha:Sl Zm S w va a) (hb:Sl Y6 S w vb b) (p:Tbl→Rel→Bool)
  (hp:∀ (W:World) (x:Tbl) (y:Rel) (cx cy:List Value),Below w w W→x ∈ a→y ∈ b→Zm.R S W cx x→Y6.R S W cy y→Calls prog g (#[.agg cx.toArray,.agg cy.toArray]++lb) W fun e w'=>e=.returned (.bool (p x y))∧Below W W w'):
  Calls prog 95 #[va,vb,.func (.func g) #[] lb] w fun e w'=>e=.returned (.bool (eqL p a b))∧Below w w w':=by
 obtain ⟨pa,ca,rfl,aM⟩:=ha.len
 obtain ⟨pb,cb,rfl,aN⟩:=hb.len
 obtain ⟨HA,HB,HP⟩:=Qjq ha hb hp
 clear ha hb hp
 by_cases hn:a.length=b.length
 ·obtain ⟨n,N⟩:=eX (b.length)
  rw [N] at hn aN HB
  rw [hn] at HA aM
  rw [hn,N]
  obtain ⟨r,hr⟩:=eX (eqL p a b)
  rw [hr]
  obtain ⟨HR,Y,Z⟩:=Qjq hr hn N
  clear hr hn N
  go_enter func95,ntmps95
  go_wp2_with fail
  go_loopw [17] (fun i wr=>∃ k:Nat,k≤n∧i=.int .i64 k∧Aside (eqL p (a.drop k) (b.drop k)=r)∧Below w w wr) (fun i _=>n - (intOf i).toNat)
  case atStart=>exact ⟨0,Q8 _,rfl,HR.out,Qz _ _⟩
  obtain ⟨k,bB,rfl,hE,aA⟩:=hrel
  have G:=Qq aA
  clear aA
  by_cases hlt:k<n
  ·have aZ:(0:Int)≤(k:Int):=C7
   have bA:(k:Int)<(n:Int):=C7
   have J:k<a.length:=by rw [Y.out];exact hlt
   have M:k<b.length:=by rw [Z.out];exact hlt
   obtain ⟨x,hx⟩:∃ x,a[k]?=some x:=⟨_,Qx J⟩
   obtain ⟨y,hy⟩:∃ y,b[k]?=some y:=⟨_,Qx M⟩
   have aC:a.drop k=x::a.drop (k+1):=by rw [Qp J];rw [Qx J] at hx;cases hx;rfl
   have aD:b.drop k=y::b.drop (k+1):=by rw [Qp M];rw [Qx M] at hy;cases hy;rfl
   obtain ⟨ba,oa,cx,rfl,aX,-,-,U,A⟩:=(HA.out.below G.out).elem hx
   obtain ⟨bb,ob,cy,rfl,aY,-,-,V,T⟩:=(HB.out.below G.out).elem hy
   have D:=Qq (fun W (h:Below wr wr W)=>HP.out W x y cx cy (G.out.thn h) (Qy hx) (Qy hy) (Zm.frame U (.of_below h)) (Y6.frame V (.of_below h)))
   obtain ⟨aW,aV,bD,bC,bM,bK,kx,bO,nx,bP,bH,bE,aS,bI,bF,aT,bJ,bG,aU,ax,zx,O,_⟩:=Zt U;simp only [tcs] at O;subst O
   obtain ⟨bN,bL,rfl⟩:=Tg V
   have d0:=A 0 _ rfl;have d1:=A 1 _ rfl;have d2:=A 2 _ rfl;have d3:=A 3 _ rfl;have d4:=A 4 _ rfl;have d5:=A 5 _ rfl;have d6:=A 6 _ rfl;have d7:=A 7 _ rfl;have d8:=A 8 _ rfl;have d9:=A 9 _ rfl;have aJ:=A 10 _ rfl;have aK:=A 11 _ rfl;have aL:=A 12 _ rfl
   have e0:=T 0 _ rfl;have e1:=T 1 _ rfl
   simp only [show Zm.k=13 from rfl,Nat.add_zero] at d0 d1 d2 d3 d4 d5 d6 d7 d8 d9 aJ aK aL
   simp only [show Y6.k=2 from rfl,Nat.add_zero] at e0 e1
   have aB:(p x y&&eqL p (a.drop (k+1)) (b.drop (k+1)))=r:=by have:=hE.out;rw [aC,aD] at this;exact this
   have I:=Qq aB
   clear hE aB aC aD J M hx hy U V A T
   cases hq:p x y with
   | true=>
    rw [hq] at D I
    go_wp2_with (go_at_fn g;refine (D.out _ (Zu _ _ _)).mono ?_;rintro e w' ⟨rfl,hw⟩;have HW:=Qq (G.out.thn ((Zu wr _ _).thn hw));clear hw)
    go_roundw
    case measure=>simp [intOf];omega
    case rel=>exact ⟨k+1,C7,by go_num,(show Aside _ from by have:=I.out;rwa [Bool.true_and] at this),HW.out⟩
   | false=>
    rw [hq] at D I
    have aQ:r=false:=by have:=I.out;rw [Bool.false_and] at this;exact this.symm
    subst aQ
    go_wp2_with (go_at_fn g;refine (D.out _ (Zu _ _ _)).mono ?_;rintro e w' ⟨rfl,hw⟩;have HW:=Qq (G.out.thn ((Zu wr _ _).thn hw));clear hw)
    go_ret
    exact ⟨rfl,HW.out⟩
  have aR:r=true:=by
   have:=hE.out
   rw [Qu (by rw [Y.out];omega),Qu (by rw [Z.out];omega)] at this
   exact this.symm
  subst aR
  clear hE
  go_wp2_with fail
  go_ret
  exact ⟨rfl,G.out⟩
 rw [Ke p a b hn]
 have hq:((a.length:Int) != (b.length:Int))=true:=by rw [bne_iff_ne];omega
 clear hn
 go_enter func95,ntmps95
 go_wp2_with fail
 go_ret
 exact ⟨rfl,Qz _ _⟩
theorem Ay (S:Nat→Prop) (va vb:Value) (a b:List Bs) (w:World) (ha:Sl Zh S w va a) (hb:Sl Zh S w vb b):
  Calls prog 119 #[va,vb] w fun e w'=>e=.returned (.bool (eqL (fun x y=>decide (x=y)) a b))∧Below w w w':=by
 obtain ⟨pa,ca,rfl,aC⟩:=ha.len
 obtain ⟨pb,cb,rfl,aD⟩:=hb.len
 have HA:=Qq ha;have HB:=Qq hb
 clear ha hb
 by_cases hn:a.length=b.length
 ·obtain ⟨n,I⟩:=eX (b.length)
  rw [I] at hn aD HB
  rw [hn] at HA aC
  rw [hn,I]
  obtain ⟨r,hr⟩:=eX (eqL (fun (x y:Bs)=>decide (x=y)) a b)
  rw [hr]
  obtain ⟨HR,N,O⟩:=Qjq hr hn I
  clear hr hn I
  go_enter func119,ntmps119
  go_wp2_with fail
  go_loopw [13] (fun i wr=>∃ k:Nat,k≤n∧i=.int .i64 k∧Aside (eqL (fun (x y:Bs)=>decide (x=y)) (a.drop k) (b.drop k)=r)∧Below w w wr) (fun i _=>n - (intOf i).toNat)
  case atStart=>exact ⟨0,Q8 _,rfl,HR.out,Qz _ _⟩
  obtain ⟨k,aK,rfl,Z,T⟩:=hrel
  have A:=Qq T
  clear T
  by_cases hlt:k<n
  ·have aI:(0:Int)≤(k:Int):=C7
   have aJ:(k:Int)<(n:Int):=C7
   have D:k<a.length:=by rw [N.out];exact hlt
   have G:k<b.length:=by rw [O.out];exact hlt
   obtain ⟨x,hx⟩:∃ x,a[k]?=some x:=⟨_,Qx D⟩
   obtain ⟨y,hy⟩:∃ y,b[k]?=some y:=⟨_,Qx G⟩
   have V:a.drop k=x::a.drop (k+1):=by rw [Qp D];rw [Qx D] at hx;cases hx;rfl
   have Y:b.drop k=y::b.drop (k+1):=by rw [Qp G];rw [Qx G] at hy;cases hy;rfl
   obtain ⟨ba,oa,rfl,c1,-⟩:=(HA.out.below A.out).str hx
   obtain ⟨bb,ob,rfl,c2,-⟩:=(HB.out.below A.out).str hy
   have U:(decide (x=y)&&eqL (fun (x y:Bs)=>decide (x=y)) (a.drop (k+1)) (b.drop (k+1)))=r:=by have:=Z.out;rw [V,Y] at this;exact this
   have M:=Qq U
   clear Z U V Y D G hx hy
   by_cases J:x=y
   ·subst J
    have aE:(x != x)=false:=Ca
    go_wp2_with fail
    go_quiet (fail)
    go_wp2
    go_roundw
    case measure=>simp [intOf];omega
    case rel=>exact ⟨k+1,C7,by go_num,(show Aside _ from by have:=M.out;simp at this;exact this),A.out.thn (Yz _ _)⟩
   have aE:(x != y)=true:=by rw [bne_iff_ne];exact J
   have aG:r=false:=by have:=M.out;rw [decide_eq_false J,Bool.false_and] at this;exact this.symm
   subst aG
   have aL:(x==y)=false:=by rw [← Qt,beq_iff_eq];exact J
   clear J
   go_wp2_with fail
   go_quiet (fail)
   go_wp2
   go_ret
   exact ⟨rfl,A.out.thn (Yz _ _)⟩
  have aH:r=true:=by
   have:=Z.out
   rw [Qu (by rw [N.out];omega),Qu (by rw [O.out];omega)] at this
   exact this.symm
  subst aH
  clear Z
  go_wp2_with fail
  go_ret
  exact ⟨rfl,A.out⟩
 rw [Ke _ a b hn]
 have J:((a.length:Int) != (b.length:Int))=true:=by rw [bne_iff_ne];omega
 clear hn
 go_enter func119,ntmps119
 go_wp2_with fail
 go_ret
 exact ⟨rfl,Qz _ _⟩
end Go.Proofs.YtcljcblceodciaaGreatDoor
