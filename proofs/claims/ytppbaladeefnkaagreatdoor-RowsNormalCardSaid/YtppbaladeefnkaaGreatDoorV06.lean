import Derived.Test.YtppbaladeefnkaaGreatDoorV05
set_option maxRecDepth 100000
set_option maxHeartbeats 400000000
namespace Go.Proofs.YtppbaladeefnkaaGreatDoor
open Go.RowKit Go.Shelf Go.Lib Tryz
theorem Mt (c lo hi:Int) (w:World):Calls prog 256 #[.int .u8 c,.int .u8 lo,.int .u8 hi] w fun e w'=>e=.returned (.bool (decide (lo≤c)&&decide (c≤hi)))∧w=w':=by
 go_enter func256,ntmps256
 go_wp2
 all_goals (go_ret;exact ⟨by simp [*] <;> omega,rfl⟩)
theorem Ef (a b:UInt8):decide (a≤b)=decide ((a.toNat:Int)≤(b.toNat:Int)):=by
 simp [UInt8.le_iff_toNat_le]
theorem M5 (c:UInt8):Hh c=(decide ((48:Int)≤(c.toNat:Int))&&decide ((c.toNat:Int)≤57)):=by
 unfold Hh;rw [Ef,Ef];rfl
theorem Kl (c:UInt8):Kc c=(decide ((97:Int)≤(c.toNat:Int))&&decide ((c.toNat:Int)≤122)):=by
 unfold Kc;rw [Ef,Ef];rfl
theorem G9 (c:UInt8):B9 c=(decide ((65:Int)≤(c.toNat:Int))&&decide ((c.toNat:Int)≤90)):=by
 unfold B9;rw [Ef,Ef];rfl
theorem Ej (c:UInt8) (w:World):Calls prog 245 #[.int .u8 c.toNat] w fun e w'=>e=.returned (.bool (Hh c))∧w=w':=by
 rw [M5]
 go_enter func245,ntmps245
 go_wp2_with (go_at_call 256;refine (Mt _ _ _ _).mono ?_;rintro e w' ⟨rfl,rfl⟩)
 go_ret
 exact ⟨rfl,rfl⟩
theorem Jr (c:UInt8) (w:World):Calls prog 240 #[.int .u8 c.toNat] w fun e w'=>e=.returned (.bool (Kc c))∧w=w':=by
 rw [Kl]
 go_enter func240,ntmps240
 go_wp2_with (go_at_call 256;refine (Mt _ _ _ _).mono ?_;rintro e w' ⟨rfl,rfl⟩)
 go_ret
 exact ⟨rfl,rfl⟩
theorem Ei (c:UInt8) (w:World):Calls prog 243 #[.int .u8 c.toNat] w fun e w'=>e=.returned (.bool (B9 c))∧w=w':=by
 rw [G9]
 go_enter func243,ntmps243
 go_wp2_with (go_at_call 256;refine (Mt _ _ _ _).mono ?_;rintro e w' ⟨rfl,rfl⟩)
 go_ret
 exact ⟨rfl,rfl⟩
theorem Eg (a b:UInt8):(a==b)=((a.toNat:Int)==(b.toNat:Int)):=by
 rw [Bool.eq_iff_iff,beq_iff_eq,beq_iff_eq,← UInt8.toNat_inj];omega
theorem Kf (c:UInt8):Md c=((c.toNat:Int)==9||(c.toNat:Int)==10||(c.toNat:Int)==13||(c.toNat:Int)==32):=by
 unfold Md;rw [Eg,Eg,Eg,Eg];rfl
theorem En (c:UInt8) (w:World):Calls prog 239 #[.int .u8 c.toNat] w fun e w'=>e=.returned (.bool (Md c))∧w=w':=by
 rw [Kf]
 go_enter func239,ntmps239
 go_wp2
 all_goals (go_ret;exact ⟨by simp [*],rfl⟩)
theorem M1 (c:UInt8) (w:World):Calls prog 241 #[.int .u8 c.toNat] w fun e w'=>e=.returned (.bool (Kb c))∧w=w':=by
 have h:Kb c=(Kc c||Hh c||((c.toNat:Int)==95)):=by unfold Kb;rw [Eg];rfl
 rw [h]
 go_enter func241,ntmps241
 go_wp2_with (first | (go_at_call 240;refine (Jr _ _).mono ?_;rintro e w' ⟨rfl,rfl⟩) | (go_at_call 245;refine (Ej _ _).mono ?_;rintro e w' ⟨rfl,rfl⟩))
 all_goals (go_ret;exact ⟨by simp [*],rfl⟩)
theorem Li (c:UInt8) (w:World):Calls prog 244 #[.int .u8 c.toNat] w fun e w'=>e=.returned (.bool (Fd c))∧w=w':=by
 unfold Fd
 go_enter func244,ntmps244
 go_wp2_with (first | (go_at_call 240;refine (Jr _ _).mono ?_;rintro e w' ⟨rfl,rfl⟩) | (go_at_call 245;refine (Ej _ _).mono ?_;rintro e w' ⟨rfl,rfl⟩) | (go_at_call 243;refine (Ei _ _).mono ?_;rintro e w' ⟨rfl,rfl⟩))
 all_goals (go_ret;exact ⟨by simp [*],rfl⟩)
def svs (ls:List Bs):List Value:=ls.map sv
def Xe (w:World):Prop:=w.rangeAt 5 0 (svs kws)
theorem Fv (l:Bs):bl ⟨l.toArray⟩=l:=rfl
theorem Nm (s:ByteArray) (n:Nat) (h:n<s.size):(bl s)[n]?=some s[n]:=by
 simp only [bl,Array.getElem?_toList]
 exact Array.getElem?_eq_getElem h
theorem bl_len (s:ByteArray):(bl s).length=s.size:=Array.length_toList
theorem On {p:UInt8→Bool} {s:ByteArray} {n:Nat} (hn:n≤tk p (bl s)) (h:n<s.size) (hp:p s[n]=true):n+1≤tk p (bl s):=by
 rcases Nat.lt_or_ge n (tk p (bl s)) with h' | h'
 ·omega
 have e:tk p (bl s)=n:=by omega
 have:=Pb (p:=p) (l:=bl s) (c:=s[n]) (by rw [e];exact Nm s n h)
 rw [hp] at this;cases this
theorem tk_end {p:UInt8→Bool} {s:ByteArray} {n:Nat} (hn:n≤tk p (bl s)) (h:n<s.size) (hp:p s[n]=false):tk p (bl s)=n:=by
 rcases Nat.lt_or_ge n (tk p (bl s)) with h' | h'
 ·have:=Lk h' (Nm s n h);rw [hp] at this;cases this
 omega
theorem tk_out {p:UInt8→Bool} {s:ByteArray} {n:Nat} (hn:n≤tk p (bl s)) (h:¬ n<s.size):tk p (bl s)=n:=by
 have:=tk_le p (bl s);rw [bl_len] at this;omega
theorem Jy {k:IntKind} {a b:Int} (h:a=b):Ending.returned (.int k a)=.returned (.int k b):=by rw [h]
theorem run_word (s:ByteArray) (w:World) (hs:s.size≤maxLen):
  Calls prog 229 #[.string s,.func (.func 241) #[] #[]] w fun e w'=>e=.returned (.int .i64 (tk Kb (bl s)))∧w=w':=by
 unfold maxLen at hs
 go_enter func229,ntmps229
 go_wp2
 go_loop [5] (fun i=>∃ k:Nat,k≤tk Kb (bl s)∧i=.int .i64 k) (fun i=>s.size - (intOf i).toNat)
 case atStart=>exact ⟨0,Q8 _,rfl⟩
 obtain ⟨n,hn,rfl⟩:=hrel
 have HN:=Qq hn;clear hn
 by_cases hlt:n<s.size
 ·by_cases hp:Kb s[n]=true
  ·have HM:=Qq (On HN.out hlt hp)
   go_wp2_with (go_at_call 241;refine (M1 _ _).mono ?_;rintro e w' ⟨rfl,rfl⟩)
   go_round
   case rel=>exact ⟨n+1,HM.out,by go_num⟩
   case measure=>simp [intOf];omega
  have hp':Kb s[n]=false:=by simpa using hp
  have HM:=Qq (tk_end HN.out hlt hp');clear hp
  go_wp2_with (go_at_call 241;refine (M1 _ _).mono ?_;rintro e w' ⟨rfl,rfl⟩)
  go_ret
  exact ⟨Jy (by rw [HM.out]),rfl⟩
 have HM:=Qq (tk_out HN.out hlt)
 go_wp2
 go_ret
 exact ⟨Jy (by rw [HM.out]),rfl⟩
theorem run_name (s:ByteArray) (w:World) (hs:s.size≤maxLen):
  Calls prog 229 #[.string s,.func (.func 244) #[] #[]] w fun e w'=>e=.returned (.int .i64 (tk Fd (bl s)))∧w=w':=by
 unfold maxLen at hs
 go_enter func229,ntmps229
 go_wp2
 go_loop [5] (fun i=>∃ k:Nat,k≤tk Fd (bl s)∧i=.int .i64 k) (fun i=>s.size - (intOf i).toNat)
 case atStart=>exact ⟨0,Q8 _,rfl⟩
 obtain ⟨n,hn,rfl⟩:=hrel
 have HN:=Qq hn;clear hn
 by_cases hlt:n<s.size
 ·by_cases hp:Fd s[n]=true
  ·have HM:=Qq (On HN.out hlt hp)
   go_wp2_with (go_at_call 244;refine (Li _ _).mono ?_;rintro e w' ⟨rfl,rfl⟩)
   go_round
   case rel=>exact ⟨n+1,HM.out,by go_num⟩
   case measure=>simp [intOf];omega
  have hp':Fd s[n]=false:=by simpa using hp
  have HM:=Qq (tk_end HN.out hlt hp');clear hp
  go_wp2_with (go_at_call 244;refine (Li _ _).mono ?_;rintro e w' ⟨rfl,rfl⟩)
  go_ret
  exact ⟨Jy (by rw [HM.out]),rfl⟩
 have HM:=Qq (tk_out HN.out hlt)
 go_wp2
 go_ret
 exact ⟨Jy (by rw [HM.out]),rfl⟩
theorem Kd (f g:Nat→Bool):∀ (n lo hi:Nat),(∀ t,t<hi→f t=g t)→Lib.bsGo f n lo hi=Lib.bsGo g n lo hi
 | 0,_,_,_=>rfl
 | n+1,lo,hi,h=>by
  unfold Lib.bsGo
  by_cases hl:lo<hi
  ·rw [if_pos hl,if_pos hl,h ((lo+hi) / 2) (by omega),Kd f g n _ hi h,Kd f g n lo _ (fun t ht=>h t (by omega))]
  rw [if_neg hl,if_neg hl]
theorem Vp:∀ (x y:List UInt8),Op.bytesLess x y=decide (x<y)
 | [],[]=>by simp [Op.bytesLess]
 | _::_,[]=>by simp [Op.bytesLess]
 | [],_::_=>by simp [Op.bytesLess]
 | a::x,b::y=>by
  rw [Op.bytesLess,Vp x y]
  simp only [List.cons_lt_cons_iff]
  by_cases h1:a<b <;> by_cases h2:a=b <;> by_cases h3:x<y <;> simp [h1,h2,h3]
theorem split_at (f:Nat→Bool) (n:Nat) (hd:∀ i j,i<j→j<n→f j=true→f i=true):∃ k,k≤n∧(∀ t,t<k→f t=true)∧(∀ t,k≤t→t<n→f t=false):=by
 induction n with
 | zero=>exact ⟨0,Q9 _,fun t h=>by omega,fun t _ h=>by omega⟩
 | succ n ih=>
  obtain ⟨k,h1,h2,h3⟩:=ih (fun i j hij hj=>hd i j hij (by omega))
  cases hn:f n with
  | true=>exact ⟨n+1,Q9 _,fun t ht=>by
    by_cases e:t=n
    ·rw [e];exact hn
    exact hd t n (by omega) (by omega) hn,fun t _ _=>by omega⟩
  | false=>exact ⟨k,by omega,h2,fun t ht htn=>by
    by_cases e:t=n
    ·rw [e];exact hn
    exact h3 t ht (by omega)⟩
theorem bs_ok (S:Nat→Bs) (n:Nat) (x:Bs) (hs:∀ i j,i<j→j<n→S i<S j) (k:Nat) (hk:Lib.bsGo (fun t=>Op.bytesLess (S t) x) n 0 n=k):
  (k<n∧S k=x)↔∃ t,t<n∧S t=x:=by
 obtain ⟨k0,h1,h2,h3⟩:=split_at (fun t=>Op.bytesLess (S t) x) n (fun i j hij hj h=>by
  simp only [Vp,decide_eq_true_eq] at h ⊢
  exact List.lt_trans (hs i j hij hj) h)
 have e:Lib.bsGo (fun t=>Op.bytesLess (S t) x) n 0 n=k0:=by
  rw [Kd _ (fun t=>decide (t<n)&&Op.bytesLess (S t) x) n 0 n (fun t ht=>by simp [ht])]
  exact Lib.bsGo_spec _ k0 (fun t ht=>by simp [show t<n by omega,h2 t ht]) (fun t ht=>by
   by_cases htn:t<n
   ·simp [h3 t ht htn]
   simp [htn]) n 0 n (by omega) (by omega) h1
 rw [hk] at e;subst e
 constructor
 ·rintro ⟨a,b⟩;exact ⟨k,a,b⟩
 rintro ⟨t,ht,rfl⟩
 have hkt:k=t:=by
  rcases Nat.lt_trichotomy k t with h | h | h
  ·have:=h3 k (Q9 _) (by omega)
   simp only [Vp,decide_eq_false_iff_not] at this
   exact absurd (hs k t h ht) this
  ·exact h
  have:=h2 t h
  simp only [Vp,decide_eq_true_eq] at this
  exact absurd this (List.lt_irrefl _)
 subst hkt;exact ⟨ht,rfl⟩
theorem Nn:∀ i j,i<j→j<26→kws.getD i []<kws.getD j []:=by
 have:∀ j,j<26→∀ i,i<j→kws.getD i []<kws.getD j []:=by decide
 exact fun i j h1 h2=>this j h2 i h1
theorem isKw_iff (x:Bs):Fb x=true↔∃ t,t<26∧kws.getD t []=x:=by
 have hl:kws.length=26:=rfl
 unfold Fb
 rw [List.contains_iff_mem]
 constructor
 ·intro h
  obtain ⟨j,hj,e⟩:=List.getElem_of_mem h
  exact ⟨j,by omega,by rw [List.getD_eq_getElem?_getD,Qx hj];exact e⟩
 rintro ⟨t,ht,e⟩
 rw [List.getD_eq_getElem?_getD,Qx (by omega)] at e
 rw [← e];exact Qd _
theorem ba_ext {a b:ByteArray}:a=b↔bl a=bl b:=by
 constructor
 ·rintro rfl;rfl
 intro h
 apply ByteArray.ext
 exact Array.toList_inj.1 h
theorem Ro (s:ByteArray) (w:World) (hT:Xe w) (c:Nat):
  Calls prog 193 #[.slice (some ⟨5,0,none⟩) 26 c,.string s] w fun e w'=>(∃ n:Int,e=.returned (.tuple #[.int .i64 n,.bool (Fb (bl s))]))∧∃ q,w'=w.drewN q:=by
 refine (Any2.slices_BinarySearch_string Tryz.laysBS 5 0 26 c (fun t=>⟨(kws.getD t []).toArray⟩) s w (by omega) (fun j hj=>?_)).mono ?_
 ·have hl:kws.length=26:=rfl
  refine hT j _ ?_
  simp only [svs,List.getElem?_map,Qx (show j<kws.length by omega),Option.map_some,List.getD_eq_getElem?_getD,Option.getD_some]
  rfl
 rintro e w' ⟨rfl,hq⟩
 refine ⟨⟨((Lib.bsGo (fun t=>Op.bytesLess (ByteArray.toList ⟨(kws.getD t []).toArray⟩) s.toList) 26 0 26:Nat):Int),?_⟩,hq⟩
 simp only [ByteArray.toList_mk]
 rw [Lib.toList_data]
 have:=bs_ok (fun t=>kws.getD t []) 26 (bl s) Nn _ rfl
 congr 6
 rw [Bool.eq_iff_iff,decide_eq_true_iff,isKw_iff,← this]
 simp only [ba_ext,Fv]
theorem Bl (s:ByteArray) (w:World) (hT:Xe w):
  Calls prog 242 #[.string s] w fun e w'=>e=.returned (.bool (Fb (bl s)))∧∃ q,w'=w.drewN q:=by
 have HK:=Qq (fun c=>Ro s w hT c)
 go_enter func242,ntmps242
 go_wp2_with (go_at_call 193;refine (HK.out _).mono ?_;rintro e w' ⟨⟨n,rfl⟩,q,rfl⟩)
 go_ret
 exact ⟨rfl,_,rfl⟩
structure Xy (x:Bs):Prop where
 pos:0<x.length
 len:x.length≤16
 head:∀ c,x[0]?=some c→Kc c=true
 all:tk Kb x=x.length
 kw:Fb x=false
structure Fx (x:Bs):Prop where
 pos:0<x.length
 len:x.length≤16
 head:∀ c,x[0]?=some c→B9 c=true
 all:tk Fd x=x.length
theorem lo_not (c:UInt8) (h:Kc c=true):Md c=false∧((c.toNat:Int)==35)=false:=by
 rw [Kl] at h
 simp only [Bool.and_eq_true,decide_eq_true_eq] at h
 rw [Kf]
 constructor
 ·simp;omega
 simp;omega
theorem up_not (c:UInt8) (h:B9 c=true):Md c=false∧((c.toNat:Int)==35)=false∧Kc c=false:=by
 rw [G9] at h
 simp only [Bool.and_eq_true,decide_eq_true_eq] at h
 rw [Kf,Kl]
 refine ⟨?_,?_,?_⟩
 ·simp;omega
 ·simp;omega
 simp;omega
theorem Yo (x:Bs):(⟨x.toArray⟩:ByteArray).size=x.length:=by
 show x.toArray.size=_
 simp
theorem D7 (x:Bs) (i:Nat) (h:i<(⟨x.toArray⟩:ByteArray).size):x[i]?=some ((⟨x.toArray⟩:ByteArray)[i]'h):=by
 have:=Nm ⟨x.toArray⟩ i h
 rwa [Fv] at this
theorem Fw (x:Bs):(⟨x.toArray⟩:ByteArray).extract 0 x.length=⟨x.toArray⟩:=by
 rw [ba_ext]
 simp [bl,ByteArray.data_extract]
theorem Ph (x:Bs) (h:Xy x) (w:World) (hT:Xe w):
  Calls prog 228 #[sv x] w fun e w'=>e=.returned (.tuple #[.int .i64 2,.int .i64 x.length])∧Below w.heap.size w w':=by
 obtain ⟨hp,hl,hh,ha,hk⟩:=h
 have h0:0<(⟨x.toArray⟩:ByteArray).size:=by rw [Yo];exact hp
 have hlo:=hh _ (D7 x 0 h0)
 obtain ⟨c,hc⟩:=eX ((⟨x.toArray⟩:ByteArray)[0]'h0)
 rw [hc] at hlo
 obtain ⟨n1,n2⟩:=lo_not c hlo
 have hR:∀ w,Calls prog 229 #[.string ⟨x.toArray⟩,.func (.func 241) #[] #[]] w fun e w'=>e=.returned (.int .i64 (x.length:Nat))∧w=w':=fun w=>by
  have:=run_word ⟨x.toArray⟩ w (by rw [Yo];unfold maxLen;omega)
  rwa [Fv,ha] at this
 have hK:∀ w,Xe w→Calls prog 242 #[.string ((⟨x.toArray⟩:ByteArray).extract 0 x.length)] w fun e w'=>e=.returned (.bool false)∧∃ q,w'=w.drewN q:=fun w hT=>by
  have:=Bl ⟨x.toArray⟩ w hT
  rwa [Fv,hk,← Fw x] at this
 have HR:=Qq hR;have HK:=Qq hK;have HT:=Qq hT
 have hs:(⟨x.toArray⟩:ByteArray).size=x.length:=Yo x
 have hl2:x.length≤(⟨x.toArray⟩:ByteArray).size:=by omega
 unfold sv
 generalize (⟨x.toArray⟩:ByteArray)=s at h0 hc hl2 HR HK ⊢
 generalize x.length=n at HR HK hl2 hl ⊢
 clear hR hK hT ha hk hh hs hp
 go_enter func228,ntmps228
 go_wp2_with (first | (go_at_call 229;refine (HR.out _).mono ?_;rintro e w' ⟨rfl,rfl⟩) | (go_at_call 242;refine (HK.out _ HT.out).mono ?_;rintro e w' ⟨rfl,q,rfl⟩) | (go_at_call 239;refine (En _ _).mono ?_;rintro e w' ⟨rfl,rfl⟩) | (go_at_call 240;refine (Jr _ _).mono ?_;rintro e w' ⟨rfl,rfl⟩))
 go_ret2
 exact ⟨rfl,Zy _ _⟩
theorem good_cap (x:Bs) (h:Fx x) (w:World):
  Calls prog 228 #[sv x] w fun e w'=>e=.returned (.tuple #[.int .i64 3,.int .i64 x.length])∧Below w.heap.size w w':=by
 obtain ⟨hp,hl,hh,ha⟩:=h
 have h0:0<(⟨x.toArray⟩:ByteArray).size:=by rw [Yo];exact hp
 have hlo:=hh _ (D7 x 0 h0)
 obtain ⟨c,hc⟩:=eX ((⟨x.toArray⟩:ByteArray)[0]'h0)
 rw [hc] at hlo
 obtain ⟨n1,n2,n3⟩:=up_not c hlo
 have hR:∀ w,Calls prog 229 #[.string ⟨x.toArray⟩,.func (.func 244) #[] #[]] w fun e w'=>e=.returned (.int .i64 (x.length:Nat))∧w=w':=fun w=>by
  have:=run_name ⟨x.toArray⟩ w (by rw [Yo];unfold maxLen;omega)
  rwa [Fv,ha] at this
 have HR:=Qq hR
 unfold sv
 generalize (⟨x.toArray⟩:ByteArray)=s at h0 hc HR ⊢
 generalize x.length=n at HR hl ⊢
 clear hR ha hh hp
 go_enter func228,ntmps228
 go_wp2_with (first | (go_at_call 229;refine (HR.out _).mono ?_;rintro e w' ⟨rfl,rfl⟩) | (go_at_call 243;refine (Ei _ _).mono ?_;rintro e w' ⟨rfl,rfl⟩) | (go_at_call 239;refine (En _ _).mono ?_;rintro e w' ⟨rfl,rfl⟩) | (go_at_call 240;refine (Jr _ _).mono ?_;rintro e w' ⟨rfl,rfl⟩))
 go_ret2
 exact ⟨rfl,Qz _ _⟩
def O9 (x:Bs) (k:Int) (w:World):Prop:=∀ W,Below w.heap.size w W→Calls prog 228 #[sv x] W fun e w'=>e=.returned (.tuple #[.int .i64 k,.int .i64 x.length])∧Below W.heap.size W w'
theorem next_at (x:Bs) (k:Int) (w:World) (hg:O9 x k w) (hp:0<x.length) (W:World) (hW:Below w.heap.size w W):
  Calls prog 218 #[sv x] W fun e w'=>e=.returned (.tuple #[.int .i64 k,.int .i64 x.length])∧Below W.heap.size W w':=by
 have HG:=Qq (hg W hW)
 have hp':(0:Int)<x.length:=by omega
 clear hg hW
 unfold sv at HG ⊢
 generalize x.length=n at HG hp hp' ⊢
 go_enter func218,ntmps218
 go_wp2_with (go_at_call 228;refine HG.out.mono ?_;rintro e w' ⟨rfl,hw⟩)
 go_ret2
 exact ⟨rfl,hw⟩
theorem Po (x:Bs) (k:Int) (w:World) (hg:O9 x k w) (hp:0<x.length) (W:World) (hW:Below w.heap.size w W):
  Calls prog 202 #[sv x] W fun e w'=>e=.returned (.tuple #[.int .i64 k,.bool true])∧Below W.heap.size W w':=by
 have HG:=Qq (next_at x k w hg hp W hW)
 have h0:0<(⟨x.toArray⟩:ByteArray).size:=by rw [Yo];exact hp
 have hne:(⟨x.toArray⟩:ByteArray).toList.isEmpty=false:=by
  rw [Lib.toList_data]
  show (bl ⟨x.toArray⟩).isEmpty=false
  rw [Fv]
  cases x with
  | nil=>simp at hp
  | cons=>rfl
 have hs:((x.length:Int)==((⟨x.toArray⟩:ByteArray).size:Int))=true:=by rw [Yo];simp
 clear hg hW h0
 unfold sv at HG ⊢
 generalize (⟨x.toArray⟩:ByteArray)=s at HG hne hs ⊢
 generalize x.length=n at HG hs ⊢
 go_enter func202,ntmps202
 go_wp2_with (go_at_call 218;refine HG.out.mono ?_;rintro e w' ⟨rfl,hw⟩)
 go_ret2
 exact ⟨rfl,hw⟩
theorem P8 (x:Bs) (k at':Int) (w:World) (hk:k=2∨k=3) (hg:O9 x k w) (hp:0<x.length) (hl:x.length≤16):
  Calls prog 187 #[.agg #[.int .i64 k,sv x,.int .i64 at']] w fun e w'=>e=.returned (.bool true)∧Below w.heap.size w w':=by
 have HS:=Qq (fun W h=>Po x k w hg hp W h)
 have hl':((⟨x.toArray⟩:ByteArray).size:Int)≤16:=by rw [Yo];omega
 clear hg
 unfold sv at HS ⊢
 generalize (⟨x.toArray⟩:ByteArray)=s at HS hl' ⊢
 rcases hk with rfl | rfl
 all_goals
  go_enter func187,ntmps187
  go_wp2_with fail
  refine (HS.out _ (Qn _ _)).mono ?_
  rintro e w1 ⟨rfl,hw⟩
  have c0:=(hw.cell (p:=⟨w.heap.size,0,none⟩) (by simp)).trans (Qk _ _ 0 _ _ _ (Qw w _))
  have c1:=(hw.cell (p:=⟨w.heap.size,1,none⟩) (by simp)).trans (Qk _ _ 1 _ _ _ (Qw w _))
  simp only [List.getElem?_toArray,List.getElem?_cons_zero,List.getElem?_cons_succ] at c0 c1
  have HW:=Qq ((Qn w _).thn hw)
  clear hw
  go_wp2_with fail
  go_ret
  exact ⟨rfl,HW.out⟩
theorem Xe.below {w w':World} (h:Xe w) (hb:Below w.heap.size w w'):Xe w':=fun j v hv=>(hb.cell (p:=⟨_,0+j,none⟩) (Qv w _ (h j v hv))).trans (h j v hv)
theorem Oc (x:Bs) (h:Xy x) (w:World) (hT:Xe w):Calls prog 146 #[sv x] w fun e w'=>e=.returned (.bool true)∧Below w.heap.size w w':=by
 have HF:=Qq (fun W (hb:Below w.heap.size w W)=>P8 x 2 0 W (.inl rfl) (fun W' h'=>Ph x h W' ((hT.below hb).below h')) h.pos h.len)
 clear hT h
 unfold sv at HF ⊢
 generalize (⟨x.toArray⟩:ByteArray)=s at HF ⊢
 go_enter func146,ntmps146
 go_wp2_with (go_at_call 187;refine (HF.out _ (Qz _ _)).mono ?_;rintro e w' ⟨rfl,hw⟩)
 go_ret
 exact ⟨rfl,hw⟩
theorem T4 (x:Bs) (h:Fx x) (w:World):Calls prog 145 #[sv x] w fun e w'=>e=.returned (.bool true)∧Below w.heap.size w w':=by
 have HF:=Qq (fun W=>P8 x 3 0 W (.inr rfl) (fun W' _=>good_cap x h W') h.pos h.len)
 clear h
 unfold sv at HF ⊢
 generalize (⟨x.toArray⟩:ByteArray)=s at HF ⊢
 go_enter func145,ntmps145
 go_wp2_with (go_at_call 187;refine (HF.out _).mono ?_;rintro e w' ⟨rfl,hw⟩)
 go_ret
 exact ⟨rfl,hw⟩
inductive Zr:Val→Prop
 | int (n:Int):Zr (.mk 0 n [] [] [])
 | text (s:Bs):Zr (.mk 1 0 s [] [])
 | bool (n:Int) (hn:n=0∨n=1):Zr (.mk 2 n [] [] [])
 | make (s:Bs) (kids:List Val) (hs:Fx s) (hl:kids.length≤1) (hk:∀ k ∈ kids,Zr k):Zr (.mk 3 0 s [] kids)
 | record (names:List Bs) (kids:List Val) (hl:names.length=kids.length) (hn:∀ x ∈ names,Xy x) (hs:∀ (i:Nat) (x y:Bs),names[i]?=some x→names[i+1]?=some y→Zg x y<0) (hk:∀ k ∈ kids,Zr k):Zr (.mk 4 0 [] names kids)
 | list (kids:List Val) (hk:∀ k ∈ kids,Zr k):Zr (.mk 5 0 [] [] kids)
def Hs (v:Val):Prop:=∀ (S:Nat→Prop) (cs:List Value) (w:World),Qh S w cs v→Xe w→Calls prog 123 #[.agg cs.toArray] w fun e w'=>e=.returned (.bool true)∧Below w.heap.size w w'
theorem Mo (v:Val) (hv:Hs v) (S:Nat→Prop) (cs:List Value) (w:World) (h:Qh S w cs v) (hT:Xe w):
  Calls prog 147 #[.agg cs.toArray] w fun e w'=>e=.returned (.bool false)∧Below w.heap.size w w':=by
 have HV:=Qq (fun W (hb:Below w.heap.size w W)=>hv S cs W (h.move (.of_below hb) (fun _ _ h=>h)) (hT.below hb))
 obtain ⟨p3,k3,p4,k4,hcs,_⟩:=Qh.cells h
 simp only [vcs] at hcs
 subst hcs
 clear h hv hT
 go_enter func147,ntmps147
 go_wp2_with (go_at_call 123;refine (HV.out _ (Qn _ _)).mono ?_;rintro e w' ⟨rfl,hw⟩)
 go_ret
 exact ⟨rfl,(Qn _ _).thn hw⟩
theorem Vs (kids:List Val) (hk:∀ k ∈ kids,Hs k) (S:Nat→Prop) (v:Value) (w:World) (h:Sl Ql S w v kids) (hT:Xe w):
  Calls prog 54 #[v,.func (.func 147) #[] #[]] w fun e w'=>e=.returned (.bool false)∧Below w.heap.size w w':=by
 have:=L2 Tryz.cfVal Ql isAgg44 sizeOf44 147 #[] (enters_of func147 (by kernel_rfl) rfl) S v kids w (fun _=>false) h
  (fun W x cs hb hx hr=>Mo x (hk x hx) S cs W hr (hT.below hb))
 rwa [show kids.any (fun _=>false)=false by induction kids <;> simp_all] at this
theorem Bi (a b:Bs) (h:Zg a b<0):Op.bytesLess a b=true:=by
 rw [(Xj a b).1];simpa using h
theorem T0 (v:Val) (hv:Zr v):Hs v:=by
 induction hv with
 | int n=>
  intro S cs w h hT
  obtain ⟨p3,k3,p4,k4,hcs,_,hk,_⟩:=Qh.cells h
  simp only [vcs,Val.kind,Val.n,Val.s,Val.names,Val.kids,List.length_nil] at hcs
  subst hcs
  have HK:=Qq (fun W (hb:Below w.heap.size w W)=>Vs [] (fun k hk=>by simp at hk) S _ W (hk.below hb) (hT.below hb))
  simp only [Val.kids,List.length_nil] at HK
  clear h hk hT
  go_enter func123,ntmps123
  go_wp2_with (go_at_call 54;refine (HK.out _ (Qn _ _)).mono ?_;rintro e w' ⟨rfl,hw⟩)
  go_ret
  exact ⟨rfl,(Qn _ _).thn hw⟩
 | text s=>
  intro S cs w h hT
  obtain ⟨p3,k3,p4,k4,hcs,_,hk,_⟩:=Qh.cells h
  simp only [vcs,Val.kind,Val.n,Val.s,Val.names,Val.kids,List.length_nil] at hcs
  subst hcs
  have HK:=Qq (fun W (hb:Below w.heap.size w W)=>Vs [] (fun k hk=>by simp at hk) S _ W (hk.below hb) (hT.below hb))
  simp only [Val.kids,List.length_nil] at HK
  clear h hk hT
  go_enter func123,ntmps123
  go_wp2_with (go_at_call 54;refine (HK.out _ (Qn _ _)).mono ?_;rintro e w' ⟨rfl,hw⟩)
  go_ret
  exact ⟨rfl,(Qn _ _).thn hw⟩
 | bool n hn=>
  intro S cs w h hT
  obtain ⟨p3,k3,p4,k4,hcs,_,hk,_⟩:=Qh.cells h
  simp only [vcs,Val.kind,Val.n,Val.s,Val.names,Val.kids,List.length_nil] at hcs
  subst hcs
  have HK:=Qq (fun W (hb:Below w.heap.size w W)=>Vs [] (fun k hk=>by simp at hk) S _ W (hk.below hb) (hT.below hb))
  simp only [Val.kids,List.length_nil] at HK
  clear h hk hT
  rcases hn with rfl | rfl
  all_goals
   go_enter func123,ntmps123
   go_wp2_with (go_at_call 54;refine (HK.out _ (Qn _ _)).mono ?_;rintro e w' ⟨rfl,hw⟩)
   go_ret
   exact ⟨rfl,(Qn _ _).thn hw⟩
 | make s kids hs hl hkk ih=>
  intro S cs w h hT
  obtain ⟨p3,k3,p4,k4,hcs,_,hk,_⟩:=Qh.cells h
  simp only [vcs,Val.kind,Val.n,Val.s,Val.names,Val.kids,List.length_nil] at hcs
  subst hcs
  have HK:=Qq (fun W (hb:Below w.heap.size w W)=>Vs kids ih S _ W (hk.below hb) (hT.below hb))
  have HC:=Qq (fun W=>T4 s hs W)
  simp only [Val.kids] at HK
  unfold sv at HC
  have hl':decide ((kids.length:Int)≤1)=true:=by simp;omega
  clear h hk hT ih hkk hs
  go_enter func123,ntmps123
  go_wp2_with fail
  refine (HC.out _).mono ?_
  rintro e w1 ⟨rfl,hw⟩
  have c4:=(hw.cell (p:=⟨w.heap.size,4,none⟩) (by simp)).trans (Qk _ _ 4 _ _ _ (Qw w _))
  simp only [List.getElem?_toArray,List.getElem?_cons_zero,List.getElem?_cons_succ] at c4
  have HW:=Qq ((Qn w _).thn hw)
  clear hw
  go_wp2_with (go_at_call 54;refine (HK.out _ HW.out).mono ?_;rintro e w' ⟨rfl,hw⟩)
  go_ret
  exact ⟨rfl,HW.out.thn hw⟩
 | list kids hkk ih=>
  intro S cs w h hT
  obtain ⟨p3,k3,p4,k4,hcs,_,hk,_⟩:=Qh.cells h
  simp only [vcs,Val.kind,Val.n,Val.s,Val.names,Val.kids,List.length_nil] at hcs
  subst hcs
  have HK:=Qq (fun W (hb:Below w.heap.size w W)=>Vs kids ih S _ W (hk.below hb) (hT.below hb))
  simp only [Val.kids] at HK
  clear h hk hT ih hkk
  go_enter func123,ntmps123
  go_wp2_with (go_at_call 54;refine (HK.out _ (Qn _ _)).mono ?_;rintro e w' ⟨rfl,hw⟩)
  go_ret
  exact ⟨rfl,(Qn _ _).thn hw⟩
 | record names kids hl hn hs hkk ih=>
  intro S cs w h hT
  obtain ⟨p3,k3,p4,k4,hcs,hns,hk,_⟩:=Qh.cells h
  simp only [vcs,Val.kind,Val.n,Val.s,Val.names,Val.kids] at hcs hns
  rw [hl] at hcs hns
  subst hcs
  have HK:=Qq (fun W (hb:Below w.heap.size w W)=>Vs kids ih S _ W (hk.below hb) (hT.below hb))
  have HN:=Qq hns;have HW:=Qq hn;have HS:=Qq hs;have HL:=Qq hl;have HT:=Qq hT
  simp only [Val.kids] at HK
  have hlk:kids.length≤1000000:=by obtain ⟨_,_,_,h⟩:=hns.len;omega
  clear h hk hT ih hkk hn hs hl hns
  generalize kids.length=n at HK HN HL hlk ⊢
  go_enter func123,ntmps123
  go_wp2_with fail
  obtain ⟨W1,hW1⟩:=eX (w.alloc (.cells #[.int .i64 4,.int .i64 0,.string ⟨#[]⟩,.slice p3 n k3,.slice p4 n k4] 44))
  rw [hW1]
  have hb1:=eqB hW1 (Qn _ _)
  have hX1:=eqH (b:=w.heap.size) hW1 (Qw _ _)
  have HB1:=Qq hb1;have HX1:=Qq hX1
  clear hW1 hb1 hX1
  go_loopw [3,93] (fun ok i wr=>∃ k:Nat,k≤n∧i=.int .i64 k∧ok=.bool true∧Below W1.heap.size W1 wr) (fun _ i _=>n - (intOf i).toNat)
  case atStart=>exact ⟨0,Q8 _,rfl,rfl,Qz _ _⟩
  obtain ⟨k,hkn,rfl,rfl,hBr⟩:=hrel
  have hXr:=kB hBr HX1.out
  have hGr:=Qf hXr
  have c4:=rA4 hXr;have c3:=rA3 hXr
  have HBr:=Qq (HB1.out.thn hBr);have HBr1:=Qq hBr
  clear hBr hXr
  by_cases hlt:k<n
  ·have hi1:(0:Int)≤(k:Int):=by omega
   have hi2:(k:Int)<(n:Int):=by omega
   obtain ⟨x,hx⟩:∃ x,names[k]?=some x:=⟨_,Qx (by rw [HL.out];exact hlt)⟩
   obtain ⟨b,off,rfl,hc,-⟩:=(HN.out.below HBr.out).str hx
   have HCall:=Qq (Oc x (HW.out x (Qy hx)) wr (HT.out.below HBr.out))
   unfold sv at HCall
   cases k with
   | zero=>
    clear hx
    rw [show ((0:Nat):Int)=0 from rfl] at hi1 hi2 ⊢
    rw [Nat.add_zero] at hc
    go_wp2_with (go_at_call 146;refine HCall.out.mono ?_;rintro e w' ⟨rfl,hw⟩;have HW2:=Qq hw;clear hw)
    go_roundw
    case measure=>simp [intOf];omega
    case rel=>exact ⟨1,by omega,rfl,rfl,HBr1.out.thn HW2.out⟩
   | succ k'=>
    obtain ⟨y,hy⟩:∃ y,names[k']?=some y:=⟨_,Qx (by rw [HL.out];omega)⟩
    obtain ⟨b',off',he,hc',-⟩:=(HN.out.below HBr.out).str hy
    obtain ⟨rfl,rfl,-⟩:b=b'∧off=off'∧True:=by simpa using he
    have hless:=Bi y x (HS.out k' y x hy hx)
    have hbl:=Qv wr _ hc
    have hi3:(0:Int)≤(k':Int):=by omega
    have hi4:(k':Int)<(n:Int):=by omega
    have hi5:((k':Int)+1==0)=false:=by simp;omega
    clear hx hy he
    go_wp2_with fail
    refine HCall.out.mono ?_
    rintro e w2 ⟨rfl,hw⟩
    have d3:=(hw.cell (p:=⟨w.heap.size,3,none⟩) hGr).trans c3
    have dc:=(hw.cell (p:=⟨b,off+k',none⟩) hbl).trans hc'
    have HW2:=Qq hw
    clear hw
    go_wp2_with fail
    go_roundw
    case measure=>simp [intOf];omega
    case rel=>exact ⟨k'+1+1,by omega,by go_num,rfl,HBr1.out.thn HW2.out⟩
  have hkn':k=n:=by omega
  subst hkn'
  go_wp2_with (go_at_call 54;refine (HK.out _ HBr.out).mono ?_;rintro e w' ⟨rfl,hw⟩)
  go_ret
  exact ⟨rfl,HBr.out.thn hw⟩
def eqL {A B:Type} (p:A→B→Bool):List A→List B→Bool
 | [],[]=>true
 | x::s,y::t=>p x y&&eqL p s t
 | _,_=>false
theorem Ud {A B:Type} (p:A→B→Bool):∀ (a:List A) (b:List B),a.length≠b.length→eqL p a b=false
 | [],[],h=>absurd rfl h
 | [],_::_,_=>rfl
 | _::_,[],_=>rfl
 | x::s,y::t,h=>by unfold eqL;rw [Ud p s t (fun e=>h (by simp [e])),Bool.and_false]
theorem So {S:Nat→Prop} {w:World} {cs:List Value} {x:Rel} (h:Z0.R S w cs x):∃ p c,cs=[.string ⟨x.table.toArray⟩,.slice p x.rows.length c]:=by
 obtain ⟨v,rfl,_,h2⟩:=h
 obtain ⟨p,c,rfl,_⟩:=h2.len
 exact ⟨p,c,rfl⟩
theorem eqFValTy (g:Nat) (lb:Array Value) (eg:∀ args w,(callFunc g args).run prog w=.ok (.enter g args) w) (S:Nat→Prop) (va vb:Value) (a:List Val) (b:List Ty) (w:World) (ha:Sl Ql S w va a) (hb:Sl Uq S w vb b) (p:Val→Ty→Bool)
  (hp:∀ (W:World) (x:Val) (y:Ty) (cx cy:List Value),Below w.heap.size w W→x ∈ a→y ∈ b→Ql.R S W cx x→Uq.R S W cy y→Calls prog g (#[.agg cx.toArray,.agg cy.toArray]++lb) W fun e w'=>e=.returned (.bool (p x y))∧Below W.heap.size W w'):
  Calls prog 150 #[va,vb,.func (.func g) #[] lb] w fun e w'=>e=.returned (.bool (eqL p a b))∧Below w.heap.size w w':=by
 obtain ⟨pa,ca,rfl,hla⟩:=ha.len
 obtain ⟨pb,cb,rfl,hlb⟩:=hb.len
 have HA:=Qq ha;have HB:=Qq hb;have HP:=Qq hp
 clear ha hb hp
 by_cases hn:a.length=b.length
 ·obtain ⟨n,hn1⟩:=eX (b.length)
  rw [hn1] at hn hlb HB
  rw [hn] at HA hla
  rw [hn,hn1]
  obtain ⟨r,hr⟩:=eX (eqL p a b)
  rw [hr]
  have HR:=Qq hr;have HNa:=Qq hn;have HNb:=Qq hn1
  clear hr hn hn1
  go_enter func150,ntmps150
  go_wp2_with fail
  go_loopw [17] (fun i wr=>∃ k:Nat,k≤n∧i=.int .i64 k∧Aside (eqL p (a.drop k) (b.drop k)=r)∧Below w.heap.size w wr) (fun i _=>n - (intOf i).toNat)
  case atStart=>exact ⟨0,Q8 _,rfl,HR.out,Qz _ _⟩
  obtain ⟨k,hkn,rfl,hE,hBr⟩:=hrel
  have HBr:=Qq hBr
  clear hBr
  by_cases hlt:k<n
  ·have hi1:(0:Int)≤(k:Int):=by omega
   have hi2:(k:Int)<(n:Int):=by omega
   have hka:k<a.length:=by rw [HNa.out];exact hlt
   have hkb:k<b.length:=by rw [HNb.out];exact hlt
   obtain ⟨x,hx⟩:∃ x,a[k]?=some x:=⟨_,Qx hka⟩
   obtain ⟨y,hy⟩:∃ y,b[k]?=some y:=⟨_,Qx hkb⟩
   have hda:a.drop k=x::a.drop (k+1):=by rw [List.drop_eq_getElem_cons hka];rw [Qx hka] at hx;cases hx;rfl
   have hdb:b.drop k=y::b.drop (k+1):=by rw [List.drop_eq_getElem_cons hkb];rw [Qx hkb] at hy;cases hy;rfl
   obtain ⟨ba,oa,cx,rfl,hba,-,-,hrx,hcx⟩:=(HA.out.below HBr.out).elem hx
   obtain ⟨bb,ob,cy,rfl,hbb,-,-,hry,hcy⟩:=(HB.out.below HBr.out).elem hy
   have HCall:=Qq (fun W (h:Below wr.heap.size wr W)=>HP.out W x y cx cy (HBr.out.thn h) (Qy hx) (Qy hy) (Ql.frame hrx (.of_below h)) (Uq.frame hry (.of_below h)))
   obtain ⟨p3x,k3x,p4x,k4x,hcsx,_⟩:=Qh.cells hrx;simp only [vcs] at hcsx;subst hcsx
   obtain ⟨ky,sy,ny,p3y,n3y,k3y,p4y,n4y,k4y,rfl⟩:=Y7.cells hry
   have d0:=hcx 0 _ rfl;have d1:=hcx 1 _ rfl;have d2:=hcx 2 _ rfl;have d3:=hcx 3 _ rfl;have d4:=hcx 4 _ rfl
   have e0:=hcy 0 _ rfl;have e1:=hcy 1 _ rfl;have e2:=hcy 2 _ rfl;have e3:=hcy 3 _ rfl;have e4:=hcy 4 _ rfl
   simp only [show Ql.k=5 from rfl,Nat.add_zero] at d0 d1 d2 d3 d4
   simp only [show Uq.k=5 from rfl,Nat.add_zero] at e0 e1 e2 e3 e4
   have hE2:(p x y&&eqL p (a.drop (k+1)) (b.drop (k+1)))=r:=by have:=hE.out;rw [hda,hdb] at this;exact this
   have HE2:=Qq hE2
   clear hE hE2 hda hdb hka hkb hx hy hrx hry hcx hcy
   cases hq:p x y with
   | true=>
    rw [hq] at HCall HE2
    go_wp2_with (go_at_fn g;refine (HCall.out _ (Zv _ _ _)).mono ?_;rintro e w' ⟨rfl,hw⟩;have HW:=Qq (HBr.out.thn ((Zv wr _ _).thn hw));clear hw)
    go_roundw
    case measure=>simp [intOf];omega
    case rel=>exact ⟨k+1,by omega,by go_num,(show Aside _ from by have:=HE2.out;rwa [Bool.true_and] at this),HW.out⟩
   | false=>
    rw [hq] at HCall HE2
    have hr0:r=false:=by have:=HE2.out;rw [Bool.false_and] at this;exact this.symm
    subst hr0
    go_wp2_with (go_at_fn g;refine (HCall.out _ (Zv _ _ _)).mono ?_;rintro e w' ⟨rfl,hw⟩;have HW:=Qq (HBr.out.thn ((Zv wr _ _).thn hw));clear hw)
    go_ret
    exact ⟨rfl,HW.out⟩
  have hr1:r=true:=by
   have:=hE.out
   rw [List.drop_eq_nil_of_le (by rw [HNa.out];omega),List.drop_eq_nil_of_le (by rw [HNb.out];omega)] at this
   exact this.symm
  subst hr1
  clear hE
  go_wp2_with fail
  go_ret
  exact ⟨rfl,HBr.out⟩
 rw [Ud p a b hn]
 have hq:((a.length:Int) != (b.length:Int))=true:=by rw [bne_iff_ne];omega
 clear hn
 go_enter func150,ntmps150
 go_wp2_with fail
 go_ret
 exact ⟨rfl,Qz _ _⟩
theorem Rv (g:Nat) (lb:Array Value) (eg:∀ args w,(callFunc g args).run prog w=.ok (.enter g args) w) (S:Nat→Prop) (va vb:Value) (a:List Val) (b:List Val) (w:World) (ha:Sl Ql S w va a) (hb:Sl Ql S w vb b) (p:Val→Val→Bool)
  (hp:∀ (W:World) (x:Val) (y:Val) (cx cy:List Value),Below w.heap.size w W→x ∈ a→y ∈ b→Ql.R S W cx x→Ql.R S W cy y→Calls prog g (#[.agg cx.toArray,.agg cy.toArray]++lb) W fun e w'=>e=.returned (.bool (p x y))∧Below W.heap.size W w'):
  Calls prog 44 #[va,vb,.func (.func g) #[] lb] w fun e w'=>e=.returned (.bool (eqL p a b))∧Below w.heap.size w w':=by
 obtain ⟨pa,ca,rfl,hla⟩:=ha.len
 obtain ⟨pb,cb,rfl,hlb⟩:=hb.len
 have HA:=Qq ha;have HB:=Qq hb;have HP:=Qq hp
 clear ha hb hp
 by_cases hn:a.length=b.length
 ·obtain ⟨n,hn1⟩:=eX (b.length)
  rw [hn1] at hn hlb HB
  rw [hn] at HA hla
  rw [hn,hn1]
  obtain ⟨r,hr⟩:=eX (eqL p a b)
  rw [hr]
  have HR:=Qq hr;have HNa:=Qq hn;have HNb:=Qq hn1
  clear hr hn hn1
  go_enter func44,ntmps44
  go_wp2_with fail
  go_loopw [17] (fun i wr=>∃ k:Nat,k≤n∧i=.int .i64 k∧Aside (eqL p (a.drop k) (b.drop k)=r)∧Below w.heap.size w wr) (fun i _=>n - (intOf i).toNat)
  case atStart=>exact ⟨0,Q8 _,rfl,HR.out,Qz _ _⟩
  obtain ⟨k,hkn,rfl,hE,hBr⟩:=hrel
  have HBr:=Qq hBr
  clear hBr
  by_cases hlt:k<n
  ·have hi1:(0:Int)≤(k:Int):=by omega
   have hi2:(k:Int)<(n:Int):=by omega
   have hka:k<a.length:=by rw [HNa.out];exact hlt
   have hkb:k<b.length:=by rw [HNb.out];exact hlt
   obtain ⟨x,hx⟩:∃ x,a[k]?=some x:=⟨_,Qx hka⟩
   obtain ⟨y,hy⟩:∃ y,b[k]?=some y:=⟨_,Qx hkb⟩
   have hda:a.drop k=x::a.drop (k+1):=by rw [List.drop_eq_getElem_cons hka];rw [Qx hka] at hx;cases hx;rfl
   have hdb:b.drop k=y::b.drop (k+1):=by rw [List.drop_eq_getElem_cons hkb];rw [Qx hkb] at hy;cases hy;rfl
   obtain ⟨ba,oa,cx,rfl,hba,-,-,hrx,hcx⟩:=(HA.out.below HBr.out).elem hx
   obtain ⟨bb,ob,cy,rfl,hbb,-,-,hry,hcy⟩:=(HB.out.below HBr.out).elem hy
   have HCall:=Qq (fun W (h:Below wr.heap.size wr W)=>HP.out W x y cx cy (HBr.out.thn h) (Qy hx) (Qy hy) (Ql.frame hrx (.of_below h)) (Ql.frame hry (.of_below h)))
   obtain ⟨p3x,k3x,p4x,k4x,hcsx,_⟩:=Qh.cells hrx;simp only [vcs] at hcsx;subst hcsx
   obtain ⟨p3y,k3y,p4y,k4y,hcsy,_⟩:=Qh.cells hry;simp only [vcs] at hcsy;subst hcsy
   have d0:=hcx 0 _ rfl;have d1:=hcx 1 _ rfl;have d2:=hcx 2 _ rfl;have d3:=hcx 3 _ rfl;have d4:=hcx 4 _ rfl
   have e0:=hcy 0 _ rfl;have e1:=hcy 1 _ rfl;have e2:=hcy 2 _ rfl;have e3:=hcy 3 _ rfl;have e4:=hcy 4 _ rfl
   simp only [show Ql.k=5 from rfl,Nat.add_zero] at d0 d1 d2 d3 d4
   simp only [show Ql.k=5 from rfl,Nat.add_zero] at e0 e1 e2 e3 e4
   have hE2:(p x y&&eqL p (a.drop (k+1)) (b.drop (k+1)))=r:=by have:=hE.out;rw [hda,hdb] at this;exact this
   have HE2:=Qq hE2
   clear hE hE2 hda hdb hka hkb hx hy hrx hry hcx hcy
   cases hq:p x y with
   | true=>
    rw [hq] at HCall HE2
    go_wp2_with (go_at_fn g;refine (HCall.out _ (Zv _ _ _)).mono ?_;rintro e w' ⟨rfl,hw⟩;have HW:=Qq (HBr.out.thn ((Zv wr _ _).thn hw));clear hw)
    go_roundw
    case measure=>simp [intOf];omega
    case rel=>exact ⟨k+1,by omega,by go_num,(show Aside _ from by have:=HE2.out;rwa [Bool.true_and] at this),HW.out⟩
   | false=>
    rw [hq] at HCall HE2
    have hr0:r=false:=by have:=HE2.out;rw [Bool.false_and] at this;exact this.symm
    subst hr0
    go_wp2_with (go_at_fn g;refine (HCall.out _ (Zv _ _ _)).mono ?_;rintro e w' ⟨rfl,hw⟩;have HW:=Qq (HBr.out.thn ((Zv wr _ _).thn hw));clear hw)
    go_ret
    exact ⟨rfl,HW.out⟩
  have hr1:r=true:=by
   have:=hE.out
   rw [List.drop_eq_nil_of_le (by rw [HNa.out];omega),List.drop_eq_nil_of_le (by rw [HNb.out];omega)] at this
   exact this.symm
  subst hr1
  clear hE
  go_wp2_with fail
  go_ret
  exact ⟨rfl,HBr.out⟩
 rw [Ud p a b hn]
 have hq:((a.length:Int) != (b.length:Int))=true:=by rw [bne_iff_ne];omega
 clear hn
 go_enter func44,ntmps44
 go_wp2_with fail
 go_ret
 exact ⟨rfl,Qz _ _⟩
theorem Rp (g:Nat) (lb:Array Value) (eg:∀ args w,(callFunc g args).run prog w=.ok (.enter g args) w) (S:Nat→Prop) (va vb:Value) (a:List Tbl) (b:List Rel) (w:World) (ha:Sl Qt S w va a) (hb:Sl Z0 S w vb b) (p:Tbl→Rel→Bool)
  (hp:∀ (W:World) (x:Tbl) (y:Rel) (cx cy:List Value),Below w.heap.size w W→x ∈ a→y ∈ b→Qt.R S W cx x→Z0.R S W cy y→Calls prog g (#[.agg cx.toArray,.agg cy.toArray]++lb) W fun e w'=>e=.returned (.bool (p x y))∧Below W.heap.size W w'):
  Calls prog 118 #[va,vb,.func (.func g) #[] lb] w fun e w'=>e=.returned (.bool (eqL p a b))∧Below w.heap.size w w':=by
 obtain ⟨pa,ca,rfl,hla⟩:=ha.len
 obtain ⟨pb,cb,rfl,hlb⟩:=hb.len
 have HA:=Qq ha;have HB:=Qq hb;have HP:=Qq hp
 clear ha hb hp
 by_cases hn:a.length=b.length
 ·obtain ⟨n,hn1⟩:=eX (b.length)
  rw [hn1] at hn hlb HB
  rw [hn] at HA hla
  rw [hn,hn1]
  obtain ⟨r,hr⟩:=eX (eqL p a b)
  rw [hr]
  have HR:=Qq hr;have HNa:=Qq hn;have HNb:=Qq hn1
  clear hr hn hn1
  go_enter func118,ntmps118
  go_wp2_with fail
  go_loopw [17] (fun i wr=>∃ k:Nat,k≤n∧i=.int .i64 k∧Aside (eqL p (a.drop k) (b.drop k)=r)∧Below w.heap.size w wr) (fun i _=>n - (intOf i).toNat)
  case atStart=>exact ⟨0,Q8 _,rfl,HR.out,Qz _ _⟩
  obtain ⟨k,hkn,rfl,hE,hBr⟩:=hrel
  have HBr:=Qq hBr
  clear hBr
  by_cases hlt:k<n
  ·have hi1:(0:Int)≤(k:Int):=by omega
   have hi2:(k:Int)<(n:Int):=by omega
   have hka:k<a.length:=by rw [HNa.out];exact hlt
   have hkb:k<b.length:=by rw [HNb.out];exact hlt
   obtain ⟨x,hx⟩:∃ x,a[k]?=some x:=⟨_,Qx hka⟩
   obtain ⟨y,hy⟩:∃ y,b[k]?=some y:=⟨_,Qx hkb⟩
   have hda:a.drop k=x::a.drop (k+1):=by rw [List.drop_eq_getElem_cons hka];rw [Qx hka] at hx;cases hx;rfl
   have hdb:b.drop k=y::b.drop (k+1):=by rw [List.drop_eq_getElem_cons hkb];rw [Qx hkb] at hy;cases hy;rfl
   obtain ⟨ba,oa,cx,rfl,hba,-,-,hrx,hcx⟩:=(HA.out.below HBr.out).elem hx
   obtain ⟨bb,ob,cy,rfl,hbb,-,-,hry,hcy⟩:=(HB.out.below HBr.out).elem hy
   have HCall:=Qq (fun W (h:Below wr.heap.size wr W)=>HP.out W x y cx cy (HBr.out.thn h) (Qy hx) (Qy hy) (Qt.frame hrx (.of_below h)) (Z0.frame hry (.of_below h)))
   obtain ⟨cpx,ccx,kpx,kcx,rpx,rcx,kx,s1x,nx,s2x,p1x,n1x,c1x,p2x,n2x,c2x,p3x,n3x,c3x,ax,zx,hcsx,_⟩:=Zk hrx;simp only [tcs] at hcsx;subst hcsx
   obtain ⟨rpy,rcy,rfl⟩:=So hry
   have d0:=hcx 0 _ rfl;have d1:=hcx 1 _ rfl;have d2:=hcx 2 _ rfl;have d3:=hcx 3 _ rfl;have d4:=hcx 4 _ rfl;have d5:=hcx 5 _ rfl;have d6:=hcx 6 _ rfl;have d7:=hcx 7 _ rfl;have d8:=hcx 8 _ rfl;have d9:=hcx 9 _ rfl;have d10:=hcx 10 _ rfl;have d11:=hcx 11 _ rfl;have d12:=hcx 12 _ rfl
   have e0:=hcy 0 _ rfl;have e1:=hcy 1 _ rfl
   simp only [show Qt.k=13 from rfl,Nat.add_zero] at d0 d1 d2 d3 d4 d5 d6 d7 d8 d9 d10 d11 d12
   simp only [show Z0.k=2 from rfl,Nat.add_zero] at e0 e1
   have hE2:(p x y&&eqL p (a.drop (k+1)) (b.drop (k+1)))=r:=by have:=hE.out;rw [hda,hdb] at this;exact this
   have HE2:=Qq hE2
   clear hE hE2 hda hdb hka hkb hx hy hrx hry hcx hcy
   cases hq:p x y with
   | true=>
    rw [hq] at HCall HE2
    go_wp2_with (go_at_fn g;refine (HCall.out _ (Zv _ _ _)).mono ?_;rintro e w' ⟨rfl,hw⟩;have HW:=Qq (HBr.out.thn ((Zv wr _ _).thn hw));clear hw)
    go_roundw
    case measure=>simp [intOf];omega
    case rel=>exact ⟨k+1,by omega,by go_num,(show Aside _ from by have:=HE2.out;rwa [Bool.true_and] at this),HW.out⟩
   | false=>
    rw [hq] at HCall HE2
    have hr0:r=false:=by have:=HE2.out;rw [Bool.false_and] at this;exact this.symm
    subst hr0
    go_wp2_with (go_at_fn g;refine (HCall.out _ (Zv _ _ _)).mono ?_;rintro e w' ⟨rfl,hw⟩;have HW:=Qq (HBr.out.thn ((Zv wr _ _).thn hw));clear hw)
    go_ret
    exact ⟨rfl,HW.out⟩
  have hr1:r=true:=by
   have:=hE.out
   rw [List.drop_eq_nil_of_le (by rw [HNa.out];omega),List.drop_eq_nil_of_le (by rw [HNb.out];omega)] at this
   exact this.symm
  subst hr1
  clear hE
  go_wp2_with fail
  go_ret
  exact ⟨rfl,HBr.out⟩
 rw [Ud p a b hn]
 have hq:((a.length:Int) != (b.length:Int))=true:=by rw [bne_iff_ne];omega
 clear hn
 go_enter func118,ntmps118
 go_wp2_with fail
 go_ret
 exact ⟨rfl,Qz _ _⟩
theorem T7 (S:Nat→Prop) (va vb:Value) (a b:List Bs) (w:World) (ha:Sl Qp S w va a) (hb:Sl Qp S w vb b):
  Calls prog 149 #[va,vb] w fun e w'=>e=.returned (.bool (eqL (fun x y=>decide (x=y)) a b))∧Below w.heap.size w w':=by
 obtain ⟨pa,ca,rfl,hla⟩:=ha.len
 obtain ⟨pb,cb,rfl,hlb⟩:=hb.len
 have HA:=Qq ha;have HB:=Qq hb
 clear ha hb
 by_cases hn:a.length=b.length
 ·obtain ⟨n,hn1⟩:=eX (b.length)
  rw [hn1] at hn hlb HB
  rw [hn] at HA hla
  rw [hn,hn1]
  obtain ⟨r,hr⟩:=eX (eqL (fun (x y:Bs)=>decide (x=y)) a b)
  rw [hr]
  have HR:=Qq hr;have HNa:=Qq hn;have HNb:=Qq hn1
  clear hr hn hn1
  go_enter func149,ntmps149
  go_wp2_with fail
  go_loopw [13] (fun i wr=>∃ k:Nat,k≤n∧i=.int .i64 k∧Aside (eqL (fun (x y:Bs)=>decide (x=y)) (a.drop k) (b.drop k)=r)∧Below w.heap.size w wr) (fun i _=>n - (intOf i).toNat)
  case atStart=>exact ⟨0,Q8 _,rfl,HR.out,Qz _ _⟩
  obtain ⟨k,hkn,rfl,hE,hBr⟩:=hrel
  have HBr:=Qq hBr
  clear hBr
  by_cases hlt:k<n
  ·have hi1:(0:Int)≤(k:Int):=by omega
   have hi2:(k:Int)<(n:Int):=by omega
   have hka:k<a.length:=by rw [HNa.out];exact hlt
   have hkb:k<b.length:=by rw [HNb.out];exact hlt
   obtain ⟨x,hx⟩:∃ x,a[k]?=some x:=⟨_,Qx hka⟩
   obtain ⟨y,hy⟩:∃ y,b[k]?=some y:=⟨_,Qx hkb⟩
   have hda:a.drop k=x::a.drop (k+1):=by rw [List.drop_eq_getElem_cons hka];rw [Qx hka] at hx;cases hx;rfl
   have hdb:b.drop k=y::b.drop (k+1):=by rw [List.drop_eq_getElem_cons hkb];rw [Qx hkb] at hy;cases hy;rfl
   obtain ⟨ba,oa,rfl,c1,-⟩:=(HA.out.below HBr.out).str hx
   obtain ⟨bb,ob,rfl,c2,-⟩:=(HB.out.below HBr.out).str hy
   have hE2:(decide (x=y)&&eqL (fun (x y:Bs)=>decide (x=y)) (a.drop (k+1)) (b.drop (k+1)))=r:=by have:=hE.out;rw [hda,hdb] at this;exact this
   have HE2:=Qq hE2
   clear hE hE2 hda hdb hka hkb hx hy
   by_cases hq:x=y
   ·subst hq
    have hq1:(x != x)=false:=by simp
    go_wp2_with fail
    go_quiet (fail)
    go_wp2
    go_roundw
    case measure=>simp [intOf];omega
    case rel=>exact ⟨k+1,by omega,by go_num,(show Aside _ from by have:=HE2.out;simp at this;exact this),HBr.out.thn (Zy _ _)⟩
   have hq1:(x != y)=true:=by rw [bne_iff_ne];exact hq
   have hr0:r=false:=by have:=HE2.out;rw [decide_eq_false hq,Bool.false_and] at this;exact this.symm
   subst hr0
   have hq2:(x==y)=false:=by rw [← Bool.not_eq_true,beq_iff_eq];exact hq
   clear hq
   go_wp2_with fail
   go_quiet (fail)
   go_wp2
   go_ret
   exact ⟨rfl,HBr.out.thn (Zy _ _)⟩
  have hr1:r=true:=by
   have:=hE.out
   rw [List.drop_eq_nil_of_le (by rw [HNa.out];omega),List.drop_eq_nil_of_le (by rw [HNb.out];omega)] at this
   exact this.symm
  subst hr1
  clear hE
  go_wp2_with fail
  go_ret
  exact ⟨rfl,HBr.out⟩
 rw [Ud _ a b hn]
 have hq:((a.length:Int) != (b.length:Int))=true:=by rw [bne_iff_ne];omega
 clear hn
 go_enter func149,ntmps149
 go_wp2_with fail
 go_ret
 exact ⟨rfl,Qz _ _⟩
end Go.Proofs.YtppbaladeefnkaaGreatDoor
