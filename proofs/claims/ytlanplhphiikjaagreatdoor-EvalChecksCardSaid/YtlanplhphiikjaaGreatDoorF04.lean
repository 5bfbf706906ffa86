import Derived.Test.YtlanplhphiikjaaGreatDoorF03
import Derived.Test.YtlanplhphiikjaaGreatDoorF02
set_option maxRecDepth 100000
set_option maxHeartbeats 400000000
namespace Go.Proofs.YtlanplhphiikjaaGreatDoor
open Go.RowKit Go.Shelf Go.Lib Tryz
theorem Hl (c lo hi:Int) (w:World):Calls prog 329 #[.int .u8 c,.int .u8 lo,.int .u8 hi] w fun e w'=>e=.returned (.bool (decide (lo<=c)&&decide (c<=hi)))/\w=w':=by
 go_enter func329,ntmps329
 go_wp2
 all_goals (go_ret;exact ⟨by simp [*] <;> omega,rfl⟩)
theorem Gh (a b:UInt8):decide (a<=b)=decide ((a.toNat:Int)<=(b.toNat:Int)):=by
 simp [UInt8.le_iff_toNat_le]
theorem digit_eq (c:UInt8):Et c=(decide ((48:Int)<=(c.toNat:Int))&&decide ((c.toNat:Int)<=57)):=by
 unfold Et;rw [Gh,Gh];rfl
theorem Fv (c:UInt8):Gv c=(decide ((97:Int)<=(c.toNat:Int))&&decide ((c.toNat:Int)<=122)):=by
 unfold Gv;rw [Gh,Gh];rfl
theorem En (c:UInt8):Lq c=(decide ((65:Int)<=(c.toNat:Int))&&decide ((c.toNat:Int)<=90)):=by
 unfold Lq;rw [Gh,Gh];rfl
theorem Gi (c:UInt8) (w:World):Calls prog 316 #[.int .u8 c.toNat] w fun e w'=>e=.returned (.bool (Et c))/\w=w':=by
 rw [digit_eq]
 go_enter func316,ntmps316
 go_wp2_with (go_at_call 329;refine (Hl _ _ _ _).mono ?_;rintro e w' ⟨rfl,rfl⟩)
 go_ret
 exact ⟨rfl,rfl⟩
theorem Jk (c:UInt8) (w:World):Calls prog 311 #[.int .u8 c.toNat] w fun e w'=>e=.returned (.bool (Gv c))/\w=w':=by
 rw [Fv]
 go_enter func311,ntmps311
 go_wp2_with (go_at_call 329;refine (Hl _ _ _ _).mono ?_;rintro e w' ⟨rfl,rfl⟩)
 go_ret
 exact ⟨rfl,rfl⟩
theorem Gg (c:UInt8) (w:World):Calls prog 314 #[.int .u8 c.toNat] w fun e w'=>e=.returned (.bool (Lq c))/\w=w':=by
 rw [En]
 go_enter func314,ntmps314
 go_wp2_with (go_at_call 329;refine (Hl _ _ _ _).mono ?_;rintro e w' ⟨rfl,rfl⟩)
 go_ret
 exact ⟨rfl,rfl⟩
theorem H7 (a b:UInt8):(a==b)=((a.toNat:Int)==(b.toNat:Int)):=by
 rw [Bool.eq_iff_iff,beq_iff_eq,beq_iff_eq,<- UInt8.toNat_inj];omega
theorem Fm (c:UInt8):Mq c=((c.toNat:Int)==9||(c.toNat:Int)==10||(c.toNat:Int)==13||(c.toNat:Int)==32):=by
 unfold Mq;rw [H7,H7,H7,H7];rfl
theorem Gs (c:UInt8) (w:World):Calls prog 310 #[.int .u8 c.toNat] w fun e w'=>e=.returned (.bool (Mq c))/\w=w':=by
 rw [Fm]
 go_enter func310,ntmps310
 go_wp2
 all_goals (go_ret;exact ⟨by simp [*],rfl⟩)
theorem Eb (c:UInt8) (w:World):Calls prog 312 #[.int .u8 c.toNat] w fun e w'=>e=.returned (.bool (Gj c))/\w=w':=by
 have h:Gj c=(Gv c||Et c||((c.toNat:Int)==95)):=by unfold Gj;rw [H7];rfl
 rw [h]
 go_enter func312,ntmps312
 go_wp2_with (first | (go_at_call 311;refine (Jk _ _).mono ?_;rintro e w' ⟨rfl,rfl⟩) | (go_at_call 316;refine (Gi _ _).mono ?_;rintro e w' ⟨rfl,rfl⟩))
 all_goals (go_ret;exact ⟨by simp [*],rfl⟩)
theorem E7 (c:UInt8) (w:World):Calls prog 315 #[.int .u8 c.toNat] w fun e w'=>e=.returned (.bool (Ek c))/\w=w':=by
 unfold Ek
 go_enter func315,ntmps315
 go_wp2_with (first | (go_at_call 311;refine (Jk _ _).mono ?_;rintro e w' ⟨rfl,rfl⟩) | (go_at_call 316;refine (Gi _ _).mono ?_;rintro e w' ⟨rfl,rfl⟩) | (go_at_call 314;refine (Gg _ _).mono ?_;rintro e w' ⟨rfl,rfl⟩))
 all_goals (go_ret;exact ⟨by simp [*],rfl⟩)
def svs (ls:List Bs):List Value:=ls.map sv
def X7 (w:World):Prop:=w.rangeAt 5 0 (svs kws)
theorem Gu (l:Bs):bl ⟨l.toArray⟩=l:=rfl
theorem Lb (s:ByteArray) (n:Nat) (h:n<s.size):(bl s)[n]?=some s[n]:=by
 simp only [bl,Array.getElem?_toList]
 exact Array.getElem?_eq_getElem h
theorem bl_len (s:ByteArray):(bl s).length=s.size:=Array.length_toList
theorem Mb {p:UInt8->Bool} {s:ByteArray} {n:Nat} (hn:n<=tk p (bl s)) (h:n<s.size) (hp:p s[n]=true):n+1<=tk p (bl s):=by
 rcases Nat.lt_or_ge n (tk p (bl s)) with h' | h'
 ·omega
 have e:tk p (bl s)=n:=Oa
 have:=Ms (p:=p) (l:=bl s) (c:=s[n]) (by rw [e];exact Lb s n h)
 rw [hp] at this;cases this
theorem tk_end {p:UInt8->Bool} {s:ByteArray} {n:Nat} (hn:n<=tk p (bl s)) (h:n<s.size) (hp:p s[n]=false):tk p (bl s)=n:=by
 rcases Nat.lt_or_ge n (tk p (bl s)) with h' | h'
 ·have:=tk_run h' (Lb s n h);rw [hp] at this;cases this
 omega
theorem tk_out {p:UInt8->Bool} {s:ByteArray} {n:Nat} (hn:n<=tk p (bl s)) (h:¬ n<s.size):tk p (bl s)=n:=by
 have:=tk_le p (bl s);rw [bl_len] at this;omega
theorem Jq {k:IntKind} {a b:Int} (h:a=b):Ending.returned (.int k a)=.returned (.int k b):=by rw [h]
theorem run_word (s:ByteArray) (w:World) (hs:s.size<=maxLen):
  Calls prog 296 #[.string s,.func (.func 312) #[] #[]] w fun e w'=>e=.returned (.int .i64 (tk Gj (bl s)))/\w=w':=by
 unfold maxLen at hs
 go_enter func296,ntmps296
 go_wp2
 go_loop [5] (fun i=>∃ k:Nat,k<=tk Gj (bl s)/\i=.int .i64 k) (fun i=>s.size - (intOf i).toNat)
 case atStart=>exact ⟨0,Q3 _,rfl⟩
 obtain ⟨n,hn,rfl⟩:=hrel
 have G:=Qq hn;clear hn
 by_cases hlt:n<s.size
 ·by_cases hp:Gj s[n]=true
  ·have D:=Qq (Mb G.out hlt hp)
   go_wp2_with (go_at_call 312;refine (Eb _ _).mono ?_;rintro e w' ⟨rfl,rfl⟩)
   go_round
   case rel=>exact ⟨n+1,D.out,by go_num⟩
   case measure=>simp [intOf];omega
  have I:Gj s[n]=false:=by simpa using hp
  have D:=Qq (tk_end G.out hlt I);clear hp
  go_wp2_with (go_at_call 312;refine (Eb _ _).mono ?_;rintro e w' ⟨rfl,rfl⟩)
  go_ret
  exact ⟨Jq (by rw [D.out]),rfl⟩
 have D:=Qq (tk_out G.out hlt)
 go_wp2
 go_ret
 exact ⟨Jq (by rw [D.out]),rfl⟩
theorem run_name (s:ByteArray) (w:World) (hs:s.size<=maxLen):
  Calls prog 296 #[.string s,.func (.func 315) #[] #[]] w fun e w'=>e=.returned (.int .i64 (tk Ek (bl s)))/\w=w':=by
 unfold maxLen at hs
 go_enter func296,ntmps296
 go_wp2
 go_loop [5] (fun i=>∃ k:Nat,k<=tk Ek (bl s)/\i=.int .i64 k) (fun i=>s.size - (intOf i).toNat)
 case atStart=>exact ⟨0,Q3 _,rfl⟩
 obtain ⟨n,hn,rfl⟩:=hrel
 have G:=Qq hn;clear hn
 by_cases hlt:n<s.size
 ·by_cases hp:Ek s[n]=true
  ·have D:=Qq (Mb G.out hlt hp)
   go_wp2_with (go_at_call 315;refine (E7 _ _).mono ?_;rintro e w' ⟨rfl,rfl⟩)
   go_round
   case rel=>exact ⟨n+1,D.out,by go_num⟩
   case measure=>simp [intOf];omega
  have I:Ek s[n]=false:=by simpa using hp
  have D:=Qq (tk_end G.out hlt I);clear hp
  go_wp2_with (go_at_call 315;refine (E7 _ _).mono ?_;rintro e w' ⟨rfl,rfl⟩)
  go_ret
  exact ⟨Jq (by rw [D.out]),rfl⟩
 have D:=Qq (tk_out G.out hlt)
 go_wp2
 go_ret
 exact ⟨Jq (by rw [D.out]),rfl⟩
theorem J9 (f g:Nat->Bool):∀ (n lo hi:Nat),(∀ t,t<hi->f t=g t)->Lib.bsGo f n lo hi=Lib.bsGo g n lo hi
 | 0,_,_,_=>rfl
 | n+1,lo,hi,h=>by
  unfold Lib.bsGo
  by_cases hl:lo<hi
  ·rw [if_pos hl,if_pos hl,h ((lo+hi) / 2) Oa,J9 f g n _ hi h,J9 f g n lo _ (fun t ht=>h t Oa)]
  rw [if_neg hl,if_neg hl]
theorem Vy:∀ (x y:List UInt8),Op.bytesLess x y=decide (x<y)
 | [],[]=>by simp [Op.bytesLess]
 | _::_,[]=>by simp [Op.bytesLess]
 | [],_::_=>by simp [Op.bytesLess]
 | a::x,b::y=>by
  rw [Op.bytesLess,Vy x y]
  simp only [List.cons_lt_cons_iff]
  by_cases h1:a<b <;> by_cases h2:a=b <;> by_cases h3:x<y <;> simp [h1,h2,h3]
theorem split_at (f:Nat->Bool) (n:Nat) (hd:∀ i j,i<j->j<n->f j=true->f i=true):∃ k,k<=n/\(∀ t,t<k->f t=true)/\(∀ t,k<=t->t<n->f t=false):=by
 induction n with
 | zero=>exact ⟨0,Q4 _,fun t h=>Oa,fun t _ h=>Oa⟩
 | succ n ih=>
  obtain ⟨k,h1,h2,h3⟩:=ih (fun i j D hj=>hd i j D Oa)
  cases hn:f n with
  | true=>exact ⟨n+1,Q4 _,fun t ht=>by
    by_cases e:t=n
    ·rw [e];exact hn
    exact hd t n Oa Oa hn,fun t _ _=>Oa⟩
  | false=>exact ⟨k,Oa,h2,fun t ht G=>by
    by_cases e:t=n
    ·rw [e];exact hn
    exact h3 t ht Oa⟩
theorem bs_ok (S:Nat->Bs) (n:Nat) (x:Bs) (hs:∀ i j,i<j->j<n->S i<S j) (k:Nat) (hk:Lib.bsGo (fun t=>Op.bytesLess (S t) x) n 0 n=k):
  (k<n/\S k=x)↔∃ t,t<n/\S t=x:=by
 obtain ⟨k0,h1,h2,h3⟩:=split_at (fun t=>Op.bytesLess (S t) x) n (fun i j G hj h=>by
  simp only [Vy,decide_eq_true_eq] at h |-
  exact List.lt_trans (hs i j G hj) h)
 have e:Lib.bsGo (fun t=>Op.bytesLess (S t) x) n 0 n=k0:=by
  rw [J9 _ (fun t=>decide (t<n)&&Op.bytesLess (S t) x) n 0 n (fun t D=>by simp [D])]
  exact Lib.bsGo_spec _ k0 (fun t D=>by simp [show t<n by omega,h2 t D]) (fun t D=>by
   by_cases htn:t<n
   ·simp [h3 t D htn]
   simp [htn]) n 0 n Oa Oa h1
 rw [hk] at e;subst e
 constructor
 ·rintro ⟨a,b⟩;exact ⟨k,a,b⟩
 rintro ⟨t,D,rfl⟩
 have I:k=t:=by
  rcases Nat.lt_trichotomy k t with h | h | h
  ·have:=h3 k (Q4 _) Oa
   simp only [Vy,decide_eq_false_iff_not] at this
   exact absurd (hs k t h D) this
  ·exact h
  have:=h2 t h
  simp only [Vy,decide_eq_true_eq] at this
  exact absurd this (List.lt_irrefl _)
 subst I;exact ⟨D,rfl⟩
theorem Lr:∀ i j,i<j->j<26->kws.getD i []<kws.getD j []:=by
 have:∀ j,j<26->∀ i,i<j->kws.getD i []<kws.getD j []:=Of
 exact fun i j h1 h2=>this j h2 i h1
theorem isKw_iff (x:Bs):Oq x=true↔∃ t,t<26/\kws.getD t []=x:=by
 have hl:kws.length=26:=rfl
 unfold Oq
 rw [List.contains_iff_mem]
 constructor
 ·intro h
  obtain ⟨j,hj,e⟩:=List.getElem_of_mem h
  exact ⟨j,Oa,by rw [Qm,Qx hj];exact e⟩
 rintro ⟨t,ht,e⟩
 rw [Qm,Qx Oa] at e
 rw [<- e];exact Q8 _
theorem ba_ext {a b:ByteArray}:a=b↔bl a=bl b:=by
 constructor
 ·rintro rfl;rfl
 intro h
 apply ByteArray.ext
 exact Array.toList_inj.1 h
theorem O1 (s:ByteArray) (w:World) (hT:X7 w) (c:Nat):
  Calls prog 238 #[Ol 5 0 26 c,.string s] w fun e w'=>(∃ n:Int,e=.returned (.tuple #[n,.bool (Oq (bl s))]))/\∃ q,w'=w.drewN q:=by
 refine (Any2.slices_BinarySearch_string Tryz.laysBS 5 0 26 c (fun t=>⟨(kws.getD t []).toArray⟩) s w Oa (fun j hj=>?_)).mono ?_
 ·have hl:kws.length=26:=rfl
  refine hT j _ ?_
  simp only [svs,List.getElem?_map,Qx (show j<kws.length by omega),Option.map_some,Qm,Option.getD_some]
  rfl
 rintro e w' ⟨rfl,hq⟩
 refine ⟨⟨((Lib.bsGo (fun t=>Op.bytesLess (ByteArray.toList ⟨(kws.getD t []).toArray⟩) s.toList) 26 0 26:Nat):Int),?_⟩,hq⟩
 simp only [ByteArray.toList_mk]
 rw [Lib.toList_data]
 have:=bs_ok (fun t=>kws.getD t []) 26 (bl s) Lr _ rfl
 congr 6
 rw [Bool.eq_iff_iff,decide_eq_true_iff,isKw_iff,<- this]
 simp only [ba_ext,Gu]
theorem Gx (s:ByteArray) (w:World) (hT:X7 w):
  Calls prog 313 #[.string s] w fun e w'=>e=.returned (.bool (Oq (bl s)))/\∃ q,w'=w.drewN q:=by
 have HK:=Qq (fun c=>O1 s w hT c)
 go_enter func313,ntmps313
 go_wp2_with (go_at_call 238;refine (HK.out _).mono ?_;rintro e w' ⟨⟨n,rfl⟩,q,rfl⟩)
 go_ret
 exact ⟨rfl,_,rfl⟩
def zz (n:Int):Nat:=if 0<=n then (2*n).toNat else (-2*n - 1).toNat
theorem xor_zero (x:Int) (h0:0<=x) (h1:x<18446744073709551616):bits BinOp.xor IntKind.u64 x 0=x:=by
 show IntKind.u64.wrap ((BitVec.ofInt 64 x ^^^ BitVec.ofInt 64 0).toNat:Int)=x
 have e:BitVec.ofInt 64 0=0#64:=Of
 rw [e,BitVec.xor_zero,IntKind.wrap_u64,BitVec.toNat_ofInt]
 omega
theorem xor_ones (x:Int) (h0:0<=x) (h1:x<18446744073709551616):bits BinOp.xor IntKind.u64 x 18446744073709551615=18446744073709551615 - x:=by
 show IntKind.u64.wrap ((BitVec.ofInt 64 x ^^^ BitVec.ofInt 64 18446744073709551615).toNat:Int)=_
 have e:BitVec.ofInt 64 18446744073709551615=BitVec.allOnes 64:=Of
 rw [e,BitVec.xor_allOnes,BitVec.toNat_not,IntKind.wrap_u64,BitVec.toNat_ofInt]
 omega
mutual
def Uz:Ex->Bool
 | .mk k _ _ _ _ _ kids _ _=>!([4,10,15,16].any fun y=>decide (y=k))&&Be kids
def Be:List Ex->Bool
 | []=>true
 | e::l=>Uz e&&Be l
end
theorem Hp (l:List Ex):Be l=!(l.any fun e=>!Uz e):=by
 induction l with
 | nil=>rfl
 | cons e l ih=>simp only [Be,ih,List.any_cons,Bool.not_or,Bool.not_not]
section
variable {f:Ex->List Bs->List Val->Option Val} {names binds ns:List Bs} {kids:List Ex} {vs:List Val} {x0 x1:Ex} {v u:Val} {j:Nat} {z:Bs}
end
section
variable {f:Ex->Option Val} {nm:Bs} {kids:List Ex} {x0 x1:Ex} {v u:Val}
end
end Go.Proofs.YtlanplhphiikjaaGreatDoor
