import Derived.Test.YtppbaladeefnkaaGreatDoorV16
set_option maxRecDepth 100000
set_option maxHeartbeats 400000000
namespace Go.Proofs.YtppbaladeefnkaaGreatDoor
open Go.RowKit Go.Shelf Go.Lib Tryz
def N8:List Bs:=[[116,121,112,101],[116,97,98,108,101],[107,101,121],[114,101,102],[116,111],[99,104,101,99,107],[102,117,110],[112,114,111,99],[108,101,116],[105,110],[105,102],[116,104,101,110],[101,108,115,101],[109,97,116,99,104],[105,110,115,101,114,116],[100,101,108,101,116,101],[97,115],[119,104,101,114,101],[117,112,100,97,116,101],[115,101,116],[119,105,116,104],[97,110,100],[111,114],[110,111,116],[116,114,117,101],[102,97,108,115,101]]
theorem kwsR_eq (l:Bs):N8.contains l=Fb l:=by
 unfold Fb
 rw [Bool.eq_iff_iff,List.contains_iff_mem,List.contains_iff_mem]
 have h1:∀ x ∈ N8,x ∈ kws:=by decide
 have h2:∀ x ∈ kws,x ∈ N8:=by decide
 exact ⟨h1 l,h2 l⟩
theorem Ho (w:World):Calls prog 226 #[] w fun e w'=>e=.returned (.slice (some ⟨w.heap.size,0,none⟩) 26 26)∧w'=w.alloc (.cells (svs N8).toArray 9):=by
 go_enter func226,ntmps226
 go_wp2
 go_ret
 exact ⟨rfl,rfl⟩
theorem svs_get (ls:List Bs) (i:Nat) (h:i<ls.length):(svs ls)[i]?=some (.string ⟨(ls.getD i []).toArray⟩):=by
 simp only [svs,List.getElem?_map,Qx h,Option.map_some,List.getD_eq_getElem?_getD,Option.getD_some]
 rfl
theorem N9 (ls:List Bs) (b c:Nat) (s:ByteArray) (w:World) (hl:ls.length≤1000000) (hr:w.rangeAt b 0 (svs ls)):
  Calls prog 225 #[.slice (some ⟨b,0,none⟩) ls.length c,.string s] w fun e w'=>e=.returned (.bool (ls.contains (bl s)))∧w=w':=by
 have HR:=Qq hr;clear hr
 obtain ⟨n,hn⟩:=eX (ls.length)
 rw [hn] at hl ⊢
 have HN:=Qq hn;clear hn
 obtain ⟨R,hR⟩:=eX (ls.contains (bl s))
 rw [hR]
 have HRR:=Qq hR;clear hR
 go_enter func225,ntmps225
 go_wp2
 go_loop [5] (fun i=>∃ k:Nat,k≤n∧(∀ j,j<k→ls[j]?≠some (bl s))∧i=.int .i64 k) (fun i=>n - (intOf i).toNat)
 case atStart=>exact ⟨0,Q8 _,fun j hj=>by omega,rfl⟩
 obtain ⟨k,hk,hno,rfl⟩:=hrel
 have HNo:=Qq hno;clear hno
 by_cases hlt:k<n
 ·obtain ⟨x,hx⟩:∃ x:ByteArray,(⟨(ls.getD k []).toArray⟩:ByteArray)=x:=⟨_,rfl⟩
  have hc:w.cell? ⟨b,k,none⟩=some (.string x):=by
   have:=HR.out k _ (svs_get ls k (by rw [HN.out];exact hlt))
   rw [Nat.zero_add,hx] at this;exact this
  have hg:ls[k]?=some (bl x):=by
   have hkl:k<ls.length:=by rw [HN.out];exact hlt
   rw [← hx,Fv,List.getD_eq_getElem?_getD,Qx hkl];rfl
  have HG:=Qq hg;clear hg hx
  by_cases he:bl x=bl s
  ·have hb:(x.toList==s.toList)=true:=by rw [Lib.toList_data,Lib.toList_data];simpa using he
   have HE:=Qq he;clear he
   go_wp2
   go_ret
   have e:R=true:=by
    rw [← HRR.out,← HE.out];exact List.contains_iff_mem.2 (Qy HG.out)
   exact ⟨by rw [e];rfl,rfl⟩
  have hb:(x.toList==s.toList)=false:=by rw [Lib.toList_data,Lib.toList_data];simpa using he
  have HE:=Qq he;clear he
  go_wp2
  go_round
  case rel=>
   refine ⟨k+1,by omega,fun j hj hjs=>?_,by go_num⟩
   by_cases hjk:j=k
   ·subst hjk;rw [HG.out] at hjs;exact HE.out (Qb hjs)
   exact HNo.out j (by omega) hjs
  case measure=>simp [intOf];omega
 go_wp2
 go_ret
 have e:R=false:=by
  rw [← HRR.out,← Bool.not_eq_true]
  intro hc
  obtain ⟨j,hj,e⟩:=List.getElem_of_mem (List.contains_iff_mem.1 hc)
  exact HNo.out j (by have:=HN.out;omega) (by rw [Qx hj,e])
 exact ⟨by rw [e];rfl,rfl⟩
theorem Lf (s:ByteArray) (w:World):Calls prog 213 #[.string s] w fun e w'=>e=.returned (.bool (Fb (bl s)))∧Below w.heap.size w w':=by
 have hk:=kwsR_eq (bl s)
 have h2:∀ w:World,Calls prog 225 #[.slice (some ⟨w.heap.size,0,none⟩) 26 26,.string s] (w.alloc (.cells (svs N8).toArray 9)) fun e w'=>e=.returned (.bool (Fb (bl s)))∧(w.alloc (.cells (svs N8).toArray 9))=w':=by
  intro w
  rw [← hk]
  exact N9 N8 w.heap.size 26 s _ (by decide) (fun j v hv=>by
   rw [Qk _ w.heap.size (0+j) _ _ _ (Qw w _)]
   simpa using hv)
 have HK:=Qq h2;clear h2 hk
 go_enter func213,ntmps213
 go_wp2_with (first | (go_at_call 226;refine (Ho _).mono ?_;rintro e w' ⟨rfl,rfl⟩) | (go_at_call 225;refine (HK.out _).mono ?_;rintro e w' ⟨rfl,rfl⟩))
 go_ret
 exact ⟨rfl,(Qz _ _).alloc (Q9 _) _⟩
def Vv (c:UInt8):Nat:=if Md c then 0 else if Kc c then 1 else if B9 c then 2 else if Hh c then 3 else if c==95 then 4 else 5
def clsI (n:Int):Int:=if n=9∨n=10∨n=13∨n=32 then 0 else if 97≤n∧n≤122 then 1 else if 65≤n∧n≤90 then 2 else if 48≤n∧n≤57 then 3 else if n=95 then 4 else 5
theorem clsI_eq (c:UInt8):((Vv c:Nat):Int)=clsI c.toNat:=by
 have e95:=Eg c 95
 rw [show ((95:UInt8).toNat:Int)=95 from rfl] at e95
 unfold Vv clsI
 rw [Kf,Kl,G9,M5,e95]
 simp only [Bool.or_eq_true,beq_iff_eq,Bool.and_eq_true,decide_eq_true_eq]
 (repeat' split) <;> omega
theorem Pi (c:UInt8) (w:World):Calls prog 212 #[.int .u8 c.toNat] w fun e w'=>e=.returned (.int .i64 (Vv c))∧w=w':=by
 rw [clsI_eq]
 obtain ⟨n,hn⟩:∃ n:Int,(c.toNat:Int)=n:=⟨_,rfl⟩
 rw [hn]
 clear hn
 go_enter func212,ntmps212
 go_wp2
 all_goals (go_ret;refine ⟨Jy ?_,rfl⟩;unfold clsI)
 all_goals (try simp only [beq_iff_eq,beq_eq_false_iff_ne,ne_eq] at *)
 all_goals ((repeat' split) <;> omega)
theorem Hn (P:UInt8→Bool) (h:(List.range 256).all (fun n=>P (UInt8.ofNat n))=true) (c:UInt8):P c=true:=by
 have:=List.all_eq_true.1 h c.toNat (by simpa using c.toNat_lt)
 simpa using this
theorem cls_wo (c:UInt8):Kb c=decide (Vv c=1∨Vv c=3∨Vv c=4):=by
 have:=Hn (fun c=>Kb c==decide (Vv c=1∨Vv c=3∨Vv c=4)) (by decide +kernel) c
 simpa using this
theorem cls_na (c:UInt8):Fd c=decide (1≤Vv c∧Vv c≤3):=by
 have:=Hn (fun c=>Fd c==decide (1≤Vv c∧Vv c≤3)) (by decide +kernel) c
 simpa using this
theorem cls_lo (c:UInt8):Kc c=decide (Vv c=1):=by
 have:=Hn (fun c=>Kc c==decide (Vv c=1)) (by decide +kernel) c
 simpa using this
theorem cls_up (c:UInt8):B9 c=decide (Vv c=2):=by
 have:=Hn (fun c=>B9 c==decide (Vv c=2)) (by decide +kernel) c
 simpa using this
theorem Um (c:UInt8) (v:Nat) (h:Vv c=v) (w:World):Calls prog 212 #[.int .u8 c.toNat] w fun e w'=>e=.returned (.int .i64 v)∧w=w':=by
 rw [← h];exact Pi c w
theorem N1 (s:ByteArray) (a:Nat) (w:World) (hs:s.size≤16) (ha:a<s.size) (hcl:Vv (s[a]'ha)=1) (hall:∀ (k:Nat) (h:k<s.size),Vv (s[k]'h)=1∨Vv (s[k]'h)=3∨Vv (s[k]'h)=4) (hkw:Fb (bl (s.extract a s.size))=false):
  Calls prog 198 #[.string s,.int .i64 a] w fun e w'=>e=.returned (.tuple #[.int .i64 2,.int .i64 s.size])∧Below w.heap.size w w':=by
 have HCl:=Qq hcl;clear hcl
 have HAll:=Qq hall;clear hall
 have hk0:=fun W=>Lf (s.extract a s.size) W
 rw [hkw] at hk0
 have HKW:=Qq hk0
 clear hk0 hkw
 go_enter func198,ntmps198
 go_wp2_with (go_at_call 212;refine (Um _ 1 HCl.out _).mono ?_;rintro e w' ⟨rfl,rfl⟩)
 go_loop [7] (fun i=>∃ k:Nat,a+1≤k∧k≤s.size∧i=.int .i64 k) (fun i=>s.size - (intOf i).toNat)
 case atStart=>exact ⟨a+1,Q9 _,ha,by go_num⟩
 obtain ⟨k,hk1,hk2,rfl⟩:=hrel
 by_cases hlt:k<s.size
 ·obtain ⟨v,hv⟩:=eX (Vv (s[k]'hlt))
  have hc:=HAll.out k hlt
  rw [hv] at hc
  have HV:=Qq hv;clear hv
  rcases hc with hc | hc | hc
  ·have q0:((v:Int)==1)=true:=by simpa using (by omega:(v:Int)=1)
   clear hc
   go_wp2_with (go_at_call 212;refine (Um _ v HV.out _).mono ?_;rintro e w' ⟨rfl,rfl⟩)
   go_round
   case rel=>exact ⟨k+1,by omega,by omega,by go_num⟩
   case measure=>simp [intOf];omega
  ·have q0:((v:Int)==1)=false:=by simpa using (by omega:¬ (v:Int)=1)
   have q1:((v:Int)==3)=true:=by simpa using (by omega:(v:Int)=3)
   clear hc
   go_wp2_with (go_at_call 212;refine (Um _ v HV.out _).mono ?_;rintro e w' ⟨rfl,rfl⟩)
   go_round
   case rel=>exact ⟨k+1,by omega,by omega,by go_num⟩
   case measure=>simp [intOf];omega
  have q0:((v:Int)==1)=false:=by simpa using (by omega:¬ (v:Int)=1)
  have q1:((v:Int)==3)=false:=by simpa using (by omega:¬ (v:Int)=3)
  have q2:((v:Int)==4)=true:=by simpa using (by omega:(v:Int)=4)
  clear hc
  go_wp2_with (go_at_call 212;refine (Um _ v HV.out _).mono ?_;rintro e w' ⟨rfl,rfl⟩)
  go_round
  case rel=>exact ⟨k+1,by omega,by omega,by go_num⟩
  case measure=>simp [intOf];omega
 obtain rfl:k=s.size:=by omega
 go_wp2_with (go_at_call 213;refine (HKW.out _).mono ?_;rintro e w' ⟨rfl,hw⟩)
 go_ret2
 exact ⟨rfl,hw⟩
theorem Sd (s:ByteArray) (a:Nat) (w:World) (hs:s.size≤16) (ha:a<s.size) (hcl:Vv (s[a]'ha)=2) (hall:∀ (k:Nat) (h:k<s.size),1≤Vv (s[k]'h)∧Vv (s[k]'h)≤3):
  Calls prog 198 #[.string s,.int .i64 a] w fun e w'=>e=.returned (.tuple #[.int .i64 3,.int .i64 s.size])∧Below w.heap.size w w':=by
 have HCl:=Qq hcl;clear hcl
 have HAll:=Qq hall;clear hall
 go_enter func198,ntmps198
 go_wp2_with (go_at_call 212;refine (Um _ 2 HCl.out _).mono ?_;rintro e w' ⟨rfl,rfl⟩)
 go_loop [7] (fun i=>∃ k:Nat,a+1≤k∧k≤s.size∧i=.int .i64 k) (fun i=>s.size - (intOf i).toNat)
 case atStart=>exact ⟨a+1,Q9 _,ha,by go_num⟩
 obtain ⟨k,hk1,hk2,rfl⟩:=hrel
 by_cases hlt:k<s.size
 ·obtain ⟨v,hv⟩:=eX (Vv (s[k]'hlt))
  have hc:=HAll.out k hlt
  rw [hv] at hc
  have HV:=Qq hv;clear hv
  have q0:decide ((1:Int)≤(v:Int))=true:=by simp;omega
  have q1:decide ((v:Int)≤3)=true:=by simp;omega
  clear hc
  go_wp2_with (go_at_call 212;refine (Um _ v HV.out _).mono ?_;rintro e w' ⟨rfl,rfl⟩)
  go_round
  case rel=>exact ⟨k+1,by omega,by omega,by go_num⟩
  case measure=>simp [intOf];omega
 obtain rfl:k=s.size:=by omega
 go_wp2_with fail
 go_ret2
 exact ⟨rfl,Qz _ _⟩
def Fi (s:ByteArray) (K:Int):Prop:=∀ W,Calls prog 198 #[.string s,.int .i64 0] W fun e w'=>e=.returned (.tuple #[.int .i64 K,.int .i64 s.size])∧Below W.heap.size W w'
theorem R2 (x:Bs) (h:Xy x):Fi ⟨x.toArray⟩ 2:=by
 intro W
 have hsz:=Yo x
 have hp:0<(⟨x.toArray⟩:ByteArray).size:=by rw [hsz];exact h.pos
 have ha:∀ (k:Nat) (hk:k<(⟨x.toArray⟩:ByteArray).size),Kb ((⟨x.toArray⟩:ByteArray)[k]'hk)=true:=fun k hk=>
  Lk (p:=Kb) (l:=x) (by rw [h.all,← hsz];exact hk) (D7 x k hk)
 have hlo:Kc ((⟨x.toArray⟩:ByteArray)[0]'hp)=true:=h.head _ (D7 x 0 hp)
 have:=N1 ⟨x.toArray⟩ 0 W (by rw [hsz];exact h.len) hp (by rw [cls_lo] at hlo;simpa using hlo) (fun k hk=>by have:=ha k hk;rw [cls_wo] at this;simpa using this) (by rw [hsz,Fw,Fv];exact h.kw)
 exact this
theorem rtok_cap (x:Bs) (h:Fx x):Fi ⟨x.toArray⟩ 3:=by
 intro W
 have hsz:=Yo x
 have hp:0<(⟨x.toArray⟩:ByteArray).size:=by rw [hsz];exact h.pos
 have ha:∀ (k:Nat) (hk:k<(⟨x.toArray⟩:ByteArray).size),Fd ((⟨x.toArray⟩:ByteArray)[k]'hk)=true:=fun k hk=>
  Lk (p:=Fd) (l:=x) (by rw [h.all,← hsz];exact hk) (D7 x k hk)
 have hlo:B9 ((⟨x.toArray⟩:ByteArray)[0]'hp)=true:=h.head _ (D7 x 0 hp)
 have:=Sd ⟨x.toArray⟩ 0 W (by rw [hsz];exact h.len) hp (by rw [cls_up] at hlo;simpa using hlo) (fun k hk=>by have:=ha k hk;rw [cls_na] at this;simpa using this)
 exact this
theorem rnext_at (s:ByteArray) (K:Int) (hp:0<s.size) (h:Fi s K) (W:World):
  Calls prog 183 #[.string s,.int .i64 0] W fun e w'=>e=.returned (.tuple #[.int .i64 K,.int .i64 s.size])∧Below W.heap.size W w':=by
 have HG:=Qq h
 clear h
 have h1:(0:Int)<(s.size:Int):=by omega
 go_enter func183,ntmps183
 go_wp2_with (go_at_call 198;refine (HG.out _).mono ?_;rintro e w' ⟨rfl,hw⟩)
 go_ret2
 exact ⟨rfl,hw⟩
theorem Sq (w:World) (xs:List Value) (t:TypeId):∀ j u,xs[j]?=some u→(w.alloc (.cells xs.toArray t)).cell? ((⟨w.heap.size,0,none⟩:Addr).add j)=some u:=by
 intro j u h
 rw [show (⟨w.heap.size,0,none⟩:Addr).add j=⟨w.heap.size,j,none⟩ by unfold Addr.add;split <;> simp_all]
 rw [Qk _ w.heap.size j _ _ _ (Qw w _)]
 simpa using h
theorem Bm {w w':World} {B:Nat} {e:TypeId} {sz n:Nat} {v:Value} {xs:List Value} (h:w.ownsRow B e sz v n xs) (hb:Below w.heap.size w w'):w'.ownsRow B e sz v n xs:=Jz h hb
theorem Mp (s:ByteArray) (K:Int) (hp:0<s.size) (hl:s.size≤16) (h:Fi s K) (w:World):
  Calls prog 141 #[.string s] w fun e w'=>∃ g cap,e=.returned (.slice (some ⟨g,0,none⟩) 1 cap)∧w'.cell? ⟨g,0,none⟩=some (.int .i64 K)∧Below w.heap.size w w':=by
 have HN:=Qq (fun W=>rnext_at s K hp h W)
 clear h
 obtain ⟨i0,hi,hz0,hz1,hz2⟩:=Za (P:=prog) (t:=135) (z:=.agg #[.int .i64 0,.string ⟨#[]⟩,.int .i64 0]) (n:=3) (b:=32) (by kernel_rfl)
 have H1:=Qq hi;have H2:=Qq hz0;have H3:=Qq hz1;have H4:=Qq hz2
 clear hi hz0 hz1 hz2
 go_enter func141,ntmps141
 go_wp2_with fail
 go_loopw [3,4,5,6] (fun o x _ _ wr=>∃ (a n:Nat) (pre:List Value),a≤s.size∧Aside ((a=0∧n=0∧pre=[])∨(a=s.size∧n=1∧pre=[.int .i64 K,.string s,.int .i64 0]))∧x=.int .i64 a∧wr.ownsRow w.heap.size 135 3 o n pre∧Below w.heap.size w wr) (fun _ x _ _ _=>s.size - (intOf x).toNat)
 case atStart=>exact ⟨0,0,[],by omega,.inl ⟨rfl,rfl,rfl⟩,rfl,World.ownsRow_nil _ _ _ _,Qz _ _⟩
 obtain ⟨a,n,pre,ha,hd,rfl,hown,hB⟩:=hrel
 have HB:=Qq hB;have HO:=Qq hown
 clear hB hown
 by_cases hlt:a<s.size
 ·have hd0:a=0∧n=0∧pre=[]:=by
   rcases hd.out with h | h
   ·exact h
   exact absurd h.1 (by omega)
  obtain ⟨rfl,rfl,rfl⟩:=hd0
  clear hd
  have h1:(0:Int)<(s.size:Int):=by omega
  go_wp2_with fail
  refine (HN.out _).mono ?_
  rintro e w2 ⟨rfl,hw⟩
  have hown2:=Bm HO.out hw
  have hB2:=HB.out.trans (hw.mono HB.out.size)
  have HB2:=Qq hB2;have HO2:=Qq hown2
  clear hw hown2 hB2
  go_wp2_with (at_builtin;refine wpList_append_own _ rfl _ _ 156 rfl w.heap.size 135 i0 (.agg #[.int .i64 0,.string ⟨#[]⟩,.int .i64 0]) 3 32 underlying156 H1.out H2.out H3.out H4.out rfl (by decide) _ _ _ rfl (HO2.out.alloc _) ⟨w2.heap.size,0,none⟩ 1 1 [.int .i64 K,.string s,.int .i64 0] rfl rfl (Sq _ _ _) (by simp [Value.oneCell']) (by unfold maxLen;omega) (by omega) (by have:=HB2.out.size;simp;omega) ?_;intro v' w1 hown' hgrow _)
  refine ⟨⟨s.size,1,[.int .i64 K,.string s,.int .i64 0],Q9 _,.inr ⟨rfl,rfl,rfl⟩,rfl,by simpa using hown',?_⟩,by simp [intOf];omega⟩
  exact (HB2.out.alloc HB2.out.size _).grown hgrow (by have:=HB2.out.size;simp;omega) (fun j e=>(HO2.out.lt j e).1)
 have hd1:n=1∧pre=[.int .i64 K,.string s,.int .i64 0]:=by
  rcases hd.out with h | h
  ·exact absurd h.1 (by omega)
  exact h.2
 obtain ⟨rfl,rfl⟩:=hd1
 clear hd
 go_wp2_with fail
 go_ret
 rcases HO.out.2 with ⟨_,hn⟩ | ⟨g,cap,cur,rfl,_,hg,_,_,_,ht⟩
 ·cases hn
 exact ⟨g,cap,rfl,Fg hg ht rfl,HB.out⟩
theorem Lw (s:ByteArray) (K at':Int) (hK:K=2∨K=3) (hp:0<s.size) (hl:s.size≤16) (h:Fi s K) (w:World):
  Calls prog 115 #[.agg #[.int .i64 K,.string s,.int .i64 at']] w fun e w'=>e=.returned (.bool true)∧Below w.heap.size w w':=by
 have HS:=Qq (fun W=>Mp s K hp hl h W)
 clear h
 go_enter func115,ntmps115
 go_wp2_with fail
 have hB1:Below w.heap.size w (w.alloc (.cells #[.int .i64 K,.string s,.int .i64 at'] 135)):=(Qz _ _).alloc (Q9 _) _
 have c0:(w.alloc (.cells #[.int .i64 K,.string s,.int .i64 at'] 135)).cell? ⟨w.heap.size,0,none⟩=some (.int .i64 K):=by rw [Qk _ w.heap.size 0 _ _ _ (Qw w _)];rfl
 have c1:(w.alloc (.cells #[.int .i64 K,.string s,.int .i64 at'] 135)).cell? ⟨w.heap.size,1,none⟩=some (.string s):=by rw [Qk _ w.heap.size 1 _ _ _ (Qw w _)];rfl
 have HB1:=Qq hB1;clear hB1
 generalize hG:w.heap.size=G at c0 c1 ⊢
 generalize w.alloc (.cells #[.int .i64 K,.string s,.int .i64 at'] 135)=W1 at *
 refine (HS.out _).mono ?_
 rintro e w2 ⟨g,cap,rfl,e0,hb2⟩
 have d0:=(hb2.cell (p:=⟨G,0,none⟩) (Qv W1 _ c0)).trans c0
 have d1:=(hb2.cell (p:=⟨G,1,none⟩) (Qv W1 _ c1)).trans c1
 have HB2:=Qq (HB1.out.trans (hb2.mono HB1.out.size))
 clear hb2 c0 c1 hG
 rcases hK with rfl | rfl
 all_goals
  go_wp2_with fail
  go_quiet (fail)
  go_wp2_with fail
  go_ret
  refine ⟨?_,HB2.out.trans ((Zy _ _).mono HB2.out.size)⟩
  show Ending.returned (.bool (decide ((s.size:Int)≤16)))=_
  rw [decide_eq_true (by omega)]
theorem B8 (x:Bs) (h:Xy x) (w:World):Calls prog 115 #[.agg #[.int .i64 2,sv x,.int .i64 0]] w fun e w'=>e=.returned (.bool true)∧Below w.heap.size w w':=
 Lw ⟨x.toArray⟩ 2 0 (.inl rfl) (by rw [Yo];exact h.pos) (by rw [Yo];exact h.len) (R2 x h) w
theorem Rt (x:Bs) (h:Fx x) (w:World):Calls prog 115 #[.agg #[.int .i64 3,sv x,.int .i64 0]] w fun e w'=>e=.returned (.bool true)∧Below w.heap.size w w':=
 Lw ⟨x.toArray⟩ 3 0 (.inr rfl) (by rw [Yo];exact h.pos) (by rw [Yo];exact h.len) (rtok_cap x h) w
structure Kk (w:World) where
 wd:World
 below:Below w.heap.size w wd
instance {w:World}:Inhabited (Kk w):=⟨⟨w,Qz _ _⟩⟩
theorem Xt {P:Program} {id:Nat} {Q:Exit→Act→World→Prop} {a:Act} {w:World} {l:List Oper} (hm:P.follows .mixedOrders=true) (hB:Region.lexB .any l.toArray=true)
  (h:wpQuiet P l.toArray (fun w'=>∃ p:Kk w,w'=p.wd) (fun a'=>∀ w',(∃ p:Kk w,w'=p.wd)→Q .normal a' w') l a):(Code.region id l.toArray true).wp P Q a w:=
 wp_region_quiet (C:=fun w'=>∃ p:Kk w,w'=p.wd) hm hB ⟨⟨w.drew,(Qz _ _).drew⟩,rfl⟩ (by simpa using h)
theorem J2 {w:World} {b o:Nat} {v:Value} (hb:b<w.heap.size) (h:w.cell? ⟨b,o,none⟩=some v) (p:Kk w):p.wd.cell? ⟨b,o,none⟩=some v:=(p.below.cell (p:=⟨b,o,none⟩) hb).trans h
theorem Calls.later_of {P:Program} {f:FuncId} {args:Array Value} {w:World} {p:Kk w} {v:Value} (h:Calls P f args p.wd fun e w'=>e=.returned v∧Below p.wd.heap.size p.wd w'):Calls P f args p.wd fun e w''=>e=.returned v∧∃ q:Kk w,w''=q.wd:=
 h.mono fun _ w' ⟨he,hb⟩=>⟨he,⟨w',p.below.thn hb⟩,rfl⟩
theorem E5 (a b:Bs):Zg a b=- Zg b a:=by
 have:=Xb a b [] []
 have h:=Xb b a [] []
 simp only [List.append_nil,lex,Uf] at this h
 rw [← this,← h];exact Jd _ _
def Y5 (v:Val):Prop:=∀ (S:Nat→Prop) (cs:List Value) (w:World),Qh S w cs v→Calls prog 136 #[.agg cs.toArray] w fun e w'=>e=.returned (.bool true)∧Below w.heap.size w w'
theorem Mr (n:Int) (ks:List Val) (hks:ks=[]) (ih:∀ x ∈ ks,Y5 x):Y5 (.mk 0 n [] [] ks):=by
 intro S cs w h
 obtain ⟨p3,k3,p4,k4,hcs,hn,hk,_⟩:=Qh.cells h
 simp only [vcs,Val.kind,Val.n,Val.s,Val.names,Val.kids,List.length_nil] at hcs hn hk
 subst hcs
 obtain ⟨_,_,_,hml⟩:=hk.len
 have HI:=Qq ih
 obtain ⟨m,hm⟩:=eX (ks.length)
 rw [hm] at hk hml ⊢
 have HKs:=Qq hk;have HM:=Qq hm
 have mixed:prog.follows .mixedOrders=true:=by kernel_rfl
 have hm0:m=0:=by rw [← hm,hks];rfl
 have hm2:decide (0<m)=false:=by simp;omega
 clear hm hn hks hm0
 clear h hk ih
 go_enter func136,ntmps136
 go_wp2_with fail
 generalize hW0:w.alloc _=W0
 have hb0:=eqB hW0 (Qn _ _)
 have hX0:=eqH (b:=w.heap.size) hW0 (Qw _ _)
 clear hW0
 have HX0:Hid (w.heap.size<W0.heap.size∧W0.cell? ⟨w.heap.size,4,none⟩=some (.slice p4 m k4)):=Qq ⟨Qf hX0,Qk _ _ 4 _ _ _ hX0⟩
 have HX3:Hid (w.heap.size<W0.heap.size∧W0.cell? ⟨w.heap.size,3,none⟩=some (.slice p3 0 k3)):=Qq ⟨Qf hX0,Qk _ _ 3 _ _ _ hX0⟩
 have HB0:=Qq hb0
 clear hX0 hb0
 go_loopw [5] (fun i wr=>i=.int .i64 0∧W0=wr) (fun _ _=>0)
 case atStart=>exact ⟨rfl,rfl⟩
 obtain ⟨rfl,rfl⟩:=hrel
 have c4:=HX0.out.2
 have c3:=HX3.out.2
 go_wp2_with fail
 clear c3 c4
 go_loopw [6] (fun i wr=>∃ k:Nat,k≤m∧i=.int .i64 k∧Aside (Below W0.heap.size W0 wr)) (fun i _=>m - (intOf i).toNat)
 case atStart=>exact ⟨0,Q8 _,rfl,Qz _ _⟩
 obtain ⟨k,hk,rfl,hBr⟩:=hrel
 have HBr:=Qq (show Below W0.heap.size W0 wr from hBr)
 have c4:=(HBr.out.cell (p:=⟨w.heap.size,4,none⟩) HX0.out.1).trans HX0.out.2
 clear hBr
 by_cases hlt:k<m
 ·have hi1:(0:Int)≤(k:Int):=by omega
  have hi2:(k:Int)<(m:Int):=by omega
  obtain ⟨y,hy⟩:∃ y,ks[k]?=some y:=⟨_,Qx (by rw [HM.out];exact hlt)⟩
  obtain ⟨b,off,q3,l3,q4,l4,rfl,hbl,hvy,d0,d1,d2,d3,d4⟩:=(HKs.out.below (HB0.out.thn HBr.out)).val hy
  have HVy:=Qq hvy;have HIy:=Qq (HI.out y (Qy hy))
  clear hvy hy
  go_wp2_with (go_at_call 136;refine (HIy.out _ _ _ HVy.out).mono ?_;rintro e w5 ⟨rfl,hb5⟩;have HB5:=Qq hb5;clear hb5)
  go_roundw
  case measure=>simp [intOf];omega
  case rel=>exact ⟨k+1,by omega,by go_num,HBr.out.thn HB5.out⟩
 have hkm:k=m:=by omega
 subst hkm
 go_wp2_with fail
 go_ret
 exact ⟨rfl,HB0.out.thn HBr.out⟩
theorem Le (sx:Bs) (ks:List Val) (hks:ks=[]) (ih:∀ x ∈ ks,Y5 x):Y5 (.mk 1 0 sx [] ks):=by
 intro S cs w h
 obtain ⟨p3,k3,p4,k4,hcs,hn,hk,_⟩:=Qh.cells h
 simp only [vcs,Val.kind,Val.n,Val.s,Val.names,Val.kids,List.length_nil] at hcs hn hk
 subst hcs
 obtain ⟨_,_,_,hml⟩:=hk.len
 have HI:=Qq ih
 obtain ⟨m,hm⟩:=eX (ks.length)
 rw [hm] at hk hml ⊢
 have HKs:=Qq hk;have HM:=Qq hm
 have mixed:prog.follows .mixedOrders=true:=by kernel_rfl
 have hm0:m=0:=by rw [← hm,hks];rfl
 have hm2:decide (0<m)=false:=by simp;omega
 clear hm hn hks hm0
 clear h hk ih
 go_enter func136,ntmps136
 go_wp2_with fail
 generalize hW0:w.alloc _=W0
 have hb0:=eqB hW0 (Qn _ _)
 have hX0:=eqH (b:=w.heap.size) hW0 (Qw _ _)
 clear hW0
 have HX0:Hid (w.heap.size<W0.heap.size∧W0.cell? ⟨w.heap.size,4,none⟩=some (.slice p4 m k4)):=Qq ⟨Qf hX0,Qk _ _ 4 _ _ _ hX0⟩
 have HX3:Hid (w.heap.size<W0.heap.size∧W0.cell? ⟨w.heap.size,3,none⟩=some (.slice p3 0 k3)):=Qq ⟨Qf hX0,Qk _ _ 3 _ _ _ hX0⟩
 have HB0:=Qq hb0
 clear hX0 hb0
 go_loopw [5] (fun i wr=>i=.int .i64 0∧W0=wr) (fun _ _=>0)
 case atStart=>exact ⟨rfl,rfl⟩
 obtain ⟨rfl,rfl⟩:=hrel
 have c4:=HX0.out.2
 have c3:=HX3.out.2
 go_wp2_with fail
 clear c3 c4
 go_loopw [6] (fun i wr=>∃ k:Nat,k≤m∧i=.int .i64 k∧Aside (Below W0.heap.size W0 wr)) (fun i _=>m - (intOf i).toNat)
 case atStart=>exact ⟨0,Q8 _,rfl,Qz _ _⟩
 obtain ⟨k,hk,rfl,hBr⟩:=hrel
 have HBr:=Qq (show Below W0.heap.size W0 wr from hBr)
 have c4:=(HBr.out.cell (p:=⟨w.heap.size,4,none⟩) HX0.out.1).trans HX0.out.2
 clear hBr
 by_cases hlt:k<m
 ·have hi1:(0:Int)≤(k:Int):=by omega
  have hi2:(k:Int)<(m:Int):=by omega
  obtain ⟨y,hy⟩:∃ y,ks[k]?=some y:=⟨_,Qx (by rw [HM.out];exact hlt)⟩
  obtain ⟨b,off,q3,l3,q4,l4,rfl,hbl,hvy,d0,d1,d2,d3,d4⟩:=(HKs.out.below (HB0.out.thn HBr.out)).val hy
  have HVy:=Qq hvy;have HIy:=Qq (HI.out y (Qy hy))
  clear hvy hy
  go_wp2_with (go_at_call 136;refine (HIy.out _ _ _ HVy.out).mono ?_;rintro e w5 ⟨rfl,hb5⟩;have HB5:=Qq hb5;clear hb5)
  go_roundw
  case measure=>simp [intOf];omega
  case rel=>exact ⟨k+1,by omega,by go_num,HBr.out.thn HB5.out⟩
 have hkm:k=m:=by omega
 subst hkm
 go_wp2_with fail
 go_ret
 exact ⟨rfl,HB0.out.thn HBr.out⟩
theorem H8 (ks:List Val) (hks:ks=[]) (ih:∀ x ∈ ks,Y5 x):Y5 (.mk 2 0 [] [] ks):=by
 intro S cs w h
 obtain ⟨p3,k3,p4,k4,hcs,hn,hk,_⟩:=Qh.cells h
 simp only [vcs,Val.kind,Val.n,Val.s,Val.names,Val.kids,List.length_nil] at hcs hn hk
 subst hcs
 obtain ⟨_,_,_,hml⟩:=hk.len
 have HI:=Qq ih
 obtain ⟨m,hm⟩:=eX (ks.length)
 rw [hm] at hk hml ⊢
 have HKs:=Qq hk;have HM:=Qq hm
 have mixed:prog.follows .mixedOrders=true:=by kernel_rfl
 have hm0:m=0:=by rw [← hm,hks];rfl
 have hm2:decide (0<m)=false:=by simp;omega
 clear hm hn hks hm0
 clear h hk ih
 go_enter func136,ntmps136
 go_wp2_with fail
 generalize hW0:w.alloc _=W0
 have hb0:=eqB hW0 (Qn _ _)
 have hX0:=eqH (b:=w.heap.size) hW0 (Qw _ _)
 clear hW0
 have HX0:Hid (w.heap.size<W0.heap.size∧W0.cell? ⟨w.heap.size,4,none⟩=some (.slice p4 m k4)):=Qq ⟨Qf hX0,Qk _ _ 4 _ _ _ hX0⟩
 have HX3:Hid (w.heap.size<W0.heap.size∧W0.cell? ⟨w.heap.size,3,none⟩=some (.slice p3 0 k3)):=Qq ⟨Qf hX0,Qk _ _ 3 _ _ _ hX0⟩
 have HB0:=Qq hb0
 clear hX0 hb0
 go_loopw [5] (fun i wr=>i=.int .i64 0∧W0=wr) (fun _ _=>0)
 case atStart=>exact ⟨rfl,rfl⟩
 obtain ⟨rfl,rfl⟩:=hrel
 have c4:=HX0.out.2
 have c3:=HX3.out.2
 go_wp2_with fail
 clear c3 c4
 go_loopw [6] (fun i wr=>∃ k:Nat,k≤m∧i=.int .i64 k∧Aside (Below W0.heap.size W0 wr)) (fun i _=>m - (intOf i).toNat)
 case atStart=>exact ⟨0,Q8 _,rfl,Qz _ _⟩
 obtain ⟨k,hk,rfl,hBr⟩:=hrel
 have HBr:=Qq (show Below W0.heap.size W0 wr from hBr)
 have c4:=(HBr.out.cell (p:=⟨w.heap.size,4,none⟩) HX0.out.1).trans HX0.out.2
 clear hBr
 by_cases hlt:k<m
 ·have hi1:(0:Int)≤(k:Int):=by omega
  have hi2:(k:Int)<(m:Int):=by omega
  obtain ⟨y,hy⟩:∃ y,ks[k]?=some y:=⟨_,Qx (by rw [HM.out];exact hlt)⟩
  obtain ⟨b,off,q3,l3,q4,l4,rfl,hbl,hvy,d0,d1,d2,d3,d4⟩:=(HKs.out.below (HB0.out.thn HBr.out)).val hy
  have HVy:=Qq hvy;have HIy:=Qq (HI.out y (Qy hy))
  clear hvy hy
  go_wp2_with (go_at_call 136;refine (HIy.out _ _ _ HVy.out).mono ?_;rintro e w5 ⟨rfl,hb5⟩;have HB5:=Qq hb5;clear hb5)
  go_roundw
  case measure=>simp [intOf];omega
  case rel=>exact ⟨k+1,by omega,by go_num,HBr.out.thn HB5.out⟩
 have hkm:k=m:=by omega
 subst hkm
 go_wp2_with fail
 go_ret
 exact ⟨rfl,HB0.out.thn HBr.out⟩
theorem Lq (ks:List Val) (hks:ks=[]) (ih:∀ x ∈ ks,Y5 x):Y5 (.mk 2 1 [] [] ks):=by
 intro S cs w h
 obtain ⟨p3,k3,p4,k4,hcs,hn,hk,_⟩:=Qh.cells h
 simp only [vcs,Val.kind,Val.n,Val.s,Val.names,Val.kids,List.length_nil] at hcs hn hk
 subst hcs
 obtain ⟨_,_,_,hml⟩:=hk.len
 have HI:=Qq ih
 obtain ⟨m,hm⟩:=eX (ks.length)
 rw [hm] at hk hml ⊢
 have HKs:=Qq hk;have HM:=Qq hm
 have mixed:prog.follows .mixedOrders=true:=by kernel_rfl
 have hm0:m=0:=by rw [← hm,hks];rfl
 have hm2:decide (0<m)=false:=by simp;omega
 clear hm hn hks hm0
 clear h hk ih
 go_enter func136,ntmps136
 go_wp2_with fail
 generalize hW0:w.alloc _=W0
 have hb0:=eqB hW0 (Qn _ _)
 have hX0:=eqH (b:=w.heap.size) hW0 (Qw _ _)
 clear hW0
 have HX0:Hid (w.heap.size<W0.heap.size∧W0.cell? ⟨w.heap.size,4,none⟩=some (.slice p4 m k4)):=Qq ⟨Qf hX0,Qk _ _ 4 _ _ _ hX0⟩
 have HX3:Hid (w.heap.size<W0.heap.size∧W0.cell? ⟨w.heap.size,3,none⟩=some (.slice p3 0 k3)):=Qq ⟨Qf hX0,Qk _ _ 3 _ _ _ hX0⟩
 have HB0:=Qq hb0
 clear hX0 hb0
 go_loopw [5] (fun i wr=>i=.int .i64 0∧W0=wr) (fun _ _=>0)
 case atStart=>exact ⟨rfl,rfl⟩
 obtain ⟨rfl,rfl⟩:=hrel
 have c4:=HX0.out.2
 have c3:=HX3.out.2
 go_wp2_with fail
 clear c3 c4
 go_loopw [6] (fun i wr=>∃ k:Nat,k≤m∧i=.int .i64 k∧Aside (Below W0.heap.size W0 wr)) (fun i _=>m - (intOf i).toNat)
 case atStart=>exact ⟨0,Q8 _,rfl,Qz _ _⟩
 obtain ⟨k,hk,rfl,hBr⟩:=hrel
 have HBr:=Qq (show Below W0.heap.size W0 wr from hBr)
 have c4:=(HBr.out.cell (p:=⟨w.heap.size,4,none⟩) HX0.out.1).trans HX0.out.2
 clear hBr
 by_cases hlt:k<m
 ·have hi1:(0:Int)≤(k:Int):=by omega
  have hi2:(k:Int)<(m:Int):=by omega
  obtain ⟨y,hy⟩:∃ y,ks[k]?=some y:=⟨_,Qx (by rw [HM.out];exact hlt)⟩
  obtain ⟨b,off,q3,l3,q4,l4,rfl,hbl,hvy,d0,d1,d2,d3,d4⟩:=(HKs.out.below (HB0.out.thn HBr.out)).val hy
  have HVy:=Qq hvy;have HIy:=Qq (HI.out y (Qy hy))
  clear hvy hy
  go_wp2_with (go_at_call 136;refine (HIy.out _ _ _ HVy.out).mono ?_;rintro e w5 ⟨rfl,hb5⟩;have HB5:=Qq hb5;clear hb5)
  go_roundw
  case measure=>simp [intOf];omega
  case rel=>exact ⟨k+1,by omega,by go_num,HBr.out.thn HB5.out⟩
 have hkm:k=m:=by omega
 subst hkm
 go_wp2_with fail
 go_ret
 exact ⟨rfl,HB0.out.thn HBr.out⟩
theorem Mw (ks:List Val) (ih:∀ x ∈ ks,Y5 x):Y5 (.mk 5 0 [] [] ks):=by
 intro S cs w h
 obtain ⟨p3,k3,p4,k4,hcs,hn,hk,_⟩:=Qh.cells h
 simp only [vcs,Val.kind,Val.n,Val.s,Val.names,Val.kids,List.length_nil] at hcs hn hk
 subst hcs
 obtain ⟨_,_,_,hml⟩:=hk.len
 have HI:=Qq ih
 obtain ⟨m,hm⟩:=eX (ks.length)
 rw [hm] at hk hml ⊢
 have HKs:=Qq hk;have HM:=Qq hm
 have mixed:prog.follows .mixedOrders=true:=by kernel_rfl
 clear hm hn
 clear h hk ih
 go_enter func136,ntmps136
 go_wp2_with fail
 generalize hW0:w.alloc _=W0
 have hb0:=eqB hW0 (Qn _ _)
 have hX0:=eqH (b:=w.heap.size) hW0 (Qw _ _)
 clear hW0
 have HX0:Hid (w.heap.size<W0.heap.size∧W0.cell? ⟨w.heap.size,4,none⟩=some (.slice p4 m k4)):=Qq ⟨Qf hX0,Qk _ _ 4 _ _ _ hX0⟩
 have HX3:Hid (w.heap.size<W0.heap.size∧W0.cell? ⟨w.heap.size,3,none⟩=some (.slice p3 0 k3)):=Qq ⟨Qf hX0,Qk _ _ 3 _ _ _ hX0⟩
 have HB0:=Qq hb0
 clear hX0 hb0
 go_loopw [5] (fun i wr=>i=.int .i64 0∧W0=wr) (fun _ _=>0)
 case atStart=>exact ⟨rfl,rfl⟩
 obtain ⟨rfl,rfl⟩:=hrel
 have c4:=HX0.out.2
 have c3:=HX3.out.2
 go_wp2_with fail
 clear c3 c4
 go_loopw [6] (fun i wr=>∃ k:Nat,k≤m∧i=.int .i64 k∧Aside (Below W0.heap.size W0 wr)) (fun i _=>m - (intOf i).toNat)
 case atStart=>exact ⟨0,Q8 _,rfl,Qz _ _⟩
 obtain ⟨k,hk,rfl,hBr⟩:=hrel
 have HBr:=Qq (show Below W0.heap.size W0 wr from hBr)
 have c4:=(HBr.out.cell (p:=⟨w.heap.size,4,none⟩) HX0.out.1).trans HX0.out.2
 clear hBr
 by_cases hlt:k<m
 ·have hi1:(0:Int)≤(k:Int):=by omega
  have hi2:(k:Int)<(m:Int):=by omega
  obtain ⟨y,hy⟩:∃ y,ks[k]?=some y:=⟨_,Qx (by rw [HM.out];exact hlt)⟩
  obtain ⟨b,off,q3,l3,q4,l4,rfl,hbl,hvy,d0,d1,d2,d3,d4⟩:=(HKs.out.below (HB0.out.thn HBr.out)).val hy
  have HVy:=Qq hvy;have HIy:=Qq (HI.out y (Qy hy))
  clear hvy hy
  go_wp2_with (go_at_call 136;refine (HIy.out _ _ _ HVy.out).mono ?_;rintro e w5 ⟨rfl,hb5⟩;have HB5:=Qq hb5;clear hb5)
  go_roundw
  case measure=>simp [intOf];omega
  case rel=>exact ⟨k+1,by omega,by go_num,HBr.out.thn HB5.out⟩
 have hkm:k=m:=by omega
 subst hkm
 go_wp2_with fail
 go_ret
 exact ⟨rfl,HB0.out.thn HBr.out⟩
theorem Lp (sx:Bs) (hsx:Fx sx) (ks:List Val) (hl:ks.length≤1) (ih:∀ x ∈ ks,Y5 x):Y5 (.mk 3 0 sx [] ks):=by
 intro S cs w h
 obtain ⟨p3,k3,p4,k4,hcs,hn,hk,_⟩:=Qh.cells h
 simp only [vcs,Val.kind,Val.n,Val.s,Val.names,Val.kids,List.length_nil] at hcs hn hk
 subst hcs
 obtain ⟨_,_,_,hml⟩:=hk.len
 have HI:=Qq ih
 obtain ⟨m,hm⟩:=eX (ks.length)
 rw [hm] at hk hml ⊢
 have HKs:=Qq hk;have HM:=Qq hm
 have mixed:prog.follows .mixedOrders=true:=by kernel_rfl
 have hm1:m≤1:=by omega
 have hm2:decide (1<m)=false:=by simp;omega
 have HF:=Qq (fun W=>Rt sx hsx W)
 unfold sv at HF
 clear hm hn hsx hl
 clear h hk ih
 go_enter func136,ntmps136
 go_wp2_with fail
 refine (HF.out _).mono ?_
 rintro e W0 ⟨rfl,hb1⟩
 have hX0:W0.heap[w.heap.size]?=some (.cells #[.int .i64 3,.int .i64 0,.string ⟨sx.toArray⟩,.slice p3 0 k3,.slice p4 m k4] 44 (0,0)):=kE hb1 (by simp) (Qw _ _)
 have hb0:=(Qn w _).thn hb1
 clear hb1
 obtain ⟨c0,c1,c2,c3,c4⟩:=row5 hX0
 go_wp2_with fail
 clear c0 c1 c2 c3 c4
 have HX0:Hid (w.heap.size<W0.heap.size∧W0.cell? ⟨w.heap.size,4,none⟩=some (.slice p4 m k4)):=Qq ⟨Qf hX0,Qk _ _ 4 _ _ _ hX0⟩
 have HX3:Hid (w.heap.size<W0.heap.size∧W0.cell? ⟨w.heap.size,3,none⟩=some (.slice p3 0 k3)):=Qq ⟨Qf hX0,Qk _ _ 3 _ _ _ hX0⟩
 have HB0:=Qq hb0
 clear hX0 hb0
 go_loopw [5] (fun i wr=>i=.int .i64 0∧W0=wr) (fun _ _=>0)
 case atStart=>exact ⟨rfl,rfl⟩
 obtain ⟨rfl,rfl⟩:=hrel
 have c4:=HX0.out.2
 have c3:=HX3.out.2
 go_wp2_with fail
 clear c3 c4
 go_loopw [6] (fun i wr=>∃ k:Nat,k≤m∧i=.int .i64 k∧Aside (Below W0.heap.size W0 wr)) (fun i _=>m - (intOf i).toNat)
 case atStart=>exact ⟨0,Q8 _,rfl,Qz _ _⟩
 obtain ⟨k,hk,rfl,hBr⟩:=hrel
 have HBr:=Qq (show Below W0.heap.size W0 wr from hBr)
 have c4:=(HBr.out.cell (p:=⟨w.heap.size,4,none⟩) HX0.out.1).trans HX0.out.2
 clear hBr
 by_cases hlt:k<m
 ·have hi1:(0:Int)≤(k:Int):=by omega
  have hi2:(k:Int)<(m:Int):=by omega
  obtain ⟨y,hy⟩:∃ y,ks[k]?=some y:=⟨_,Qx (by rw [HM.out];exact hlt)⟩
  obtain ⟨b,off,q3,l3,q4,l4,rfl,hbl,hvy,d0,d1,d2,d3,d4⟩:=(HKs.out.below (HB0.out.thn HBr.out)).val hy
  have HVy:=Qq hvy;have HIy:=Qq (HI.out y (Qy hy))
  clear hvy hy
  go_wp2_with (go_at_call 136;refine (HIy.out _ _ _ HVy.out).mono ?_;rintro e w5 ⟨rfl,hb5⟩;have HB5:=Qq hb5;clear hb5)
  go_roundw
  case measure=>simp [intOf];omega
  case rel=>exact ⟨k+1,by omega,by go_num,HBr.out.thn HB5.out⟩
 have hkm:k=m:=by omega
 subst hkm
 go_wp2_with fail
 go_ret
 exact ⟨rfl,HB0.out.thn HBr.out⟩
theorem Nc (ns:List Bs) (ks:List Val) (hlen:ns.length=ks.length) (hw:∀ x ∈ ns,Xy x) (hst:∀ (i:Nat) (x y:Bs),ns[i]?=some x→ns[i+1]?=some y→Zg x y<0) (ih:∀ x ∈ ks,Y5 x):Y5 (.mk 4 0 [] ns ks):=by
 intro S cs w h
 obtain ⟨p3,k3,p4,k4,hcs,hn,hk,_⟩:=Qh.cells h
 simp only [vcs,Val.kind,Val.n,Val.s,Val.names,Val.kids] at hcs hn hk
 subst hcs
 obtain ⟨_,_,_,hml⟩:=hk.len
 have HI:=Qq ih
 obtain ⟨m,hm⟩:=eX (ks.length)
 rw [hm] at hk hml ⊢
 have HKs:=Qq hk;have HM:=Qq hm
 have mixed:prog.follows .mixedOrders=true:=by kernel_rfl
 have hnl:ns.length=m:=by omega
 rw [hnl] at hn ⊢
 have HNs:=Qq hn;have HNl:=Qq hnl;have HW:=Qq hw;have HSt:=Qq hst
 have hqm:((m:Int) != (m:Int))=false:=by simp
 clear hm hn hnl hlen hw hst
 clear h hk ih
 go_enter func136,ntmps136
 go_wp2_with fail
 generalize hW0:w.alloc _=W0
 have hb0:=eqB hW0 (Qn _ _)
 have hX0:=eqH (b:=w.heap.size) hW0 (Qw _ _)
 clear hW0
 clear hqm
 have HX0:Hid (w.heap.size<W0.heap.size∧W0.cell? ⟨w.heap.size,4,none⟩=some (.slice p4 m k4)):=Qq ⟨Qf hX0,Qk _ _ 4 _ _ _ hX0⟩
 have HX3:Hid (w.heap.size<W0.heap.size∧W0.cell? ⟨w.heap.size,3,none⟩=some (.slice p3 m k3)):=Qq ⟨Qf hX0,Qk _ _ 3 _ _ _ hX0⟩
 have HB0:=Qq hb0
 clear hX0 hb0
 go_loopw [5] (fun i wr=>∃ k:Nat,k≤m∧i=.int .i64 k∧Aside (Below W0.heap.size W0 wr)) (fun i _=>m - (intOf i).toNat)
 case atStart=>exact ⟨0,Q8 _,rfl,Qz _ _⟩
 obtain ⟨k,hk,rfl,hBr⟩:=hrel
 have HBr:=Qq (show Below W0.heap.size W0 wr from hBr)
 have c3:=(HBr.out.cell (p:=⟨w.heap.size,3,none⟩) HX3.out.1).trans HX3.out.2
 have c4:=(HBr.out.cell (p:=⟨w.heap.size,4,none⟩) HX0.out.1).trans HX0.out.2
 have hbl:w.heap.size<wr.heap.size:=by have:=HX3.out.1;have:=HBr.out.size;omega
 clear hBr
 by_cases hlt:k<m
 ·have hi1:(0:Int)≤(k:Int):=by omega
  have hi2:(k:Int)<(m:Int):=by omega
  obtain ⟨y,hy⟩:∃ y,ns[k]?=some y:=⟨_,Qx (by rw [HNl.out];exact hlt)⟩
  obtain ⟨nb,noff,rfl,hyc,-⟩:=(HNs.out.below (HB0.out.thn HBr.out)).str hy
  have hnbl:=Qv _ _ hyc
  have HF:=Qq (fun W=>B8 y (HW.out y (Qy hy)) W)
  unfold sv at HF
  have C3:=J2 hbl c3
  by_cases hk0:k=0
  ·subst hk0
   rw [Nat.add_zero] at hyc
   have Y:=J2 hnbl hyc
   have hm0:(0:Int)<(m:Int):=by omega
   have hm3:0<m:=hlt
   clear hy hi1 hi2
   rw [show ((0:Nat):Int)=(0:Int) from rfl]
   go_wp2_with fail
   refine Xt (by assumption) (by kernel_rfl) ?_
   repeat (first | go_big_quiet_skip | quiet_step ((go_at_call 115;exact Calls.later_of (HF.out _))))
   refine wpQuiet_nil ?_
   intro _ hw'
   obtain ⟨⟨wq,hbq⟩,hw''⟩:=hw'
   subst hw''
   try dsimp only
   clear C3 Y c4
   go_wp2_with fail
   go_roundw
   case measure=>simp [intOf];omega
   case rel=>exact ⟨0+1,by omega,by go_num,HBr.out.thn hbq⟩
  obtain ⟨j,rfl⟩:∃ j,k=j+1:=⟨k - 1,by omega⟩
  obtain ⟨z,hz⟩:∃ z,ns[j]?=some z:=⟨_,Qx (by rw [HNl.out];omega)⟩
  obtain ⟨nb',noff',he,hzc,-⟩:=(HNs.out.below (HB0.out.thn HBr.out)).str hz
  obtain ⟨rfl,rfl,-⟩:nb=nb'∧noff=noff'∧True:=by simpa using he
  have Y:=J2 hnbl hyc
  have Z:=J2 hnbl hzc
  have hlt2:=HSt.out j z y hz hy
  have hq1:Op.bytesLess y z=false:=by rw [(Xj y z).1,E5];simp;omega
  have hq2:(y==z)=false:=by rw [(Xj y z).2.1,E5];simp;omega
  have hj1:IntKind.i64.wrap (j:Int)=(j:Int):=by rw [IntKind.wrap_i64];omega
  have hj2:(j:Int)<(m:Int):=by omega
  have hj3:(0:Int)<(j:Int)+1:=by omega
  have hj4:(0:Int)≤(j:Int)+1:=by omega
  have hj5:(j:Int)+1<(m:Int):=by omega
  have hj6:(0:Int)≤(j:Int):=by omega
  have hj7:((j:Int)+1).toNat=j+1:=by omega
  clear hy hyc hz hzc he hk0 hlt2
  go_wp2_with fail
  refine Xt (by assumption) (by kernel_rfl) ?_
  repeat (quiet_step ((go_at_call 115;exact Calls.later_of (HF.out _))))
  refine wpQuiet_nil ?_
  intro _ hw'
  obtain ⟨⟨wq,hbq⟩,hw''⟩:=hw'
  subst hw''
  try dsimp only
  clear C3 Y Z c4 hj1 hj7
  go_wp2_with fail
  go_roundw
  case measure=>simp [intOf];omega
  case rel=>exact ⟨j+1+1,by omega,by go_num,HBr.out.thn hbq⟩
 have hkm:k=m:=by omega
 subst hkm
 have hW:Hid (Below w.heap.size w wr):=Qq (HB0.out.thn HBr.out)
 have hX0':Hid (w.heap.size<wr.heap.size∧wr.cell? ⟨w.heap.size,4,none⟩=some (.slice p4 k k4)):=Qq ⟨hbl,c4⟩
 clear HX0 HX3 HB0 HBr
 obtain ⟨W0,rfl⟩:∃ W0:World,W0=wr:=⟨_,rfl⟩
 have HX0:=hX0';have HB0:=hW
 clear hX0' hW
 go_wp2_with fail
 clear c3 c4
 obtain ⟨mm,rfl⟩:∃ mm,mm=k:=⟨_,rfl⟩
 go_loopw [6] (fun i wr=>∃ k:Nat,k≤mm∧i=.int .i64 k∧Aside (Below W0.heap.size W0 wr)) (fun i _=>mm - (intOf i).toNat)
 case atStart=>exact ⟨0,Q8 _,rfl,Qz _ _⟩
 obtain ⟨k,hk,rfl,hBr⟩:=hrel
 have HBr:=Qq (show Below W0.heap.size W0 wr from hBr)
 have c4:=(HBr.out.cell (p:=⟨w.heap.size,4,none⟩) HX0.out.1).trans HX0.out.2
 clear hBr
 by_cases hlt:k<mm
 ·have hi1:(0:Int)≤(k:Int):=by omega
  have hi2:(k:Int)<(mm:Int):=by omega
  obtain ⟨y,hy⟩:∃ y,ks[k]?=some y:=⟨_,Qx (by rw [HM.out];exact hlt)⟩
  obtain ⟨b,off,q3,l3,q4,l4,rfl,hbl,hvy,d0,d1,d2,d3,d4⟩:=(HKs.out.below (HB0.out.thn HBr.out)).val hy
  have HVy:=Qq hvy;have HIy:=Qq (HI.out y (Qy hy))
  clear hvy hy
  go_wp2_with (go_at_call 136;refine (HIy.out _ _ _ HVy.out).mono ?_;rintro e w5 ⟨rfl,hb5⟩;have HB5:=Qq hb5;clear hb5)
  go_roundw
  case measure=>simp [intOf];omega
  case rel=>exact ⟨k+1,by omega,by go_num,HBr.out.thn HB5.out⟩
 have hkm:k=mm:=by omega
 subst hkm
 go_wp2_with fail
 go_ret
 exact ⟨rfl,HB0.out.thn HBr.out⟩
theorem N0 (v:Val) (hv:Zr v):Y5 v:=by
 induction hv with
 | int n=>exact Mr n [] rfl (fun x h=>by simp at h)
 | text s=>exact Le s [] rfl (fun x h=>by simp at h)
 | bool n hn=>
  rcases hn with rfl | rfl
  ·exact H8 [] rfl (fun x h=>by simp at h)
  exact Lq [] rfl (fun x h=>by simp at h)
 | make s kids hs hl hk ih=>exact Lp s hs kids hl ih
 | record names kids hl hn hs hk ih=>exact Nc names kids hl hn hs ih
 | list kids hk ih=>exact Mw kids ih
end Go.Proofs.YtppbaladeefnkaaGreatDoor
