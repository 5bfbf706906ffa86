import Derived.Test.YtdpibdpbgokmoaaGreatDoorA11
set_option maxRecDepth 100000
set_option maxHeartbeats 400000000
namespace Go.Proofs.YtdpibdpbgokmoaaGreatDoor
open Go.RowKit Go.Shelf Go.Lib Tryz
theorem less_any (g:Nat) (lb:Array Value) (eg:∀ args w,(callFunc g args).run prog w=.ok (.enter g args) w) (S0:Nat->Prop) (u v:Val) (w:World) (hS0:∀ b,S0 b->b<w.heap.size)
  (h0:∀ W,Below w w W->Calls prog g (#[.int .i64 0]++lb) W (Bv S0 W u)) (h1:∀ W,Below w w W->Calls prog g (#[.int .i64 1]++lb) W (Bv S0 W v)):
  Calls prog 140 #[.string ⟨#[60]⟩,.func (.func g) #[] lb,.int .i64 2] w (Bv S0 w (Vq (decide (Zu u v<0)))):=by
 obtain ⟨H0,H1,HM,aO⟩:=It h0 h1 Xf hS0
 have J:=Qq (λcu cv W (hu:Z9 S0 W cu u) (hv:Z9 S0 W cv v)=>Gb S0 u v cu cv W hu hv)
 have M:=Qq (U8 (decide (Zu u v<0)) S0)
 obtain ⟨r,U⟩:=eX (Vq (decide (Zu u v<0)))
 rw [U] at M |-
 clear h0 h1 U hS0
 generalize Zu u v=c at J M
 go_enter func140,ntmps140
 go_wp2_with (go_at_call 134;refine (HM.o _).mono ?_;rintro e w' ⟨rfl,rfl⟩)
 refine (H0.o _ (Zg _ _)).mono ?_
 rintro e w1 ⟨cu,rfl,hu,N⟩
 obtain ⟨a3,m3,a4,m4,A,_⟩:=Z9.cells hu
 simp only [Il] at A
 subst A
 obtain ⟨aB,aA,HU⟩:=Im ((N.block w Ib).trans (Qw w _)) ((Zg w _).n N) hu
 clear hu N
 go_wp2_with fail
 refine (H1.o _ aA.o).mono ?_
 rintro e w2 ⟨cv,rfl,hv,I⟩
 obtain ⟨b3,n3,b4,n4,A,_⟩:=Z9.cells hv
 simp only [Il] at A
 subst A
 have aC:=Qq ((I.block w (Z8 aB.o)).trans aB.o);have aI:=Qq (aA.o.n I)
 have aP:=Qq (Z9.move HU.o (.f I) Ij);have aQ:=Qq hv
 clear hv I
 go_upto_region 10 with fail
 generalize G:(w2.alloc _).alloc _=w4
 have D:=Iq G (Zs _ _ _)
 have Y:=Ik (b:=w2.heap.size) G (Q5 _ _ _)
 have Z:=Ik (b:=w2.heap.size+1) G (Q6 _ _ _)
 have aD:=Qq ((D.block w (Z8 aC.o)).trans aC.o);have aJ:=Qq (aI.o.n D)
 have aM:=Qq (λW (hb:Below w4 w4 W)=>J.o _ _ W (Z9.move (Z9.move aP.o (.f D) Ij) (.f hb) Ij) (Z9.move (Z9.move aQ.o (.f D) Ij) (.f hb) Ij))
 have x0:=AB Y;have y0:=AB Z;have x1:=AA Y;have y1:=AA Z;have x2:=AM Y;have y2:=AM Z;have x3:=AH Y;have y3:=AH Z;have x4:=Iz Y;have y4:=Iz Z
 clear D Y Z G
 go_wp2_with fail
 refine (aM.o _ (Qz _ _)).mono ?_
 rintro e w5 ⟨rfl,aF⟩
 have O:=aF.bl
 have aE:=Qq ((O.block w (Z8 aD.o)).trans aD.o);have aK:=Qq (aJ.o.n O)
 clear O aF
 go_wp2_with (go_at_call 135;refine (M.o _).mono ?_;rintro e w6 ⟨cr,rfl,V,T⟩;obtain ⟨q3,l3,q4,l4,A,_⟩:=Z9.cells V;simp only [Il] at A;subst A;have aL:=Qq T;have aR:=Qq V;have U:=(T.block w (Z8 aE.o)).trans aE.o;have aN:=Qq U;obtain ⟨f0,f1,f2,f3,f4⟩:=Ip U;obtain ⟨r0,r1,r2,r3,r4⟩:=If U;clear V T U)
 show bodyPost _ _ _ _ _ (AI w6 w r q3 l3 q4 l4)
 refine Q7 (v:=.agg (Is r q3 l3 q4 l4)) (by simp [results,results140,go_sem,Ze aN.o]) rfl ⟨_,rfl,?_,Zd (aK.o.n aL.o) (Q9 _)⟩
 exact Z9.move aR.o (λb hb _=>Zf (by have:=aO.o b hb;omega)) Ij
def Wo:List Bs:=[[116,121,112,101],[116,97,98,108,101],[107,101,121],[114,101,102],[116,111],[99,104,101,99,107],[102,117,110],[112,114,111,99],[108,101,116],[105,110],[105,102],[116,104,101,110],[101,108,115,101],[109,97,116,99,104],[105,110,115,101,114,116],[100,101,108,101,116,101],[97,115],[119,104,101,114,101],[117,112,100,97,116,101],[115,101,116],[119,105,116,104],[97,110,100],[111,114],[110,111,116],[116,114,117,101],[102,97,108,115,101]]
theorem kwsR_eq (l:Bs):Wo.contains l=Hz l:=by
 unfold Hz
 rw [Bool.eq_iff_iff,List.contains_iff_mem,List.contains_iff_mem]
 have h1:∀ x ∈ Wo,x ∈ kws:=Ih
 have h2:∀ x ∈ kws,x ∈ Wo:=Ih
 exact ⟨h1 l,h2 l⟩
theorem On (w:World):Calls prog 214 #[] w λe w'=>e=.returned (.slice (some ⟨w,0,none⟩) 26 26)/\w'=w.alloc (.cells (svs Wo).toArray 9):=by
 go_enter func214,ntmps214
 go_wp2
 go_ret
 exact ⟨rfl,rfl⟩
theorem svs_get (ls:List Bs) (i:Nat) (h:i<ls.length):(svs ls)[i]?=some (.string ⟨(ls.getD i []).toArray⟩):=by
 simp only [svs,List.getElem?_map,Qx h,Option.map_some,Qs,Option.getD_some]
 rfl
theorem Wq (ls:List Bs) (b c:Nat) (s:ByteArray) (w:World) (hl:ls.length<=1000000) (hr:w.rangeAt b 0 (svs ls)):
  Calls prog 213 #[Io b 0 ls.length c,.string s] w λe w'=>e=.returned (.bool (ls.contains (bl s)))/\w=w':=by
 have HR:=Qq hr;clear hr
 obtain ⟨n,U⟩:=eX (ls.length)
 rw [U] at hl |-
 have M:=Qq U;clear U
 obtain ⟨R,N⟩:=eX (ls.contains (bl s))
 rw [N]
 have G:=Qq N;clear N
 go_enter func213,ntmps213
 go_wp2
 go_loop [5] (λi=>∃ k:Nat,k<=n/\(∀ j,j<k->ls[j]?≠some (bl s))/\i=.int .i64 k) (λi=>n - (intOf i).toNat)
 case atStart=>exact ⟨0,Q8 _,λj O=>Ia,rfl⟩
 obtain ⟨k,hk,I,rfl⟩:=hrel
 have D:=Qq I;clear I
 by_cases hlt:k<n
 ·obtain ⟨x,V⟩:∃ x:ByteArray,(⟨(ls.getD k []).toArray⟩:ByteArray)=x:=⟨_,rfl⟩
  have hc:w.cell? ⟨b,k,none⟩=some (.string x):=by
   have:=HR.o k _ (svs_get ls k (by rw [M.o];exact hlt))
   rw [Nat.zero_add,V] at this;exact this
  have hg:ls[k]?=some (bl x):=by
   have T:k<ls.length:=by rw [M.o];exact hlt
   rw [<- V,E8,Qs,Qx T];rfl
  have HG:=Qq hg;clear hg V
  by_cases he:bl x=bl s
  ·have hb:(x.toList==s.toList)=true:=by rw [Lib.toList_data,Lib.toList_data];simpa using he
   have J:=Qq he;clear he
   go_wp2
   go_ret
   have e:R=true:=by
    rw [<- G.o,<- J.o];exact List.contains_iff_mem.2 (Qy HG.o)
   exact ⟨by rw [e];rfl,rfl⟩
  have hb:(x.toList==s.toList)=false:=by rw [Lib.toList_data,Lib.toList_data];simpa using he
  have J:=Qq he;clear he
  go_wp2
  go_round
  case rel=>
   refine ⟨k+1,Ia,λj O A=>?_,by go_num⟩
   by_cases hjk:j=k
   ·subst hjk;rw [HG.o] at A;exact J.o (Qb A)
   exact D.o j Ia A
  case measure=>simp [intOf];omega
 go_wp2
 go_ret
 have e:R=false:=by
  rw [<- G.o,<- Qt]
  intro hc
  obtain ⟨j,O,e⟩:=List.getElem_of_mem (List.contains_iff_mem.1 hc)
  exact D.o j (Ix M.o) (by rw [Qx O,e])
 exact ⟨by rw [e];rfl,rfl⟩
theorem Py (s:ByteArray) (w:World):Calls prog 198 #[.string s] w λe w'=>e=.returned (.bool (Hz (bl s)))/\Below w w w':=by
 have hk:=kwsR_eq (bl s)
 have h2:∀ w:World,Calls prog 213 #[Io w 0 26 26,.string s] (w.alloc (.cells (svs Wo).toArray 9)) λe w'=>e=.returned (.bool (Hz (bl s)))/\(w.alloc (.cells (svs Wo).toArray 9))=w':=by
  intro w
  rw [<- hk]
  exact Wq Wo w 26 s _ Ih (λj v hv=>by
   rw [Qk _ w (0+j) _ _ _ (Qw w _)]
   simpa using hv)
 have HK:=Qq h2;clear h2 hk
 go_enter func198,ntmps198
 go_wp2_with (first | (go_at_call 214;refine (On _).mono ?_;rintro e w' ⟨rfl,rfl⟩) | (go_at_call 213;refine (HK.o _).mono ?_;rintro e w' ⟨rfl,rfl⟩))
 go_ret
 exact ⟨rfl,(Qz _ _).alloc (Q9 _) _⟩
def Us (c:UInt8):Nat:=if Pz c then 0 else if Gx c then 1 else if Hu c then 2 else if Om c then 3 else if c==95 then 4 else 5
def clsI (n:Int):Int:=if n=9\/n=10\/n=13\/n=32 then 0 else if 97<=n/\n<=122 then 1 else if 65<=n/\n<=90 then 2 else if 48<=n/\n<=57 then 3 else if n=95 then 4 else 5
theorem clsI_eq (c:UInt8):((Us c:Nat):Int)=clsI c.toNat:=by
 have A:=N3 c 95
 rw [show ((95:UInt8).toNat:Int)=95 from rfl] at A
 unfold Us clsI
 rw [Bk,Gd,L8,R7,A]
 simp only [Bool.or_eq_true,beq_iff_eq,Bool.and_eq_true,decide_eq_true_eq]
 (repeat' split) <;> omega
theorem Qzs (c:UInt8) (w:World):Calls prog 197 #[.int .u8 c.toNat] w λe w'=>e=.returned (.int .i64 (Us c))/\w=w':=by
 rw [clsI_eq]
 obtain ⟨n,hn⟩:∃ n:Int,(c.toNat:Int)=n:=⟨_,rfl⟩
 rw [hn]
 clear hn
 go_enter func197,ntmps197
 go_wp2
 all_goals (go_ret;refine ⟨Dz ?_,rfl⟩;unfold clsI)
 all_goals (try simp only [beq_iff_eq,beq_eq_false_iff_ne,ne_eq] at *)
 all_goals ((repeat' split) <;> omega)
theorem Oa (P:UInt8->Bool) (h:(List.range 256).all (λn=>P (UInt8.ofNat n))=true) (c:UInt8):P c=true:=by
 have:=List.all_eq_true.1 h c.toNat (by simpa using c.toNat_lt)
 simpa using this
theorem cls_wo (c:UInt8):Fp c=decide (Us c=1\/Us c=3\/Us c=4):=by
 have:=Oa (λc=>Fp c==decide (Us c=1\/Us c=3\/Us c=4)) (by decide +kernel) c
 simpa using this
theorem cls_na (c:UInt8):Hy c=decide (1<=Us c/\Us c<=3):=by
 have:=Oa (λc=>Hy c==decide (1<=Us c/\Us c<=3)) (by decide +kernel) c
 simpa using this
theorem cls_lo (c:UInt8):Gx c=decide (Us c=1):=by
 have:=Oa (λc=>Gx c==decide (Us c=1)) (by decide +kernel) c
 simpa using this
theorem cls_up (c:UInt8):Hu c=decide (Us c=2):=by
 have:=Oa (λc=>Hu c==decide (Us c=2)) (by decide +kernel) c
 simpa using this
theorem Ko (c:UInt8) (v:Nat) (h:Us c=v) (w:World):Calls prog 197 #[.int .u8 c.toNat] w λe w'=>e=.returned (.int .i64 v)/\w=w':=by
 rw [<- h];exact Qzs c w
theorem Ti (s:ByteArray) (a:Nat) (w:World) (hs:s.size<=16) (ha:a<s.size) (hcl:Us (s[a]'ha)=1) (hall:∀ (k:Nat) (h:k<s.size),Us (s[k]'h)=1\/Us (s[k]'h)=3\/Us (s[k]'h)=4) (hkw:Hz (bl (s.extract a s.size))=false):
  Calls prog 186 #[.string s,a] w λe w'=>e=.returned (.tuple #[.int .i64 2,s.size])/\Below w w w':=by
 have I:=Qq hcl;clear hcl
 have G:=Qq hall;clear hall
 have D:=λW=>Py (s.extract a s.size) W
 rw [hkw] at D
 have J:=Qq D
 clear D hkw
 go_enter func186,ntmps186
 go_wp2_with (go_at_call 197;refine (Ko _ 1 I.o _).mono ?_;rintro e w' ⟨rfl,rfl⟩)
 go_loop [7] (λi=>∃ k:Nat,a+1<=k/\k<=s.size/\i=.int .i64 k) (λi=>s.size - (intOf i).toNat)
 case atStart=>exact ⟨a+1,Q9 _,ha,by go_num⟩
 obtain ⟨k,O,T,rfl⟩:=hrel
 by_cases hlt:k<s.size
 ·obtain ⟨v,N⟩:=eX (Us (s[k]'hlt))
  have A:=G.o k hlt
  rw [N] at A
  have M:=Qq N;clear N
  rcases A with A | A | A
  ·have q0:((v:Int)==1)=true:=by simpa using (by omega:(v:Int)=1)
   clear A
   go_wp2_with (go_at_call 197;refine (Ko _ v M.o _).mono ?_;rintro e w' ⟨rfl,rfl⟩)
   go_round
   case rel=>exact ⟨k+1,Ia,Ia,by go_num⟩
   case measure=>simp [intOf];omega
  ·have q0:((v:Int)==1)=false:=by simpa using (by omega:¬ (v:Int)=1)
   have q1:((v:Int)==3)=true:=by simpa using (by omega:(v:Int)=3)
   clear A
   go_wp2_with (go_at_call 197;refine (Ko _ v M.o _).mono ?_;rintro e w' ⟨rfl,rfl⟩)
   go_round
   case rel=>exact ⟨k+1,Ia,Ia,by go_num⟩
   case measure=>simp [intOf];omega
  have q0:((v:Int)==1)=false:=by simpa using (by omega:¬ (v:Int)=1)
  have q1:((v:Int)==3)=false:=by simpa using (by omega:¬ (v:Int)=3)
  have q2:((v:Int)==4)=true:=by simpa using (by omega:(v:Int)=4)
  clear A
  go_wp2_with (go_at_call 197;refine (Ko _ v M.o _).mono ?_;rintro e w' ⟨rfl,rfl⟩)
  go_round
  case rel=>exact ⟨k+1,Ia,Ia,by go_num⟩
  case measure=>simp [intOf];omega
 obtain rfl:k=s.size:=Ia
 go_wp2_with (go_at_call 198;refine (J.o _).mono ?_;rintro e w' ⟨rfl,hw⟩)
 go_ret2
 exact ⟨rfl,hw⟩
theorem Cr (s:ByteArray) (a:Nat) (w:World) (hs:s.size<=16) (ha:a<s.size) (hcl:Us (s[a]'ha)=2) (hall:∀ (k:Nat) (h:k<s.size),1<=Us (s[k]'h)/\Us (s[k]'h)<=3):
  Calls prog 186 #[.string s,a] w λe w'=>e=.returned (.tuple #[.int .i64 3,s.size])/\Below w w w':=by
 have D:=Qq hcl;clear hcl
 have A:=Qq hall;clear hall
 go_enter func186,ntmps186
 go_wp2_with (go_at_call 197;refine (Ko _ 2 D.o _).mono ?_;rintro e w' ⟨rfl,rfl⟩)
 go_loop [7] (λi=>∃ k:Nat,a+1<=k/\k<=s.size/\i=.int .i64 k) (λi=>s.size - (intOf i).toNat)
 case atStart=>exact ⟨a+1,Q9 _,ha,by go_num⟩
 obtain ⟨k,I,J,rfl⟩:=hrel
 by_cases hlt:k<s.size
 ·obtain ⟨v,G⟩:=eX (Us (s[k]'hlt))
  have hc:=A.o k hlt
  rw [G] at hc
  have HV:=Qq G;clear G
  have q0:decide ((1:Int)<=(v:Int))=true:=by simp;omega
  have q1:decide ((v:Int)<=3)=true:=by simp;omega
  clear hc
  go_wp2_with (go_at_call 197;refine (Ko _ v HV.o _).mono ?_;rintro e w' ⟨rfl,rfl⟩)
  go_round
  case rel=>exact ⟨k+1,Ia,Ia,by go_num⟩
  case measure=>simp [intOf];omega
 obtain rfl:k=s.size:=Ia
 go_wp2_with fail
 go_ret2
 exact ⟨rfl,Qz _ _⟩
def Le (s:ByteArray) (K:Int):Prop:=∀ W,Calls prog 186 #[.string s,Ic] W λe w'=>e=.returned (.tuple #[K,s.size])/\Below W W w'
theorem Qqv (x:Bs) (h:Vi x):Le ⟨x.toArray⟩ 2:=by
 intro W
 have A:=Vc x
 have I:0<(⟨x.toArray⟩:ByteArray).size:=by rw [A];exact h.pos
 have ha:∀ (k:Nat) (D:k<(⟨x.toArray⟩:ByteArray).size),Fp ((⟨x.toArray⟩:ByteArray)[k]'D)=true:=λk D=>
  Oc (p:=Fp) (l:=x) (by rw [h.all,<- A];exact D) (Ej x k D)
 have G:Gx ((⟨x.toArray⟩:ByteArray)[0]'I)=true:=h.head _ (Ej x 0 I)
 have:=Ti ⟨x.toArray⟩ 0 W (by rw [A];exact h.len) I (by rw [cls_lo] at G;simpa using G) (λk D=>by have:=ha k D;rw [cls_wo] at this;simpa using this) (by rw [A,Eg,E8];exact h.kw)
 exact this
theorem rtok_cap (x:Bs) (h:Eu x):Le ⟨x.toArray⟩ 3:=by
 intro W
 have A:=Vc x
 have I:0<(⟨x.toArray⟩:ByteArray).size:=by rw [A];exact h.pos
 have ha:∀ (k:Nat) (D:k<(⟨x.toArray⟩:ByteArray).size),Hy ((⟨x.toArray⟩:ByteArray)[k]'D)=true:=λk D=>
  Oc (p:=Hy) (l:=x) (by rw [h.all,<- A];exact D) (Ej x k D)
 have G:Hu ((⟨x.toArray⟩:ByteArray)[0]'I)=true:=h.head _ (Ej x 0 I)
 have:=Cr ⟨x.toArray⟩ 0 W (by rw [A];exact h.len) I (by rw [cls_up] at G;simpa using G) (λk D=>by have:=ha k D;rw [cls_na] at this;simpa using this)
 exact this
theorem rnext_at (s:ByteArray) (K:Int) (hp:0<s.size) (h:Le s K) (W:World):
  Calls prog 174 #[.string s,Ic] W λe w'=>e=.returned (.tuple #[K,s.size])/\Below W W w':=by
 have HG:=Qq h
 clear h
 have h1:(0:Int)<(s.size:Int):=Ia
 go_enter func174,ntmps174
 go_wp2_with (go_at_call 186;refine (HG.o _).mono ?_;rintro e w' ⟨rfl,hw⟩)
 go_ret2
 exact ⟨rfl,hw⟩
theorem Qqd (w:World) (xs:List Value) (t:TypeId):∀ j u,xs[j]?=some u->(w.alloc (.cells xs.toArray t)).cell? ((⟨w,0,none⟩:Addr).add j)=some u:=by
 intro j u h
 rw [show (⟨w,0,none⟩:Addr).add j=⟨w,j,none⟩ by unfold Addr.add;split <;> simp_all]
 rw [Qk _ w j _ _ _ (Qw w _)]
 simpa using h
theorem Mc {w w':World} {B:Nat} {e:TypeId} {sz n:Nat} {v:Value} {xs:List Value} (h:w.ownsRow B e sz v n xs) (hb:Below w w w'):w'.ownsRow B e sz v n xs:=Dk h hb
theorem Te (s:ByteArray) (K:Int) (hp:0<s.size) (hl:s.size<=16) (h:Le s K) (w:World):
  Calls prog 152 #[.string s] w λe w'=>∃ g cap,e=.returned (.slice (some ⟨g,0,none⟩) 1 cap)/\Ii w' g 0 K/\Below w w w':=by
 have HN:=Qq (λW=>rnext_at s K hp h W)
 clear h
 obtain ⟨i0,hi,O,T,U⟩:=Y8 (P:=prog) (t:=136) (z:=.agg #[Ic,Ig,Ic]) (n:=3) (b:=32) Ir
 obtain ⟨H1,H2,H3,H4⟩:=It hi O T U
 clear hi O T U
 go_enter func152,ntmps152
 go_wp2_with fail
 go_loopw [3,4,5,6] (λo x _ _ wr=>∃ (a n:Nat) (pre:List Value),a<=s.size/\Aside ((a=0/\n=0/\pre=[])\/(a=s.size/\n=1/\pre=[.int .i64 K,.string s,.int .i64 0]))/\x=.int .i64 a/\wr.ownsRow w 136 3 o n pre/\Below w w wr) (λ_ x _ _ _=>s.size - (intOf x).toNat)
 case atStart=>exact ⟨0,0,[],Ia,.inl ⟨rfl,rfl,rfl⟩,rfl,World.ownsRow_nil _ _ _ _,Qz _ _⟩
 obtain ⟨a,n,pre,ha,V,rfl,G,hB⟩:=hrel
 have Y:=Qq hB;have HO:=Qq G
 clear hB G
 by_cases hlt:a<s.size
 ·have Z:a=0/\n=0/\pre=[]:=by
   rcases V.o with h | h
   ·exact h
   exact absurd h.1 Ia
  obtain ⟨rfl,rfl,rfl⟩:=Z
  clear V
  have h1:(0:Int)<(s.size:Int):=Ia
  go_wp2_with fail
  refine (HN.o _).mono ?_
  rintro e w2 ⟨rfl,hw⟩
  have A:=Mc HO.o hw
  have N:=Y.o.trans (hw.mono Y.o.size)
  have D:=Qq N;have M:=Qq A
  clear hw A N
  go_wp2_with (at_builtin;refine wpList_append_own _ rfl _ _ 171 rfl w 136 i0 (.agg #[Ic,Ig,Ic]) 3 32 underlying171 H1.o H2.o H3.o H4.o rfl Ih _ _ _ rfl (M.o.alloc _) ⟨w2,0,none⟩ 1 1 [K,.string s,Ic] rfl rfl (Qqd _ _ _) (by simp [Value.oneCell']) (by unfold maxLen;omega) Ia (by have:=D.o.size;simp;omega) ?_;intro v' w1 J I _)
  refine ⟨⟨s.size,1,[K,.string s,Ic],Q9 _,.inr ⟨rfl,rfl,rfl⟩,rfl,by simpa using J,?_⟩,by simp [intOf];omega⟩
  exact (D.o.alloc D.o.size _).grown I (by have:=D.o.size;simp;omega) (λj e=>(M.o.lt j e).1)
 have aA:n=1/\pre=[.int .i64 K,.string s,.int .i64 0]:=by
  rcases V.o with h | h
  ·exact absurd h.1 Ia
  exact h.2
 obtain ⟨rfl,rfl⟩:=aA
 clear V
 go_wp2_with fail
 go_ret
 rcases HO.o.2 with ⟨_,hn⟩ | ⟨g,cap,aC,rfl,_,hg,_,_,_,ht⟩
 ·cases hn
 exact ⟨g,cap,rfl,Hw hg ht rfl,Y.o⟩
theorem Re (s:ByteArray) (K at':Int) (hK:K=2\/K=3) (hp:0<s.size) (hl:s.size<=16) (h:Le s K) (w:World):
  Calls prog 107 #[.agg #[K,.string s,at']] w λe w'=>e=.returned (.bool true)/\Below w w w':=by
 have HS:=Qq (λW=>Te s K hp hl h W)
 clear h
 go_enter func107,ntmps107
 go_wp2_with fail
 have J:Below w w (w.alloc (.cells #[K,.string s,at'] 136)):=(Qz _ _).alloc (Q9 _) _
 have M:(w.alloc (.cells #[K,.string s,at'] 136)).cell? ⟨w,0,none⟩=some (.int .i64 K):=by rw [Qk _ w 0 _ _ _ (Qw w _)];rfl
 have c1:(w.alloc (.cells #[K,.string s,at'] 136)).cell? ⟨w,1,none⟩=some (.string s):=by rw [Qk _ w 1 _ _ _ (Qw w _)];rfl
 have D:=Qq J;clear J
 generalize hG:w.heap.size=G at M c1 |-
 generalize w.alloc (.cells #[K,.string s,at'] 136)=W1 at *
 refine (HS.o _).mono ?_
 rintro e w2 ⟨g,cap,rfl,e0,A⟩
 have d0:=kD A (Qv W1 _ M) M
 have d1:=kD A (Qv W1 _ c1) c1
 have I:=Qq (D.o.trans (A.mono D.o.size))
 clear A M c1 hG
 rcases hK with rfl | rfl
 all_goals
  go_wp2_with fail
  go_quiet (fail)
  go_wp2_with fail
  go_ret
  refine ⟨?_,I.o.trans ((Yz _ _).mono I.o.size)⟩
  show Ending.returned (.bool (decide ((s.size:Int)<=16)))=_
  rw [decide_eq_true Ia]
theorem Lw (x:Bs) (h:Vi x) (w:World):Calls prog 107 #[.agg #[.int .i64 2,sv x,Ic]] w λe w'=>e=.returned (.bool true)/\Below w w w':=
 Re ⟨x.toArray⟩ 2 0 (.inl rfl) (by rw [Vc];exact h.pos) (by rw [Vc];exact h.len) (Qqv x h) w
theorem Qqg (x:Bs) (h:Eu x) (w:World):Calls prog 107 #[.agg #[.int .i64 3,sv x,Ic]] w λe w'=>e=.returned (.bool true)/\Below w w w':=
 Re ⟨x.toArray⟩ 3 0 (.inr rfl) (by rw [Vc];exact h.pos) (by rw [Vc];exact h.len) (rtok_cap x h) w
def Vd (n m:Int):Int:=(if n<0 then -(n+1) else n) % m
theorem Dh (n m:Int) (hm:0<m):0<=Vd n m/\Vd n m<m:=by
 unfold Vd;exact ⟨Int.emod_nonneg _ Ia,Int.emod_lt_of_pos _ hm⟩
theorem ret_intE {k:IntKind} {a b:Int} (h:a=b):Ending.returned (.int k a)=.returned (.int k b):=by rw [h]
theorem Fs (n m:Int) (w:World) (hn1:-9223372036854775808<=n) (hn2:n<=9223372036854775807) (hm:1<=m) (hm2:m<=9223372036854775807):
  Calls prog 13 #[n,m] w λe w'=>e=.returned (.int .i64 (Vd n m))/\w=w':=by
 have hz:(m==0)=false:=by simpa using (by omega:¬ m=0)
 by_cases h:n<0
 ·have A:Vd n m=(-(n+1)) % m:=by unfold Vd;rw [if_pos h]
  rw [A]
  clear A
  have h1:0<=-(n+1):=Ia
  go_enter func13,ntmps13
  go_wp2
  go_ret
  exact ⟨ret_intE (by rw [<- Int.neg_tmod,Int.tmod_eq_emod_of_nonneg h1]),rfl⟩
 have A:Vd n m=n % m:=by unfold Vd;rw [if_neg h]
 rw [A]
 clear A
 go_enter func13,ntmps13
 go_wp2
 go_ret
 exact ⟨rfl,rfl⟩
def Xk (l:List Int) (i:Nat) (m:Int):Int:=match l[i]? with
 | some n=>Vd n m
 | none=>0
def Kz (l:List Int):Prop:=∀ n ∈ l,-9223372036854775808<=n/\n<=9223372036854775807
def Hh (w:World) (x:Val) (e:Ending) (w':World):Prop:=∃ cs,e=.returned (.agg cs.toArray)/\Z9 (λb=>w<=b) w' cs x/\Below w w w'
theorem Y4 {T:Type} {r:Rd T} {S:Nat->Prop} {w:World} {b n:Nat} {E:TypeId} {cells:Array Value} {xs:List T} {css:List (List Value)} (hb:w.heap[b]?=some (.cells cells E (0,0))) (hS:S b) (hcs:Cs r S w css xs) (hc:css.flatten=cells.toList) (hn:n=xs.length) (hl:xs.length<=1000000):Sl r S w (.slice (some ⟨b,0,none⟩) n n) xs:=by
 subst hn
 refine Sl.of_css hl hcs hS (Array.getElem?_eq_some_iff.1 hb).1 (λj u hu=>?_)
 rw [Nat.zero_add,Qk _ _ _ _ _ _ hb]
 rw [hc] at hu
 simpa using hu
theorem Bf (S:Nat->Prop) (w:World) (n:Int):Z9 S w [Ic,n,Ig,Ie,Ie] (Y5 n):=Yb (s:=[]) Ib (Sl.nil _ _ _) (Sl.nil _ _ _)
theorem Rv (S:Nat->Prop) (w:World) (a b:Bs) (ha:a.length<=1000000) (hb:b.length<=1000000):Cs Zh S w [[.string ⟨a.toArray⟩],[b]] [a,b]:=
 (Cs.one (r:=Zh) (x:=a) (show Zh.R S w [a] a from ⟨rfl,ha⟩)).app (Cs.one (r:=Zh) (x:=b) (show Zh.R S w [b] b from ⟨rfl,hb⟩))
theorem Gm (a b:Bs) (x y:Int) (w:World) (ha:a.length<=1000000) (hb:b.length<=1000000):
  Calls prog 47 #[sv a,x,sv b,y] w (Hh w (Vf [a,b] [Y5 x,Y5 y])):=by
 unfold sv
 go_enter func47,ntmps47
 go_wp2_with fail
 generalize A:((w.alloc _).alloc _).alloc _=W
 have h0:=Ik (b:=w.heap.size) A (Zp _ _ _ _)
 have h1:=Ik (b:=w.heap.size+1) A (Zo _ _ _ _)
 have h2:=Ik (b:=w.heap.size+1+1) A (Zi _ _ _ _)
 have D:=Iq A (Xt _ _ _ _)
 refine Q7 (v:=.agg #[.int .i64 4,Ic,Ig,Io (w+1) 0 2 2,Io (w+1+1) 0 2 2]) (by simp [results,results47,go_sem,Qk _ _ _ _ _ _ h0]) rfl ⟨_,rfl,?_,D⟩
 refine Yb (s:=[]) Ib ?_ ?_
 ·exact Y4 h1 (by show w<=w.heap.size+1;omega) (Rv _ _ a b ha hb) rfl rfl Ib
 exact Y4 h2 (by show w<=w.heap.size+1+1;omega) ((Cs.one (r:=Zc) (Bf _ W x)).app (Cs.one (r:=Zc) (Bf _ W y))) rfl rfl Ib
def noVal:List PanicEntry:=[{ v:=.iface 121 (.agg #[]),recovered:=false }]
def Ep (w:World) (e:Ending) (w':World):Prop:=e=.panicked noVal/\Below w w w'
def Xw (S:Nat->Prop) (w:World):Option Val->Ending->World->Prop
 | some v=>Bv S w v
 | none=>Ep w
theorem Ga (w:World):Calls prog 134 #[.bool false] w λe w'=>e=.panicked noVal/\w=w':=by
 go_enter func134,ntmps134
 go_wp2_with fail
 exact ⟨rfl,rfl,rfl⟩
theorem of_no (k:Int) (S:Nat->Prop) (v:Val) (cs:List Value) (w:World) (h:Z9 S w cs v) (hk:v.kind≠k):Calls prog 131 #[k,cs] w (Ep w):=by
 have HM:=Qq Ga
 obtain ⟨p3,k3,p4,k4,A,_⟩:=Z9.cells h
 simp only [Il] at A
 subst A
 have hq:(v.kind==k)=false:=by rw [beq_eq_false_iff_ne];exact hk
 clear h hk
 go_enter func131,ntmps131
 go_wp2_with (go_at_call 134;refine (HM.o _).mono ?_;rintro e w' ⟨rfl,rfl⟩)
 exact ⟨rfl,rfl,Zs _ _ _⟩
theorem Uo (S:Nat->Prop) (v:Val) (cs:List Value) (w:World) (h:Z9 S w cs v) (hk:v.kind=2):Calls prog 90 #[cs] w λe w'=>e=.returned (.bool (v.n==1))/\Below w w w':=by
 have HO:=Qq (λW (hb:Below w w W)=>Hn 2 S v cs W (Z9.move h (.f hb) Ij) hk)
 obtain ⟨p3,k3,p4,k4,A,_⟩:=Z9.cells h
 simp only [Il] at A
 subst A
 clear h hk
 obtain ⟨b,hb⟩:=eX ((v.n==1))
 rw [hb]
 have hf:=λW=>fld1 (.int .i64 v.kind) (.int .i64 v.n) (.string ⟨v.s.toArray⟩) (.slice p3 v.names.length k3) (.slice p4 v.kids.length k4) W
 go_enter func90,ntmps90
 go_wp2_with (go_at_call 131;refine (HO.o _ (Zg _ _)).mono ?_;rintro e w' ⟨rfl,hw⟩;have HW:=Qq ((Zg w _).n hw);clear hw)
 go_ret
 exact ⟨rfl,HW.o⟩
theorem Pu (S:Nat->Prop) (v:Val) (cs:List Value) (w:World) (h:Z9 S w cs v) (hk:v.kind≠2):Calls prog 90 #[cs] w (Ep w):=by
 have HO:=Qq (λW (hb:Below w w W)=>of_no 2 S v cs W (Z9.move h (.f hb) Ij) hk)
 obtain ⟨p3,k3,p4,k4,A,_⟩:=Z9.cells h
 simp only [Il] at A
 subst A
 clear h hk
 go_enter func90,ntmps90
 go_wp2_with (go_at_call 131;refine (HO.o _ (Zg _ _)).mono ?_;rintro e w' ⟨rfl,hw⟩;have HW:=Qq ((Zg w _).n hw);clear hw)
 exact ⟨rfl,rfl,HW.o⟩
def EvO (e:Ex) (env:List (Bs × Val)) (r:Option Val):Prop:=∀ (S S':Nat->Prop) (cs:List Value) (p:Value) (w:World),(∀ b,w.heap.size<=b->S b)->Xs w->Yx S' w cs e->Xy S w p env->Calls prog 91 #[cs,p] w (Xw S w r)
theorem EvV.o {e:Ex} {env:List (Bs × Val)} {v:Val} (h:EvV e env v):EvO e env (some v):=λS S' cs p w _ _=>h S S' cs p w
theorem D8 (E V k:Nat) (S0 S':Nat->Prop) (kp:Option Addr) (kc:Nat) (kids:List Ex) (e:Ex) (p:Value) (env:List (Bs × Val)) (r:Option Val) (w:World) (h6:w.cell? ⟨E,6,none⟩=some (.slice kp kids.length kc)) (hk:Sl Vz S' w (.slice kp kids.length kc) kids) (hV:w.cell? ⟨V,0,none⟩=some p)
  (hSn:∀ b,w.heap.size<=b->S0 b) (hkw:Xs w) (he0:Xy S0 w p env) (hx:kids[k]?=some e) (hev:EvO e env r):Calls prog 132 #[k,Iv E,Iv V] w (Xw S0 w r):=by
 obtain ⟨q,rfl⟩:=he0.ptr
 obtain ⟨xb,aN,cs,aJ,aM,_,_,hr,D⟩:=hk.elem hx
 subst aJ
 have he:Xy (λb=>S0 b/\b≠w.heap.size) w (.pointer q) env:=he0.move (.refl _ _) (λb hb h=>⟨h,Ia⟩)
 have T:=Qq (λW (hb:Below w w W) (hlt:w<W.heap.size)=>hev (λb=>S0 b/\b≠w.heap.size) S' cs (.pointer q) W (λb bA=>⟨hSn b Ia,Ia⟩) (hkw.below hb) (Vz.frame hr (.f hb)) (he.move (.f hb) Ij))
 obtain ⟨ek,aY,en,aZ,aV,aS,aP,aW,aT,aQ,aX,aU,aR,ea,ez,I⟩:=Yx.cells (show Yx S' w cs e from hr)
 subst I
 have bD:k<kids.length:=(Qj hx).1
 have bB:(0:Int)<=(k:Int):=Ia
 have bC:(k:Int)<(kids.length:Int):=Ia
 have d0:=D 0 _ rfl
 have d1:=D 1 _ rfl
 have d2:=D 2 _ rfl
 have d3:=D 3 _ rfl
 have d4:=D 4 _ rfl
 have d5:=D 5 _ rfl
 have d6:=D 6 _ rfl
 have d7:=D 7 _ rfl
 have d8:=D 8 _ rfl
 simp only [show Vz.k=9 from rfl,Nat.add_zero] at d0 d1 d2 d3 d4 d5 d6 d7 d8
 go_enter func132,ntmps132
 go_upto_region 1 with fail
 generalize N:w.alloc _=Y
 have O:=Iq N (Zg _ _)
 have U:=Ik (b:=w.heap.size) N (Qw _ _)
 have G:∀ {b j:Nat} {u:Value},w.cell? ⟨b,j,none⟩=some u->Y.cell? ⟨b,j,none⟩=some u:=λD=>kC O D
 replace h6:=G h6
 replace hV:=G hV
 replace d0:=G d0
 replace d1:=G d1
 replace d2:=G d2
 replace d3:=G d3
 replace d4:=G d4
 replace d5:=G d5
 replace d6:=G d6
 replace d7:=G d7
 replace d8:=G d8
 clear N G hk D he0 he hx hev hr aM hSn hkw
 go_still_tail 6,Ir
 change wpList _ _ _ _ _ Y.drew
 have A:=Qq (show Below w w Y.drew from O.drew);have Z:=Qq (show Y.drew.heap[w.heap.size]?=_ from U)
 generalize Y.drew=w2' at A Z
 clear h6 hV d0 d1 d2 d3 d4 d5 d6 d7 d8 O U
 cases r with
 | none=>
  go_wp2_with (go_at_call 91;refine (T.o _ A.o (Z8 Z.o)).mono ?_;rintro e w2 ⟨rfl,hb⟩;have J:=Qq hb;clear hb)
  exact ⟨rfl,rfl,A.o.n J.o⟩
 | some v=>
  go_wp2_with (go_at_call 91;refine (T.o _ A.o (Z8 Z.o)).mono ?_;rintro e w2 ⟨aO,rfl,hv,hb⟩;obtain ⟨q3,l3,q4,l4,I,_⟩:=Z9.cells hv;simp only [Il] at I;subst I;obtain ⟨HV,J,M⟩:=Im hv (A.o.n hb) (kB hb Z.o);have fz:=λj=>Qn _ _ j _ _ M.o;obtain ⟨f0,f1,f2,f3,f4⟩:=Iw fz;have rr:=λj=>Qk _ _ j _ _ _ M.o;obtain ⟨r0,r1,r2,r3,r4⟩:=Iw rr;simp only [Qf,Qg,Qh] at r0 r1 r2 r3 r4;clear fz rr hv hb)
  show bodyPost _ _ _ _ _ (AI w2 w v q3 l3 q4 l4)
  refine Q7 (v:=.agg (Is v q3 l3 q4 l4)) (by simp [results,results132,go_sem,Ze M.o]) rfl ⟨_,rfl,?_,Zd J.o (Q9 _)⟩
  exact Z9.move HV.o (λb hb _=>Zf (by have:=hb.2;omega)) (λ_ _ h=>h.1)
def IsBin (o:Bs):Prop:=(o==[110,111,116])=false/\(o==[97,110,100])=false/\(o==[111,114])=false
def Nk (o:Bs) (f:Int->Bool):Prop:=(o=[61,61]/\f=λc=>c==0)\/(o=[33,61]/\f=λc=>c != 0)\/(o=[60]/\f=λc=>decide (c<0))\/(o=[60,61]/\f=λc=>decide (c<=0))
theorem op_no0 (g:Nat) (lb:Array Value) (eg:∀ args w,(callFunc g args).run prog w=.ok (.enter g args) w) (S0:Nat->Prop) (o:Bs) (w:World) (hbin:IsBin o)
  (h0:∀ W,Below w w W->w<W.heap.size->Calls prog g (#[.int .i64 0]++lb) W (Xw S0 W none)):
  Calls prog 140 #[o,.func (.func g) #[] lb,.int .i64 2] w (Ep w):=by
 have H0:=Qq h0;have HM:=Qq Xf
 obtain ⟨e1,e2,e3⟩:=hbin
 clear h0
 go_enter func140,ntmps140
 go_wp2_with (go_at_call 134;refine (HM.o _).mono ?_;rintro e w' ⟨rfl,rfl⟩)
 refine (H0.o _ (Zg _ _) Ib).mono ?_
 rintro e w1 ⟨rfl,hb⟩
 exact ⟨rfl,rfl,(Zg w _).n hb⟩
theorem op_cmp (g:Nat) (lb:Array Value) (eg:∀ args w,(callFunc g args).run prog w=.ok (.enter g args) w) (S0:Nat->Prop) (o:Bs) (f:Int->Bool) (u v:Val) (w:World) (hS0:∀ b,S0 b->b≠w.heap.size) (ho:Nk o f)
  (h0:∀ W,Below w w W->w<W.heap.size->Calls prog g (#[.int .i64 0]++lb) W (Xw S0 W (some u))) (h1:∀ W,Below w w W->w<W.heap.size->Calls prog g (#[.int .i64 1]++lb) W (Xw S0 W (some v))):
  Calls prog 140 #[o,.func (.func g) #[] lb,.int .i64 2] w (Xw S0 w (some (Vq (f (Zu u v))))):=by
 obtain ⟨H0,H1,HM,aO⟩:=It h0 h1 Xf hS0
 have J:=Qq (λcu cv W (hu:Z9 S0 W cu u) (hv:Z9 S0 W cv v)=>Gb S0 u v cu cv W hu hv)
 have M:=Qq (U8 (f (Zu u v)) S0)
 obtain ⟨r,V⟩:=eX (Vq (f (Zu u v)))
 rw [V] at M |-
 clear h0 h1 V hS0
 generalize Zu u v=c at J M
 rcases ho with ⟨rfl,rfl⟩ | ⟨rfl,rfl⟩ | ⟨rfl,rfl⟩ | ⟨rfl,rfl⟩
 all_goals
  go_enter func140,ntmps140
  go_wp2_with (go_at_call 134;refine (HM.o _).mono ?_;rintro e w' ⟨rfl,rfl⟩)
  refine (H0.o _ (Zg _ _) Ib).mono ?_
  rintro e w1 ⟨cu,rfl,hu,O⟩
  obtain ⟨a3,aW,a4,aX,A,_⟩:=Z9.cells hu
  simp only [Il] at A
  subst A
  obtain ⟨N,aB,HU⟩:=Im ((O.block w Ib).trans (Qw w _)) ((Zg w _).n O) hu
  clear hu O
  go_wp2_with fail
  refine (H1.o _ aB.o (Z8 N.o)).mono ?_
  rintro e w2 ⟨cv,rfl,hv,I⟩
  obtain ⟨b3,aY,b4,aZ,A,_⟩:=Z9.cells hv
  simp only [Il] at A
  subst A
  have aC:=Qq ((I.block w (Z8 N.o)).trans N.o);have aI:=Qq (aB.o.n I)
  have aP:=Qq (Z9.move HU.o (.f I) Ij);have aR:=Qq hv
  clear hv I
  go_upto_region 10 with fail
  generalize G:(w2.alloc _).alloc _=w4
  have D:=Iq G (Zs _ _ _)
  have Z:=Ik (b:=w2.heap.size) G (Q5 _ _ _)
  have g2:=Ik (b:=w2.heap.size+1) G (Q6 _ _ _)
  have aD:=Qq ((D.block w (Z8 aC.o)).trans aC.o);have aJ:=Qq (aI.o.n D)
  have aQ:=Qq (Z9.move aP.o (.f D) Ij);have aS:=Qq (Z9.move aR.o (.f D) Ij)
  have x0:=AB Z;have y0:=AB g2;have x1:=AA Z;have y1:=AA g2;have x2:=AM Z;have y2:=AM g2;have x3:=AH Z;have y3:=AH g2;have x4:=Iz Z;have y4:=Iz g2
  clear D Z g2 G
  have aM:=Qq (J.o _ _ w4 aQ.o aS.o)
  go_wp2_with fail
  refine aM.o.mono ?_
  rintro e w5 ⟨rfl,aF⟩
  have T:=aF.bl
  have aE:=Qq ((T.block w (Z8 aD.o)).trans aD.o);have aK:=Qq (aJ.o.n T)
  clear T aF
  go_wp2_with (go_at_call 135;refine (M.o _).mono ?_;rintro e w6 ⟨cr,rfl,Y,U⟩;obtain ⟨q3,l3,q4,l4,A,_⟩:=Z9.cells Y;simp only [Il] at A;subst A;have aL:=Qq U;have aT:=Qq Y;have V:=(U.block w (Z8 aE.o)).trans aE.o;have aN:=Qq V;have fz:=λj=>Qn _ _ j _ _ V;obtain ⟨f0,f1,f2,f3,f4⟩:=Iw fz;have rr:=λj=>Qk _ _ j _ _ _ V;obtain ⟨r0,r1,r2,r3,r4⟩:=Iw rr;simp only [Qf,Qg,Qh] at r0 r1 r2 r3 r4;clear fz rr V Y U)
  show bodyPost _ _ _ _ _ (AI w6 w r q3 l3 q4 l4)
  refine Q7 (v:=.agg (Is r q3 l3 q4 l4)) (by simp [results,results140,go_sem,Ze aN.o]) rfl ⟨_,rfl,?_,Zd (aK.o.n aL.o) (Q9 _)⟩
  exact Z9.move aT.o (λb hb _=>Zf (by have:=aO.o b hb;omega)) Ij
end Go.Proofs.YtdpibdpbgokmoaaGreatDoor
