import Derived.Test.YtcljcblceodciaaGreatDoorU10
set_option maxRecDepth 100000
set_option maxHeartbeats 400000000
namespace Go.Proofs.YtcljcblceodciaaGreatDoor
open Go.RowKit Go.Shelf Go.Lib Tryz
theorem ev_less (n:Int) (s:Bs) (names binds:List Bs) (x y:Ex) (a z:Int) (env:List (Bs × Val)) (u v:Val) (hx:EvV x env u) (hy:EvV y env v):EvV (.mk 14 [60] n s names binds [x,y] a z) env (Vf (decide (Yv u v<0))):=by
 intro V S' cs p w U T
 have he:Xk (fun b=>V b/\b<w) w p env:=T.move (.refl _ _) (fun b hb h=>⟨h,hb⟩)
 obtain ⟨nv,bv,kv,rfl,_,_,hn,hb,hk⟩:=Yy.1 U
 obtain ⟨np,nc,rfl,_⟩:=hn.len
 obtain ⟨bp,bc,rfl,_⟩:=hb.len
 obtain ⟨kp,kc,rfl,_⟩:=hk.len
 obtain ⟨q,rfl⟩:=he.ptr
 obtain ⟨HE,HK,HX,HY⟩:=Qjz he hk hx hy
 clear U he T hn hb hk hx hy
 unfold sv
 obtain ⟨r,hr⟩:=eX (Vf (decide (Yv u v<0)))
 rw [hr]
 have I:=Qq hr
 clear hr
 rw [show [x,y].length=2 from rfl]
 show Calls prog 103 #[.agg #[.int .i64 14,.string ⟨#[60]⟩,n,s,.slice np names.length nc,.slice bp binds.length bc,.slice kp 2 kc,a,z],.pointer q] w (Fz V w r)
 go_enter func103,ntmps103
 go_upto_region 3 with fail
 generalize D:((w.alloc _).alloc _).alloc _=Z
 have G:=eqB D (Xm _ _ _ _)
 have N:=eqH (b:=w.heap.size) D (Zp _ _ _ _)
 have h1:=eqH (b:=w.heap.size+1) D (Zo _ _ _ _)
 have h2:=eqH (b:=w.heap.size+1+1) D (Zl _ _ _ _)
 have aH:w.heap.size+1+1<Z.heap.size:=Z8 h2
 have A:=Qq (fun (k:Nat) e t (hke:[x,y][k]?=some e) (hev:EvV e env t) W (hbw:Below Z Z W)=>kid_any w (w+1) k (fun b=>V b/\b<w) S' kp kc [x,y] e (.pointer q) env t W
  ((Qk _ _ 6 _ _ _ (kB hbw N)).trans rfl) ((HK.out.below G).below hbw) ((Qk _ _ 0 _ _ _ (kB hbw h1)).trans rfl) ((HE.out.move (.of_below G) Qje).move (.of_below hbw) Qje) hke hev)
 have HL:=Qq (less_any 140 #[Ch w,Ch (w+1)] (enters_of func140 Cd rfl) (fun b=>V b/\b<w) u v Z (fun b hb=>by have:=hb.2;omega)
  (A.out 0 x u rfl HX.out) (A.out 1 y v rfl HY.out))
 rw [I.out] at HL
 have c0:=rA0 N;have c1:=rA1 N;have c6:=rA6 N
 have H2:=Qq h2;have aA:=Qq G
 clear N h1 h2 G D HE HK HX HY A I
 go_wp2_with fail
 refine HL.out.mono ?_
 rintro e w4 ⟨cr,rfl,M,J⟩
 obtain ⟨q3,l3,q4,l4,O,_⟩:=Z9.cells M
 simp only [vcs] at O
 subst O
 have Y:=kB J H2.out
 obtain ⟨aB,aC,HR⟩:=Qjq (aA.out.thn J) M Y
 have fz:=fun j=>Qn _ _ j _ _ Y
 obtain ⟨f0,f1,f2,f3,f4⟩:=Qjw fz
 have rr:=fun j=>Qk _ _ j _ _ _ Y
 obtain ⟨r0,r1,r2,r3,r4⟩:=Qjw rr
 simp only [Qf,Qg,Qh] at r0 r1 r2 r3 r4
 clear fz rr M J Y
 go_wp2_with fail
 show bodyPost _ _ _ _ _ (Cu w4 (w+1+1) r q3 l3 q4 l4)
 refine Q7 (v:=.agg (Cn r q3 l3 q4 l4)) (by simp [results,results103,go_sem,Ze HR.out]) rfl ⟨_,rfl,?_,Zc aB.out C7⟩
 exact Z9.move aC.out (fun b hb _=>Zf (by have:=hb.2;omega)) (fun _ _ h=>h.1)
theorem L4 (p:Addr) (w:World):
  CallsD prog 101 #[.pointer (some p)] .returning w fun e u' w'=>e=.returned (.tuple #[])/\u'=.returning/\w'=w:=by
 refine callsD_of_wpS func101 rfl fun c₀ cs hu=>?_
 apply wpS_seq
 apply wpS_region
 simp [wpOpsS,go_sem,recoverD,hu,ntmps101,Exit.thenS]
 rw [show (#[Value.pointer (some p)]++(Array.replicate 9 undef).setIfInBounds 3 Value.nilIface)=#[.pointer (some p),undef,undef,undef,.nilIface,undef,undef,undef,undef,undef] from rfl]
 refine wpS_of_wp ?_
 go_wp2_with fail
 cases c₀
 simp_all [bodyPostS,results,results101]
def D7 (v:Val):List (Bs × Val):=(v.names.zip v.kids).reverse
theorem Ff (l:List Bs) (m:List Val):l.zip (m.take l.length)=l.zip m:=by
 induction l generalizing m with
 | nil=>rfl
 | cons a l ih=>cases m with
  | nil=>rfl
  | cons b m=>simp [ih]
theorem Mt (l:List Bs) (m:List Val) (k:Nat) (x:Bs) (u:Val) (hx:l[k]?=some x) (hu:m[k]?=some u):((l.take (k+1)).zip (m.take (k+1))).reverse=(x,u)::((l.take k).zip (m.take k)).reverse:=by
 rw [List.take_add_one,List.take_add_one,hx,hu]
 have h1:k<l.length:=(Qj hx).1
 have h2:k<m.length:=(Qj hu).1
 rw [List.zip_append (by rw [Qm,Qm];omega)]
 simp
theorem sat_ok (S0 S1:Nat->Prop) (t:Tbl) (v:Val) (ct cr:List Value) (b:Bool) (w:World) (ht0:Zm.R S0 w ct t) (hr0:Z9 S1 w cr v) (hsi:Uy t.check=true) (hev:EvV t.check (D7 v) (Vf b)) (hln:v.names.length<=v.kids.length):
  Calls prog 44 #[ct,cr] w fun e w'=>e=.returned (.bool b)/\Below w w w':=by
 have bM:∀ (fn:Fn) (first cap:Array Value) (w:World),(Instr.makeFunc fn first cap).run prog w=.ok (.func fn first cap) w:=fun _ _ _ _=>rfl
 have ht:Zm.R (fun b=>b<w) w ct t:=Zm.mono ht0 (fun b hb _=>hb)
 have hr:Z9 (fun b=>b<w) w cr v:=hr0.move (.refl _ _) (fun b hb _=>hb)
 obtain ⟨bG,bF,bQ,bP,bY,bX,k9,bZ,n9,cA,bU,bR,bC,bV,bS,bD,bW,bT,bE,a9,z9,D,_,_,_,_,T⟩:=Zt ht
 simp only [tcs] at D
 subst D
 obtain ⟨p3,k3,p4,k4,D,U,aC,_⟩:=Z9.cells hr
 simp only [vcs] at D
 subst D
 have aB:=Qq (fun W (hb:Below w w W)=>hsi ▸ My t.check _ _ W (Yx.move T (.of_below hb) Qje))
 have Z:=Qq (fun p W (hb:Below w w W) (he:Xk (fun _=>True) W p (D7 v))=>hev (fun _=>True) _ _ p W (Yx.move T (.of_below hb) Qje) he)
 have aA:=Qq U;have aR:=Qq aC
 obtain ⟨n,hn⟩:=eX (v.names.length)
 have bO:n<=1000000:=by rw [<- hn];obtain ⟨_,_,_,h⟩:=U.len;exact h
 rw [hn] at aA hln |-
 have HN:=Qq hn;have aS:=Qq hln
 clear ht ht0 hr hr0 T U aC hsi hev hn hln
 go_enter_defers func44,ntmps44
 go_wp2_with fail
 refine (aB.out _ (Xm _ _ _ _)).mono ?_
 rintro e w1 ⟨rfl,I⟩
 have h0:=(I.block w (by simp;omega)).trans (Zp w _ _ _)
 have h1:=(I.block (w+1) Ca).trans (Zo w _ _ _)
 have h2:=(I.block (w+1+1) Ca).trans (Zl w _ _ _)
 have aN:=Qq ((Xm w _ _ _).thn I)
 obtain ⟨H0,H1,H2⟩:=Qjq h0 h1 h2
 have x3:=rA3 h1;have x4:=rA4 h1
 clear I h0 h1 h2 aB
 go_wp2_with fail
 go_loopw [5,16] (fun p i wr=>∃ k:Nat,k<=n/\i=.int .i64 k/\Xk (fun _=>True) wr p ((v.names.take k).zip (v.kids.take k)).reverse/\Below w1 w1 wr) (fun _ i _=>n - (intOf i).toNat)
 case atStart=>exact ⟨0,Q8 _,rfl,by simp only [List.take_zero,List.zip_nil_left,List.reverse_nil];exact .nil,Qz _ _⟩
 obtain ⟨k,bL,rfl,hE,G⟩:=hrel
 have Y:=Qq G
 have J:=Qq (aN.out.thn G)
 have A:=Qq (kB G H0.out)
 have aK:=Qq (kB G H2.out)
 have y4:=rA4 ((kB G H1.out))
 obtain ⟨q,rfl⟩:=hE.ptr
 have HE:=Qq hE
 clear G hE
 by_cases hlt:k<n
 ·have bH:(0:Int)<=(k:Int):=C7
  have bI:(k:Int)<(n:Int):=C7
  have aE:k<v.kids.length:=C8 aS.out
  have bJ:(k:Int)<(v.kids.length:Int):=C7
  obtain ⟨x,hx⟩:∃ x,v.names[k]?=some x:=⟨_,Qx (by rw [HN.out];exact hlt)⟩
  obtain ⟨u,hu⟩:∃ u,v.kids[k]?=some u:=⟨_,Qx aE⟩
  obtain ⟨nb,bB,rfl,bN,aG⟩:=(aA.out.below J.out).str hx
  obtain ⟨kb,bA,q3,l3,q4,l4,rfl,bK,aF,d0,d1,d2,d3,d4⟩:=(aR.out.below J.out).val hu
  have HZ:=Qq (Mt v.names v.kids k x u hx hu)
  have aV:=Qq aG;have aU:=Qq aF
  clear hx hu aF aG aE
  go_wp2_with fail
  go_roundw
  case measure=>simp [intOf];omega
  case rel=>
   refine ⟨k+1,C7,by go_num,?_,Y.out.alloc (C8 Y.out.size) _⟩
   rw [HZ.out]
   exact .cons _ q x u q3 l3 q4 l4 _ trivial (Qw _ _) aV.out (Z9.move aU.out (.of_below (Zg _ _)) (fun _ _ _=>trivial)) (HE.out.move (.of_below (Zg _ _)) Qje)
 have aD:k=n:=C7
 have hd:decide ((k:Int)<(n:Int))=false:=by simpa using hlt
 have hz:((v.names.take k).zip (v.kids.take k)).reverse=D7 v:=by
  unfold D7
  rw [aD,<- HN.out,List.take_length,Ff]
 rw [hz] at HE
 have aQ:=Qq (Z.out (.pointer q) wr J.out HE.out)
 have z4:=rA4 A.out;have z5:=rA5 A.out;have z6:=rA6 A.out;have z7:=rA7 A.out;have z8:=rA8 A.out;have cF:=rA9 A.out;have cC:=rA10 A.out;have cD:=rA11 A.out;have cE:=rA12 A.out
 clear hz aD HE Z
 go_wp2_with fail
 refine aQ.out.mono ?_
 rintro e w5 ⟨aW,rfl,V,N⟩
 have aT:=Qq (truth_ok b _ aW w5 V)
 obtain ⟨q3,l3,q4,l4,D,_⟩:=Z9.cells V
 simp only [vcs] at D
 subst D
 have aL:=Qq (kB N aK.out)
 have aO:=Qq (J.out.thn N)
 clear V N
 go_wp2_with fail
 refine aT.out.mono ?_
 rintro e w6 ⟨rfl,O⟩
 have M:=kB O aL.out
 have aP:=Qq (aO.out.thn O)
 have f0:=fA 0 M;have r0:=rA0 M
 have aM:=Qq M
 clear O M
 go_wp2_with fail
 refine leaves_cons (f:=101) (args:=#[.pointer (some ⟨w+1+1,0,none⟩)]) Ca (by simp [go_sem]) ?_
 refine (L4 ⟨w+1+1,0,none⟩ _).mono ?_
 rintro e u' cB ⟨rfl,rfl,rfl⟩
 have hc:(w6.setCell ⟨w+1+1,0,none⟩ (.bool b)).cell? ⟨w+1+1,0,none⟩=some (.bool b):=by
  rw [Qk _ _ 0 _ _ _ (Qi _ _ _ _ _ _ aM.out)]
  rfl
 have hb:Below w w (w6.setCell ⟨w+1+1,0,none⟩ (.bool b)):=aP.out.setCell (by show w<=w.heap.size+1+1;omega) _
 refine ⟨.bool b,by simp [results,results44,go_sem,hc],rfl,hb⟩
def P7:List Bs:=[[116,121,112,101],[116,97,98,108,101],[107,101,121],[114,101,102],[116,111],[99,104,101,99,107],[102,117,110],[112,114,111,99],[108,101,116],[105,110],[105,102],[116,104,101,110],[101,108,115,101],[109,97,116,99,104],[105,110,115,101,114,116],[100,101,108,101,116,101],[97,115],[119,104,101,114,101],[117,112,100,97,116,101],[115,101,116],[119,105,116,104],[97,110,100],[111,114],[110,111,116],[116,114,117,101],[102,97,108,115,101]]
theorem kwsR_eq (l:Bs):P7.contains l=Bw l:=by
 unfold Bw
 rw [Bool.eq_iff_iff,List.contains_iff_mem,List.contains_iff_mem]
 have h1:∀ x ∈ P7,x ∈ kws:=Cc
 have h2:∀ x ∈ kws,x ∈ P7:=Cc
 exact ⟨h1 l,h2 l⟩
theorem Mz (w:World):Calls prog 232 #[] w fun e w'=>e=.returned (.slice (some ⟨w,0,none⟩) 26 26)/\w'=w.alloc (.cells (svs P7).toArray 9):=by
 go_enter func232,ntmps232
 go_wp2
 go_ret
 exact ⟨rfl,rfl⟩
theorem svs_get (ls:List Bs) (i:Nat) (h:i<ls.length):(svs ls)[i]?=some (.string ⟨(ls.getD i []).toArray⟩):=by
 simp only [svs,List.getElem?_map,Qx h,Option.map_some,Qs,Option.getD_some]
 rfl
theorem Rc (ls:List Bs) (b c:Nat) (s:ByteArray) (w:World) (hl:ls.length<=1000000) (hr:w.rangeAt b 0 (svs ls)):
  Calls prog 231 #[Cg b 0 ls.length c,.string s] w fun e w'=>e=.returned (.bool (ls.contains (bl s)))/\w=w':=by
 have HR:=Qq hr;clear hr
 obtain ⟨n,U⟩:=eX (ls.length)
 rw [U] at hl |-
 have M:=Qq U;clear U
 obtain ⟨R,N⟩:=eX (ls.contains (bl s))
 rw [N]
 have G:=Qq N;clear N
 go_enter func231,ntmps231
 go_wp2
 go_loop [5] (fun i=>∃ k:Nat,k<=n/\(∀ j,j<k->ls[j]?≠some (bl s))/\i=.int .i64 k) (fun i=>n - (intOf i).toNat)
 case atStart=>exact ⟨0,Q8 _,fun j O=>C7,rfl⟩
 obtain ⟨k,hk,I,rfl⟩:=hrel
 have D:=Qq I;clear I
 by_cases hlt:k<n
 ·obtain ⟨x,V⟩:∃ x:ByteArray,(⟨(ls.getD k []).toArray⟩:ByteArray)=x:=⟨_,rfl⟩
  have hc:w.cell? ⟨b,k,none⟩=some (.string x):=by
   have:=HR.out k _ (svs_get ls k (by rw [M.out];exact hlt))
   rw [Nat.zero_add,V] at this;exact this
  have hg:ls[k]?=some (bl x):=by
   have T:k<ls.length:=by rw [M.out];exact hlt
   rw [<- V,Bx,Qs,Qx T];rfl
  have HG:=Qq hg;clear hg V
  by_cases he:bl x=bl s
  ·have hb:(x.toList==s.toList)=true:=by rw [Lib.toList_data,Lib.toList_data];simpa using he
   have J:=Qq he;clear he
   go_wp2
   go_ret
   have e:R=true:=by
    rw [<- G.out,<- J.out];exact List.contains_iff_mem.2 (Qy HG.out)
   exact ⟨by rw [e];rfl,rfl⟩
  have hb:(x.toList==s.toList)=false:=by rw [Lib.toList_data,Lib.toList_data];simpa using he
  have J:=Qq he;clear he
  go_wp2
  go_round
  case rel=>
   refine ⟨k+1,C7,fun j O A=>?_,by go_num⟩
   by_cases hjk:j=k
   ·subst hjk;rw [HG.out] at A;exact J.out (Qb A)
   exact D.out j C7 A
  case measure=>simp [intOf];omega
 go_wp2
 go_ret
 have e:R=false:=by
  rw [<- G.out,<- Qt]
  intro hc
  obtain ⟨j,O,e⟩:=List.getElem_of_mem (List.contains_iff_mem.1 hc)
  exact D.out j (C8 M.out) (by rw [Qx O,e])
 exact ⟨by rw [e];rfl,rfl⟩
theorem Ow (s:ByteArray) (w:World):Calls prog 209 #[.string s] w fun e w'=>e=.returned (.bool (Bw (bl s)))/\Below w w w':=by
 have hk:=kwsR_eq (bl s)
 have h2:∀ w:World,Calls prog 231 #[Cg w 0 26 26,.string s] (w.alloc (.cells (svs P7).toArray 9)) fun e w'=>e=.returned (.bool (Bw (bl s)))/\(w.alloc (.cells (svs P7).toArray 9))=w':=by
  intro w
  rw [<- hk]
  exact Rc P7 w 26 s _ Cc (fun j v hv=>by
   rw [Qk _ w (0+j) _ _ _ (Qw w _)]
   simpa using hv)
 have HK:=Qq h2;clear h2 hk
 go_enter func209,ntmps209
 go_wp2_with (first | (go_at_call 232;refine (Mz _).mono ?_;rintro e w' ⟨rfl,rfl⟩) | (go_at_call 231;refine (HK.out _).mono ?_;rintro e w' ⟨rfl,rfl⟩))
 go_ret
 exact ⟨rfl,(Qz _ _).alloc (Q9 _) _⟩
def U2 (c:UInt8):Nat:=if O3 c then 0 else if De c then 1 else if Bl c then 2 else if M3 c then 3 else if c==95 then 4 else 5
def clsI (n:Int):Int:=if n=9\/n=10\/n=13\/n=32 then 0 else if 97<=n/\n<=122 then 1 else if 65<=n/\n<=90 then 2 else if 48<=n/\n<=57 then 3 else if n=95 then 4 else 5
theorem clsI_eq (c:UInt8):((U2 c:Nat):Int)=clsI c.toNat:=by
 have A:=L3 c 95
 rw [show ((95:UInt8).toNat:Int)=95 from rfl] at A
 unfold U2 clsI
 rw [F5,Fo,Ej,O8,A]
 simp only [Bool.or_eq_true,beq_iff_eq,Bool.and_eq_true,decide_eq_true_eq]
 (repeat' split) <;> omega
theorem Ao (c:UInt8) (w:World):Calls prog 208 #[.int .u8 c.toNat] w fun e w'=>e=.returned (.int .i64 (U2 c))/\w=w':=by
 rw [clsI_eq]
 obtain ⟨n,hn⟩:∃ n:Int,(c.toNat:Int)=n:=⟨_,rfl⟩
 rw [hn]
 clear hn
 go_enter func208,ntmps208
 go_wp2
 all_goals (go_ret;refine ⟨Jt ?_,rfl⟩;unfold clsI)
 all_goals (try simp only [beq_iff_eq,beq_eq_false_iff_ne,ne_eq] at *)
 all_goals ((repeat' split) <;> omega)
theorem Ma (P:UInt8->Bool) (h:(List.range 256).all (fun n=>P (UInt8.ofNat n))=true) (c:UInt8):P c=true:=by
 have:=List.all_eq_true.1 h c.toNat (by simpa using c.toNat_lt)
 simpa using this
theorem cls_wo (c:UInt8):Dl c=decide (U2 c=1\/U2 c=3\/U2 c=4):=by
 have:=Ma (fun c=>Dl c==decide (U2 c=1\/U2 c=3\/U2 c=4)) (by decide +kernel) c
 simpa using this
theorem cls_na (c:UInt8):B3 c=decide (1<=U2 c/\U2 c<=3):=by
 have:=Ma (fun c=>B3 c==decide (1<=U2 c/\U2 c<=3)) (by decide +kernel) c
 simpa using this
theorem cls_lo (c:UInt8):De c=decide (U2 c=1):=by
 have:=Ma (fun c=>De c==decide (U2 c=1)) (by decide +kernel) c
 simpa using this
theorem cls_up (c:UInt8):Bl c=decide (U2 c=2):=by
 have:=Ma (fun c=>Bl c==decide (U2 c=2)) (by decide +kernel) c
 simpa using this
theorem Ji (c:UInt8) (v:Nat) (h:U2 c=v) (w:World):Calls prog 208 #[.int .u8 c.toNat] w fun e w'=>e=.returned (.int .i64 v)/\w=w':=by
 rw [<- h];exact Ao c w
theorem Pj (s:ByteArray) (a:Nat) (w:World) (hs:s.size<=16) (ha:a<s.size) (hcl:U2 (s[a]'ha)=1) (hall:∀ (k:Nat) (h:k<s.size),U2 (s[k]'h)=1\/U2 (s[k]'h)=3\/U2 (s[k]'h)=4) (hkw:Bw (bl (s.extract a s.size))=false):
  Calls prog 193 #[.string s,a] w fun e w'=>e=.returned (.tuple #[.int .i64 2,s.size])/\Below w w w':=by
 have I:=Qq hcl;clear hcl
 have G:=Qq hall;clear hall
 have D:=fun W=>Ow (s.extract a s.size) W
 rw [hkw] at D
 have J:=Qq D
 clear D hkw
 go_enter func193,ntmps193
 go_wp2_with (go_at_call 208;refine (Ji _ 1 I.out _).mono ?_;rintro e w' ⟨rfl,rfl⟩)
 go_loop [7] (fun i=>∃ k:Nat,a+1<=k/\k<=s.size/\i=.int .i64 k) (fun i=>s.size - (intOf i).toNat)
 case atStart=>exact ⟨a+1,Q9 _,ha,by go_num⟩
 obtain ⟨k,O,T,rfl⟩:=hrel
 by_cases hlt:k<s.size
 ·obtain ⟨v,N⟩:=eX (U2 (s[k]'hlt))
  have A:=G.out k hlt
  rw [N] at A
  have M:=Qq N;clear N
  rcases A with A | A | A
  ·have q0:((v:Int)==1)=true:=by simpa using (by omega:(v:Int)=1)
   clear A
   go_wp2_with (go_at_call 208;refine (Ji _ v M.out _).mono ?_;rintro e w' ⟨rfl,rfl⟩)
   go_round
   case rel=>exact ⟨k+1,C7,C7,by go_num⟩
   case measure=>simp [intOf];omega
  ·have q0:((v:Int)==1)=false:=by simpa using (by omega:¬ (v:Int)=1)
   have q1:((v:Int)==3)=true:=by simpa using (by omega:(v:Int)=3)
   clear A
   go_wp2_with (go_at_call 208;refine (Ji _ v M.out _).mono ?_;rintro e w' ⟨rfl,rfl⟩)
   go_round
   case rel=>exact ⟨k+1,C7,C7,by go_num⟩
   case measure=>simp [intOf];omega
  have q0:((v:Int)==1)=false:=by simpa using (by omega:¬ (v:Int)=1)
  have q1:((v:Int)==3)=false:=by simpa using (by omega:¬ (v:Int)=3)
  have q2:((v:Int)==4)=true:=by simpa using (by omega:(v:Int)=4)
  clear A
  go_wp2_with (go_at_call 208;refine (Ji _ v M.out _).mono ?_;rintro e w' ⟨rfl,rfl⟩)
  go_round
  case rel=>exact ⟨k+1,C7,C7,by go_num⟩
  case measure=>simp [intOf];omega
 obtain rfl:k=s.size:=C7
 go_wp2_with (go_at_call 209;refine (J.out _).mono ?_;rintro e w' ⟨rfl,hw⟩)
 go_ret2
 exact ⟨rfl,hw⟩
theorem Wq (s:ByteArray) (a:Nat) (w:World) (hs:s.size<=16) (ha:a<s.size) (hcl:U2 (s[a]'ha)=2) (hall:∀ (k:Nat) (h:k<s.size),1<=U2 (s[k]'h)/\U2 (s[k]'h)<=3):
  Calls prog 193 #[.string s,a] w fun e w'=>e=.returned (.tuple #[.int .i64 3,s.size])/\Below w w w':=by
 have D:=Qq hcl;clear hcl
 have A:=Qq hall;clear hall
 go_enter func193,ntmps193
 go_wp2_with (go_at_call 208;refine (Ji _ 2 D.out _).mono ?_;rintro e w' ⟨rfl,rfl⟩)
 go_loop [7] (fun i=>∃ k:Nat,a+1<=k/\k<=s.size/\i=.int .i64 k) (fun i=>s.size - (intOf i).toNat)
 case atStart=>exact ⟨a+1,Q9 _,ha,by go_num⟩
 obtain ⟨k,I,J,rfl⟩:=hrel
 by_cases hlt:k<s.size
 ·obtain ⟨v,G⟩:=eX (U2 (s[k]'hlt))
  have hc:=A.out k hlt
  rw [G] at hc
  have HV:=Qq G;clear G
  have q0:decide ((1:Int)<=(v:Int))=true:=by simp;omega
  have q1:decide ((v:Int)<=3)=true:=by simp;omega
  clear hc
  go_wp2_with (go_at_call 208;refine (Ji _ v HV.out _).mono ?_;rintro e w' ⟨rfl,rfl⟩)
  go_round
  case rel=>exact ⟨k+1,C7,C7,by go_num⟩
  case measure=>simp [intOf];omega
 obtain rfl:k=s.size:=C7
 go_wp2_with fail
 go_ret2
 exact ⟨rfl,Qz _ _⟩
def Bf (s:ByteArray) (K:Int):Prop:=∀ W,Calls prog 193 #[.string s,Ci] W fun e w'=>e=.returned (.tuple #[K,s.size])/\Below W W w'
theorem Tr (x:Bs) (h:Vy x):Bf ⟨x.toArray⟩ 2:=by
 intro W
 have A:=Vz x
 have I:0<(⟨x.toArray⟩:ByteArray).size:=by rw [A];exact h.pos
 have ha:∀ (k:Nat) (D:k<(⟨x.toArray⟩:ByteArray).size),Dl ((⟨x.toArray⟩:ByteArray)[k]'D)=true:=fun k D=>
  Mo (p:=Dl) (l:=x) (by rw [h.all,<- A];exact D) (Ga x k D)
 have G:De ((⟨x.toArray⟩:ByteArray)[0]'I)=true:=h.head _ (Ga x 0 I)
 have:=Pj ⟨x.toArray⟩ 0 W (by rw [A];exact h.len) I (by rw [cls_lo] at G;simpa using G) (fun k D=>by have:=ha k D;rw [cls_wo] at this;simpa using this) (by rw [A,Bv,Bx];exact h.kw)
 exact this
theorem rtok_cap (x:Bs) (h:Gf x):Bf ⟨x.toArray⟩ 3:=by
 intro W
 have A:=Vz x
 have I:0<(⟨x.toArray⟩:ByteArray).size:=by rw [A];exact h.pos
 have ha:∀ (k:Nat) (D:k<(⟨x.toArray⟩:ByteArray).size),B3 ((⟨x.toArray⟩:ByteArray)[k]'D)=true:=fun k D=>
  Mo (p:=B3) (l:=x) (by rw [h.all,<- A];exact D) (Ga x k D)
 have G:Bl ((⟨x.toArray⟩:ByteArray)[0]'I)=true:=h.head _ (Ga x 0 I)
 have:=Wq ⟨x.toArray⟩ 0 W (by rw [A];exact h.len) I (by rw [cls_up] at G;simpa using G) (fun k D=>by have:=ha k D;rw [cls_na] at this;simpa using this)
 exact this
theorem rnext_at (s:ByteArray) (K:Int) (hp:0<s.size) (h:Bf s K) (W:World):
  Calls prog 179 #[.string s,Ci] W fun e w'=>e=.returned (.tuple #[K,s.size])/\Below W W w':=by
 have HG:=Qq h
 clear h
 have h1:(0:Int)<(s.size:Int):=C7
 go_enter func179,ntmps179
 go_wp2_with (go_at_call 193;refine (HG.out _).mono ?_;rintro e w' ⟨rfl,hw⟩)
 go_ret2
 exact ⟨rfl,hw⟩
theorem Am (w:World) (xs:List Value) (t:TypeId):∀ j u,xs[j]?=some u->(w.alloc (.cells xs.toArray t)).cell? ((⟨w,0,none⟩:Addr).add j)=some u:=by
 intro j u h
 rw [show (⟨w,0,none⟩:Addr).add j=⟨w,j,none⟩ by unfold Addr.add;split <;> simp_all]
 rw [Qk _ w j _ _ _ (Qw w _)]
 simpa using h
theorem Hn {w w':World} {B:Nat} {e:TypeId} {sz n:Nat} {v:Value} {xs:List Value} (h:w.ownsRow B e sz v n xs) (hb:Below w w w'):w'.ownsRow B e sz v n xs:=Kx h hb
theorem R7 (s:ByteArray) (K:Int) (hp:0<s.size) (hl:s.size<=16) (h:Bf s K) (w:World):
  Calls prog 162 #[.string s] w fun e w'=>∃ g cap,e=.returned (.slice (some ⟨g,0,none⟩) 1 cap)/\Cf w' g 0 K/\Below w w w':=by
 have HN:=Qq (fun W=>rnext_at s K hp h W)
 clear h
 obtain ⟨i0,hi,O,T,U⟩:=Y7 (P:=prog) (t:=153) (z:=.agg #[Ci,Cl,Ci]) (n:=3) (b:=32) Cd
 obtain ⟨H1,H2,H3,H4⟩:=Qjz hi O T U
 clear hi O T U
 go_enter func162,ntmps162
 go_wp2_with fail
 go_loopw [3,4,5,6] (fun o x _ _ wr=>∃ (a n:Nat) (pre:List Value),a<=s.size/\Aside ((a=0/\n=0/\pre=[])\/(a=s.size/\n=1/\pre=[.int .i64 K,.string s,.int .i64 0]))/\x=.int .i64 a/\wr.ownsRow w 153 3 o n pre/\Below w w wr) (fun _ x _ _ _=>s.size - (intOf x).toNat)
 case atStart=>exact ⟨0,0,[],C7,.inl ⟨rfl,rfl,rfl⟩,rfl,World.ownsRow_nil _ _ _ _,Qz _ _⟩
 obtain ⟨a,n,pre,ha,V,rfl,G,hB⟩:=hrel
 have Y:=Qq hB;have HO:=Qq G
 clear hB G
 by_cases hlt:a<s.size
 ·have Z:a=0/\n=0/\pre=[]:=by
   rcases V.out with h | h
   ·exact h
   exact absurd h.1 C7
  obtain ⟨rfl,rfl,rfl⟩:=Z
  clear V
  have h1:(0:Int)<(s.size:Int):=C7
  go_wp2_with fail
  refine (HN.out _).mono ?_
  rintro e w2 ⟨rfl,hw⟩
  have A:=Hn HO.out hw
  have N:=Y.out.trans (hw.mono Y.out.size)
  have D:=Qq N;have M:=Qq A
  clear hw A N
  go_wp2_with (at_builtin;refine wpList_append_own _ rfl _ _ 177 rfl w 153 i0 (.agg #[Ci,Cl,Ci]) 3 32 underlying177 H1.out H2.out H3.out H4.out rfl Cc _ _ _ rfl (M.out.alloc _) ⟨w2,0,none⟩ 1 1 [K,.string s,Ci] rfl rfl (Am _ _ _) (by simp [Value.oneCell']) (by unfold maxLen;omega) C7 (by have:=D.out.size;simp;omega) ?_;intro v' w1 J I _)
  refine ⟨⟨s.size,1,[K,.string s,Ci],Q9 _,.inr ⟨rfl,rfl,rfl⟩,rfl,by simpa using J,?_⟩,by simp [intOf];omega⟩
  exact (D.out.alloc D.out.size _).grown I (by have:=D.out.size;simp;omega) (fun j e=>(M.out.lt j e).1)
 have aA:n=1/\pre=[.int .i64 K,.string s,.int .i64 0]:=by
  rcases V.out with h | h
  ·exact absurd h.1 C7
  exact h.2
 obtain ⟨rfl,rfl⟩:=aA
 clear V
 go_wp2_with fail
 go_ret
 rcases HO.out.2 with ⟨_,hn⟩ | ⟨g,cap,aC,rfl,_,hg,_,_,_,ht⟩
 ·cases hn
 exact ⟨g,cap,rfl,B5 hg ht rfl,Y.out⟩
theorem Nz (s:ByteArray) (K at':Int) (hK:K=2\/K=3) (hp:0<s.size) (hl:s.size<=16) (h:Bf s K) (w:World):
  Calls prog 132 #[.agg #[K,.string s,at']] w fun e w'=>e=.returned (.bool true)/\Below w w w':=by
 have HS:=Qq (fun W=>R7 s K hp hl h W)
 clear h
 go_enter func132,ntmps132
 go_wp2_with fail
 have J:Below w w (w.alloc (.cells #[K,.string s,at'] 153)):=(Qz _ _).alloc (Q9 _) _
 have M:(w.alloc (.cells #[K,.string s,at'] 153)).cell? ⟨w,0,none⟩=some (.int .i64 K):=by rw [Qk _ w 0 _ _ _ (Qw w _)];rfl
 have N:(w.alloc (.cells #[K,.string s,at'] 153)).cell? ⟨w,1,none⟩=some (.string s):=by rw [Qk _ w 1 _ _ _ (Qw w _)];rfl
 have D:=Qq J;clear J
 generalize hG:w.heap.size=G at M N |-
 generalize w.alloc (.cells #[K,.string s,at'] 153)=W1 at *
 refine (HS.out _).mono ?_
 rintro e w2 ⟨g,cap,rfl,e0,A⟩
 have d0:=kD A (Qv W1 _ M) M
 have d1:=kD A (Qv W1 _ N) N
 have I:=Qq (D.out.trans (A.mono D.out.size))
 clear A M N hG
 rcases hK with rfl | rfl
 all_goals
  go_wp2_with fail
  go_quiet (fail)
  go_wp2_with fail
  go_ret
  refine ⟨?_,I.out.trans ((Yz _ _).mono I.out.size)⟩
  show Ending.returned (.bool (decide ((s.size:Int)<=16)))=_
  rw [decide_eq_true C7]
theorem Es (x:Bs) (h:Vy x) (w:World):Calls prog 132 #[.agg #[.int .i64 2,sv x,Ci]] w fun e w'=>e=.returned (.bool true)/\Below w w w':=
 Nz ⟨x.toArray⟩ 2 0 (.inl rfl) (by rw [Vz];exact h.pos) (by rw [Vz];exact h.len) (Tr x h) w
theorem Wg (x:Bs) (h:Gf x) (w:World):Calls prog 132 #[.agg #[.int .i64 3,sv x,Ci]] w fun e w'=>e=.returned (.bool true)/\Below w w w':=
 Nz ⟨x.toArray⟩ 3 0 (.inr rfl) (by rw [Vz];exact h.pos) (by rw [Vz];exact h.len) (rtok_cap x h) w
def Xd (S:Nat->Prop) (w:World) (v:Value) (xs:List Int):Prop:=
 ∃ p cap,v=.slice p xs.length cap/\xs.length<=9223372036854775807/\(xs≠[]->∃ b off,p=some ⟨b,off,none⟩/\S b/\b<w.heap.size/\∀ i x,xs[i]?=some x->w.cell? ⟨b,off+i,none⟩=some (.int .i64 x))
theorem Xd.len {S:Nat->Prop} {w:World} {v:Value} {xs:List Int} (h:Xd S w v xs):∃ p cap,v=.slice p xs.length cap/\xs.length<=9223372036854775807:=by
 obtain ⟨p,cap,h1,h2,_⟩:=h;exact ⟨p,cap,h1,h2⟩
theorem Xd.below {S:Nat->Prop} {w w':World} {v:Value} {xs:List Int} (h:Xd S w v xs) (hb:Below w w w'):Xd S w' v xs:=by
 obtain ⟨p,cap,h1,h2,h3⟩:=h
 refine ⟨p,cap,h1,h2,fun G=>?_⟩
 obtain ⟨b,D,e,hS,A,hc⟩:=h3 G
 exact ⟨b,D,e,hS,Qa A hb.size,fun i x hx=>(hb.cell (p:=⟨b,D+i,none⟩) A).trans (hc i x hx)⟩
theorem Yn (S:Nat->Prop) (v:Value) (l:List Int) (i:Nat) (m:Int) (w:World) (hs:Xd S w v l) (hi:Uh l) (hm:1<=m) (hm2:m<=1000000000):
  Calls prog 27 #[v,i,m] w fun e w'=>e=.returned (.int .i64 (Yl l i m))/\w=w':=by
 have I:decide ((i:Int)<0)=false:=Ca
 obtain ⟨p,cap,rfl,hl,A⟩:=hs
 by_cases h:i<l.length
 ·obtain ⟨n,D⟩:∃ n,l[i]?=some n:=⟨_,Qx h⟩
  obtain ⟨b,J,rfl,_,hb,A⟩:=A (fun e=>by rw [e] at h;exact absurd h (Z6 i))
  have c0:=A i n D
  have HA:=Qq (fun W=>Re n m W (hi n (Qy D)).1 (hi n (Qy D)).2 hm C7)
  have G:Yl l i m=Ux n m:=by unfold Yl;rw [D]
  rw [G]
  generalize Ux n m=r at HA |-
  have h1:(i:Int)<(l.length:Int):=C7
  have h2:decide ((l.length:Int)<=(i:Int))=false:=by simp;omega
  clear hi D A G
  go_enter func27,ntmps27
  go_wp2_with (go_at_call 22;refine (HA.out _).mono ?_;rintro e w' ⟨rfl,rfl⟩)
  go_ret
  exact ⟨rfl,rfl⟩
 have G:Yl l i m=0:=by unfold Yl;rw [List.getElem?_eq_none C7]
 rw [G]
 have h2:decide ((l.length:Int)<=(i:Int))=true:=by simp;omega
 clear hi G A
 go_enter func27,ntmps27
 go_wp2_with fail
 go_ret
 exact ⟨rfl,rfl⟩
theorem U1 {S:World->Prop} {W:World} (hS:∀ w',Below W W w'->S w') (hB:∀ w',S w'->Below W W w'):Hid (S W.drew)/\Hid (S W)/\Hid (∀ w',S w'->S w'.drew)/\Hid (∀ w',S w'->Below W W w')/\Hid (∀ w' o,S w'->S (w'.alloc o))/\Hid (∀ w',Below W W w'->S w'):=
 ⟨Qq (hS _ (Qz _ _).drew),Qq (hS _ (Qz _ _)),Qq (fun w' h=>hS _ (hB w' h).drew),Qq hB,Qq (fun w' o h=>hS _ ((hB w' h).alloc (hB w' h).size o)),Qq hS⟩
def noVal:List PanicEntry:=[{ v:=.iface 128 (.agg #[]),recovered:=false }]
def Gt (w:World) (e:Ending) (w':World):Prop:=e=.panicked noVal/\Below w w w'
def Xy (S:Nat->Prop) (w:World):Option Val->Ending->World->Prop
 | some v=>Fz S w v
 | none=>Gt w
theorem Fl (w:World):Calls prog 142 #[.bool false] w fun e w'=>e=.panicked noVal/\w=w':=by
 go_enter func142,ntmps142
 go_wp2_with fail
 exact ⟨rfl,rfl,rfl⟩
theorem of_no (k:Int) (S:Nat->Prop) (v:Val) (cs:List Value) (w:World) (h:Z9 S w cs v) (hk:v.kind≠k):Calls prog 139 #[k,cs] w (Gt w):=by
 have HM:=Qq Fl
 obtain ⟨p3,k3,p4,k4,A,_⟩:=Z9.cells h
 simp only [vcs] at A
 subst A
 have hq:(v.kind==k)=false:=by rw [beq_eq_false_iff_ne];exact hk
 clear h hk
 go_enter func139,ntmps139
 go_wp2_with (go_at_call 142;refine (HM.out _).mono ?_;rintro e w' ⟨rfl,rfl⟩)
 exact ⟨rfl,rfl,Zu _ _ _⟩
theorem U5 (S:Nat->Prop) (v:Val) (cs:List Value) (w:World) (h:Z9 S w cs v) (hk:v.kind=2):Calls prog 102 #[cs] w fun e w'=>e=.returned (.bool (v.n==1))/\Below w w w':=by
 have HO:=Qq (fun W (hb:Below w w W)=>En 2 S v cs W (Z9.move h (.of_below hb) Qje) hk)
 obtain ⟨p3,k3,p4,k4,A,_⟩:=Z9.cells h
 simp only [vcs] at A
 subst A
 clear h hk
 obtain ⟨b,hb⟩:=eX ((v.n==1))
 rw [hb]
 have hf:=fun W=>fld1 (.int .i64 v.kind) (.int .i64 v.n) (.string ⟨v.s.toArray⟩) (.slice p3 v.names.length k3) (.slice p4 v.kids.length k4) W
 go_enter func102,ntmps102
 go_wp2_with (go_at_call 139;refine (HO.out _ (Zg _ _)).mono ?_;rintro e w' ⟨rfl,hw⟩;have HW:=Qq ((Zg w _).thn hw);clear hw)
 go_ret
 exact ⟨rfl,HW.out⟩
theorem Nf (S:Nat->Prop) (v:Val) (cs:List Value) (w:World) (h:Z9 S w cs v) (hk:v.kind≠2):Calls prog 102 #[cs] w (Gt w):=by
 have HO:=Qq (fun W (hb:Below w w W)=>of_no 2 S v cs W (Z9.move h (.of_below hb) Qje) hk)
 obtain ⟨p3,k3,p4,k4,A,_⟩:=Z9.cells h
 simp only [vcs] at A
 subst A
 clear h hk
 go_enter func102,ntmps102
 go_wp2_with (go_at_call 139;refine (HO.out _ (Zg _ _)).mono ?_;rintro e w' ⟨rfl,hw⟩;have HW:=Qq ((Zg w _).thn hw);clear hw)
 exact ⟨rfl,rfl,HW.out⟩
def EvO (e:Ex) (env:List (Bs × Val)) (r:Option Val):Prop:=∀ (S S':Nat->Prop) (cs:List Value) (p:Value) (w:World),(∀ b,w.heap.size<=b->S b)->Xh w->Yx S' w cs e->Xk S w p env->Calls prog 103 #[cs,p] w (Xy S w r)
theorem EvV.out {e:Ex} {env:List (Bs × Val)} {v:Val} (h:EvV e env v):EvO e env (some v):=fun S S' cs p w _ _=>h S S' cs p w
theorem K9 (E V k:Nat) (S0 S':Nat->Prop) (kp:Option Addr) (kc:Nat) (kids:List Ex) (e:Ex) (p:Value) (env:List (Bs × Val)) (r:Option Val) (w:World) (h6:w.cell? ⟨E,6,none⟩=some (.slice kp kids.length kc)) (hk:Sl Xp S' w (.slice kp kids.length kc) kids) (hV:w.cell? ⟨V,0,none⟩=some p)
  (hSn:∀ b,w.heap.size<=b->S0 b) (hkw:Xh w) (he0:Xk S0 w p env) (hx:kids[k]?=some e) (hev:EvO e env r):Calls prog 140 #[k,Ch E,Ch V] w (Xy S0 w r):=by
 obtain ⟨q,rfl⟩:=he0.ptr
 obtain ⟨xb,aN,cs,aJ,aM,_,_,hr,D⟩:=hk.elem hx
 subst aJ
 have he:Xk (fun b=>S0 b/\b≠w.heap.size) w (.pointer q) env:=he0.move (.refl _ _) (fun b hb h=>⟨h,C7⟩)
 have T:=Qq (fun W (hb:Below w w W) (hlt:w<W.heap.size)=>hev (fun b=>S0 b/\b≠w.heap.size) S' cs (.pointer q) W (fun b bA=>⟨hSn b C7,C7⟩) (hkw.below hb) (Xp.frame hr (.of_below hb)) (he.move (.of_below hb) Qje))
 obtain ⟨ek,aY,en,aZ,aV,aS,aP,aW,aT,aQ,aX,aU,aR,ea,ez,I⟩:=Yx.cells (show Yx S' w cs e from hr)
 subst I
 have bD:k<kids.length:=(Qj hx).1
 have bB:(0:Int)<=(k:Int):=C7
 have bC:(k:Int)<(kids.length:Int):=C7
 have d0:=D 0 _ rfl
 have d1:=D 1 _ rfl
 have d2:=D 2 _ rfl
 have d3:=D 3 _ rfl
 have d4:=D 4 _ rfl
 have d5:=D 5 _ rfl
 have d6:=D 6 _ rfl
 have d7:=D 7 _ rfl
 have d8:=D 8 _ rfl
 simp only [show Xp.k=9 from rfl,Nat.add_zero] at d0 d1 d2 d3 d4 d5 d6 d7 d8
 go_enter func140,ntmps140
 go_upto_region 1 with fail
 generalize N:w.alloc _=Y
 have O:=eqB N (Zg _ _)
 have U:=eqH (b:=w.heap.size) N (Qw _ _)
 have G:∀ {b j:Nat} {u:Value},w.cell? ⟨b,j,none⟩=some u->Y.cell? ⟨b,j,none⟩=some u:=fun D=>kC O D
 replace h6:=G h6
 replace hV:=G hV
 replace d0:=G d0
 replace d1:=G d1
 replace d2:=G d2
 replace d3:=G d3
 replace d4:=G d4
 replace d5:=G d5
 replace d6:=G d6
 replace d7:=G d7
 replace d8:=G d8
 clear N G hk D he0 he hx hev hr aM hSn hkw
 go_still_tail 6,Cd
 change wpList _ _ _ _ _ Y.drew
 have A:=Qq (show Below w w Y.drew from O.drew);have Z:=Qq (show Y.drew.heap[w.heap.size]?=_ from U)
 generalize Y.drew=w2' at A Z
 clear h6 hV d0 d1 d2 d3 d4 d5 d6 d7 d8 O U
 cases r with
 | none=>
  go_wp2_with (go_at_call 103;refine (T.out _ A.out (Z8 Z.out)).mono ?_;rintro e w2 ⟨rfl,hb⟩;have J:=Qq hb;clear hb)
  exact ⟨rfl,rfl,A.out.thn J.out⟩
 | some v=>
  go_wp2_with (go_at_call 103;refine (T.out _ A.out (Z8 Z.out)).mono ?_;rintro e w2 ⟨aO,rfl,hv,hb⟩;obtain ⟨q3,l3,q4,l4,I,_⟩:=Z9.cells hv;simp only [vcs] at I;subst I;obtain ⟨HV,J,M⟩:=Qjq hv (A.out.thn hb) (kB hb Z.out);have fz:=fun j=>Qn _ _ j _ _ M.out;obtain ⟨f0,f1,f2,f3,f4⟩:=Qjw fz;have rr:=fun j=>Qk _ _ j _ _ _ M.out;obtain ⟨r0,r1,r2,r3,r4⟩:=Qjw rr;simp only [Qf,Qg,Qh] at r0 r1 r2 r3 r4;clear fz rr hv hb)
  show bodyPost _ _ _ _ _ (Cu w2 w v q3 l3 q4 l4)
  refine Q7 (v:=.agg (Cn v q3 l3 q4 l4)) (by simp [results,results140,go_sem,Ze M.out]) rfl ⟨_,rfl,?_,Zc J.out (Q9 _)⟩
  exact Z9.move HV.out (fun b hb _=>Zf (by have:=hb.2;omega)) (fun _ _ h=>h.1)
end Go.Proofs.YtcljcblceodciaaGreatDoor
