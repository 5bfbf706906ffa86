import Derived.Test.YtlanplhphiikjaaGreatDoorE03
set_option maxRecDepth 100000
set_option maxHeartbeats 400000000
namespace Go.Proofs.YtlanplhphiikjaaGreatDoor
open Go.RowKit Go.Shelf Go.Lib Tryz
theorem O5 (a b:Val):(Yk a b==0)=eqv a b:=by rw [<- eqv_cmp];rfl
theorem Hl (S:Nat->Prop) (a b:Val) (ca cb:List Value) (w:World) (ha:Za S w ca a) (hb:Za S w cb b):
  Calls prog 99 #[ca,cb] w fun e w'=>e=.returned (.int .i64 (Yk a b))/\Gr w w':=cmpAt a b S ca cb w ha hb
theorem R2 (S:Nat->Prop) (a b:Val) (ca cb:List Value) (w:World) (ha:Za S w ca a) (hb:Za S w cb b):
  Calls prog 96 #[ca,cb] w fun e w'=>e=.returned (.bool (eqv a b))/\Below w w w':=by
 rw [<- O5]
 have HC:=Qq (fun W (h:Below w w W)=>Hl S a b ca cb W (ha.move (.of_below h) Qyv) (hb.move (.of_below h) Qyv))
 obtain ⟨p3,k3,p4,k4,A,_⟩:=Za.cells ha
 obtain ⟨q3,l3,q4,l4,D,_⟩:=Za.cells hb
 simp only [vcs] at A D
 subst A;subst D
 clear ha hb
 generalize Yk a b=c at HC |-
 go_enter func96,ntmps96
 go_wp2_with (go_at_call 99;refine (HC.out _ (Zu _ _ _)).mono ?_;rintro e w' ⟨rfl,hw⟩;have HW:=Qq ((Vs w _ _).thn hw);clear hw)
 go_ret
 exact ⟨rfl,HW.out.bl⟩
theorem Xc.cells {S:Nat->Prop} {w:World} {cs:List Value} {x:Ty} (h:Xc S w cs x):∃ k s n p3 n3 k3 p4 n4 k4,cs=[.int .i64 k,.string s,.int .i64 n,.slice p3 n3 k3,.slice p4 n4 k4]:=by
 cases h with
 | mk k n s names kids nv p cap b off cs hs hn=>
  obtain ⟨p3,k3,rfl,_⟩:=hn.len
  exact ⟨_,_,_,_,_,_,_,_,_,rfl⟩
theorem row1_any (S:Nat->Prop) (a b:Col) (ca cb:List Value) (w:World) (ha:Xw.R S w ca a) (hb:Xw.R S w cb b):
  Calls prog 115 #[ca,cb] w fun e w'=>e=.returned (.int .i64 (Yg a.name b.name))/\Gr w w':=by
 obtain ⟨ta,rfl,_,h1⟩:=ha
 obtain ⟨tb,rfl,_,h2⟩:=hb
 obtain ⟨_,_,_,_,_,_,_,_,_,rfl⟩:=h1.cells
 obtain ⟨_,_,_,_,_,_,_,_,_,rfl⟩:=h2.cells
 have A:=Qq (fun W=>Sf ⟨a.name.toArray⟩ ⟨b.name.toArray⟩ W)
 rw [show Yg (bl ⟨a.name.toArray⟩) (bl ⟨b.name.toArray⟩)=Yg a.name b.name from rfl] at A
 generalize Yg a.name b.name=c at A |-
 clear h1 h2
 unfold sv
 go_enter func115,ntmps115
 go_wp2_with (go_at_call 116;refine (A.out _).mono ?_;rintro e w' ⟨rfl,rfl⟩)
 go_ret
 exact ⟨rfl,Vs _ _ _⟩
theorem Ti (S:Nat->Prop) (v:Value) (l:List Bs) (x:Bs) (w:World) (hs:Sl Zg S w v l):
  Calls prog 149 #[v,sv x] w fun e w'=>e=.returned (.int .i64 (Vi (fun y=>decide (y=x)) l))/\w=w':=by
 obtain ⟨p,cap,rfl,hl⟩:=hs.len
 have HS:=Qq hs
 clear hs
 obtain ⟨n,I⟩:=eX (l.length)
 rw [I] at HS hl;rw [I]
 have HN:=Qq I
 clear I
 unfold sv
 go_enter func149,ntmps149
 go_wp2_with fail
 go_loop [8] (fun i=>∃ k:Nat,k<=n/\i=.int .i64 k/\Aside (∀ (j:Nat) (y:Bs),j<k->l[j]?=some y->decide (y=x)=false)) (fun i=>n - (intOf i).toNat)
 case atStart=>exact ⟨0,Q8 _,rfl,fun j _ hj=>absurd hj (Z6 _)⟩
 obtain ⟨k,hk,rfl,A⟩:=hrel
 by_cases hlt:k<n
 ·have O:(0:Int)<=(k:Int):=Qvu
  have T:(k:Int)<(n:Int):=Qvu
  obtain ⟨y,D⟩:∃ y,l[k]?=some y:=⟨_,Qx (by rw [HN.out];exact hlt)⟩
  obtain ⟨b,off,rfl,hc,-⟩:=HS.out.str D
  have HY:=Qq D
  clear D
  by_cases he:y=x
  ·have hq:(x==y)=true:=by rw [he];simp
   have J:=Qq he
   clear he
   go_wp2_with fail
   go_ret
   refine ⟨?_,rfl⟩
   rw [Kh HY.out (by rw [J.out];simp) A.out]
   rfl
  have hq:(x==y)=false:=by rw [<- Qt,beq_iff_eq];exact fun e=>he e.symm
  have J:=Qq he
  clear he
  go_wp2_with fail
  go_round
  case measure=>simp [intOf];omega
  case rel=>
   refine ⟨k+1,Qvu,by go_num,(show Aside _ from fun j z hj M=>?_)⟩
   by_cases e:j=k
   ·subst e
    have:=HY.out
    rw [this] at M
    cases M
    simpa using J.out
   exact A.out j z Qvu M
 have N:¬ (k:Int)<(n:Int):=Qvu
 have:k=n:=Qvu
 subst this
 go_wp2_with fail
 go_ret
 refine ⟨?_,rfl⟩
 rw [Ue (fun j y D=>A.out j y (by have:=(Qj D).1;have:=HN.out;omega) D)]
 rfl
def Xl (v:Val) (i:Int):Bool:=decide (v.kind=4)&&decide (0<=i)&&decide (i<v.kids.length)
def Xe (v:Val) (x:Bs):Int:=Vi (fun y=>decide (y=x)) v.names
theorem E5 {k:IntKind} {a b:Int} {c d:Bool} (h:a=b) (h':c=d):Ending.returned (.tuple #[.int k a,.bool c])=.returned (.tuple #[.int k b,.bool d]):=by rw [h,h']
theorem Zn (w:World) (q:Nat):Below w w (w.drewN q):=⟨rfl,rfl,rfl,Q9 _,fun _ _=>rfl⟩
theorem Qvq (S:Nat->Prop) (v:Val) (cs:List Value) (x:Bs) (w:World) (h:Za S w cs v):
  Calls prog 101 #[cs,sv x] w fun e w'=>e=.returned (.tuple #[(Xe v x),.bool (Xl v (Xe v x))])/\Below w w w':=by
 obtain ⟨p3,k3,p4,k4,J,hn,hk,_⟩:=Za.cells h
 simp only [vcs] at J
 subst J
 have I:=Qq (fun W (hb:Below w w W)=>Ti S _ v.names x W (hn.below hb))
 rw [show Vi (fun y=>decide (y=x)) v.names=Xe v x from rfl] at I
 have hl:v.kids.length<=1000000:=by obtain ⟨_,_,_,h⟩:=hk.len;exact h
 generalize Xe v x=i at I |-
 clear h hn hk
 unfold sv at I |-
 by_cases h4:v.kind=4
 ·have M:(v.kind==4)=true:=by rw [h4];rfl
  by_cases h0:0<=i
  ·by_cases hlt:i<v.kids.length
   ·have A:Xl v i=true:=by unfold Xl;simp [h4,h0,hlt]
    have D:=Qq A
    rw [h4] at *
    clear A M h4
    go_enter func101,ntmps101
    go_wp2_with (go_at_call 149;refine (I.out _ (Ze _ _)).mono ?_;rintro e w' ⟨rfl,rfl⟩)
    go_quiet (fail)
    go_wp2
    go_ret2
    exact ⟨E5 rfl D.out.symm,(Ze _ _).thn (Zn _ _)⟩
   have A:Xl v i=false:=by unfold Xl;simp [hlt]
   have D:=Qq A
   have hd:decide (i<v.kids.length)=false:=by simpa using hlt
   rw [h4] at *
   clear A M h4 hlt
   go_enter func101,ntmps101
   go_wp2_with (go_at_call 149;refine (I.out _ (Ze _ _)).mono ?_;rintro e w' ⟨rfl,rfl⟩)
   go_quiet (fail)
   go_wp2
   go_ret2
   exact ⟨E5 rfl D.out.symm,(Ze _ _).thn (Zn _ _)⟩
  have A:Xl v i=false:=by unfold Xl;simp [h0]
  have D:=Qq A
  have hd:decide (0<=i)=false:=by simpa using h0
  rw [h4] at *
  clear A M h4 h0
  go_enter func101,ntmps101
  go_wp2_with (go_at_call 149;refine (I.out _ (Ze _ _)).mono ?_;rintro e w' ⟨rfl,rfl⟩)
  go_quiet (fail)
  go_wp2
  go_ret2
  exact ⟨E5 rfl D.out.symm,(Ze _ _).thn (Zn _ _)⟩
 have A:Xl v i=false:=by unfold Xl;simp [h4]
 have D:=Qq A
 have M:(v.kind==4)=false:=by simpa using h4
 clear A h4
 go_enter func101,ntmps101
 go_wp2_with (go_at_call 149;refine (I.out _ (Ze _ _)).mono ?_;rintro e w' ⟨rfl,rfl⟩)
 go_quiet (fail)
 go_wp2
 go_ret2
 exact ⟨E5 rfl D.out.symm,(Ze _ _).thn (Zn _ _)⟩
theorem Fc {v u:Val} {x:Bs} (h:Xj v x=some u):∃ i:Nat,Xe v x=i/\v.kids[i]?=some u/\Xl v (Xe v x)=true:=by
 unfold Xj at h
 split at h
 ·rename_i h4
  cases hn:V5 v.names x with
  | none=>rw [hn] at h;cases h
  | some i=>
   rw [hn] at h
   have hi:Xe v x=i:=by
    unfold V5 at hn
    unfold Xe Vi
    rw [hn]
   have A:=(Qj h).1
   refine ⟨i,hi,h,?_⟩
   rw [hi];unfold Xl
   simp [h4,A]
 cases h
theorem N4 {v:Val} {x:Bs} (h:Xj v x=none):Xl v (Xe v x)=false:=by
 unfold Xj at h
 unfold Xl
 split at h
 ·cases hn:V5 v.names x with
  | none=>
   have A:Xe v x=-1:=by
    unfold V5 at hn
    unfold Xe Vi
    rw [hn]
   rw [A];simp
  | some i=>
   rw [hn] at h
   have A:Xe v x=i:=by
    unfold V5 at hn
    unfold Xe Vi
    rw [hn]
   rw [List.getElem?_eq_none_iff] at h
   rw [A];simp;intro _;omega
 rename_i h4
 simp [h4]
def Zp (W:World) (R:Nat) (a b c d e:Value):World:=((((W.setCell ⟨R,0,none⟩ a).setCell ⟨R,1,none⟩ b).setCell ⟨R,2,none⟩ c).setCell ⟨R,3,none⟩ d).setCell ⟨R,4,none⟩ e
def Qxl (_ : World) (_ : Nat) (_ : Val) (_ : Option Addr) (_ : Nat) (_ : Option Addr) (_ : Nat) : Qyk := ⟨0⟩
instance Qxl_w {W : World} {R : Nat} {v : Val} {p : Option Addr} {a : Nat} {q : Option Addr} {b : Nat} : CoeDep Qyk (Qxl W R v p a q b) World := ⟨Zp W R (.int .i64 v.kind) (.int .i64 v.n) (.string ⟨v.s.toArray⟩) (.slice p v.names.length a) (.slice q v.kids.length b)⟩
theorem Vx {W:World} {R:Nat} {a b c d e x0 x1 x2 x3 x4:Value} {t:TypeId} (h:W.heap[R]?=some (.cells #[x0,x1,x2,x3,x4] t (0,0))):(Zp W R a b c d e).heap[R]?=some (.cells #[a,b,c,d,e] t (0,0)):=by
 have A:=Qi _ _ 0 _ _ a h;have A:=Qi _ _ 1 _ _ b A;have A:=Qi _ _ 2 _ _ c A;have A:=Qi _ _ 3 _ _ d A;have A:=Qi _ _ 4 _ _ e A
 simpa [Zp] using A
theorem Zd {W:World} {R:Nat} {a b c d e x0 x1 x2 x3 x4:Value} {t:TypeId} (h:W.heap[R]?=some (.cells #[x0,x1,x2,x3,x4] t (0,0))) (j:Nat):(Zp W R a b c d e).cell? ⟨R,j,none⟩=#[a,b,c,d,e][j]?:=
 Qk _ _ _ _ _ _ (Vx h)
theorem Zi {W:World} {R k:Nat} {a b c d e:Value} (h:k≠R):(Zp W R a b c d e).heap[k]?=W.heap[k]?:=Vy h
theorem Zf {B R:Nat} {w W:World} {a b c d e:Value} (h:Below B w W) (hR:B<=R):Below B w (Zp W R a b c d e):=
 ((((h.setCell (p:=⟨R,0,none⟩) hR _).setCell (p:=⟨R,1,none⟩) hR _).setCell (p:=⟨R,2,none⟩) hR _).setCell (p:=⟨R,3,none⟩) hR _).setCell (p:=⟨R,4,none⟩) hR _
def GetIs (w:World) (o:Option Val) (e:Ending) (w':World):Prop:=
 ∃ cs',e=.returned (.tuple #[.agg cs'.toArray,.bool o.isSome])/\Za (fun b=>w<=b) w' cs' (o.getD Val.zero)/\Below w w w'
theorem Yw (S:Nat->Prop) (w:World):Za S w [Qxc,Qxc,Qxd,Qxe,Qxe] Val.zero:=
 Yi (s:=[]) Qxz (Sl.nil _ _ _) (Sl.nil _ _ _)
theorem Ce (S:Nat->Prop) (v:Val) (cs:List Value) (x:Bs) (w:World) (h:Za S w cs v):
  Calls prog 53 #[cs,sv x] w (GetIs w (Xj v x)):=by
 have V:=Qq (fun W (hb:Below w w W)=>Qvq S v cs x W (h.move (.of_below hb) Qyv))
 obtain ⟨p3,k3,p4,k4,I,hn,hk,_⟩:=Za.cells h
 simp only [vcs] at I
 subst I
 have HK:=Qq hk
 clear h hn hk
 unfold sv at V |-
 cases hg:Xj v x with
 | none=>
  rw [N4 hg] at V
  clear hg
  generalize Xe v x=i at V
  go_enter func53,ntmps53
  go_wp2_with (go_at_call 101;refine (V.out _ (Zu _ _ _)).mono ?_;rintro e w' ⟨rfl,J⟩;have HW:=Qq J;have hz:=J.size;obtain ⟨hc,hf⟩:=Rh J;have r0:=fun o=>(hf (w+1) o Qxz);clear J)
  have Z:=(HW.out.block (w+1) Qxz).trans (Q6 _ _ _)
  show bodyPost _ _ _ _ _ (Zp w' _ _ _ _ _ _)
  refine Q7 (v:=.tuple #[.agg zV,.bool false]) (by simp [results,results53,go_sem,Zd Z]) rfl ⟨_,rfl,Yw _ _,?_⟩
  exact Zf ((Zu w _ _).thn HW.out) Qvu
 | some u=>
  obtain ⟨i,hi,T,hb⟩:=Fc hg
  rw [hb,hi] at V
  obtain ⟨b,off,q3,l3,q4,l4,rfl,D,Y,d0,d1,d2,d3,d4⟩:=HK.out.val T
  have aJ:i<v.kids.length:=(Qj T).1
  have aH:(0:Int)<=(i:Int):=Qvu
  have aI:(i:Int)<(v.kids.length:Int):=Qvu
  have aE:b<w.heap.size+1:=Qvu
  have HV:=Qq Y
  clear hg hi T hb Y
  go_enter func53,ntmps53
  go_wp2_with fail
  refine (V.out _ (Zu _ _ _)).mono ?_
  rintro e w1 ⟨rfl,J⟩
  have HW:=Qq J
  have A:=(Zu w _ _).thn J
  have Z:=(J.block (w+1) Qxz).trans (Q6 _ _ _)
  have hX:=(J.block w (by simp;omega)).trans (Q5 _ _ _)
  have e0:=kD A D d0;have e1:=kD A D d1;have e2:=kD A D d2;have e3:=kD A D d3;have e4:=kD A D d4
  have x4:=rA4 hX
  have N:=Qq A;have HR:=Qq Z
  clear J A hX Z d0 d1 d2 d3 d4
  go_wp2_with fail
  refine (C8 u _ (vcs u q3 l3 q4 l4) _ (Za.move HV.out (.of_below N.out) Qyv)).mono ?_
  rintro e w2 ⟨aG,rfl,U,O⟩
  obtain ⟨r3,m3,r4,m4,I,_⟩:=Za.cells U
  simp only [vcs] at I
  subst I
  have M:=kB O HR.out
  have f:=fun j=>Qn _ _ j _ _ M
  have y:=fun j=>Qk _ _ j _ _ _ M
  obtain ⟨y0,y1,y2,y3,y4⟩:=Qxu y
  obtain ⟨f0,f1,f2,f3,f4⟩:=Qxu f
  simp only [Qf,Qg,Qh] at y0 y1 y2 y3 y4
  obtain ⟨aA,aC,aB⟩:=Qxn O U M
  clear O U M f y
  go_wp2_with fail
  show bodyPost _ _ _ _ _ (Zp w2 _ _ _ _ _ _)
  refine Q7 (v:=.tuple #[.agg (Qxf u r3 m3 r4 m4),.bool true]) (by simp [results,results53,go_sem,Zd aB.out]) rfl ⟨_,rfl,?_,Zf (N.out.thn aA.out) Qvu⟩
  have aK:=N.out.size
  have aF:=Z8 HR.out
  refine Za.move aC.out (fun b hb _=>Zi ?_) (fun b _ hb=>?_)
  ·have:w1.heap.size<=b:=hb
   omega
  have:w1.heap.size<=b:=hb
  show w<=b
  omega
theorem A8 (c lo hi:Int) (w:World):Calls prog 329 #[.int .u8 c,.int .u8 lo,.int .u8 hi] w fun e w'=>e=.returned (.bool (decide (lo<=c)&&decide (c<=hi)))/\w=w':=by
 go_enter func329,ntmps329
 go_wp2
 all_goals (go_ret;exact ⟨by simp [*] <;> omega,rfl⟩)
theorem N9 (a b:UInt8):decide (a<=b)=decide ((a.toNat:Int)<=(b.toNat:Int)):=by
 simp [UInt8.le_iff_toNat_le]
theorem Pi (c:UInt8):Fv c=(decide ((48:Int)<=(c.toNat:Int))&&decide ((c.toNat:Int)<=57)):=by
 unfold Fv;rw [N9,N9];rfl
theorem Bc (c:UInt8):Dl c=(decide ((97:Int)<=(c.toNat:Int))&&decide ((c.toNat:Int)<=122)):=by
 unfold Dl;rw [N9,N9];rfl
theorem Lw (c:UInt8):Bx c=(decide ((65:Int)<=(c.toNat:Int))&&decide ((c.toNat:Int)<=90)):=by
 unfold Bx;rw [N9,N9];rfl
theorem Ur (c:UInt8) (w:World):Calls prog 316 #[.int .u8 c.toNat] w fun e w'=>e=.returned (.bool (Fv c))/\w=w':=by
 rw [Pi]
 go_enter func316,ntmps316
 go_wp2_with (go_at_call 329;refine (A8 _ _ _ _).mono ?_;rintro e w' ⟨rfl,rfl⟩)
 go_ret
 exact ⟨rfl,rfl⟩
theorem Vk (c:UInt8) (w:World):Calls prog 311 #[.int .u8 c.toNat] w fun e w'=>e=.returned (.bool (Dl c))/\w=w':=by
 rw [Bc]
 go_enter func311,ntmps311
 go_wp2_with (go_at_call 329;refine (A8 _ _ _ _).mono ?_;rintro e w' ⟨rfl,rfl⟩)
 go_ret
 exact ⟨rfl,rfl⟩
theorem Jg (c:UInt8) (w:World):Calls prog 314 #[.int .u8 c.toNat] w fun e w'=>e=.returned (.bool (Bx c))/\w=w':=by
 rw [Lw]
 go_enter func314,ntmps314
 go_wp2_with (go_at_call 329;refine (A8 _ _ _ _).mono ?_;rintro e w' ⟨rfl,rfl⟩)
 go_ret
 exact ⟨rfl,rfl⟩
theorem Dg (a b:UInt8):(a==b)=((a.toNat:Int)==(b.toNat:Int)):=by
 rw [Bool.eq_iff_iff,beq_iff_eq,beq_iff_eq,<- UInt8.toNat_inj];omega
theorem Gg (c:UInt8):Fe c=((c.toNat:Int)==9||(c.toNat:Int)==10||(c.toNat:Int)==13||(c.toNat:Int)==32):=by
 unfold Fe;rw [Dg,Dg,Dg,Dg];rfl
theorem Xm (c:UInt8) (w:World):Calls prog 310 #[.int .u8 c.toNat] w fun e w'=>e=.returned (.bool (Fe c))/\w=w':=by
 rw [Gg]
 go_enter func310,ntmps310
 go_wp2
 all_goals (go_ret;exact ⟨by simp [*],rfl⟩)
theorem Rt (c:UInt8) (w:World):Calls prog 297 #[.int .u8 c.toNat] w fun e w'=>e=.returned (.bool (Hb c))/\w=w':=by
 have h:Hb c=((c.toNat:Int) != 10):=by unfold Hb;simp only [bne];rw [Dg];rfl
 rw [h]
 go_enter func297,ntmps297
 go_wp2
 all_goals (go_ret;exact ⟨by simp [*],rfl⟩)
theorem Pn (c:UInt8) (w:World):Calls prog 312 #[.int .u8 c.toNat] w fun e w'=>e=.returned (.bool (Jw c))/\w=w':=by
 have h:Jw c=(Dl c||Fv c||((c.toNat:Int)==95)):=by unfold Jw;rw [Dg];rfl
 rw [h]
 go_enter func312,ntmps312
 go_wp2_with (first | (go_at_call 311;refine (Vk _ _).mono ?_;rintro e w' ⟨rfl,rfl⟩) | (go_at_call 316;refine (Ur _ _).mono ?_;rintro e w' ⟨rfl,rfl⟩))
 all_goals (go_ret;exact ⟨by simp [*],rfl⟩)
theorem Rr (c:UInt8) (w:World):Calls prog 315 #[.int .u8 c.toNat] w fun e w'=>e=.returned (.bool (Bl c))/\w=w':=by
 unfold Bl
 go_enter func315,ntmps315
 go_wp2_with (first | (go_at_call 311;refine (Vk _ _).mono ?_;rintro e w' ⟨rfl,rfl⟩) | (go_at_call 316;refine (Ur _ _).mono ?_;rintro e w' ⟨rfl,rfl⟩) | (go_at_call 314;refine (Jg _ _).mono ?_;rintro e w' ⟨rfl,rfl⟩))
 all_goals (go_ret;exact ⟨by simp [*],rfl⟩)
def svs (ls:List Bs):List Value:=ls.map sv
def Vp (w:World):Prop:=w.rangeAt 5 0 (svs kws)
theorem B5 (l:Bs):bl ⟨l.toArray⟩=l:=rfl
theorem Ew (s:ByteArray) (n:Nat) (h:n<s.size):(bl s)[n]?=some s[n]:=by
 simp only [bl,Array.getElem?_toList]
 exact Array.getElem?_eq_getElem h
theorem J4 (s:ByteArray):(bl s).length=s.size:=Array.length_toList
theorem D7 {p:UInt8->Bool} {s:ByteArray} {n:Nat} (hn:n<=tk p (bl s)) (h:n<s.size) (hp:p s[n]=true):n+1<=tk p (bl s):=by
 rcases Nat.lt_or_ge n (tk p (bl s)) with h' | h'
 ·omega
 have e:tk p (bl s)=n:=Qvu
 have:=Hg (p:=p) (l:=bl s) (c:=s[n]) (by rw [e];exact Ew s n h)
 rw [hp] at this;cases this
theorem Be {p:UInt8->Bool} {s:ByteArray} {n:Nat} (hn:n<=tk p (bl s)) (h:n<s.size) (hp:p s[n]=false):tk p (bl s)=n:=by
 rcases Nat.lt_or_ge n (tk p (bl s)) with h' | h'
 ·have:=Ec h' (Ew s n h);rw [hp] at this;cases this
 omega
theorem E7 {p:UInt8->Bool} {s:ByteArray} {n:Nat} (hn:n<=tk p (bl s)) (h:¬ n<s.size):tk p (bl s)=n:=by
 have:=Rs p (bl s);rw [J4] at this;omega
theorem Ys {k:IntKind} {a b:Int} (h:a=b):Ending.returned (.int k a)=.returned (.int k b):=by rw [h]
theorem Tx (s:ByteArray) (w:World) (hs:s.size<=maxLen):
  Calls prog 296 #[.string s,.func (.func 312) #[] #[]] w fun e w'=>e=.returned (.int .i64 (tk Jw (bl s)))/\w=w':=by
 unfold maxLen at hs
 go_enter func296,ntmps296
 go_wp2
 go_loop [5] (fun i=>∃ k:Nat,k<=tk Jw (bl s)/\i=.int .i64 k) (fun i=>s.size - (intOf i).toNat)
 case atStart=>exact ⟨0,Q8 _,rfl⟩
 obtain ⟨n,hn,rfl⟩:=hrel
 have D:=Qq hn;clear hn
 by_cases hlt:n<s.size
 ·by_cases hp:Jw s[n]=true
  ·have A:=Qq (D7 D.out hlt hp)
   go_wp2_with (go_at_call 312;refine (Pn _ _).mono ?_;rintro e w' ⟨rfl,rfl⟩)
   go_round
   case rel=>exact ⟨n+1,A.out,by go_num⟩
   case measure=>simp [intOf];omega
  have I:Jw s[n]=false:=by simpa using hp
  have A:=Qq (Be D.out hlt I);clear hp
  go_wp2_with (go_at_call 312;refine (Pn _ _).mono ?_;rintro e w' ⟨rfl,rfl⟩)
  go_ret
  exact ⟨Ys (by rw [A.out]),rfl⟩
 have A:=Qq (E7 D.out hlt)
 go_wp2
 go_ret
 exact ⟨Ys (by rw [A.out]),rfl⟩
theorem Sz (s:ByteArray) (w:World) (hs:s.size<=maxLen):
  Calls prog 296 #[.string s,.func (.func 315) #[] #[]] w fun e w'=>e=.returned (.int .i64 (tk Bl (bl s)))/\w=w':=by
 unfold maxLen at hs
 go_enter func296,ntmps296
 go_wp2
 go_loop [5] (fun i=>∃ k:Nat,k<=tk Bl (bl s)/\i=.int .i64 k) (fun i=>s.size - (intOf i).toNat)
 case atStart=>exact ⟨0,Q8 _,rfl⟩
 obtain ⟨n,hn,rfl⟩:=hrel
 have D:=Qq hn;clear hn
 by_cases hlt:n<s.size
 ·by_cases hp:Bl s[n]=true
  ·have A:=Qq (D7 D.out hlt hp)
   go_wp2_with (go_at_call 315;refine (Rr _ _).mono ?_;rintro e w' ⟨rfl,rfl⟩)
   go_round
   case rel=>exact ⟨n+1,A.out,by go_num⟩
   case measure=>simp [intOf];omega
  have I:Bl s[n]=false:=by simpa using hp
  have A:=Qq (Be D.out hlt I);clear hp
  go_wp2_with (go_at_call 315;refine (Rr _ _).mono ?_;rintro e w' ⟨rfl,rfl⟩)
  go_ret
  exact ⟨Ys (by rw [A.out]),rfl⟩
 have A:=Qq (E7 D.out hlt)
 go_wp2
 go_ret
 exact ⟨Ys (by rw [A.out]),rfl⟩
theorem G9 (f g:Nat->Bool):∀ (n lo hi:Nat),(∀ t,t<hi->f t=g t)->Lib.bsGo f n lo hi=Lib.bsGo g n lo hi
 | 0,_,_,_=>rfl
 | n+1,lo,hi,h=>by
  unfold Lib.bsGo
  by_cases hl:lo<hi
  ·rw [if_pos hl,if_pos hl,h ((lo+hi) / 2) Qvu,G9 f g n _ hi h,G9 f g n lo _ (fun t ht=>h t Qvu)]
  rw [if_neg hl,if_neg hl]
theorem Ja:∀ (x y:List UInt8),Op.bytesLess x y=decide (x<y)
 | [],[]=>by simp [Op.bytesLess]
 | _::_,[]=>by simp [Op.bytesLess]
 | [],_::_=>by simp [Op.bytesLess]
 | a::x,b::y=>by
  rw [Op.bytesLess,Ja x y]
  simp only [List.cons_lt_cons_iff]
  by_cases h1:a<b <;> by_cases h2:a=b <;> by_cases h3:x<y <;> simp [h1,h2,h3]
theorem split_at (f:Nat->Bool) (n:Nat) (hd:∀ i j,i<j->j<n->f j=true->f i=true):∃ k,k<=n/\(∀ t,t<k->f t=true)/\(∀ t,k<=t->t<n->f t=false):=by
 induction n with
 | zero=>exact ⟨0,Q9 _,fun t h=>Qvu,fun t _ h=>Qvu⟩
 | succ n ih=>
  obtain ⟨k,h1,h2,h3⟩:=ih (fun i j A hj=>hd i j A Qvu)
  cases hn:f n with
  | true=>exact ⟨n+1,Q9 _,fun t ht=>by
    by_cases e:t=n
    ·rw [e];exact hn
    exact hd t n Qvu Qvu hn,fun t _ _=>Qvu⟩
  | false=>exact ⟨k,Qvu,h2,fun t ht D=>by
    by_cases e:t=n
    ·rw [e];exact hn
    exact h3 t ht Qvu⟩
theorem bs_ok (S:Nat->Bs) (n:Nat) (x:Bs) (hs:∀ i j,i<j->j<n->S i<S j) (k:Nat) (hk:Lib.bsGo (fun t=>Op.bytesLess (S t) x) n 0 n=k):
  (k<n/\S k=x)↔∃ t,t<n/\S t=x:=by
 obtain ⟨k0,h1,h2,h3⟩:=split_at (fun t=>Op.bytesLess (S t) x) n (fun i j D hj h=>by
  simp only [Ja,decide_eq_true_eq] at h |-
  exact List.lt_trans (hs i j D hj) h)
 have e:Lib.bsGo (fun t=>Op.bytesLess (S t) x) n 0 n=k0:=by
  rw [G9 _ (fun t=>decide (t<n)&&Op.bytesLess (S t) x) n 0 n (fun t A=>by simp [A])]
  exact Lib.bsGo_spec _ k0 (fun t A=>by simp [show t<n by omega,h2 t A]) (fun t A=>by
   by_cases htn:t<n
   ·simp [h3 t A htn]
   simp [htn]) n 0 n Qvu Qvu h1
 rw [hk] at e;subst e
 constructor
 ·rintro ⟨a,b⟩;exact ⟨k,a,b⟩
 rintro ⟨t,A,rfl⟩
 have I:k=t:=by
  rcases Nat.lt_trichotomy k t with h | h | h
  ·have:=h3 k (Q9 _) Qvu
   simp only [Ja,decide_eq_false_iff_not] at this
   exact absurd (hs k t h A) this
  ·exact h
  have:=h2 t h
  simp only [Ja,decide_eq_true_eq] at this
  exact absurd this (List.lt_irrefl _)
 subst I;exact ⟨A,rfl⟩
theorem Wz:∀ i j,i<j->j<26->kws.getD i []<kws.getD j []:=by
 have:∀ j,j<26->∀ i,i<j->kws.getD i []<kws.getD j []:=Qxv
 exact fun i j h1 h2=>this j h2 i h1
theorem isKw_iff (x:Bs):Ff x=true↔∃ t,t<26/\kws.getD t []=x:=by
 have hl:kws.length=26:=rfl
 unfold Ff
 rw [List.contains_iff_mem]
 constructor
 ·intro h
  obtain ⟨j,hj,e⟩:=List.getElem_of_mem h
  exact ⟨j,Qvu,by rw [Qs,Qx hj];exact e⟩
 rintro ⟨t,ht,e⟩
 rw [Qs,Qx Qvu] at e
 rw [<- e];exact Qd _
theorem ba_ext {a b:ByteArray}:a=b↔bl a=bl b:=by
 constructor
 ·rintro rfl;rfl
 intro h
 apply ByteArray.ext
 exact Array.toList_inj.1 h
theorem Qjd (s:ByteArray) (w:World) (hT:Vp w) (c:Nat):
  Calls prog 238 #[Qxa 5 0 26 c,.string s] w fun e w'=>(∃ n:Int,e=.returned (.tuple #[n,.bool (Ff (bl s))]))/\∃ q,w'=w.drewN q:=by
 refine (Any2.slices_BinarySearch_string Tryz.laysBS 5 0 26 c (fun t=>⟨(kws.getD t []).toArray⟩) s w Qvu (fun j hj=>?_)).mono ?_
 ·have hl:kws.length=26:=rfl
  refine hT j _ ?_
  simp only [svs,List.getElem?_map,Qx (show j<kws.length by omega),Option.map_some,Qs,Option.getD_some]
  rfl
 rintro e w' ⟨rfl,hq⟩
 refine ⟨⟨((Lib.bsGo (fun t=>Op.bytesLess (ByteArray.toList ⟨(kws.getD t []).toArray⟩) s.toList) 26 0 26:Nat):Int),?_⟩,hq⟩
 simp only [ByteArray.toList_mk]
 rw [Lib.toList_data]
 have:=bs_ok (fun t=>kws.getD t []) 26 (bl s) Wz _ rfl
 congr 6
 rw [Bool.eq_iff_iff,decide_eq_true_iff,isKw_iff,<- this]
 simp only [ba_ext,B5]
theorem Fo (s:ByteArray) (w:World) (hT:Vp w):
  Calls prog 313 #[.string s] w fun e w'=>e=.returned (.bool (Ff (bl s)))/\∃ q,w'=w.drewN q:=by
 have HK:=Qq (fun c=>Qjd s w hT c)
 go_enter func313,ntmps313
 go_wp2_with (go_at_call 238;refine (HK.out _).mono ?_;rintro e w' ⟨⟨n,rfl⟩,q,rfl⟩)
 go_ret
 exact ⟨rfl,_,rfl⟩
end Go.Proofs.YtlanplhphiikjaaGreatDoor
