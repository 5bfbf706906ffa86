import Derived.Test.YtlanplhphiikjaaGreatDoorE12
set_option maxRecDepth 100000
set_option maxHeartbeats 400000000
namespace Go.Proofs.YtlanplhphiikjaaGreatDoor
open Go.RowKit Go.Shelf Go.Lib Tryz
def Uq (v:Val) (x:Bs):Int:=if Xl v (Xe v x) then Xe v x else -1
theorem M3 (S:Nat->Prop) (v:Val) (cs:List Value) (x:Bs) (w:World) (h:Za S w cs v):
  Calls prog 108 #[cs,sv x] w fun e w'=>e=.returned (.int .i64 (Uq v x))/\Below w w w':=by
 obtain ⟨p3,k3,p4,k4,O,V,U,_⟩:=Za.cells h
 simp only [vcs] at O
 subst O
 have hl:v.kids.length<=1000000:=by obtain ⟨_,_,_,h⟩:=U.len;exact h
 obtain ⟨_,_,_,aA⟩:=V.len
 obtain ⟨r,T⟩:=eX (Uq v x)
 rw [T]
 by_cases h4:v.kind=4
 ·have Y:(v.kind != 4)=false:=by rw [h4];rfl
  have HS:=Qq (V.below (Ze w (.cells #[.int .i64 4,v.n,v.s,.slice p3 v.names.length k3,.slice p4 v.kids.length k4] 48)))
  have Z:=Qq T
  have H4:=Qq h4
  rw [h4]
  clear h V U T h4 Y
  obtain ⟨n,J⟩:=eX (v.names.length)
  rw [J] at HS aA |-
  have HN:=Qq J
  clear J
  unfold sv
  go_enter func108,ntmps108
  go_wp2_with fail
  go_loop [5] (fun i=>∃ k:Nat,k<=n/\i=.int .i64 k/\Aside (∀ (j:Nat) (y:Bs),j<k->v.names[j]?=some y->decide (y=x)=false)) (fun i=>n - (intOf i).toNat)
  case atStart=>exact ⟨0,Q8 _,rfl,fun j _ hj=>absurd hj (Z6 _)⟩
  obtain ⟨k,U,rfl,A⟩:=hrel
  by_cases hlt:k<n
  ·have aE:(0:Int)<=(k:Int):=Qvu
   have aF:(k:Int)<(n:Int):=Qvu
   obtain ⟨y,M⟩:∃ y,v.names[k]?=some y:=⟨_,Qx (by rw [HN.out];exact hlt)⟩
   obtain ⟨b,off,rfl,hc,-⟩:=HS.out.str M
   have HY:=Qq M
   clear M
   by_cases he:y=x
   ·have Y:(y==x)=true:=by rw [he];simp
    have I:Xe v x=k:=by unfold Xe;exact Kh HY.out (by rw [he];simp) A.out
    have N:=Qq I
    clear he I
    by_cases hkl:k<v.kids.length
    ·have D:r=k:=by
      rw [<- Z.out];unfold Uq;rw [N.out]
      have:Xl v (k:Int)=true:=by unfold Xl;simp [H4.out,hkl]
      rw [this];rfl
     subst D
     go_wp2_with fail
     go_ret
     exact ⟨rfl,Ze _ _⟩
    have D:r=-1:=by
     rw [<- Z.out];unfold Uq;rw [N.out]
     have:Xl v (k:Int)=false:=by unfold Xl;simp [hkl]
     rw [this];rfl
    subst D
    have aC:¬ (k:Int)<(v.kids.length:Int):=Qvu
    go_wp2_with fail
    go_ret
    exact ⟨rfl,Ze _ _⟩
   have Y:(y==x)=false:=by rw [<- Qt,beq_iff_eq];exact he
   have HE:=Qq he
   clear he
   go_wp2_with fail
   go_round
   case measure=>simp [intOf];omega
   case rel=>
    refine ⟨k+1,Qvu,by go_num,(show Aside _ from fun j z hj hz=>?_)⟩
    by_cases e:j=k
    ·subst e
     have:=HY.out
     rw [this] at hz
     cases hz
     simpa using HE.out
    exact A.out j z Qvu hz
  have aD:¬ (k:Int)<(n:Int):=Qvu
  have:k=n:=Qvu
  subst this
  have I:Xe v x=-1:=by unfold Xe;exact Ue (fun j y M=>A.out j y (by have:=(Qj M).1;have:=HN.out;omega) M)
  have D:r=-1:=by
   rw [<- Z.out];unfold Uq;rw [I]
   have:Xl v (-1)=false:=by unfold Xl;simp
   rw [this];rfl
  subst D
  clear I
  go_wp2_with fail
  go_ret
  exact ⟨rfl,Ze _ _⟩
 have D:r=-1:=by
  rw [<- T];unfold Uq
  have:Xl v (Xe v x)=false:=by unfold Xl;simp [h4]
  rw [this];rfl
 subst D
 have Y:(v.kind != 4)=true:=by rw [bne_iff_ne];exact h4
 clear h V U T h4
 unfold sv
 go_enter func108,ntmps108
 go_wp2_with fail
 go_ret
 exact ⟨rfl,Ze _ _⟩
def RGetIs (S:Nat->Prop) (w:World) (o:Option Val) (e:Ending) (w':World):Prop:=
 ∃ cs',e=.returned (.tuple #[.agg cs'.toArray,.bool o.isSome])/\Za S w' cs' (o.getD Val.zero)/\Below w w w'
theorem B8 {v:Val} {x:Bs} (h:Xj v x=none):Uq v x=-1:=by unfold Uq;rw [N4 h];rfl
theorem B1 {v u:Val} {x:Bs} (h:Xj v x=some u):∃ i:Nat,Uq v x=i/\v.kids[i]?=some u:=by
 obtain ⟨i,hi,hu,hb⟩:=Fc h
 exact ⟨i,by unfold Uq;rw [hb,hi];rfl,hu⟩
theorem Hp (S:Nat->Prop) (v:Val) (cs:List Value) (x:Bs) (w:World) (h0:Za S w cs v):
  Calls prog 55 #[cs,sv x] w (RGetIs S w (Xj v x)):=by
 have h:Za (fun b=>S b/\b<w) w cs v:=h0.move (.refl _ _) (fun b hb hs=>⟨hs,hb⟩)
 clear h0
 have O:=Qq (fun W (hb:Below w w W)=>M3 _ v cs x W (h.move (.of_below hb) Qyv))
 obtain ⟨p3,k3,p4,k4,T,hn,hk,_⟩:=Za.cells h
 simp only [vcs] at T
 subst T
 have HK:=Qq hk
 clear h hn hk
 unfold sv at O |-
 cases hg:Xj v x with
 | none=>
  rw [B8 hg] at O
  clear hg
  go_enter func55,ntmps55
  go_wp2_with fail
  refine (O.out _ (Zu _ _ _)).mono ?_
  rintro e Z ⟨rfl,J⟩
  have HW:=Qq J
  have I:=(J.block (w+1) Qxz).trans (Q6 _ _ _)
  have Y:=Qq I
  have f:=fun j=>Qn _ _ j _ _ I
  have y:=fun j=>Qk _ _ j _ _ _ I
  obtain ⟨y0,y1,y2,y3,y4⟩:=Qxu y
  obtain ⟨f0,f1,f2,f3,f4⟩:=Qxu f
  simp only [Qf,Qg,Qh] at y0 y1 y2 y3 y4
  clear J I f y
  go_wp2_with fail
  show bodyPost _ _ _ _ _ (Zp Z _ _ _ _ _ _)
  refine Q7 (v:=.tuple #[.agg zV,.bool false]) (by simp [results,results55,go_sem,Zd Y.out]) rfl ⟨_,rfl,Yw _ _,?_⟩
  exact Zf ((Zu w _ _).thn HW.out) Qvu
 | some u=>
  obtain ⟨i,hi,M⟩:=B1 hg
  rw [hi] at O
  obtain ⟨b,off,q3,l3,q4,l4,rfl,D,V,d0,d1,d2,d3,d4⟩:=HK.out.val M
  have U:i<v.kids.length:=(Qj M).1
  have aC:(0:Int)<=(i:Int):=Qvu
  have aD:(i:Int)<(v.kids.length:Int):=Qvu
  have aE:decide ((i:Int)<0)=false:=Qxz
  have HV:=Qq V
  clear hg hi M V
  go_enter func55,ntmps55
  go_wp2_with fail
  refine (O.out _ (Zu _ _ _)).mono ?_
  rintro e Z ⟨rfl,J⟩
  have A:=(Zu w _ _).thn J
  have I:=(J.block (w+1) Qxz).trans (Q6 _ _ _)
  have hX:=(J.block w (by simp;omega)).trans (Q5 _ _ _)
  have e0:=kD A D d0;have e1:=kD A D d1;have e2:=kD A D d2;have e3:=kD A D d3;have e4:=kD A D d4
  have x4:=Qk _ _ 4 _ _ _ hX
  have f:=fun j=>Qn _ _ j _ _ I
  have y:=fun j=>Qk _ _ j _ _ _ I
  obtain ⟨y0,y1,y2,y3,y4⟩:=Qxu y
  obtain ⟨f0,f1,f2,f3,f4⟩:=Qxu f
  simp only [Qf,Qg,Qh] at x4 y0 y1 y2 y3 y4
  have N:=Qq A;have Y:=Qq I
  clear J A hX I d0 d1 d2 d3 d4 f y
  go_wp2_with fail
  show bodyPost _ _ _ _ _ (Zp Z _ _ _ _ _ _)
  refine Q7 (v:=.tuple #[.agg (Qxf u q3 l3 q4 l4),.bool true]) (by simp [results,results55,go_sem,Zd Y.out]) rfl ⟨_,rfl,?_,Zf N.out Qvu⟩
  refine Za.move HV.out (fun b hb U=>(Zi ?_).trans (N.out.block b U)) (fun b _ hb=>hb.1)
  have:=hb.2
  omega
def De (n:Int):Bs:=vb (zz 0)++vb (zz n)
theorem encI_inj {a b:Int} (h:De a=De b):a=b:=by
 unfold De at h
 have h1:=List.append_cancel_left h
 have:=vb_inj (zz a) (zz a) (zz b) [] [] (Q9 _) (by simpa using h1)
 exact zz_inj this.1
theorem Rv {n:Int} (h0:-2305843009213693952<=n) (h1:n<2305843009213693952):(De n).length<=20:=by
 have a:=Kw (Cd (n:=0) Qvu Qvu)
 have b:=Kw (Cd h0 h1)
 unfold De;rw [Ql];omega
theorem Qqs (g:Nat) (w:World) (v:Value) (n:Int) (s:ByteArray) (p3:Option Addr) (l3 k3:Nat) (p4:Option Addr) (k4:Nat) (hA:WAt g w v []) (h0:-2305843009213693952<=n) (h1:n<2305843009213693952):
  Calls prog 45 #[Qxb g,.agg #[Qxc,n,.string s,.slice p3 l3 k3,.slice p4 0 k4]] w (K8 g w v (De n)):=by
 have hg:=Z8 hA.cell
 have I:∀ b,v.ownBlock=some b->b<w.heap.size:=fun b hb=>by
  obtain ⟨_,ho⟩:=hA.own
  exact (ho.row.lt b hb).2
 obtain ⟨HA,D,H0,H1⟩:=Qxo hA I h0 h1
 clear hA I h0 h1
 go_enter func45,ntmps45
 go_wp2_with fail
 have A:Below w w ((w.alloc (.cells #[Qxc,n,.string s,.slice p3 l3 k3,.slice p4 0 k4] 48)).alloc (.cells #[Qxc,n] 3)):=Zu _ _ _
 have V:=Q5 w (.cells #[Qxc,n,.string s,.slice p3 l3 k3,.slice p4 0 k4] 48) (.cells #[Qxc,n] 3)
 have Y:=Q6 w (.cells #[Qxc,n,.string s,.slice p3 l3 k3,.slice p4 0 k4] 48) (.cells #[Qxc,n] 3)
 generalize (w.alloc (.cells #[Qxc,n,.string s,.slice p3 l3 k3,.slice p4 0 k4] 48)).alloc (.cells #[Qxc,n] 3)=W1 at A V Y |-
 have hi:=Qzs g W1 v [] 0 n (w+1) (HA.out.below A) H0.out H1.out Qvu Qvu Qxz Y Qvu (fun e=>by have:=D.out _ e;omega)
 obtain ⟨HI,T,HX⟩:=Qxn hi A V
 clear hi A V Y
 rw [List.nil_append,show vb (zz 0)++vb (zz n)=De n from rfl] at HI
 refine HI.out.mono ?_
 rintro e w2 ⟨rfl,v2,M,J⟩
 have N:=(J.keep w (Z8 HX.out) Qvu (fun e=>by have:=D.out _ e.symm;omega)).trans HX.out
 have c4:=rA4 N
 have O:=Qq M;have U:=Qq ((Xk.of_below (v:=v) T.out Qvu:Xk g w v W1 v).trans J)
 clear M J N
 go_wp2_with fail
 go_loop [57] (fun i=>i=.int .i64 0) (fun _=>0)
 case atStart=>exact rfl
 subst hrel
 go_wp2_with fail
 go_end0
 exact ⟨rfl,v2,O.out,U.out⟩
theorem Ng (S:Nat->Prop) (v:Value) (xs:List UInt8) (w:World) (hs:Sl Zt S w v xs):Calls prog 39 #[v] w (Uv Zt 5 S w xs):=by
 obtain ⟨i0,h1,h2,h3,h4⟩:=Y4 (P:=prog) (t:=5) (z:=.int .u8 0) (n:=1) (b:=1) Qxx
 exact Fa Tryz.clByte Zt Qxv 1 i0 _ h1 h2 h3 h4 rfl sizeOf5 Qvu Bz S v xs w hs
theorem Lp (g:Nat) (w:World) (v:Value) (bs:Bs) (hA:WAt g w v bs) (hl:bs.length<=1000000):
  Calls prog 36 #[Qxb g] w (Uv Zt 5 (fun _=>True) w bs):=by
 obtain ⟨css,hO⟩:=hA.own
 have A:Sl Zt (fun _=>True) w v bs:=hO.sl hl (fun _ _=>trivial) (fun _ _ _=>trivial)
 have HC:=Qq (Ng _ v bs w A)
 obtain ⟨p,cap,rfl,_⟩:=A.len
 have c0:=rA0 hA.cell
 clear hA hO A
 go_enter func36,ntmps36
 go_wp2_with (go_at_call 39;refine HC.out.mono ?_;rintro e w' ⟨q,qc,qs,rfl,D,I⟩;have M:=Qq D;have J:=Qq I;clear D I)
 go_ret
 exact ⟨q,qc,qs,rfl,M.out,J.out⟩
theorem Cq (S:Nat->Prop) (n:Int) (s:Bs) (names:List Bs) (cs:List Value) (w:World) (h:Za S w cs (.mk 0 n s names [])) (h0:-2305843009213693952<=n) (h1:n<2305843009213693952):
  Calls prog 15 #[cs] w (Uv Zt 5 (fun _=>True) w (De n)):=by
 obtain ⟨p3,Y,p4,Z,O,_⟩:=Za.cells h
 simp only [vcs,Val.kind,Val.n,Val.s,Val.names,Val.kids,List.length_nil] at O
 subst O
 have aC:=Rv h0 h1
 have H0:=Qq h0;have H1:=Qq h1
 clear h h0 h1
 go_enter func15,ntmps15
 go_wp2_with fail
 have M:=Zu w (.cells #[Qxc,n,s,.slice p3 names.length Y,.slice p4 0 Z] 48) (.cells #[Qxe] 88)
 have hA:WAt (w+1) ((w.alloc (.cells #[Qxc,n,s,.slice p3 names.length Y,.slice p4 0 Z] 48)).alloc (.cells #[Qxe] 88)) (.slice none 0 0) []:=⟨Q6 _ _ _,[],Own.nil _ _ _ _ _⟩
 refine (Qqs _ _ _ n ⟨s.toArray⟩ p3 names.length Y p4 Z hA H0.out H1.out).mono ?_
 rintro e w2 ⟨rfl,v2,D,J⟩
 have T:=Qq D
 have A:=Qq (M.trans (J.below.mono (Nat.le_succ _)))
 clear hA D J M
 go_wp2_with (go_at_call 36;refine (Lp _ _ _ _ T.out Qvu).mono ?_;rintro e w' ⟨q,qc,qs,rfl,I,N⟩;have V:=Qq I;have U:=Qq N;clear I N)
 go_ret
 exact ⟨q,qc,qs,rfl,V.out.move A.out.size (fun _ _ _=>rfl),A.out.thn U.out⟩
theorem less_any (g:Nat) (lb:Array Value) (eg:∀ args w,(callFunc g args).run prog w=.ok (.enter g args) w) (S0:Nat->Prop) (u v:Val) (w:World) (hS0:∀ b,S0 b->b<w.heap.size)
  (h0:∀ W,Below w w W->Calls prog g (#[.int .i64 0]++lb) W (L0 S0 W u)) (h1:∀ W,Below w w W->Calls prog g (#[.int .i64 1]++lb) W (L0 S0 W v)):
  Calls prog 196 #[.string ⟨#[60]⟩,.func (.func g) #[] lb,.int .i64 2] w (L0 S0 w (Gb (decide (Yk u v<0)))):=by
 obtain ⟨H0,H1,HM,aP⟩:=Qxo h0 h1 Cw hS0
 have M:=Qq (fun cu cv W (hu:Za S0 W cu u) (hv:Za S0 W cv v)=>Hl S0 u v cu cv W hu hv)
 have N:=Qq (Em (decide (Yk u v<0)) S0)
 obtain ⟨r,V⟩:=eX (Gb (decide (Yk u v<0)))
 rw [V] at N |-
 clear h0 h1 V hS0
 generalize Yk u v=c at M N
 go_enter func196,ntmps196
 go_wp2_with (go_at_call 191;refine (HM.out _).mono ?_;rintro e w' ⟨rfl,rfl⟩)
 refine (H0.out _ (Ze _ _)).mono ?_
 rintro e w1 ⟨cu,rfl,hu,O⟩
 obtain ⟨a3,m3,a4,m4,A,_⟩:=Za.cells hu
 simp only [vcs] at A
 subst A
 obtain ⟨aC,aB,HU⟩:=Qxn ((O.block w Qxz).trans (Qw w _)) ((Ze w _).thn O) hu
 clear hu O
 go_wp2_with fail
 refine (H1.out _ aB.out).mono ?_
 rintro e w2 ⟨cv,rfl,hv,J⟩
 obtain ⟨b3,n3,b4,n4,A,_⟩:=Za.cells hv
 simp only [vcs] at A
 subst A
 have aD:=Qq ((J.block w (Z8 aC.out)).trans aC.out);have aJ:=Qq (aB.out.thn J)
 have aQ:=Qq (Za.move HU.out (.of_below J) Qyv);have aR:=Qq hv
 clear hv J
 go_upto_region 10 with fail
 generalize I:(w2.alloc _).alloc _=w4
 have D:=eqB I (Zu _ _ _)
 have Z:=eqH (b:=w2.heap.size) I (Q5 _ _ _)
 have g2:=eqH (b:=w2.heap.size+1) I (Q6 _ _ _)
 have aE:=Qq ((D.block w (Z8 aD.out)).trans aD.out);have aK:=Qq (aJ.out.thn D)
 have aN:=Qq (fun W (hb:Below w4 w4 W)=>M.out _ _ W (Za.move (Za.move aQ.out (.of_below D) Qyv) (.of_below hb) Qyv) (Za.move (Za.move aR.out (.of_below D) Qyv) (.of_below hb) Qyv))
 have x0:=rA0 Z;have y0:=rA0 g2;have x1:=rA1 Z;have y1:=rA1 g2;have x2:=rA2 Z;have y2:=rA2 g2;have x3:=rA3 Z;have y3:=rA3 g2;have x4:=rA4 Z;have y4:=rA4 g2
 clear D Z g2 I
 go_wp2_with fail
 refine (aN.out _ (Qz _ _)).mono ?_
 rintro e w5 ⟨rfl,aG⟩
 have T:=aG.bl
 have aF:=Qq ((T.block w (Z8 aE.out)).trans aE.out);have aL:=Qq (aK.out.thn T)
 clear T aG
 go_wp2_with (go_at_call 192;refine (N.out _).mono ?_;rintro e w6 ⟨cr,rfl,Y,U⟩;obtain ⟨q3,l3,q4,l4,A,_⟩:=Za.cells Y;simp only [vcs] at A;subst A;have aM:=Qq U;have aS:=Qq Y;have V:=(U.block w (Z8 aF.out)).trans aF.out;have aO:=Qq V;obtain ⟨f0,f1,f2,f3,f4⟩:=frz5 V;obtain ⟨r0,r1,r2,r3,r4⟩:=row5 V;clear Y U V)
 show bodyPost _ _ _ _ _ (Qxl w6 w r q3 l3 q4 l4)
 refine Q7 (v:=.agg (Qxf r q3 l3 q4 l4)) (by simp [results,results196,go_sem,Zd aO.out]) rfl ⟨_,rfl,?_,Zf (aL.out.thn aM.out) (Q9 _)⟩
 exact Za.move aS.out (fun b hb _=>Zi (by have:=aP.out b hb;omega)) Qyv
section
variable {P:Program} {T:Type}
theorem Ww {r:Rd T} (t ty E:TypeId) (i:TypeInfo) (ht:P.underlying t=some (.slice E)) (hi:P.info? E=some i) (S:Nat->Prop) (B:Nat) (w:World) (v:Value) (xs:List T) (css:List (List Value)) (hO:Own r E S B w v xs css) (c:Nat):
  (Builtin.append_ #[t,t] ty #[v,.slice none 0 c]).run P w=.ok v w:=by
 rcases hO.row.2 with ⟨rfl,_⟩ | ⟨g,cap,D,rfl,_,_,A,_⟩
 ·simp [Builtin.append_,run_underlying ht,sizeOf,typeInfo,hi,Builtin.lenOf,Builtin.firstCells]
 simp [Builtin.append_,run_underlying ht,sizeOf,typeInfo,hi,Builtin.lenOf,Builtin.firstCells,A,storeCells]
theorem run_cat {r:Rd T} (hk:0<r.k) (t ty E:TypeId) (i:TypeInfo) (z:Value) (bytes:Nat) (ht:P.underlying t=some (.slice E)) (hi:P.info? E=some i) (hz:i.zero=some z) (hsize:i.size=r.k) (hby:i.bytes=bytes) (hzs:z.cells.size=r.k) (hb1:bytes<=1000)
  (S:Nat->Prop) (B:Nat) (w:World) (v:Value) (xs:List T) (css:List (List Value)) (ys:List T) (q:Option Addr) (m c:Nat) (hO:Own r E S B w v xs css) (hY:Sl r (But S v) w (.slice q m c) ys)
  (h1:∀ S w cs x,r.R S w cs x->∀ u ∈ cs,u.oneCell'=true) (hl:xs.length+ys.length<=1000000) (hB:B<=w):
  ∃ p cap css' w1,(Builtin.append_ #[t,t] ty #[v,.slice q m c]).run P w=.ok (.slice p (xs.length+ys.length) cap) w1/\Own r E S B w1 (.slice p (xs.length+ys.length) cap) (xs++ys) css'/\w.grownBy w1 v.ownBlock/\((Value.slice p (xs.length+ys.length) cap).ownBlock=v.ownBlock\/(Value.slice p (xs.length+ys.length) cap).ownBlock=some w.heap.size):=by
 obtain ⟨q',c',dss,hv,U,hc⟩:=hY.css hk
 simp only [Qr] at hv
 obtain ⟨rfl,rfl,rfl⟩:=hv
 have J:∀ O:Addr,q=some O->(∀ j u,dss.flatten[j]?=some u->w.cell? (O.add j)=some u)->∃ p cap css' w1,(Builtin.append_ #[t,t] ty #[v,.slice q ys.length c]).run P w=.ok (.slice p (xs.length+ys.length) cap) w1/\Own r E S B w1 (.slice p (xs.length+ys.length) cap) (xs++ys) css'/\w.grownBy w1 v.ownBlock/\((Value.slice p (xs.length+ys.length) cap).ownBlock=v.ownBlock\/(Value.slice p (xs.length+ys.length) cap).ownBlock=some w.heap.size):=by
  rintro O rfl A
  obtain ⟨v1,w1,I,Y,D,_,N⟩:=run_append_own_at (P:=P) w B t ty E i z r.k bytes ht hi hz hsize hby hzs hk v xs.length css.flatten hO.row O ys.length c dss.flatten U.flat A (fun u Z=>by
   obtain ⟨cc,aA,aD⟩:=List.mem_flatten.1 Z
   obtain ⟨i',V⟩:=Zk aA
   have aC:=(Qj V).1
   exact h1 _ w cc _ (U.R i' cc _ V (Qx (by rw [<- U.len];exact aC))) u aD) (by unfold maxLen;omega) (by
   have:=Nat.mul_le_mul (show xs.length+ys.length<=1000000 by omega) hb1
   omega) hB
  have M:=hO.append U (v':=v1) (w2:=w1) Y D N
  obtain ⟨p,cap,rfl⟩:=M.form
  rw [Ql] at M I N
  exact ⟨p,cap,_,w1,I,M,D,N⟩
 by_cases hne:ys=[]
 ·subst hne
  have aB:dss=[]:=Zy U.len
  subst aB
  rcases q with _ | O
  ·obtain ⟨p,cap,rfl⟩:=hO.form
   exact ⟨p,cap,css,w,Ww t ty E i ht hi S B w _ xs css hO c,by simpa using hO,World.grownBy.refl w _,.inl rfl⟩
  exact J O rfl (fun j u Z=>by simp at Z)
 obtain ⟨b,off,rfl,_,_,A⟩:=hc hne
 exact J _ rfl (fun j u Z=>by
  rw [show (⟨b,off,none⟩:Addr).add j=⟨b,off+j,none⟩ by unfold Addr.add;split <;> simp_all]
  exact A j u Z)
theorem Re {r:Rd T} (hk:0<r.k) {ops:Array Oper} {o:Oper} {a:Act} {K:Act->World->Prop} {Q:Exit->Act->World->Prop} {X:Prop} (hgd:o.guard=none) (s x:Operand) (t:TypeId)
  (ho:o.op=.call { callee:=.builtin .append,args:=#[s,x],argTypes:=#[t,t] }) (E:TypeId) (i:TypeInfo) (z:Value) (bytes:Nat) (ht:P.underlying t=some (.slice E)) (hi:P.info? E=some i) (hz:i.zero=some z)
  (hsize:i.size=r.k) (hby:i.bytes=bytes) (hzs:z.cells.size=r.k) (hb1:bytes<=1000) (S:Nat->Prop) (B:Nat) (w:World) (v:Value) (xs:List T) (css:List (List Value)) (ys:List T) (q:Option Addr) (m c:Nat) (hs:a.eval s=v)
  (hO:Own r E S B w v xs css) (hx:a.eval x=.slice q m c) (hY:Sl r (But S v) w (.slice q m c) ys) (h1:∀ S w cs x,r.R S w cs x->∀ u ∈ cs,u.oneCell'=true) (hl:xs.length+ys.length<=1000000) (hB:B<=w)
  (h:∀ p cap A I,Own r E S B I (.slice p (xs.length+ys.length) cap) (xs++ys) A->w.grownBy I v.ownBlock->((Value.slice p (xs.length+ys.length) cap).ownBlock=v.ownBlock\/(Value.slice p (xs.length+ys.length) cap).ownBlock=some w.heap.size)->K (a.put o.dst (.slice p (xs.length+ys.length) cap)) I):
  if Region.wanted o (yielded ops a.tmps)=true then Oper.wp P o a w K Q else X:=by
 have hw:Region.wanted o (yielded ops a.tmps)=true:=by simp [Region.wanted,hgd]
 rw [if_pos hw]
 obtain ⟨p,cap,A,I,D,h2,h3,h4⟩:=run_cat (P:=P) hk t o.type E i z bytes ht hi hz hsize hby hzs hb1 S B w v xs css ys q m c hO hY h1 hl hB
 unfold Oper.wp execOp
 simp only [ho,resolve,invoke,builtin,Sem.run_bind,Sem.run_pure,Result.andThen_ok,List.map_toArray,List.map_cons,List.map_nil,hs,hx,D]
 exact h p cap A I h2 h3 h4
end
inductive Y0:Val->Prop
 | mk (k n:Int) (s:Bs) (names:List Bs) (kids:List Val) (hb:k=2->n=0\/n=1) (hk:∀ x ∈ kids,Y0 x):Y0 (.mk k n s names kids)
theorem Y0.kids {v:Val} (h:Y0 v):∀ x ∈ v.kids,Y0 x:=by cases h;assumption
theorem Y0.bool {v:Val} (h:Y0 v) (hk:v.kind=2):v.n=0\/v.n=1:=by cases h with | mk k n s names kids hb _=>exact hb hk
theorem Y0.zero:Y0 Val.zero:=.mk 0 0 [] [] [] (fun h=>by cases h) (fun x h=>by simp at h)
theorem X6.boolOk {v:Val} (h:X6 v):Y0 v:=by
 induction h with
 | int n=>exact .mk _ _ _ _ _ (fun h=>by cases h) (fun x h=>by simp at h)
 | text s=>exact .mk _ _ _ _ _ (fun h=>by cases h) (fun x h=>by simp at h)
 | bool n hn=>exact .mk _ _ _ _ _ (fun _=>hn) (fun x h=>by simp at h)
 | make s kids _ _ _ ih=>exact .mk _ _ _ _ _ (fun h=>by cases h) ih
 | record names kids _ _ _ _ ih=>exact .mk _ _ _ _ _ (fun h=>by cases h) ih
 | list kids _ ih=>exact .mk _ _ _ _ _ (fun h=>by cases h) ih
theorem Za.head {S:Nat->Prop} {w:World} {k n:Int} {s:ByteArray} {p3:Option Addr} {n3 k3:Nat} {p4:Option Addr} {n4 k4:Nat} {v:Val} (h:Za S w [k,n,.string s,.slice p3 n3 k3,.slice p4 n4 k4] v):v.kind=k/\v.n=n/\v.kids.length=n4:=by
 obtain ⟨a,b,c,d,e,_⟩:=Za.cells h
 simp only [vcs,List.cons.injEq,Value.int.injEq,Qr,true_and,and_true] at e
 obtain ⟨h1,h2,_,_,h5⟩:=e
 exact ⟨h1.symm,h2.symm,h5.2.1.symm⟩
def EvS (S:Nat->Prop) (w:World) (cs:List Value) (r:Option Val) (b:Bool):Prop:=(b=true->∃ v,Za S w cs v/\Y0 v/\r=some v)/\(b=false->r=none)
theorem EvS.yes {S:Nat->Prop} {w:World} {cs:List Value} {r:Option Val} {v:Val} (h:Za S w cs v) (hb:Y0 v) (hr:r=some v):EvS S w cs r true:=⟨fun _=>⟨v,h,hb,hr⟩,fun h=>by cases h⟩
theorem EvS.no {S:Nat->Prop} {w:World} {cs:List Value} {r:Option Val} (hr:r=none):EvS S w cs r false:=⟨(fun h=>by cases h),fun _=>hr⟩
theorem EvS.map {S S':Nat->Prop} {w w':World} {cs:List Value} {r:Option Val} {b:Bool} (h:EvS S w cs r b) (hm:∀ v,Za S w cs v->Za S' w' cs v):EvS S' w' cs r b:=⟨fun hb=>by
 obtain ⟨v,h1,h2,h3⟩:=h.1 hb
 exact ⟨v,hm v h1,h2,h3⟩,h.2⟩
def Xy (S:Nat->Prop) (w:World) (r:Option Val) (e:Ending) (w':World):Prop:=∃ (k n:Int) (s:ByteArray) (p3:Option Addr) (n3 k3:Nat) (p4:Option Addr) (n4 k4:Nat) (b:Bool),
 e=.returned (.tuple #[.agg #[k,n,.string s,.slice p3 n3 k3,.slice p4 n4 k4],.bool b])/\EvS (fun c=>S c\/w<=c) w' [k,n,.string s,.slice p3 n3 k3,.slice p4 n4 k4] r b/\Below w w w'
theorem Xy.weak {S S':Nat->Prop} {w w1 w2:World} {r:Option Val} {e:Ending} (h:Xy S' w1 r e w2) (hb:Below w w w1) (hS:∀ c,S' c->S c\/w.heap.size<=c):Xy S w r e w2:=by
 obtain ⟨k,n,s,p3,n3,k3,p4,n4,k4,b,he,hv,D⟩:=h
 refine ⟨k,n,s,p3,n3,k3,p4,n4,k4,b,he,hv.map (fun v h1=>h1.move (.refl _ _) (fun c _ A=>?_)),hb.thn D⟩
 rcases A with A | A
 ·exact hS c A
 exact .inr (Qxj hb.size)
theorem Xy.of_eq {S:Nat->Prop} {w w':World} {r r':Option Val} {e:Ending} (hr:r=r') (h:Xy S w r' e w'):Xy S w r e w':=hr ▸ h
theorem At (b:Bool) (w:World):Calls prog 244 #[.bool b] w fun e w'=>e=.returned (.tuple #[.agg #[.int .i64 2,.int .i64 (if b then 1 else 0),Qxd,Qxe,Qxe],.bool true])/\Below w w w':=by
 cases b with
 | true=>
  go_enter func244,ntmps244
  go_wp2_with fail
  exact Q7 (v:=.tuple #[.agg #[.int .i64 2,.int .i64 1,Qxd,Qxe,Qxe],.bool true]) (by simp [results,results244,go_sem]) rfl ⟨rfl,Ze _ _⟩
 | false=>
  go_enter func244,ntmps244
  go_wp2_with fail
  exact Q7 (v:=.tuple #[.agg #[.int .i64 2,Qxc,Qxd,Qxe,Qxe],.bool true]) (by simp [results,results244,go_sem]) rfl ⟨rfl,Ze _ _⟩
theorem Hk (n:Int) (w:World):Calls prog 243 #[n] w fun e w'=>e=.returned (.tuple #[.agg #[Qxc,n,Qxd,Qxe,Qxe],.bool true])/\Below w w w':=by
 go_enter func243,ntmps243
 go_wp2_with fail
 exact Q7 (v:=.tuple #[.agg #[Qxc,n,Qxd,Qxe,Qxe],.bool true]) (by simp [results,results243,go_sem]) rfl ⟨rfl,Ze _ _⟩
theorem Ts (S:Nat->Prop) (w:World) (n:Int):Za S w [.int .i64 2,n,Qxd,Qxe,Qxe] (.mk 2 n [] [] []):=Yi (s:=[]) Qxz (Sl.nil _ _ _) (Sl.nil _ _ _)
theorem Ld (n:Int):Y0 (.mk 0 n [] [] []):=.mk _ _ _ _ _ (fun h=>by cases h) (fun x h=>by simp at h)
theorem Sl.ex {S:Nat->Prop} {w:World} {p:Option Addr} {n cap:Nat} {xs:List Ex} (h:Sl Vw S w (.slice p n cap) xs) {i:Nat} {x:Ex} (hx:xs[i]?=some x):
  ∃ b off ek es1 en es2 ep1 en1 ec1 ep2 en2 ec2 ep3 en3 ec3 ea ez,p=some ⟨b,off,none⟩/\b<w.heap.size/\Y1 S w (Qxh ek es1 en es2 ep1 en1 ec1 ep2 en2 ec2 ep3 en3 ec3 ea ez) x/\Qxw w b (off+i*9) (.int .i64 ek)/\Qxw w b (off+i*9+1) (.string es1)/\Qxw w b (off+i*9+2) (.int .i64 en)/\Qxw w b (off+i*9+3) (.string es2)/\Qxw w b (off+i*9+4) (.slice ep1 en1 ec1)/\Qxw w b (off+i*9+5) (.slice ep2 en2 ec2)/\Qxw w b (off+i*9+6) (.slice ep3 en3 ec3)/\Qxw w b (off+i*9+7) (.int .i64 ea)/\Qxw w b (off+i*9+8) (.int .i64 ez):=by
 obtain ⟨b,off,cs,rfl,hb,_,_,hr,A⟩:=h.elem hx
 obtain ⟨ek,es1,en,es2,ep1,en1,ec1,ep2,en2,ec2,ep3,en3,ec3,ea,ez,D⟩:=Y1.cells (show Y1 S w cs x from hr)
 subst D
 simp only [show Vw.k=9 from rfl] at A
 exact ⟨b,off,ek,es1,en,es2,ep1,en1,ec1,ep2,en2,ec2,ep3,en3,ec3,ea,ez,rfl,hb,hr,A 0 _ rfl,A 1 _ rfl,A 2 _ rfl,A 3 _ rfl,A 4 _ rfl,A 5 _ rfl,A 6 _ rfl,A 7 _ rfl,A 8 _ rfl⟩
def Fb (x:Ex):Prop:=∀ (S:Nat->Prop) (ce:List Value) (w:World),Y1 S w ce x->Calls prog 199 #[ce] w fun e w'=>e=.returned (.bool (Vu x))/\Below w w w'
theorem Ta (k:Int) (nm:Bs) (n:Int) (s:Bs) (names binds:List Bs) (kids:List Ex) (a z:Int) (ih:∀ x ∈ kids,Fb x):Fb (.mk k nm n s names binds kids a z):=by
 intro S ce w h
 obtain ⟨nv,bv,kv,rfl,_,_,hn,hb,hk⟩:=Yd.1 h
 obtain ⟨p1,c1,rfl,_⟩:=hn.len
 obtain ⟨p2,c2,rfl,_⟩:=hb.len
 obtain ⟨p3,c3,rfl,aK⟩:=hk.len
 have HK:=Qq hk;have HI:=Qq ih
 clear h hn hb hk ih
 obtain ⟨m,hm⟩:=eX (kids.length)
 rw [hm] at HK aK |-
 have HM:=Qq hm
 clear hm
 unfold sv
 by_cases hbad:k=4\/k=10\/k=15\/k=16
 ·rcases hbad with rfl | rfl | rfl | rfl
  all_goals
   go_enter func199,ntmps199
   go_wp2_with fail
   go_ret
   exact ⟨rfl,Ze _ _⟩
 have HQ:Hid (Vu (.mk k nm n s names binds kids a z)=My kids):=Qq (by
  have e:([4,10,15,16].any fun y=>decide (y=k))=false:=by
   simp only [List.any_cons,List.any_nil,Bool.or_false,Bool.or_eq_false_iff,decide_eq_false_iff_not]
   omega
  rw [Vu,e];rfl)
 have q4:(k==4)=false:=by rw [<- Qt,beq_iff_eq];omega
 have aM:(k==10)=false:=by rw [<- Qt,beq_iff_eq];omega
 have aN:(k==15)=false:=by rw [<- Qt,beq_iff_eq];omega
 have aO:(k==16)=false:=by rw [<- Qt,beq_iff_eq];omega
 clear hbad
 go_enter func199,ntmps199
 go_wp2_with fail
 generalize O:w.alloc _=W0
 have aC:=eqB O (Ze _ _)
 have aA:=eqH (b:=w.heap.size) O (Qw _ _)
 have M:=Qq aC;have aG:=Qq aA
 clear O aC aA q4 aM aN aO
 go_loopw [3,4] (fun i _ wr=>∃ k:Nat,k<=m/\i=.int .i64 k/\Aside (∀ x ∈ kids.take k,Vu x=true)/\Aside (Below W0 W0 wr)) (fun i _ _=>m - (intOf i).toNat)
 case atStart=>exact ⟨0,Q8 _,rfl,(by intro x J;simp at J),Qz _ _⟩
 obtain ⟨j,hj,rfl,aD,Z⟩:=hrel
 have V:=Qq (show ∀ x ∈ kids.take j,Vu x=true from aD)
 clear aD
 have A:=Qq (show Below W0 W0 wr from Z)
 have aB:=kB A.out aG.out
 have c6:=rA6 aB
 clear Z aB
 by_cases hlt:j<m
 ·have bB:(0:Int)<=(j:Int):=Qvu
  have bC:(j:Int)<(m:Int):=Qvu
  obtain ⟨x,J⟩:∃ x,kids[j]?=some x:=⟨_,Qx (by rw [HM.out];exact hlt)⟩
  obtain ⟨b,off,ek,aY,en,aZ,aV,aS,aP,aW,aT,aQ,aX,aU,aR,ea,ez,rfl,bA,aE,d0,d1,d2,d3,d4,d5,d6,d7,d8⟩:=(HK.out.below (M.out.thn A.out)).ex J
  obtain ⟨Y,I,HX⟩:=Qxn aE (HI.out x (Qy J)) J
  clear aE J
  obtain ⟨q,hq⟩:=eX (Vu x)
  unfold Fb at I
  rw [hq] at I
  have U:=Qq hq
  clear hq
  cases q with
  | false=>
   go_wp2_with (go_at_call 199;refine (I.out _ _ _ Y.out).mono ?_;rintro e w5 ⟨rfl,D⟩;have N:=Qq D;clear D)
   go_ret
   refine ⟨?_,(M.out.thn A.out).thn N.out⟩
   rw [HQ.out,G6,List.any_eq_true.2 ⟨x,Qy HX.out,by rw [U.out];rfl⟩];rfl
  | true=>
   go_wp2_with (go_at_call 199;refine (I.out _ _ _ Y.out).mono ?_;rintro e w5 ⟨rfl,D⟩;have N:=Qq D;clear D)
   go_roundw
   case measure=>simp [intOf];omega
   case rel=>exact ⟨j+1,Qvu,by go_num,(by
    intro y T
    rw [Bv HX.out] at T
    rcases Z4.1 T with T | T
    ·exact V.out y T
    rw [Z5.1 T];exact U.out),A.out.thn N.out⟩
 have aH:j=m:=Qvu
 subst aH
 go_wp2_with fail
 go_ret
 refine ⟨?_,M.out.thn A.out⟩
 have hs:=V.out
 rw [<- HM.out,List.take_length] at hs
 rw [HQ.out,G6,List.any_eq_false.2 fun x J=>by rw [hs x J];simp];rfl
theorem Eo:∀ x:Ex,Fb x
 | .mk k nm n s names binds kids a z=>Ta k nm n s names binds kids a z fun x _=>Eo x
termination_by x=>SizeOf.sizeOf x
decreasing_by
 have:=List.sizeOf_lt_of_mem ‹_ ∈ kids›
 simp only [Ex.mk.sizeOf_spec]
 omega
structure Gq (w:World) where
 wd:World
 below:Below w w wd
instance {w:World}:Inhabited (Gq w):=⟨⟨w,Qz _ _⟩⟩
theorem Ub {P:Program} {id:Nat} {Q:Exit->Act->World->Prop} {a:Act} {w:World} {l:List Oper} (hm:P.follows .mixedOrders=true) (hB:Region.lexB .any l.toArray=true)
  (h:wpQuiet P l.toArray (fun w'=>∃ p:Gq w,w'=p.wd) (fun a'=>∀ w',(∃ p:Gq w,w'=p.wd)->Q .normal a' w') l a):(Code.region id l.toArray true).wp P Q a w:=
 wp_region_quiet (C:=fun w'=>∃ p:Gq w,w'=p.wd) hm hB ⟨⟨w.drew,(Qz _ _).drew⟩,rfl⟩ (by simpa using h)
theorem Dx {w:World} {b o:Nat} {v:Value} (hb:b<w) (h:w.cell? ⟨b,o,none⟩=some v) (p:Gq w):p.wd.cell? ⟨b,o,none⟩=some v:=kD p.below hb h
theorem Calls.later_of {P:Program} {f:FuncId} {args:Array Value} {w:World} {p:Gq w} {v:Value} (h:Calls P f args p.wd fun e w'=>e=.returned v/\Below p.wd.heap.size p.wd w'):Calls P f args p.wd fun e w''=>e=.returned v/\∃ q:Gq w,w''=q.wd:=
 h.mono fun _ w' ⟨he,hb⟩=>⟨he,⟨w',p.below.thn hb⟩,rfl⟩
theorem Nn (a b:Bs):Yg a b=- Yg b a:=by
 have:=Uj a b [] []
 have h:=Uj b a [] []
 simp only [List.append_nil,lex,Ko] at this h
 rw [<- this,<- h];exact Du _ _
def Xd (v:Val):Prop:=∀ (S:Nat->Prop) (cs:List Value) (w:World),Za S w cs v->Calls prog 197 #[cs] w fun e w'=>e=.returned (.bool true)/\Below w w w'
theorem Tc (n:Int) (ks:List Val) (hks:ks=[]) (ih:∀ x ∈ ks,Xd x):Xd (.mk 0 n [] [] ks):=by
 intro S cs w h
 obtain ⟨p3,k3,p4,k4,Y,hn,N,_⟩:=Za.cells h
 simp only [vcs,Val.kind,Val.n,Val.s,Val.names,Val.kids,List.length_nil] at Y hn N
 subst Y
 obtain ⟨_,_,_,aI⟩:=N.len
 have HI:=Qq ih
 obtain ⟨m,hm⟩:=eX (ks.length)
 rw [hm] at N aI |-
 have aD:=Qq N;have HM:=Qq hm
 have mixed:prog.follows .mixedOrders=true:=Qxx
 have aH:m=0:=by rw [<- hm,hks];rfl
 have aN:decide (0<m)=false:=by simp;omega
 clear hm hn hks aH
 clear h N ih
 go_enter func197,ntmps197
 go_wp2_with fail
 generalize M:w.alloc _=I
 have U:=eqB M (Ze _ _)
 have A:=eqH (b:=w.heap.size) M (Qw _ _)
 clear M
 have J:Hid (w<I.heap.size/\Qxw I w 4 (.slice p4 m k4)):=Qq ⟨Z8 A,Qk _ _ 4 _ _ _ A⟩
 have aF:Hid (w<I.heap.size/\Qxw I w 3 (.slice p3 0 k3)):=Qq ⟨Z8 A,Qk _ _ 3 _ _ _ A⟩
 have O:=Qq U
 clear A U
 go_loopw [5] (fun i wr=>i=.int .i64 0/\I=wr) (fun _ _=>0)
 case atStart=>exact ⟨rfl,rfl⟩
 obtain ⟨rfl,rfl⟩:=hrel
 have c4:=J.out.2
 have c3:=aF.out.2
 go_wp2_with fail
 clear c3 c4
 go_loopw [6] (fun i wr=>∃ k:Nat,k<=m/\i=.int .i64 k/\Aside (Below I I wr)) (fun i _=>m - (intOf i).toNat)
 case atStart=>exact ⟨0,Q8 _,rfl,Qz _ _⟩
 obtain ⟨k,N,rfl,T⟩:=hrel
 have D:=Qq (show Below I I wr from T)
 have c4:=(D.out.cell (p:=⟨w,4,none⟩) J.out.1).trans J.out.2
 clear T
 by_cases hlt:k<m
 ·have aL:(0:Int)<=(k:Int):=Qvu
  have aM:(k:Int)<(m:Int):=Qvu
  obtain ⟨y,hy⟩:∃ y,ks[k]?=some y:=⟨_,Qx (by rw [HM.out];exact hlt)⟩
  obtain ⟨b,off,q3,l3,q4,l4,rfl,aK,Z,d0,d1,d2,d3,d4⟩:=(aD.out.below (O.out.thn D.out)).val hy
  have aE:=Qq Z;have aC:=Qq (HI.out y (Qy hy))
  clear Z hy
  go_wp2_with (go_at_call 197;refine (aC.out _ _ _ aE.out).mono ?_;rintro e w5 ⟨rfl,V⟩;have aB:=Qq V;clear V)
  go_roundw
  case measure=>simp [intOf];omega
  case rel=>exact ⟨k+1,Qvu,by go_num,D.out.thn aB.out⟩
 have aG:k=m:=Qvu
 subst aG
 go_wp2_with fail
 go_ret
 exact ⟨rfl,O.out.thn D.out⟩
theorem Sy (sx:Bs) (ks:List Val) (hks:ks=[]) (ih:∀ x ∈ ks,Xd x):Xd (.mk 1 0 sx [] ks):=by
 intro S cs w h
 obtain ⟨p3,k3,p4,k4,Y,hn,N,_⟩:=Za.cells h
 simp only [vcs,Val.kind,Val.n,Val.s,Val.names,Val.kids,List.length_nil] at Y hn N
 subst Y
 obtain ⟨_,_,_,aI⟩:=N.len
 have HI:=Qq ih
 obtain ⟨m,hm⟩:=eX (ks.length)
 rw [hm] at N aI |-
 have aD:=Qq N;have HM:=Qq hm
 have mixed:prog.follows .mixedOrders=true:=Qxx
 have aH:m=0:=by rw [<- hm,hks];rfl
 have aN:decide (0<m)=false:=by simp;omega
 clear hm hn hks aH
 clear h N ih
 go_enter func197,ntmps197
 go_wp2_with fail
 generalize M:w.alloc _=I
 have U:=eqB M (Ze _ _)
 have A:=eqH (b:=w.heap.size) M (Qw _ _)
 clear M
 have J:Hid (w<I.heap.size/\Qxw I w 4 (.slice p4 m k4)):=Qq ⟨Z8 A,Qk _ _ 4 _ _ _ A⟩
 have aF:Hid (w<I.heap.size/\Qxw I w 3 (.slice p3 0 k3)):=Qq ⟨Z8 A,Qk _ _ 3 _ _ _ A⟩
 have O:=Qq U
 clear A U
 go_loopw [5] (fun i wr=>i=.int .i64 0/\I=wr) (fun _ _=>0)
 case atStart=>exact ⟨rfl,rfl⟩
 obtain ⟨rfl,rfl⟩:=hrel
 have c4:=J.out.2
 have c3:=aF.out.2
 go_wp2_with fail
 clear c3 c4
 go_loopw [6] (fun i wr=>∃ k:Nat,k<=m/\i=.int .i64 k/\Aside (Below I I wr)) (fun i _=>m - (intOf i).toNat)
 case atStart=>exact ⟨0,Q8 _,rfl,Qz _ _⟩
 obtain ⟨k,N,rfl,T⟩:=hrel
 have D:=Qq (show Below I I wr from T)
 have c4:=(D.out.cell (p:=⟨w,4,none⟩) J.out.1).trans J.out.2
 clear T
 by_cases hlt:k<m
 ·have aL:(0:Int)<=(k:Int):=Qvu
  have aM:(k:Int)<(m:Int):=Qvu
  obtain ⟨y,hy⟩:∃ y,ks[k]?=some y:=⟨_,Qx (by rw [HM.out];exact hlt)⟩
  obtain ⟨b,off,q3,l3,q4,l4,rfl,aK,Z,d0,d1,d2,d3,d4⟩:=(aD.out.below (O.out.thn D.out)).val hy
  have aE:=Qq Z;have aC:=Qq (HI.out y (Qy hy))
  clear Z hy
  go_wp2_with (go_at_call 197;refine (aC.out _ _ _ aE.out).mono ?_;rintro e w5 ⟨rfl,V⟩;have aB:=Qq V;clear V)
  go_roundw
  case measure=>simp [intOf];omega
  case rel=>exact ⟨k+1,Qvu,by go_num,D.out.thn aB.out⟩
 have aG:k=m:=Qvu
 subst aG
 go_wp2_with fail
 go_ret
 exact ⟨rfl,O.out.thn D.out⟩
theorem Pq (ks:List Val) (hks:ks=[]) (ih:∀ x ∈ ks,Xd x):Xd (.mk 2 0 [] [] ks):=by
 intro S cs w h
 obtain ⟨p3,k3,p4,k4,Y,hn,N,_⟩:=Za.cells h
 simp only [vcs,Val.kind,Val.n,Val.s,Val.names,Val.kids,List.length_nil] at Y hn N
 subst Y
 obtain ⟨_,_,_,aI⟩:=N.len
 have HI:=Qq ih
 obtain ⟨m,hm⟩:=eX (ks.length)
 rw [hm] at N aI |-
 have aD:=Qq N;have HM:=Qq hm
 have mixed:prog.follows .mixedOrders=true:=Qxx
 have aH:m=0:=by rw [<- hm,hks];rfl
 have aN:decide (0<m)=false:=by simp;omega
 clear hm hn hks aH
 clear h N ih
 go_enter func197,ntmps197
 go_wp2_with fail
 generalize M:w.alloc _=I
 have U:=eqB M (Ze _ _)
 have A:=eqH (b:=w.heap.size) M (Qw _ _)
 clear M
 have J:Hid (w<I.heap.size/\Qxw I w 4 (.slice p4 m k4)):=Qq ⟨Z8 A,Qk _ _ 4 _ _ _ A⟩
 have aF:Hid (w<I.heap.size/\Qxw I w 3 (.slice p3 0 k3)):=Qq ⟨Z8 A,Qk _ _ 3 _ _ _ A⟩
 have O:=Qq U
 clear A U
 go_loopw [5] (fun i wr=>i=.int .i64 0/\I=wr) (fun _ _=>0)
 case atStart=>exact ⟨rfl,rfl⟩
 obtain ⟨rfl,rfl⟩:=hrel
 have c4:=J.out.2
 have c3:=aF.out.2
 go_wp2_with fail
 clear c3 c4
 go_loopw [6] (fun i wr=>∃ k:Nat,k<=m/\i=.int .i64 k/\Aside (Below I I wr)) (fun i _=>m - (intOf i).toNat)
 case atStart=>exact ⟨0,Q8 _,rfl,Qz _ _⟩
 obtain ⟨k,N,rfl,T⟩:=hrel
 have D:=Qq (show Below I I wr from T)
 have c4:=(D.out.cell (p:=⟨w,4,none⟩) J.out.1).trans J.out.2
 clear T
 by_cases hlt:k<m
 ·have aL:(0:Int)<=(k:Int):=Qvu
  have aM:(k:Int)<(m:Int):=Qvu
  obtain ⟨y,hy⟩:∃ y,ks[k]?=some y:=⟨_,Qx (by rw [HM.out];exact hlt)⟩
  obtain ⟨b,off,q3,l3,q4,l4,rfl,aK,Z,d0,d1,d2,d3,d4⟩:=(aD.out.below (O.out.thn D.out)).val hy
  have aE:=Qq Z;have aC:=Qq (HI.out y (Qy hy))
  clear Z hy
  go_wp2_with (go_at_call 197;refine (aC.out _ _ _ aE.out).mono ?_;rintro e w5 ⟨rfl,V⟩;have aB:=Qq V;clear V)
  go_roundw
  case measure=>simp [intOf];omega
  case rel=>exact ⟨k+1,Qvu,by go_num,D.out.thn aB.out⟩
 have aG:k=m:=Qvu
 subst aG
 go_wp2_with fail
 go_ret
 exact ⟨rfl,O.out.thn D.out⟩
theorem O3 (ks:List Val) (hks:ks=[]) (ih:∀ x ∈ ks,Xd x):Xd (.mk 2 1 [] [] ks):=by
 intro S cs w h
 obtain ⟨p3,k3,p4,k4,Y,hn,N,_⟩:=Za.cells h
 simp only [vcs,Val.kind,Val.n,Val.s,Val.names,Val.kids,List.length_nil] at Y hn N
 subst Y
 obtain ⟨_,_,_,aI⟩:=N.len
 have HI:=Qq ih
 obtain ⟨m,hm⟩:=eX (ks.length)
 rw [hm] at N aI |-
 have aD:=Qq N;have HM:=Qq hm
 have mixed:prog.follows .mixedOrders=true:=Qxx
 have aH:m=0:=by rw [<- hm,hks];rfl
 have aN:decide (0<m)=false:=by simp;omega
 clear hm hn hks aH
 clear h N ih
 go_enter func197,ntmps197
 go_wp2_with fail
 generalize M:w.alloc _=I
 have U:=eqB M (Ze _ _)
 have A:=eqH (b:=w.heap.size) M (Qw _ _)
 clear M
 have J:Hid (w<I.heap.size/\Qxw I w 4 (.slice p4 m k4)):=Qq ⟨Z8 A,Qk _ _ 4 _ _ _ A⟩
 have aF:Hid (w<I.heap.size/\Qxw I w 3 (.slice p3 0 k3)):=Qq ⟨Z8 A,Qk _ _ 3 _ _ _ A⟩
 have O:=Qq U
 clear A U
 go_loopw [5] (fun i wr=>i=.int .i64 0/\I=wr) (fun _ _=>0)
 case atStart=>exact ⟨rfl,rfl⟩
 obtain ⟨rfl,rfl⟩:=hrel
 have c4:=J.out.2
 have c3:=aF.out.2
 go_wp2_with fail
 clear c3 c4
 go_loopw [6] (fun i wr=>∃ k:Nat,k<=m/\i=.int .i64 k/\Aside (Below I I wr)) (fun i _=>m - (intOf i).toNat)
 case atStart=>exact ⟨0,Q8 _,rfl,Qz _ _⟩
 obtain ⟨k,N,rfl,T⟩:=hrel
 have D:=Qq (show Below I I wr from T)
 have c4:=(D.out.cell (p:=⟨w,4,none⟩) J.out.1).trans J.out.2
 clear T
 by_cases hlt:k<m
 ·have aL:(0:Int)<=(k:Int):=Qvu
  have aM:(k:Int)<(m:Int):=Qvu
  obtain ⟨y,hy⟩:∃ y,ks[k]?=some y:=⟨_,Qx (by rw [HM.out];exact hlt)⟩
  obtain ⟨b,off,q3,l3,q4,l4,rfl,aK,Z,d0,d1,d2,d3,d4⟩:=(aD.out.below (O.out.thn D.out)).val hy
  have aE:=Qq Z;have aC:=Qq (HI.out y (Qy hy))
  clear Z hy
  go_wp2_with (go_at_call 197;refine (aC.out _ _ _ aE.out).mono ?_;rintro e w5 ⟨rfl,V⟩;have aB:=Qq V;clear V)
  go_roundw
  case measure=>simp [intOf];omega
  case rel=>exact ⟨k+1,Qvu,by go_num,D.out.thn aB.out⟩
 have aG:k=m:=Qvu
 subst aG
 go_wp2_with fail
 go_ret
 exact ⟨rfl,O.out.thn D.out⟩
theorem Sn (ks:List Val) (ih:∀ x ∈ ks,Xd x):Xd (.mk 5 0 [] [] ks):=by
 intro S cs w h
 obtain ⟨p3,k3,p4,k4,Y,hn,N,_⟩:=Za.cells h
 simp only [vcs,Val.kind,Val.n,Val.s,Val.names,Val.kids,List.length_nil] at Y hn N
 subst Y
 obtain ⟨_,_,_,aH⟩:=N.len
 have HI:=Qq ih
 obtain ⟨m,hm⟩:=eX (ks.length)
 rw [hm] at N aH |-
 have aC:=Qq N;have HM:=Qq hm
 have mixed:prog.follows .mixedOrders=true:=Qxx
 clear hm hn
 clear h N ih
 go_enter func197,ntmps197
 go_wp2_with fail
 generalize M:w.alloc _=I
 have U:=eqB M (Ze _ _)
 have A:=eqH (b:=w.heap.size) M (Qw _ _)
 clear M
 have J:Hid (w<I.heap.size/\Qxw I w 4 (.slice p4 m k4)):=Qq ⟨Z8 A,Qk _ _ 4 _ _ _ A⟩
 have aE:Hid (w<I.heap.size/\Qxw I w 3 (.slice p3 0 k3)):=Qq ⟨Z8 A,Qk _ _ 3 _ _ _ A⟩
 have O:=Qq U
 clear A U
 go_loopw [5] (fun i wr=>i=.int .i64 0/\I=wr) (fun _ _=>0)
 case atStart=>exact ⟨rfl,rfl⟩
 obtain ⟨rfl,rfl⟩:=hrel
 have c4:=J.out.2
 have c3:=aE.out.2
 go_wp2_with fail
 clear c3 c4
 go_loopw [6] (fun i wr=>∃ k:Nat,k<=m/\i=.int .i64 k/\Aside (Below I I wr)) (fun i _=>m - (intOf i).toNat)
 case atStart=>exact ⟨0,Q8 _,rfl,Qz _ _⟩
 obtain ⟨k,N,rfl,T⟩:=hrel
 have D:=Qq (show Below I I wr from T)
 have c4:=(D.out.cell (p:=⟨w,4,none⟩) J.out.1).trans J.out.2
 clear T
 by_cases hlt:k<m
 ·have aK:(0:Int)<=(k:Int):=Qvu
  have aL:(k:Int)<(m:Int):=Qvu
  obtain ⟨y,hy⟩:∃ y,ks[k]?=some y:=⟨_,Qx (by rw [HM.out];exact hlt)⟩
  obtain ⟨b,off,q3,l3,q4,l4,rfl,aJ,Z,d0,d1,d2,d3,d4⟩:=(aC.out.below (O.out.thn D.out)).val hy
  have aD:=Qq Z;have aB:=Qq (HI.out y (Qy hy))
  clear Z hy
  go_wp2_with (go_at_call 197;refine (aB.out _ _ _ aD.out).mono ?_;rintro e w5 ⟨rfl,V⟩;have aA:=Qq V;clear V)
  go_roundw
  case measure=>simp [intOf];omega
  case rel=>exact ⟨k+1,Qvu,by go_num,D.out.thn aA.out⟩
 have aF:k=m:=Qvu
 subst aF
 go_wp2_with fail
 go_ret
 exact ⟨rfl,O.out.thn D.out⟩
theorem Pr (sx:Bs) (hsx:Bq sx) (ks:List Val) (hl:ks.length<=1) (ih:∀ x ∈ ks,Xd x):Xd (.mk 3 0 sx [] ks):=by
 intro S cs w h
 obtain ⟨p3,k3,p4,k4,Y,hn,N,_⟩:=Za.cells h
 simp only [vcs,Val.kind,Val.n,Val.s,Val.names,Val.kids,List.length_nil] at Y hn N
 subst Y
 obtain ⟨_,_,_,aJ⟩:=N.len
 have HI:=Qq ih
 obtain ⟨m,hm⟩:=eX (ks.length)
 rw [hm] at N aJ |-
 have aD:=Qq N;have HM:=Qq hm
 have mixed:prog.follows .mixedOrders=true:=Qxx
 have aO:m<=1:=Qvu
 have aP:decide (1<m)=false:=by simp;omega
 have HF:=Qq (fun W=>Qvg sx hsx W)
 unfold sv at HF
 clear hm hn hsx hl
 clear h N ih
 go_enter func197,ntmps197
 go_wp2_with fail
 refine (HF.out _).mono ?_
 rintro e D ⟨rfl,M⟩
 have A:D.heap[w.heap.size]?=some (.cells #[.int .i64 3,Qxc,sx,.slice p3 0 k3,.slice p4 m k4] 48 (0,0)):=kE M Qxz (Qw _ _)
 have U:=(Ze w _).thn M
 clear M
 obtain ⟨c0,c1,c2,c3,c4⟩:=row5 A
 go_wp2_with fail
 clear c0 c1 c2 c3 c4
 have J:Hid (w<D.heap.size/\Qxw D w 4 (.slice p4 m k4)):=Qq ⟨Z8 A,Qk _ _ 4 _ _ _ A⟩
 have aF:Hid (w<D.heap.size/\Qxw D w 3 (.slice p3 0 k3)):=Qq ⟨Z8 A,Qk _ _ 3 _ _ _ A⟩
 have O:=Qq U
 clear A U
 go_loopw [5] (fun i wr=>i=.int .i64 0/\D=wr) (fun _ _=>0)
 case atStart=>exact ⟨rfl,rfl⟩
 obtain ⟨rfl,rfl⟩:=hrel
 have c4:=J.out.2
 have c3:=aF.out.2
 go_wp2_with fail
 clear c3 c4
 go_loopw [6] (fun i wr=>∃ k:Nat,k<=m/\i=.int .i64 k/\Aside (Below D D wr)) (fun i _=>m - (intOf i).toNat)
 case atStart=>exact ⟨0,Q8 _,rfl,Qz _ _⟩
 obtain ⟨k,N,rfl,T⟩:=hrel
 have I:=Qq (show Below D D wr from T)
 have c4:=(I.out.cell (p:=⟨w,4,none⟩) J.out.1).trans J.out.2
 clear T
 by_cases hlt:k<m
 ·have aM:(0:Int)<=(k:Int):=Qvu
  have aN:(k:Int)<(m:Int):=Qvu
  obtain ⟨y,hy⟩:∃ y,ks[k]?=some y:=⟨_,Qx (by rw [HM.out];exact hlt)⟩
  obtain ⟨b,off,q3,l3,q4,l4,rfl,aL,Z,d0,d1,d2,d3,d4⟩:=(aD.out.below (O.out.thn I.out)).val hy
  have aE:=Qq Z;have aC:=Qq (HI.out y (Qy hy))
  clear Z hy
  go_wp2_with (go_at_call 197;refine (aC.out _ _ _ aE.out).mono ?_;rintro e w5 ⟨rfl,V⟩;have aB:=Qq V;clear V)
  go_roundw
  case measure=>simp [intOf];omega
  case rel=>exact ⟨k+1,Qvu,by go_num,I.out.thn aB.out⟩
 have aH:k=m:=Qvu
 subst aH
 go_wp2_with fail
 go_ret
 exact ⟨rfl,O.out.thn I.out⟩
theorem A6 (ns:List Bs) (ks:List Val) (hlen:ns.length=ks.length) (hw:∀ x ∈ ns,V8 x) (hst:∀ (i:Nat) (x y:Bs),ns[i]?=some x->ns[i+1]?=some y->Yg x y<0) (ih:∀ x ∈ ks,Xd x):Xd (.mk 4 0 [] ns ks):=by
 intro S cs w h
 obtain ⟨p3,k3,p4,k4,aQ,hn,hk,_⟩:=Za.cells h
 simp only [vcs,Val.kind,Val.n,Val.s,Val.names,Val.kids] at aQ hn hk
 subst aQ
 obtain ⟨_,_,_,bH⟩:=hk.len
 have HI:=Qq ih
 obtain ⟨m,hm⟩:=eX (ks.length)
 rw [hm] at hk bH |-
 have bB:=Qq hk;have HM:=Qq hm
 have mixed:prog.follows .mixedOrders=true:=Qxx
 have aH:ns.length=m:=Qvu
 rw [aH] at hn |-
 obtain ⟨aM,aL,HW,bC⟩:=Qxo hn aH hw hst
 have bI:((m:Int) != (m:Int))=false:=Qxz
 clear hm hn aH hlen hw hst
 clear h hk ih
 go_enter func197,ntmps197
 go_wp2_with fail
 generalize aC:w.alloc _=I
 have aO:=eqB aC (Ze _ _)
 have N:=eqH (b:=w.heap.size) aC (Qw _ _)
 clear aC
 clear bI
 have J:Hid (w<I.heap.size/\Qxw I w 4 (.slice p4 m k4)):=Qq ⟨Z8 N,Qk _ _ 4 _ _ _ N⟩
 have V:Hid (w<I.heap.size/\Qxw I w 3 (.slice p3 m k3)):=Qq ⟨Z8 N,Qk _ _ 3 _ _ _ N⟩
 have D:=Qq aO
 clear N aO
 go_loopw [5] (fun i wr=>∃ k:Nat,k<=m/\i=.int .i64 k/\Aside (Below I I wr)) (fun i _=>m - (intOf i).toNat)
 case atStart=>exact ⟨0,Q8 _,rfl,Qz _ _⟩
 obtain ⟨k,hk,rfl,M⟩:=hrel
 have A:=Qq (show Below I I wr from M)
 have c3:=(A.out.cell (p:=⟨w,3,none⟩) V.out.1).trans V.out.2
 have c4:=(A.out.cell (p:=⟨w,4,none⟩) J.out.1).trans J.out.2
 have aD:w.heap.size<wr.heap.size:=by have:=V.out.1;have:=A.out.size;omega
 clear M
 by_cases hlt:k<m
 ·have aR:(0:Int)<=(k:Int):=Qvu
  have aS:(k:Int)<(m:Int):=Qvu
  obtain ⟨y,hy⟩:∃ y,ns[k]?=some y:=⟨_,Qx (by rw [aL.out];exact hlt)⟩
  obtain ⟨nb,aW,rfl,U,-⟩:=(aM.out.below (D.out.thn A.out)).str hy
  have O:=Qv _ _ U
  have HF:=Qq (fun W=>L7 y (HW.out y (Qy hy)) W)
  unfold sv at HF
  have C3:=Dx aD c3
  by_cases hk0:k=0
  ·subst hk0
   rw [Nat.add_zero] at U
   have Y:=Dx O U
   have bQ:(0:Int)<(m:Int):=Qvu
   have bR:0<m:=hlt
   clear hy aR aS
   rw [show ((0:Nat):Int)=(0:Int) from rfl]
   go_wp2_with fail
   refine Ub Qxy Qxx ?_
   repeat (first | go_big_quiet_skip | quiet_step ((go_at_call 134;exact Calls.later_of (HF.out _))))
   refine wpQuiet_nil ?_
   intro _ aI
   obtain ⟨⟨wq,aE⟩,T⟩:=aI
   subst T
   try dsimp only
   clear C3 Y c4
   go_wp2_with fail
   go_roundw
   case measure=>simp [intOf];omega
   case rel=>exact ⟨0+1,Qvu,by go_num,A.out.thn aE⟩
  obtain ⟨j,rfl⟩:∃ j,k=j+1:=⟨k - 1,Qvu⟩
  obtain ⟨z,hz⟩:∃ z,ns[j]?=some z:=⟨_,Qx (by rw [aL.out];omega)⟩
  obtain ⟨bK,aK,he,aV,-⟩:=(aM.out.below (D.out.thn A.out)).str hz
  obtain ⟨rfl,rfl,-⟩:nb=bK/\aW=aK/\True:=by simpa using he
  have Y:=Dx O U
  have Z:=Dx O aV
  have aT:=bC.out j z y hz hy
  have bS:Op.bytesLess y z=false:=by rw [(Vc y z).1,Nn];simp;omega
  have bT:(y==z)=false:=by rw [(Vc y z).2.1,Nn];simp;omega
  have bE:IntKind.i64.wrap (j:Int)=(j:Int):=by rw [IntKind.wrap_i64];omega
  have bL:(j:Int)<(m:Int):=Qvu
  have bM:(0:Int)<(j:Int)+1:=Qvu
  have bN:(0:Int)<=(j:Int)+1:=Qvu
  have bO:(j:Int)+1<(m:Int):=Qvu
  have bP:(0:Int)<=(j:Int):=Qvu
  have bF:((j:Int)+1).toNat=j+1:=Qvu
  clear hy U hz aV he hk0 aT
  go_wp2_with fail
  refine Ub Qxy Qxx ?_
  repeat (quiet_step ((go_at_call 134;exact Calls.later_of (HF.out _))))
  refine wpQuiet_nil ?_
  intro _ aI
  obtain ⟨⟨wq,aE⟩,T⟩:=aI
  subst T
  try dsimp only
  clear C3 Y Z c4 bE bF
  go_wp2_with fail
  go_roundw
  case measure=>simp [intOf];omega
  case rel=>exact ⟨j+1+1,Qvu,by go_num,A.out.thn aE⟩
 have aG:k=m:=Qvu
 subst aG
 have hW:Hid (Below w w wr):=Qq (D.out.thn A.out)
 have aB:Hid (w<wr.heap.size/\Qxw wr w 4 (.slice p4 k k4)):=Qq ⟨aD,c4⟩
 clear J V D A
 obtain ⟨I,rfl⟩:∃ I:World,I=wr:=⟨_,rfl⟩
 have J:=aB;have D:=hW
 clear aB hW
 go_wp2_with fail
 clear c3 c4
 obtain ⟨mm,rfl⟩:∃ mm,mm=k:=⟨_,rfl⟩
 go_loopw [6] (fun i wr=>∃ k:Nat,k<=mm/\i=.int .i64 k/\Aside (Below I I wr)) (fun i _=>mm - (intOf i).toNat)
 case atStart=>exact ⟨0,Q8 _,rfl,Qz _ _⟩
 obtain ⟨k,hk,rfl,M⟩:=hrel
 have A:=Qq (show Below I I wr from M)
 have c4:=(A.out.cell (p:=⟨w,4,none⟩) J.out.1).trans J.out.2
 clear M
 by_cases hlt:k<mm
 ·have aR:(0:Int)<=(k:Int):=Qvu
  have aS:(k:Int)<(mm:Int):=Qvu
  obtain ⟨y,hy⟩:∃ y,ks[k]?=some y:=⟨_,Qx (by rw [HM.out];exact hlt)⟩
  obtain ⟨b,off,q3,l3,q4,l4,rfl,aD,aU,d0,d1,d2,d3,d4⟩:=(bB.out.below (D.out.thn A.out)).val hy
  have bD:=Qq aU;have bA:=Qq (HI.out y (Qy hy))
  clear aU hy
  go_wp2_with (go_at_call 197;refine (bA.out _ _ _ bD.out).mono ?_;rintro e w5 ⟨rfl,aP⟩;have aY:=Qq aP;clear aP)
  go_roundw
  case measure=>simp [intOf];omega
  case rel=>exact ⟨k+1,Qvu,by go_num,A.out.thn aY.out⟩
 have aG:k=mm:=Qvu
 subst aG
 go_wp2_with fail
 go_ret
 exact ⟨rfl,D.out.thn A.out⟩
theorem Wx (v:Val) (hv:X6 v):Xd v:=by
 induction hv with
 | int n=>exact Tc n [] rfl (fun x h=>by simp at h)
 | text s=>exact Sy s [] rfl (fun x h=>by simp at h)
 | bool n hn=>
  rcases hn with rfl | rfl
  ·exact Pq [] rfl (fun x h=>by simp at h)
  exact O3 [] rfl (fun x h=>by simp at h)
 | make s kids hs hl hk ih=>exact Pr s hs kids hl ih
 | record names kids hl hn hs hk ih=>exact A6 names kids hl hn hs ih
 | list kids hk ih=>exact Sn kids ih
theorem R3 (r:Int) (h:128<=r):∃ n:Nat,128<=n/\n<=1114111/\(if Utf8.valid r=true then r.toNat else Utf8.runeError)=n:=by
 refine ⟨_,?_,?_,rfl⟩
 ·split
  ·omega
  simp [Utf8.runeError]
 split
 ·rename_i hv;simp [Utf8.valid] at hv;omega
 simp [Utf8.runeError]
theorem bl_enc (r:Int) (h:128<=r):∀ c ∈ bl (Utf8.encode r),128<=c.toNat:=by
 intro c A
 obtain ⟨n,h1,h2,e⟩:=R3 r h
 revert A
 unfold Utf8.encode
 simp only [e]
 rw [if_neg Qvu]
 split
 ·rintro A;simp [bl] at A;rcases A with rfl | rfl <;> simp [UInt8.toNat_ofNat] <;> omega
 split
 ·rintro A;simp [bl] at A;rcases A with rfl | rfl | rfl <;> simp [UInt8.toNat_ofNat] <;> omega
 rintro A;simp [bl] at A;rcases A with rfl | rfl | rfl | rfl <;> simp [UInt8.toNat_ofNat] <;> omega
theorem T2 (r:Int) (h:128<=r):2<=(Utf8.encode r).size/\(Utf8.encode r).size<=4:=by
 obtain ⟨n,h1,h2,e⟩:=R3 r h
 unfold Utf8.encode
 simp only [e]
 rw [if_neg Qvu]
 split
 ·simp [ByteArray.size]
 split <;> simp [ByteArray.size]
theorem Lz (w:World) (s:ByteArray) (p:Nat):Below w w (w.iter s p):=(Qz _ _).alloc (Q9 _) _
theorem S7 (w:World):Calls prog 323 #[.string { data:=#[34,10] },.int .i32 65533] w fun e w'=>e=.returned (.int .i64 (-1))/\Below w w w':=by
 have n0:=fun ty=>run_next_ascii (P:=prog) w { data:=#[34,10] } 0 ty Qxv Qxv
 have n1:=fun ty=>run_next_ascii (P:=prog) w { data:=#[34,10] } 1 ty Qxv Qxv
 have n2:=fun ty=>run_next_end (P:=prog) w { data:=#[34,10] } 2 ty Qxv
 go_enter func323,ntmps323
 go_wp2_with fail
 go_rounds 3
 all_goals go_ret
 all_goals exact ⟨rfl,Lz _ _ _⟩
theorem Ra (r:Int) (h:128<=r) (hne:r≠65533) (hv:Lib.validRune r=false) (w:World):Calls prog 323 #[.string { data:=#[34,10] },.int .i32 r] w fun e w'=>e=.returned (.int .i64 (-1))/\w=w':=by
 have h1:(r==65533)=false:=by simpa using hne
 have h2:decide (r<128)=false:=by simp;omega
 have h3:decide (0<=r)=true:=by simp;omega
 clear hne
 go_enter func323,ntmps323
 go_wp2_with (go_at_call 335;refine (Tryz.utf8_ValidRune _ _).mono ?_;rintro e w' ⟨rfl,rfl⟩)
 go_ret
 exact ⟨rfl,rfl⟩
theorem Om (r:Int) (h:128<=r) (hne:r≠65533) (hv:Lib.validRune r=true) (w:World) (hsz:(Utf8.encode r).size=2):Calls prog 323 #[.string { data:=#[34,10] },.int .i32 r] w fun e w'=>e=.returned (.int .i64 (-1))/\∃ q,w'=w.drewN q:=by
 have h1:(r==65533)=false:=by simpa using hne
 have h2:decide (r<128)=false:=by simp;omega
 have h3:decide (0<=r)=true:=by simp;omega
 have hb:=Qq (bl_enc r h)
 clear hne
 go_enter func323,ntmps323
 go_wp2_with (go_at_call 335;refine (Tryz.utf8_ValidRune _ _).mono ?_;rintro e w' ⟨rfl,rfl⟩)
 go_step3
 go_wp2_with fail
 generalize Utf8.encode r=u at hsz hb |-
 obtain ⟨a,b,rfl⟩:∃ a b:UInt8,u={ data:=#[a,b] }:=by
  match u,hsz with
  | ⟨d⟩,hd=>
   match d,hd with
   | ⟨[a,b]⟩,_=>exact ⟨a,b,rfl⟩
 have I:128<=b.toNat:=hb.out b (by simp [bl])
 have D:(((({ data:=#[34,10] }:ByteArray)[1]'Qxv).toNat:Int) != ((({ data:=#[a,b] }:ByteArray)[1]'(by simp [ByteArray.size])).toNat:Int))=true:=by
  rw [bne_iff_ne]
  show ((10:Nat):Int)≠(b.toNat:Int)
  omega
 refine wp_loop_rounds 2 ?_
 rw [rounds_succ]
 go_wp2_with fail
 go_step3
 go_wp2_with fail
 go_quiet (fail)
 go_wp2_with fail
 obtain ⟨w2,A⟩:=eX (w'.drewN nq)
 rw [A]
 have HW:=Qq A;clear A
 go_quiet ((go_at_call 334;exact Calls.quiet_of_same (Tryz.strings_IndexByte _ _ _)))
 go_wp2_with fail
 simp only [Exit.noGoto_ret,Exit.inBlock,Exit.then]
 go_ret
 exact ⟨rfl,_,by rw [<- HW.out,World.drewN_drewN]⟩
theorem Oh (r:Int) (h:128<=r) (hne:r≠65533) (hv:Lib.validRune r=true) (w:World) (hsz:3<=(Utf8.encode r).size):Calls prog 323 #[.string { data:=#[34,10] },.int .i32 r] w fun e w'=>e=.returned (.int .i64 (-1))/\∃ q,w'=w.drewN q:=by
 have h1:(r==65533)=false:=by simpa using hne
 have h2:decide (r<128)=false:=by simp;omega
 have h3:decide (0<=r)=true:=by simp;omega
 have A:=(T2 r h).2
 clear hne
 go_enter func323,ntmps323
 go_wp2_with (go_at_call 335;refine (Tryz.utf8_ValidRune _ _).mono ?_;rintro e w' ⟨rfl,rfl⟩)
 go_step3
 go_wp2_with fail
 refine wp_loop_rounds 1 ?_
 rw [rounds_succ]
 go_wp2_with fail
 rw [Exit.noGoto_ret]
 go_ret
 exact ⟨rfl,0,rfl⟩
theorem get_bang (s:ByteArray) (p:Nat) (h:p<s.size):s.get! p=s[p]'h:=get_at s p h
theorem S8 (s:ByteArray) (p:Nat) (h:p<s.size) (ha:128<=(s[p]'h).toNat):
  1<=(Utf8.decode s p).2/\p+(Utf8.decode s p).2<=s.size/\∀ j (hj:p+j<s.size),j<(Utf8.decode s p).2->128<=(s[p+j]'hj).toNat:=by
 have D:∀ k,(decide (p+k<s.size)&&((s.get! (p+k)).toNat / 64==2))=true->∃ h:p+k<s.size,128<=(s[p+k]'h).toNat:=by
  intro k I
  simp only [Bool.and_eq_true,decide_eq_true_eq,beq_iff_eq] at I
  refine ⟨I.1,?_⟩
  have:=I.2
  rw [get_bang s _ I.1] at this
  omega
 have h0:s.get! (p+0)=s[p]'h:=get_at s p h
 have hn:¬ (s[p]'h).toNat<128:=Qvu
 have J:∀ j (hj:p+j<s.size),j=0->128<=(s[p+j]'hj).toNat:=by rintro j hj rfl;exact ha
 unfold Utf8.decode
 simp only [h0,hn,if_false]
 split
 ·rename_i g
  simp only [Bool.and_eq_true] at g
  obtain ⟨b1,c1⟩:=D 1 (by simpa using g.2)
  split
  ·refine ⟨Qxz,by simp;omega,fun j hj A=>?_⟩
   simp at A
   match j,hj,A with
   | 0,hj,_=>exact ha
   | 1,hj,_=>exact c1
  exact ⟨Qxz,by simp;omega,fun j hj A=>J j hj (by simpa using A)⟩
 split
 ·rename_i g
  simp only [Bool.and_eq_true] at g
  obtain ⟨b1,c1⟩:=D 1 (by simpa using g.1.2)
  obtain ⟨b2,c2⟩:=D 2 (by simpa using g.2)
  split
  ·refine ⟨Qxz,by simp;omega,fun j hj A=>?_⟩
   simp at A
   match j,hj,A with
   | 0,hj,_=>exact ha
   | 1,hj,_=>exact c1
   | 2,hj,_=>exact c2
  exact ⟨Qxz,by simp;omega,fun j hj A=>J j hj (by simpa using A)⟩
 split
 ·rename_i g
  simp only [Bool.and_eq_true] at g
  obtain ⟨b1,c1⟩:=D 1 (by simpa using g.1.1.2)
  obtain ⟨b2,c2⟩:=D 2 (by simpa using g.1.2)
  obtain ⟨b3,c3⟩:=D 3 (by simpa using g.2)
  split
  ·refine ⟨Qxz,by simp;omega,fun j hj A=>?_⟩
   simp at A
   match j,hj,A with
   | 0,hj,_=>exact ha
   | 1,hj,_=>exact c1
   | 2,hj,_=>exact c2
   | 3,hj,_=>exact c3
  exact ⟨Qxz,by simp;omega,fun j hj A=>J j hj (by simpa using A)⟩
 exact ⟨Qxz,by simp;omega,fun j hj A=>J j hj (by simpa using A)⟩
theorem tk_skip {p:UInt8->Bool} {s:ByteArray} {i n:Nat} (hi:i<=tk p (bl s)) (hn:i+n<=s.size) (h:∀ j (hj:i+j<s.size),j<n->p (s[i+j]'hj)=true):i+n<=tk p (bl s):=by
 induction n with
 | zero=>exact hi
 | succ n ih=>
  have:=ih Qvu (fun j hj D=>h j hj Qvu)
  have A:i+n<s.size:=Qvu
  exact D7 this A (h n A Qvu)
theorem Qkx {c:UInt8} (h:128<=c.toNat):U5 c=true:=by
 simp only [U5,Bool.and_eq_true,bne_iff_ne,ne_eq]
 constructor
 ·rintro rfl;simp at h
 rintro rfl;simp at h
def ixQ (l:Bs):Int:=if tk U5 l<l.length then (tk U5 l:Nat) else -1
theorem Pj (r:Int) (h:128<=r) (w:World):Calls prog 323 #[.string { data:=#[34,10] },.int .i32 r] w fun e w'=>e=.returned (.int .i64 (-1))/\Below w w w':=by
 by_cases he:r=65533
 ·subst he;exact S7 w
 cases hv:Lib.validRune r with
 | false=>exact (Ra r h he hv w).mono fun e w' ⟨a,b⟩=>⟨a,b ▸ Qz _ _⟩
 | true=>
  have hs:=T2 r h
  have hd:∀ (q:Nat),Below w w (w.drewN q):=fun q=>⟨rfl,rfl,rfl,Q9 _,fun _ _=>rfl⟩
  by_cases h2:(Utf8.encode r).size=2
  ·exact (Om r h he hv w h2).mono fun e w' ⟨a,q,b⟩=>⟨a,b ▸ hd q⟩
  exact (Oh r h he hv w Qvu).mono fun e w' ⟨a,q,b⟩=>⟨a,b ▸ hd q⟩
theorem ixb_hit {x:UInt8} (h:U5 x=false):(0:Int)<=Lib.indexByte [34,10] x:=by
 have:x=34\/x=10:=by simp [U5] at h;by_cases e:x=34;exact .inl e;exact .inr (h e)
 rcases this with rfl | rfl <;> decide
theorem ixb_miss {x:UInt8} (h:U5 x=true):Lib.indexByte [34,10] x<0:=by
 have:x≠34/\x≠10:=by simpa [U5] using h
 have e1:((34:UInt8)==x)=false:=by simp;exact fun e=>this.1 e.symm
 have e2:((10:UInt8)==x)=false:=by simp;exact fun e=>this.2 e.symm
 simp [Lib.indexByte,e1,e2]
theorem Ml (s:ByteArray) (w:World) (h8:s.size<=8):
  Calls prog 303 #[.string s,.string { data:=#[34,10] }] w fun e w'=>e=.returned (.int .i64 (ixQ (bl s)))/\Below w w w':=by
 have aE:decide ((8:Int)<(s.size:Int))=false:=decide_eq_false Qvu
 go_enter func303,ntmps303
 go_wp2_with (go_at_call 324;refine (Tryz.strings_shouldUseASCIISet _ _).mono ?_;rintro e w' ⟨rfl,J⟩;rw [J,aE])
 go_loopg [9,10] s.size (fun g _ _ wx=>∃ i:Nat,s.size<=i+g/\i<=s.size/\i<=tk U5 (bl s)/\wx.heap[w.heap.size]?=some (.stringIter s i)/\Below w w wx)
 case atStart=>exact ⟨0,Qvu,Qvu,Qvu,World.iter_heap _ _ _,Lz _ _ _⟩
 obtain ⟨i,aM,hi,V,U,I⟩:=hrel
 obtain ⟨Z,O,N⟩:=Qxn V U I
 clear V U I
 by_cases hlt:i<s.size
 ·obtain ⟨g,rfl⟩:∃ g,gk=g+1:=⟨gk - 1,Qvu⟩
  obtain ⟨x,M⟩:∃ x:UInt8,s[i]'hlt=x:=⟨_,rfl⟩
  by_cases hx1:x.toNat<128
  ·have D:=fun ty=>Lib.run_next_ascii_at (P:=prog) wr w s i ty O.out hlt (by rw [M];exact hx1)
   rw [M] at D
   have HX:=Qq M;clear M
   have A:((x.toNat:Int)).toNat.toUInt8=x:=Qxz
   cases hq:U5 x with
   | false=>
    have aG:=ixb_hit hq
    have HQ:=Qq hq;clear hq
    go_wp2_with (go_at_call 323;refine (Tryz.strings_IndexRune_ascii _ _ _ Qvu Qvu).mono ?_;rintro e w' ⟨rfl,J⟩;rw [J,A])
    go_ret
    have e1:tk U5 (bl s)=i:=Be Z.out hlt (by rw [HX.out];exact HQ.out)
    have e2:i<(bl s).length:=by rw [J4];exact hlt
    exact ⟨Ys (by unfold ixQ;rw [e1,if_pos e2]),Lib.below_iterAt N.out (Q9 _) s _⟩
   | true=>
    have aG:=ixb_miss hq
    have HQ:=Qq hq;clear hq
    go_wp2_with (go_at_call 323;refine (Tryz.strings_IndexRune_ascii _ _ _ Qvu Qvu).mono ?_;rintro e w' ⟨rfl,J⟩;rw [J,A])
    go_roundg g
    case measure=>omega
    case rel=>exact ⟨i+1,Qvu,Qvu,D7 Z.out hlt (by rw [HX.out];exact HQ.out),Lib.iterAt_heap _ _ _ _ _ O.out,Lib.below_iterAt N.out (Q9 _) s _⟩
  have D:=fun ty=>Lib.run_next_any_at (P:=prog) wr w s i ty O.out hlt
  have hd:=decode_high s i hlt (by rw [M];omega)
  have hs:=S8 s i hlt (by rw [M];omega)
  obtain ⟨r,n,Y⟩:∃ r n:Nat,Utf8.decode s i=(r,n):=⟨_,_,rfl⟩
  rw [Y] at D hd hs
  have HS:=Qq hs;clear hs Y
  simp only at hd D
  obtain ⟨aK,aL⟩:=hd
  have HX:=Qq M;clear M
  go_wp2_with (go_at_call 323;refine (Pj _ Qvu _).mono ?_;rintro e w' ⟨rfl,J⟩)
  go_roundg g
  case measure=>omega
  case rel=>
   obtain ⟨q1,q2,q3⟩:=HS.out
   have T:=Lib.iterAt_heap _ _ s i (i+n) O.out
   have aJ:=(Array.getElem?_eq_some_iff.1 T).1
   refine ⟨i+n,Qvu,Qvu,tk_skip Z.out q2 (fun j hj aH=>Qkx (q3 j hj aH)),kE J aJ T,?_⟩
   exact (Lib.below_iterAt N.out (Q9 _) s _).trans (J.mono (by have:=N.out.size;rw [Lib.iterAt_size];exact this))
 have D:=fun ty=>Lib.run_next_end_at (P:=prog) wr w s i ty O.out hlt
 go_wp2
 go_ret
 have e1:tk U5 (bl s)=i:=E7 Z.out hlt
 have e2:¬ i<(bl s).length:=by rw [J4];exact hlt
 exact ⟨Ys (by unfold ixQ;rw [e1,if_neg e2]),N.out⟩
theorem Ac (s:ByteArray) (w:World) (hs:s.size<4294967281):
  Calls prog 303 #[.string s,.string { data:=#[34,10] }] w fun e w'=>e=.returned (.int .i64 (ixQ (bl s)))/\Below w w w':=by
 by_cases h8:s.size<=8
 ·exact Ml s w h8
 have hz:=zero_of_info (P:=prog) (t:=318) (v:=.agg (Array.replicate 256 (.bool false))) (n:=256) Qxx
 refine (Any.strings_IndexAny_long Tryz.lays153 hz.1 hz.2 s { data:=#[34,10] } w Qxv Qvu hs Qxv ?_).mono ?_
 ·intro j b hb
  match j,hb with
  | 0,hb=>simp at hb;subst hb;decide
  | 1,hb=>simp at hb;subst hb;decide
  | n+2,hb=>simp at hb
 rintro e w' ⟨rfl,rfl⟩
 refine ⟨Ys ?_,((Qz _ _).alloc (Q9 _) _).alloc Qxz _⟩
 show Lib.indexAny (bl s) [34,10]=ixQ (bl s)
 have D:∀ b,([34,10]:List UInt8).contains b=!U5 b:=by
  intro b
  by_cases h1:b=34 <;> by_cases h2:b=10 <;> simp [U5,h1,h2]
 unfold ixQ
 split
 ·rename_i hlt
  obtain ⟨c,A⟩:∃ c,(bl s)[tk U5 (bl s)]?=some c:=⟨_,Qx hlt⟩
  exact Lib.indexAny_hit (fun j b hj hb=>by rw [D,Ec hj hb];rfl) A (by rw [D,Hg A];rfl)
 rename_i hge
 have:tk U5 (bl s)=(bl s).length:=by have:=Rs U5 (bl s);omega
 exact Lib.indexAny_none (fun j b hj hb=>by rw [D,Ec (p:=U5) Qvu hb];rfl)
end Go.Proofs.YtlanplhphiikjaaGreatDoor
