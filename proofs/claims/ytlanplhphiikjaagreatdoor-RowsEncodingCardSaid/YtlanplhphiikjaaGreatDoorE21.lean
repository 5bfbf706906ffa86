import Derived.Test.YtlanplhphiikjaaGreatDoorE20
import Derived.Test.YtlanplhphiikjaaGreatDoorE19
set_option maxRecDepth 100000
set_option maxHeartbeats 400000000
namespace Go.Proofs.YtlanplhphiikjaaGreatDoor
open Go.RowKit Go.Shelf Go.Lib Tryz
def Xp (code:Int) (p:Val->Bool) (rows:List Val):Ft:=match rows.findIdx? (fun r=>!p r) with
 | none=>Ft.zero
 | some i=>⟨code,[],rows.getD i Val.zero,Val.zero⟩
theorem bad1_any (h:Nat) (lbh:Array Value) (eh:∀ args w,(callFunc h args).run prog w=.ok (.enter h args) w) (G:Nat) (S:Nat->Prop) (rows:List Val) (p:Val->Bool) (w:World) (hp:Ui prog h lbh Zc S rows p w) (hc:w.cell? ⟨G,0,none⟩=some (.func (.func h) #[] lbh)):
  Ui prog 117 #[Qxb G] Zc S rows (fun r=>!p r) w:=by
 intro W x cs hb hx J
 have I:W.cell? ⟨G,0,none⟩=some (.func (.func h) #[] lbh):=kD hb (Qv w _ hc) hc
 have D:=Qv W _ I
 have hG:G<W.heap.size:=D
 have HP:=Qq (fun W' (h':Below W W W')=>hp W' x cs (hb.thn h') hx (Zc.frame J (.of_below h')))
 obtain ⟨p3,k3,p4,k4,A,_⟩:=Za.cells (show Za S W cs x from J)
 simp only [vcs] at A
 subst A
 show Calls prog 117 #[.agg (Qxf x p3 k3 p4 k4),Qxb G] W (fun e w'=>e=.returned (.bool (!p x))/\Below W W w')
 generalize p x=b at HP |-
 clear hp hc hb hx J D
 go_enter func117,ntmps117
 go_wp2_with (go_at_fn h;refine (HP.out _ (Ze _ _)).mono ?_;rintro e w' ⟨rfl,hw⟩)
 go_ret
 exact ⟨rfl,(Ze _ _).thn hw⟩
theorem Px (code:Int) (h:Nat) (lbh:Array Value) (eh:∀ args w,(callFunc h args).run prog w=.ok (.enter h args) w) (S0:Nat->Prop) (v:Value) (rows:List Val) (p:Val->Bool) (w:World) (hv0:Sl Zc S0 w v rows) (hp:Ui prog h lbh Zc (fun b=>S0 b/\b<w) rows p w):
  Calls prog 62 #[code,v,.func (.func h) #[] lbh] w (Gx S0 w (Xp code p rows)):=by
 have hv:=hv0.up
 obtain ⟨vp,bY,rfl,hl⟩:=hv.len
 have HI:=Qq (fun W (hb:Below w w W) (hc:W.cell? ⟨w,0,none⟩=some (.func (.func h) #[] lbh))=>Rz Tryz.ixVal Zc isAgg48 sizeOf48 117 #[Qxb w] (enters_of func117 Qxx rfl) _ _ rows W _ (hv.below hb)
  (bad1_any h lbh eh w _ rows p W (fun W' x cs h1 h2 h3=>hp W' x cs (hb.thn h1) h2 h3) hc))
 have HV:=Qq hv
 clear hv hv0 hp
 have hB:∃ r,Xp code p rows=r:=⟨_,rfl⟩
 obtain ⟨r,hr⟩:=hB
 rw [hr]
 have A:Vi (fun r=>!p r) rows=(match rows.findIdx? (fun r=>!p r) with | some i=>(i:Int) | none=>-1):=by unfold Vi;cases rows.findIdx? (fun r=>!p r) <;> rfl
 cases hf:rows.findIdx? (fun r=>!p r) with
 | none=>
  have N:r=Ft.zero:=by rw [<- hr];unfold Xp;rw [hf]
  rw [hf] at A
  simp only at A
  rw [A] at HI
  have HR:=Qq N
  clear N hr A hf
  go_enter func62,ntmps62
  go_wp2_with fail
  refine (HI.out _ (Zu _ _ _) Qxz).mono ?_
  rintro e w5 ⟨rfl,hw⟩
  have D:=(hw.block (w+1) Qxz).trans (Q6 w _ _)
  have fz:=fun j=>Qn _ _ j _ _ D
  have rr:=fun j=>Qk _ _ j _ _ _ D
  obtain ⟨f0,f1,f2,f3,f4,f5,f6,f7,f8,f9,aD,aE⟩:=Qyq fz
  obtain ⟨r0,r1,r2,r3,r4,r5,r6,r7,r8,r9,V,Y⟩:=Qyq rr
  simp only [Qf,Qg,Qh] at r0 r1 r2 r3 r4 r5 r6 r7 r8 r9 V Y
  have aA:=Qq ((Zu w _ _).thn hw);have aC:=Qq D
  clear fz rr D hw
  go_wp2_with fail
  obtain ⟨W,Z⟩:=eX (Y9 w5 (w+1) Qxc Qxd Qxc Qxc Qxd Qxe Qxe Qxc Qxc Qxd Qxe Qxe)
  have q:∀ j,W.cell? ⟨w+1,j,none⟩=zF[j]?:=fun j=>by rw [<- Z];exact Ya aC.out j
  have I:Below w w W:=by rw [<- Z];exact Yv aA.out Qvu
  show bodyPost _ _ _ _ _ (Y9 w5 (w+1) Qxc Qxd Qxc Qxc Qxd Qxe Qxe Qxc Qxc Qxd Qxe Qxe)
  rw [Z]
  have M:=Qq I
  obtain ⟨q0,q1,q2,q3,q4,q5,q6,q7,q8,q9,T,U⟩:=Qyq q
  simp only [Qf,Qg,Qh] at q0 q1 q2 q3 q4 q5 q6 q7 q8 q9 T U
  clear Z I q r0 r1 r2 r3 r4 r5 r6 r7 r8 r9 V Y f0 f1 f2 f3 f4 f5 f6 f7 f8 f9 aD aE
  refine Q7 (v:=.agg zF) (by simp [results,results62,go_sem,q0,q1,q2,q3,q4,q5,q6,q7,q8,q9,T,U]) rfl ⟨[Qxc,Qxd,Qxc,Qxc,Qxd,Qxe,Qxe,Qxc,Qxc,Qxd,Qxe,Qxe],rfl,by rw [HR.out];exact Ks _ _,M.out⟩
 | some i=>
  obtain ⟨bV,_,_⟩:=List.findIdx?_eq_some_iff_getElem.1 hf
  obtain ⟨x,hx⟩:∃ x,rows[i]?=some x:=⟨_,Qx bV⟩
  have N:r=⟨code,[],x,Val.zero⟩:=by rw [<- hr];unfold Xp;rw [hf];simp only;rw [Qs,hx];rfl
  rw [hf] at A
  simp only at A
  rw [A] at HI
  obtain ⟨xb,bZ,p3,k3,p4,k4,rfl,O,aK,d0,d1,d2,d3,d4⟩:=HV.out.val hx
  have cA:(0:Int)<=(i:Int):=Qvu
  have cB:(i:Int)<(rows.length:Int):=Qvu
  have HR:=Qq N;have bN:=Qq aK
  clear N hr A hf hx aK
  go_enter func62,ntmps62
  go_wp2_with fail
  refine (HI.out _ (Zu _ _ _) Qxz).mono ?_
  rintro e w5 ⟨rfl,hw⟩
  have D:=(hw.block (w+1) Qxz).trans (Q6 w _ _)
  have J:=(Zu w _ _).thn hw
  have e0:=kD J O d0;have e1:=kD J O d1;have e2:=kD J O d2;have e3:=kD J O d3;have e4:=kD J O d4
  have fz:=fun j=>Qn _ _ j _ _ D
  have rr:=fun j=>Qk _ _ j _ _ _ D
  obtain ⟨f0,f1,f2,f3,f4,f5,f6,f7,f8,f9,aD,aE⟩:=Qyq fz
  obtain ⟨r0,r1,r2,r3,r4,r5,r6,r7,r8,r9,V,Y⟩:=Qyq rr
  simp only [Qf,Qg,Qh] at r0 r1 r2 r3 r4 r5 r6 r7 r8 r9 V Y
  have aA:=Qq J;have aC:=Qq D
  clear fz rr D hw J d0 d1 d2 d3 d4
  go_wp2_with fail
  obtain ⟨W,Z⟩:=eX (Y9 w5 (w+1) code Qxd x.kind x.n x.s (.slice p3 x.names.length k3) (.slice p4 x.kids.length k4) Qxc Qxc Qxd Qxe Qxe)
  have q:∀ j,W.cell? ⟨w+1,j,none⟩=#[.int .i64 code,.string ⟨#[]⟩,.int .i64 x.kind,.int .i64 x.n,.string ⟨x.s.toArray⟩,.slice p3 x.names.length k3,.slice p4 x.kids.length k4,.int .i64 0,.int .i64 0,.string ⟨#[]⟩,.slice none 0 0,.slice none 0 0][j]?:=fun j=>by rw [<- Z];exact Ya aC.out j
  have aB:∀ b,b<w.heap.size->W.heap[b]?=w5.heap[b]?:=fun b hb=>by rw [<- Z];exact Xz Qvu
  have I:Below w w W:=by rw [<- Z];exact Yv aA.out Qvu
  show bodyPost _ _ _ _ _ (Y9 w5 (w+1) code Qxd x.kind x.n x.s (.slice p3 x.names.length k3) (.slice p4 x.kids.length k4) Qxc Qxc Qxd Qxe Qxe)
  rw [Z]
  have M:=Qq I;have aH:=Qq aB
  obtain ⟨q0,q1,q2,q3,q4,q5,q6,q7,q8,q9,T,U⟩:=Qyq q
  simp only [Qf,Qg,Qh] at q0 q1 q2 q3 q4 q5 q6 q7 q8 q9 T U
  clear Z I aB q r0 r1 r2 r3 r4 r5 r6 r7 r8 r9 V Y f0 f1 f2 f3 f4 f5 f6 f7 f8 f9 aD aE e0 e1 e2 e3 e4
  refine Q7 (v:=.agg #[code,Qxd,x.kind,x.n,x.s,.slice p3 x.names.length k3,.slice p4 x.kids.length k4,Qxc,Qxc,Qxd,Qxe,Qxe]) (by simp [results,results62,go_sem,q0,q1,q2,q3,q4,q5,q6,q7,q8,q9,T,U]) rfl ⟨_,rfl,?_,M.out⟩
  rw [HR.out]
  refine ⟨vcs x p3 k3 p4 k4,_,rfl,Qxz,?_,Yw _ _⟩
  exact Za.move (S':=S0) bN.out (fun b hb bW=>(aH.out b hb.2).trans (aA.out.block b bW)) (fun _ _ h=>h.1)
theorem Of {T:Type} {p:T->Bool} {xs:List T} {k:Nat} {x:T} (hx:xs[k]?=some x) (hp:p x=true) (hne:∀ (j:Nat) (y:T),j<k->xs[j]?=some y->p y=false):atP p xs=some x:=by
 have h:=Kh hx hp hne
 rcases Uf p xs with ⟨A,_⟩ | ⟨i,y,A,h2,h3⟩
 ·rw [h] at A;omega
 rw [h] at A
 have:k=i:=Qvu
 subst this
 rw [hx] at h2;cases h2;exact h3
theorem La {T:Type} {p:T->Bool} {xs:List T} (hne:∀ (j:Nat) (y:T),xs[j]?=some y->p y=false):atP p xs=none:=by
 have h:=Ue hne
 rcases Uf p xs with ⟨_,h2⟩ | ⟨i,y,h1,_,_⟩
 ·exact h2
 rw [h] at h1;omega
theorem Qjn {s:Sc} {l:List Rel} {tn:Bs} {key:List Val} (h:Yy s.tables tn=none\/key.length=0):J1 s l tn key=none:=by
 unfold J1
 rcases h with h | h
 ·rw [h]
 split
 ·rw [if_pos h]
 rfl
theorem Qzl {s:Sc} {l:List Rel} {tn:Bs} {key:List Val} {T:Tbl} (h:Yy s.tables tn=some T) (hk:0<key.length):J1 s l tn key=atP (lkP T.key key) (V0 l tn):=by
 unfold J1
 rw [h]
 rcases Ke l tn with ⟨I,D⟩ | ⟨i,r,I,D,h3⟩
 ·have:atP (fun r=>decide (r.table=tn)) l=none:=by
   rcases Uf (fun r:Rel=>decide (r.table=tn)) l with ⟨_,A⟩ | ⟨i,y,A,_,_⟩
   ·exact A
   rw [D] at A;omega
  rw [this]
  unfold V0;rw [I];rfl
 have:atP (fun r=>decide (r.table=tn)) l=some r:=by
  rcases Uf (fun r:Rel=>decide (r.table=tn)) l with ⟨A,_⟩ | ⟨j,y,A,h5,h6⟩
  ·rw [D] at A;omega
  rw [D] at A
  have:i=j:=Qvu
  subst this
  rw [h3] at h5;cases h5;exact h6
 rw [this]
 simp only
 rw [if_neg Qvu]
 unfold V0;rw [I];simp [h3]
def RLookIs (S:Nat->Prop) (w:World) (o:Option Val) (e:Ending) (w':World):Prop:=
 ∃ cs',e=.returned (.tuple #[.agg cs'.toArray,.bool o.isSome])/\Za S w' cs' (o.getD Val.zero)/\Below w w w'
theorem Pg (S0 S1 S2:Nat->Prop) (s:Sc) (cs:List Value) (lv:Value) (l:List Rel) (tn:Bs) (kv:Value) (key:List Val) (w:World) (hs:Vj S0 w cs s) (hl0:Sl Yx S1 w lv l) (hkv0:Sl Zc S2 w kv key) (hkl:∀ t ∈ s.tables,t.key.length<=1000):
  Calls prog 132 #[cs,lv,sv tn,kv] w (RLookIs S1 w (J1 s l tn key)):=by
 have hl:=hl0.up
 have HT:=Qq (fun W (hb:Below w w W)=>Mf S0 s cs tn W (hs.below hb))
 have bF:=Qq (fun W (hb:Below w w W)=>N2 _ lv l tn W (hl.below hb))
 have bQ:=Qq hkv0
 obtain ⟨uv,tv,rfl,hu,ht⟩:=hs
 obtain ⟨up,uc,rfl,_⟩:=hu.len
 obtain ⟨tp,tc,rfl,_⟩:=ht.len
 obtain ⟨kp,kc,rfl,cJ⟩:=hkv0.len
 obtain ⟨rows,N⟩:=eX (V0 l tn)
 rw [N] at bF
 have bG:=Qq N
 obtain ⟨res,aA⟩:=eX (J1 s l tn key)
 rw [aA]
 have aZ:=Qq aA
 have cD:((Yy s.tables tn).getD Tbl.zero).key.length<=1000:=by
  cases h:Yy s.tables tn with
  | none=>exact Q8 _
  | some t=>exact hkl t (List.mem_of_find?_eq_some h)
 obtain ⟨T,hT⟩:=eX ((Yy s.tables tn).getD Tbl.zero)
 obtain ⟨b,hb⟩:=eX ((Yy s.tables tn).isSome)
 have cZ:=Qq hT;have bO:=Qq hb
 rw [hT] at cD
 obtain ⟨kn,bK⟩:=eX (key.length)
 rw [bK] at bQ cJ |-
 have bR:=Qq bK
 unfold TabIs at HT
 rw [hT,hb] at HT
 clear hu ht hl0 hl hkv0 N aA hT hb hkl bK
 unfold sv at HT bF |-
 go_enter func132,ntmps132
 go_wp2_with fail
 refine (HT.out _ (Zu _ _ _)).mono ?_
 rintro e w1 ⟨ct,rfl,bL,bJ⟩
 obtain ⟨aK,aJ,aO,aN,aW,aV,k9,aX,n9,aY,aS,aP,aG,aT,aQ,aH,aU,aR,aI,a9,z9,cI,_⟩:=Yj bL
 have bV:=Qq bL
 simp only [tcs] at cI
 subst cI
 have bI:=(bJ.block (w+1) Qxz).trans (Q6 w _ _)
 have cX:=Qq ((Zu w _ _).thn bJ);have bZ:=Qq bI
 have bC:=Z8 bI
 clear bL bJ bI HT
 go_upto_region 2 with fail
 obtain ⟨X,hX⟩:=eX (w1.heap.size)
 generalize bH:w1.alloc (.cells (Qxg T aK aJ aO aN aW aV k9 aX n9 aY aS aP aG aT aQ aH aU aR aI a9 z9) 61)=w2
 have aM:=eqB bH (Ze _ _)
 have cE:w2.heap[X]?=some (.cells (Qxg T aK aJ aO aN aW aV k9 aX n9 aY aS aP aG aT aQ aH aU aR aI a9 z9) 61 (0,0)):=by rw [<- bH,<- hX];exact Qw _ _
 have cF:=kE aM bC bZ.out
 obtain ⟨bD,bY,aF⟩:=Qxn (cX.out.thn aM) cE cF
 have bW:=Qq (Zl.frame bV.out (.of_below aM))
 rw [hX] at bC |-
 clear bH aM cE cF hX bZ bV
 have dL:=Z8 bY.out
 go_wp2_with (go_at_call 79;refine (bF.out _ bD.out).mono ?_;rintro e w' ⟨rp,rc,rfl,cM,rfl⟩;have aE:=Qq cM;clear cM)
 obtain ⟨n,hn⟩:=eX (rows.length)
 obtain ⟨_,_,_,dO⟩:=aE.out.len
 rw [hn] at aE dO |-
 have HN:=Qq hn
 clear hn
 by_cases hrun:b=true/\0<kn
 ·obtain ⟨rfl,bB⟩:=hrun
  have aB:Yy s.tables tn=some T:=by
   have U:=bO.out;have h2:=cZ.out
   cases hq:Yy s.tables tn with
   | none=>rw [hq] at U;cases U
   | some v=>rw [hq] at h2;rw [<- h2];rfl
  have cL:res=atP (lkP T.key key) rows:=by rw [<- aZ.out,Qzl aB (by rw [bR.out];exact bB),bG.out]
  have bS:=Qq cL
  have dU:(0:Int)<(kn:Int):=Qvu
  have dV:decide (0<kn)=true:=by simpa using bB
  clear aB cL
  go_loopw [13,14] (fun i _ wr=>∃ k:Nat,k<=n/\i=.int .i64 k/\Aside (∀ (j:Nat) (y:Val),j<k->rows[j]?=some y->lkP T.key key y=false)/\Aside (Below w2 w2 wr)) (fun i _ _=>n - (intOf i).toNat)
  case atStart=>exact ⟨0,Q8 _,rfl,fun j _ hj=>absurd hj (Z6 _),Qz _ _⟩
  obtain ⟨k,hk,rfl,A,cB⟩:=hrel
  have J:=Qq (show Below w2 w2 wr from cB)
  have bE:=Qq (bD.out.thn J.out)
  clear cB
  have dB:=Qq (kE J.out dL bY.out);have O:=Qq (kB J.out aF.out)
  have dZ:=J.out.size
  by_cases V:k<n
  ·have dX:(0:Int)<=(k:Int):=Qvu
   have dY:(k:Int)<(n:Int):=Qvu
   have dM:decide (k<n)=true:=by simpa using V
   obtain ⟨y,hy⟩:∃ y,rows[k]?=some y:=⟨_,Qx (by rw [HN.out];exact V)⟩
   obtain ⟨rb,cN,q3,l3,q4,l4,rfl,Z,aC,e0,e1,e2,e3,e4⟩:=(aE.out.below J.out).val hy
   have dA:=Qq aC;have HY:=Qq hy
   obtain ⟨x0,x1,x2,x3,x4,x5,x6,x7,x8,x9,cO,cP,cQ⟩:=row13 dB.out
   go_upto_region 6 with fail
   refine let_mvar% ?Lq1:=fun w':World=>(Qya w' X T.name (.slice aK T.columns.length aJ) (.slice aO T.key.length aN) (.slice aW T.refs.length aV) k9 (.string aX) n9 (.string aY) (.slice aS aP aG) (.slice aT aQ aH) (.slice aU aR aI) a9 z9 ((Qyb w' rb (cN+k*5) y.kind y.n y.s (.slice q3 y.names.length l3) (.slice q4 y.kids.length l4) (Below wr wr w'):Prop)):Prop);?_
   have HS:∀ w',Below wr wr w'->?Lq1 w':=by
    intro w' h
    have I:∀ {b j:Nat} {u:Value},b<wr->wr.cell? ⟨b,j,none⟩=some u->w'.cell? ⟨b,j,none⟩=some u:=fun V hc=>kD h V hc
    have D:X<wr.heap.size:=Qvu
    exact ⟨I D x0,I D x1,I D x2,I D x3,I D x4,I D x5,I D x6,I D x7,I D x8,I D x9,I D cO,I D cP,I D cQ,I Z e0,I Z e1,I Z e2,I Z e3,I Z e4,h⟩
   have M:∀ w',?Lq1 w'->Below wr wr w':=fun w' h=>h.2.2.2.2.2.2.2.2.2.2.2.2.2.2.2.2.2.2
   have HC:=Qq (fun W' (h':?Lq1 W')=>(Bk S0 (fun b=>S1 b/\b<w) T y (Qxg T aK aJ aO aN aW aV k9 aX n9 aY aS aP aG aT aQ aH aU aR aI a9 z9) (Qxf y q3 l3 q4 l4) W' (Zl.frame bW.out (.of_below (J.out.thn (M _ h')))) (dA.out.move (.of_below (M _ h')) Qyv) cD).mono (R':=fun e w2=>∃ p n cap,e=.returned (.slice p n cap)/\Sl Zc (fun _=>True) w2 (.slice p n cap) ((keyOf T.key y).getD [])/\?Lq1 w2) (by
    rintro e w2 ⟨p,cap,rfl,h3,h4⟩
    exact ⟨p,_,cap,rfl,h3.mono (fun _ _ _=>trivial),HS _ ((M _ h').thn h4)⟩))
   have HE:=Qq (fun W' p n cap (h':?Lq1 W') (h2:Sl Zc (fun _=>True) W' (.slice p n cap) ((keyOf T.key y).getD []))=>(Bh (fun _=>True) S2 (.slice p n cap) (.slice kp kn kc) ((keyOf T.key y).getD []) key W' h2 (bQ.out.below (bE.out.thn (M _ h')))).mono (R':=fun e w2=>e=.returned (.bool (lkP T.key key y))/\?Lq1 w2) (by
    rintro e w2 ⟨rfl,h4⟩
    exact ⟨rfl,HS _ ((M _ h').thn h4.bl)⟩))
   have bT:=Qq (HS wr.drew (Qz _ _).drew);have bA:=Qq M
   obtain ⟨c,hc⟩:=eX (lkP T.key key y)
   rw [hc] at HE
   have bP:=Qq hc
   clear HS M aC hy hc x0 x1 x2 x3 x4 x5 x6 x7 x8 x9 cO cP cQ e0 e1 e2 e3 e4
   go_cut [14] from 24 to 50 (fun dT wx=>dT=.bool c/\Aside (Below wr wr wx))
   case first=>
    go_region_held3 ?Lq1 (first | with_reducible exact bT.out | with_reducible exact dJ | with_reducible exact cC)
     (first
      | (go_at_call 81;refine (HC.out _ Qxy).mono ?_;rintro e w5 ⟨eC,eB,eA,rfl,dN,dJ⟩)
      | (go_at_call 40;refine (HE.out _ _ _ _ Qxy dN).mono ?_;rintro e w6 ⟨rfl,cC⟩))
    all_goals
     go_wp2_with fail
     go_meet
     exact ⟨rfl,bA.out _ cC⟩
   obtain ⟨rfl,cG⟩:=hcut
   have aD:=Qq (show Below wr wr wc from cG)
   clear cG HC HE bT bA
   cases c with
   | false=>
    go_wp2_with fail
    go_roundw
    case measure=>simp [intOf];omega
    case rel=>
     refine ⟨k+1,Qvu,by go_num,(show Aside _ from fun j z hj hz=>?_),J.out.thn aD.out⟩
     by_cases e:j=k
     ·subst e
      have:=HY.out
      rw [this] at hz
      cases hz
      exact bP.out
     exact A.out j z Qvu hz
   | true=>
    have Y:res=some y:=by rw [bS.out];exact Of HY.out bP.out A.out
    subst Y
    obtain ⟨eD,dS,u3,m3,u4,m4,he,dW,aC,e0,e1,e2,e3,e4⟩:=(aE.out.below (J.out.thn aD.out)).val HY.out
    simp only [Zv,Addr.mk.injEq,and_true] at he
    obtain ⟨rfl,rfl⟩:=he
    have aL:=kB aD.out O.out
    have cA:=Qq aL;have bX:=Qq aC
    obtain ⟨z0,z1,z2,z3,z4⟩:=row5 aL
    obtain ⟨f0,f1,f2,f3,f4⟩:=frz5 aL
    clear aL aC A
    go_wp2_with fail
    show bodyPost _ _ _ _ _ (Qxl wc (w+1) y u3 m3 u4 m4)
    refine Q7 (v:=.tuple #[.agg (Qxf y u3 m3 u4 m4),.bool true]) (by simp [results,results132,go_sem,Zd cA.out]) rfl ⟨_,rfl,?_,Zf (bE.out.thn aD.out) Qvu⟩
    exact Za.move bX.out (fun b hb _=>Zi (by have:=hb.2;omega)) (fun b _ hb=>hb.1)
  have cK:k=n:=Qvu
  subst cK
  have dM:decide (k<k)=false:=Qxz
  have Y:res=none:=by rw [bS.out];exact La (fun j y hy=>A.out j y (by have:=(Qj hy).1;have:=HN.out;omega) hy)
  subst Y
  have cA:=O
  obtain ⟨z0,z1,z2,z3,z4⟩:=row5 O.out
  obtain ⟨f0,f1,f2,f3,f4⟩:=frz5 O.out
  clear A V
  go_wp2_with fail
  show bodyPost _ _ _ _ _ (Zp wr (w+1) Qxc Qxc Qxd Qxe Qxe)
  refine Q7 (v:=.tuple #[.agg zV,.bool false]) (by simp [results,results132,go_sem,Zd O.out]) rfl ⟨_,rfl,Yw _ _,Zf bE.out Qvu⟩
 have Y:res=none:=by
  rw [<- aZ.out]
  refine Qjn ?_
  rw [bR.out]
  cases hq:Yy s.tables tn with
  | none=>exact .inl rfl
  | some v=>
   have U:=bO.out
   rw [hq] at U
   exact .inr (by have:b=true:=U.symm;by_cases h0:0<kn;exact absurd ⟨this,h0⟩ hrun;omega)
 subst Y
 go_loopw [13,14] (fun i _ wr=>i=.int .i64 0/\w2=wr) (fun _ _ _=>0)
 case atStart=>exact ⟨rfl,rfl⟩
 obtain ⟨rfl,rfl⟩:=hrel
 obtain ⟨z0,z1,z2,z3,z4⟩:=row5 aF.out
 obtain ⟨f0,f1,f2,f3,f4⟩:=frz5 aF.out
 have dQ:(0<n/\b=true/\kn=0)\/(0<n/\b=false)\/n=0:=by
  by_cases U:n=0
  ·exact .inr (.inr U)
  cases hbq:b with
  | false=>exact .inr (.inl ⟨Qvu,rfl⟩)
  | true=>exact .inl ⟨Qvu,rfl,by by_cases h0:0<kn;exact absurd ⟨hbq,h0⟩ hrun;omega⟩
 clear hrun
 rcases dQ with ⟨U,rfl,rfl⟩ | ⟨U,rfl⟩ | rfl
 focus
  have g1:(0:Int)<(n:Int):=Qvu
  have g2:decide (0<n)=true:=by simpa using U
  go_wp2_with fail
 rotate_left
 focus
  have g1:(0:Int)<(n:Int):=Qvu
  have g2:decide (0<n)=true:=by simpa using U
  go_wp2_with fail
 rotate_left
 focus
  go_wp2_with fail
 all_goals
  show bodyPost _ _ _ _ _ (Zp w2 (w+1) Qxc Qxc Qxd Qxe Qxe)
  refine Q7 (v:=.tuple #[.agg zV,.bool false]) (by simp [results,results132,go_sem,Zd aF.out]) rfl ⟨_,rfl,Yw _ _,Zf bD.out Qvu⟩
theorem Yq {S:Nat->Prop} {w:World} (k:Int) (nm:Bs) (n:Int) (sx:Bs) (h1:nm.length<=1000000) (h2:sx.length<=1000000):Y1 S w [k,nm,n,sx,Qxe,Qxe,Qxe,Qxc,Qxc] (.mk k nm n sx [] [] [] 0 0):=
 Xv h1 h2 (Sl.nil _ _ _) (Sl.nil _ _ _) (Sl.nil _ _ _)
theorem Qqd {W:World} {R b j:Nat} {x0 x1 x2 x3 x4 x5 x6 x7 x8 u:Value} (h:b≠R) (hc:W.cell? ⟨b,j,none⟩=some u):(put9 W R x0 x1 x2 x3 x4 x5 x6 x7 x8).cell? ⟨b,j,none⟩=some u:=(World.cell?_of_block (M5 h)).trans hc
def ExAt (Rb:Nat) (w:World) (x:Ex) (e:Ending) (w':World):Prop:=∃ ek es en et e1 f1 g1 e2 f2 g2 e3 f3 g3 ea ez,e=.returned (.agg (Qxh ek es en et e1 f1 g1 e2 f2 g2 e3 f3 g3 ea ez))/\Y1 (fun b=>Rb<b) w' (Qxh ek es en et e1 f1 g1 e2 f2 g2 e3 f3 g3 ea ez) x/\Below w w w'
theorem Vg (Rb:Nat) (o:Bs) (a b:Ex) (ca cb:List Value) (w:World) (ho:o.length<=1000000) (ha:Y1 (fun b=>Rb<b) w ca a) (hb:Y1 (fun b=>Rb<b) w cb b) (hR:Rb<w):
  Calls prog 75 #[o,ca,cb] w (ExAt Rb w (Gen.op o [a,b])):=
 (rop_any _ o a b ca cb w ho ha hb).mono fun _ _ ⟨ek,es,en,et,e1,f1,g1,e2,f2,g2,e3,f3,g3,ea,ez,h1,h2,h3⟩=>⟨ek,es,en,et,e1,f1,g1,e2,f2,g2,e3,f3,g3,ea,ez,h1,h2.move (.refl _ _) (fun b _ h=>h.elim id (fun h=>Qvu)),h3⟩
theorem Ug {w W:World} {cs:List Value} {x:Ex} {c0 c1 c2 c3 c4 c5 c6 c7 c8:Value} (hx:Y1 (fun b=>w<b) W [c0,c1,c2,c3,c4,c5,c6,c7,c8] x) (hb:Below w w W) (hc:cs=[c0,c1,c2,c3,c4,c5,c6,c7,c8]):J8 w x (.returned (.agg #[c0,c1,c2,c3,c4,c5,c6,c7,c8])) (put9 W w c0 c1 c2 c3 c4 c5 c6 c7 c8):=
 ⟨cs,by rw [hc],by rw [hc];exact hx.move (fun b hb _=>M5 (by have h:w.heap.size<b:=hb;omega)) (fun b _ h=>by show w<=b;have h':w.heap.size<b:=h;omega),Ah hb (Q9 _)⟩
def Xq (L:List (Nat × Nat × Value)) (w:World):Prop:=∀ x ∈ L,w.cell? ⟨x.1,x.2.1,none⟩=some x.2.2
def Qja:List (Nat × Nat × Value)->World->Prop
 | [],_=>True
 | [x],w=>w.cell? ⟨x.1,x.2.1,none⟩=some x.2.2
 | x::y::l,w=>w.cell? ⟨x.1,x.2.1,none⟩=some x.2.2/\Qja (y::l) w
theorem Xq.spread:∀ {L:List (Nat × Nat × Value)} {w:World},Xq L w->Qja L w
 | [],_,_=>trivial
 | [x],_,h=>h x (List.mem_cons_self ..)
 | x::y::l,_,h=>⟨h x (List.mem_cons_self ..),Xq.spread (L:=y::l) (fun z hz=>h z (List.mem_cons_of_mem _ hz))⟩
theorem Xq.later {L:List (Nat × Nat × Value)} {w w':World} (h:Xq L w) (hb:Below w w w'):Xq L w':=fun x hx=>kC hb (h x hx)
theorem Xq.alloc {L:List (Nat × Nat × Value)} {w:World} (h:Xq L w) (o:Obj):Xq L (w.alloc o):=h.later (Ze _ _)
theorem Xq.drew {L:List (Nat × Nat × Value)} {w:World} (h:Xq L w):Xq L w.drew:=h
theorem Xq.put9 {L:List (Nat × Nat × Value)} {w:World} {R:Nat} (h:Xq L w) (hn:∀ x ∈ L,R<x.1) (a0 a1 a2 a3 a4 a5 a6 a7 a8:Value):Xq L (put9 w R a0 a1 a2 a3 a4 a5 a6 a7 a8):=fun x hx=>Qqd (Nat.ne_of_gt (hn x hx)) (h x hx)
def Jn (b:Nat) (a0 a1 a2 a3 a4 a5 a6 a7 a8:Value):List (Nat × Nat × Value):=[(b,0,a0),(b,1,a1),(b,2,a2),(b,3,a3),(b,4,a4),(b,5,a5),(b,6,a6),(b,7,a7),(b,8,a8)]
theorem Xq.row {w:World} {b:Nat} {t:TypeId} {a0 a1 a2 a3 a4 a5 a6 a7 a8:Value} (h:w.heap[b]?=some (.cells #[a0,a1,a2,a3,a4,a5,a6,a7,a8] t (0,0))):Xq (Jn b a0 a1 a2 a3 a4 a5 a6 a7 a8) w:=by
 intro x hx
 simp only [Jn,Z3,Z2,or_false] at hx
 rcases hx with rfl | rfl | rfl | rfl | rfl | rfl | rfl | rfl | rfl
 all_goals exact Qk _ _ _ _ _ _ h
theorem Xq.app {K L:List (Nat × Nat × Value)} {w:World} (h:Xq K w) (g:Xq L w):Xq (K++L) w:=fun x hx=>(Z4.1 hx).elim (h x) (g x)
theorem X8 {R b:Nat} (h:R<b) (a0 a1 a2 a3 a4 a5 a6 a7 a8:Value):∀ x ∈ Jn b a0 a1 a2 a3 a4 a5 a6 a7 a8,R<x.1:=by
 intro x hx
 simp only [Jn,Z3,Z2,or_false] at hx
 rcases hx with rfl | rfl | rfl | rfl | rfl | rfl | rfl | rfl | rfl
 all_goals exact h
theorem Un {R:Nat} {K L:List (Nat × Nat × Value)} (h:∀ x ∈ K,R<x.1) (g:∀ x ∈ L,R<x.1):∀ x ∈ K++L,R<x.1:=fun x hx=>(Z4.1 hx).elim (h x) (g x)
theorem Qvv {W:World} {b:Nat} {t:TypeId} {x0 x1 x2 x3 x4 x5 x6 x7 x8:Value} (h:W.heap[b]?=some (.cells #[x0,x1,x2,x3,x4,x5,x6,x7,x8] t (0,0))):(W.frozen? ⟨b,0,none⟩=false/\W.frozen? ⟨b,1,none⟩=false/\W.frozen? ⟨b,2,none⟩=false/\W.frozen? ⟨b,3,none⟩=false/\W.frozen? ⟨b,4,none⟩=false/\W.frozen? ⟨b,5,none⟩=false/\W.frozen? ⟨b,6,none⟩=false/\W.frozen? ⟨b,7,none⟩=false/\W.frozen? ⟨b,8,none⟩=false)/\Qye W b x0 x1 x2 x3 x4 x5 x6 x7 x8:=
 ⟨⟨fA 0 h,fA 1 h,fA 2 h,fA 3 h,fA 4 h,fA 5 h,fA 6 h,fA 7 h,fA 8 h⟩,Qk _ _ 0 _ _ _ h,Qk _ _ 1 _ _ _ h,Qk _ _ 2 _ _ _ h,Qk _ _ 3 _ _ _ h,Qk _ _ 4 _ _ _ h,Qk _ _ 5 _ _ _ h,Qk _ _ 6 _ _ _ h,Qk _ _ 7 _ _ _ h,Qk _ _ 8 _ _ _ h⟩
theorem Vm {X W:World} (h:Below X.drew.heap.size X.drew W):Below X X W:=(Qz _ _).drew.thn h
theorem Ve {X W:World} {o:Obj} (h:World.alloc X o=W):Below X X W:=by rw [<- h];exact Ze _ _
theorem Jr {X W:World} {o:Obj} (h:World.alloc X o=W):W.heap[X.heap.size]?=some o:=by rw [<- h];exact Qw _ _
theorem Fy {X W:World} {o o':Obj} {g:Nat} (_h:World.alloc X o=W) (hg:X.heap[g]?=some o'):g<X.heap.size:=Z8 hg
theorem Gn {X W:World} {o:Obj} (h:World.alloc X o=W):W=X.heap.size+1:=by rw [<- h];simp
theorem T4 {W:World} {b c:Nat} {o:Obj} (h:W.heap[b]?=some o) (e:c=b):W.heap[c]?=some o:=by rw [e];exact h
theorem Yh {w w':World} {b:Nat} {o:Obj} (hb:Below w w w') (h:w.heap[b]?=some o):w'.heap[b]?=some o:=kB hb h
theorem Qkc (S:Nat->Prop) (v:Value) (l:List Int) (w:World) (hs:Xa S w v l) (hi:Uh l) (hk:Yo l 0 13=3):
  Calls prog 27 #[v,Qxc] w (J8 w (Gen.check 3)):=by
 have HP:=Qq (fun W (hb:Below w w W)=>Yr S v l 0 13 W (hs.below hb) hi Qvu Qvu)
 rw [hk] at HP
 obtain ⟨p,cap,rfl,_⟩:=hs.len
 clear hs hi hk
 go_enter func27,ntmps27
 go_upto_region 8 with fail
 generalize aB:(((((((w.alloc _).alloc _).alloc _).alloc _).alloc _).alloc _).alloc _).alloc _=W8
 have aY:=eqB aB (Zs (Zs (Zs (Zs (Zs (Zs (Zs (Ze w _) _) _) _) _) _) _) _)
 have bF:W8=w.heap.size+8:=by rw [<- aB];simp
 have r8:=eqH (b:=w.heap.size) aB (Zb (Zb (Zb (Zb (Zb (Zb (Zb (Y3 rfl _) _) _) _) _) _) _) _)
 have A:=(((Xq.row (show W8.heap[w.heap.size+1]?=some (.cells #[.int .i64 3,.string ⟨#[97]⟩,Qxc,Qxd,Qxe,Qxe,Qxe,Qxc,Qxc] 59 (0,0)) from by rw [<- aB];exact Zb (Zb (Zb (Zb (Zb (Zb (Y3 Qxz _) _) _) _) _) _) _)).app (Xq.row (show W8.heap[w.heap.size+1+1]?=some (.cells #[.int .i64 3,.string ⟨#[98]⟩,Qxc,Qxd,Qxe,Qxe,Qxe,Qxc,Qxc] 59 (0,0)) from by rw [<- aB];exact Zb (Zb (Zb (Zb (Zb (Y3 Qxz _) _) _) _) _) _))).app (Xq.row (show W8.heap[w.heap.size+1+1+1+1+1+1]?=some (.cells #[Qxc,Qxd,.int .i64 1,Qxd,Qxe,Qxe,Qxe,Qxc,Qxc] 59 (0,0)) from by rw [<- aB];exact Zb (Y3 Qxz _) _)))
 have hG:=(Un (Un (X8 (show w<w.heap.size+1 by omega) (.int .i64 3) (.string ⟨#[97]⟩) (.int .i64 0) (.string ⟨#[]⟩) (.slice none 0 0) (.slice none 0 0) (.slice none 0 0) (.int .i64 0) (.int .i64 0)) (X8 (show w<w.heap.size+1+1 by omega) (.int .i64 3) (.string ⟨#[98]⟩) (.int .i64 0) (.string ⟨#[]⟩) (.slice none 0 0) (.slice none 0 0) (.slice none 0 0) (.int .i64 0) (.int .i64 0))) (X8 (show w<w.heap.size+1+1+1+1+1+1 by omega) (.int .i64 0) (.string ⟨#[]⟩) (.int .i64 1) (.string ⟨#[]⟩) (.slice none 0 0) (.slice none 0 0) (.slice none 0 0) (.int .i64 0) (.int .i64 0)))
 have aH:=Qq aY;have HR:=Qq r8
 clear aB aY r8 bF
 go_upto_region 14 with (go_at_call 28;refine (HP.out _ aH.out).mono ?_;rintro e w' ⟨rfl,rfl⟩)
 refine let_mvar% ?Lq1:=fun w':World=>(Qyw w' (w+1) (.int .i64 3) (.string ⟨#[97]⟩) Qxc Qxd Qxe Qxe Qxe Qxc Qxc ((Qyw w' (w+1+1) (.int .i64 3) (.string ⟨#[98]⟩) Qxc Qxd Qxe Qxe Qxe Qxc Qxc ((Qye w' (w+1+1+1+1+1+1) Qxc Qxd (.int .i64 1) Qxd Qxe Qxe Qxe Qxc Qxc:Prop)):Prop)):Prop);?_
 have HS:=Qq (fun w' (h:Xq (Jn (w+1) (.int .i64 3) (.string ⟨#[97]⟩) (.int .i64 0) (.string ⟨#[]⟩) (.slice none 0 0) (.slice none 0 0) (.slice none 0 0) (.int .i64 0) (.int .i64 0)++Jn (w+1+1) (.int .i64 3) (.string ⟨#[98]⟩) (.int .i64 0) (.string ⟨#[]⟩) (.slice none 0 0) (.slice none 0 0) (.slice none 0 0) (.int .i64 0) (.int .i64 0)++Jn (w+1+1+1+1+1+1) (.int .i64 0) (.string ⟨#[]⟩) (.int .i64 1) (.string ⟨#[]⟩) (.slice none 0 0) (.slice none 0 0) (.slice none 0 0) (.int .i64 0) (.int .i64 0)) w')=>(show ?Lq1 w' from Xq.spread h))
 have HG:=Qq hG
 have aI:=Qq (fun w' z0 z1 z2 z3 z4 z5 z6 z7 z8 (h:Xq _ w')=>HS.out _ (h.put9 HG.out z0 z1 z2 z3 z4 z5 z6 z7 z8))
 unfold put9 at aI
 have D:=aH
 clear hG
 obtain ⟨aD,aE,aF,bD⟩:=Qxo True.intro True.intro True.intro True.intro
 go_region_held3 ?Lq1 (first | with_reducible exact HS.out _ A | with_reducible exact HS.out _ A.drew | with_reducible exact HS.out _ (A.alloc _) | with_reducible exact HS.out _ (A.alloc _).drew | with_reducible exact HS.out _ ((A.alloc _).alloc _) | with_reducible exact HS.out _ ((A.alloc _).alloc _).drew | with_reducible exact HS.out _ (((A.alloc _).alloc _).alloc _) | with_reducible exact aI.out _ _ _ _ _ _ _ _ _ _ A)
  (first
   | (have hn:=U.out;clear hn;have hk:=aF.out;go_at_call 75;refine (Vg w [60,61] _ _ _ _ _ Qxz (by exact (Yq 3 [97] 0 [] Qxz Qxz)) (by exact U.out) (by exact Z8 HR.out)).mono ?_;rintro e W3 ⟨aN,aP,aO,aQ,aJ,aS,aV,aK,aT,aW,aL,aU,aX,aM,aR,rfl,bB,M⟩;clear aF hk;(try (have Z:=Vm M;clear M;have M:=Z;clear Z));have Y:=A.later M;clear A;have A:=Y;clear Y;have O:=Qq (Yh M HR.out);clear HR;have HR:=O;clear O;have N:=Qq (D.out.thn M);clear D;have D:=N;clear N;(try (have V:=Qq (T.out.move (.of_below M) Qyv);clear T;have T:=V;clear V));(try (have V:=Qq (U.out.move (.of_below M) Qyv);clear U;have U:=V;clear V));have aA:=Qq bB;clear bB M;obtain ⟨⟨f0,f1,f2,f3,f4,f5,f6,f7,f8⟩,y0,y1,y2,y3,y4,y5,y6,y7,y8⟩:=Qvv HR.out)
   | (have hn:=T.out;clear hn;have hk:=aE.out;go_at_call 75;refine (Vg w [43] _ _ _ _ _ Qxz (by exact (Yq 3 [98] 0 [] Qxz Qxz)) (by exact T.out) (by exact Z8 HR.out)).mono ?_;rintro e W2 ⟨bP,bT,bR,bV,bH,bZ,cF,bJ,cB,cH,bL,cD,cJ,bN,bX,rfl,bA,J⟩;clear aE hk;(try (have Z:=Vm J;clear J;have J:=Z;clear Z));have Y:=A.later J;clear A;have A:=Y;clear Y;have O:=Qq (Yh J HR.out);clear HR;have HR:=O;clear O;have N:=Qq (D.out.thn J);clear D;have D:=N;clear N;(try (have V:=Qq (T.out.move (.of_below J) Qyv);clear T;have T:=V;clear V));(try (have V:=Qq (aA.out.move (.of_below J) Qyv);clear aA;have aA:=V;clear V));have U:=Qq bA;clear bA J)
   | (have hk:=aD.out;go_at_call 75;refine (Vg w [42] _ _ _ _ _ Qxz (by exact (Yq 0 [] 1 [] Qxz Qxz)) (by exact (Yq 0 [] 1 [] Qxz Qxz)) (by exact Z8 HR.out)).mono ?_;rintro e W1 ⟨bO,bS,bQ,bU,bG,bY,cE,bI,cA,cG,bK,cC,cI,bM,bW,rfl,aZ,I⟩;clear aD hk;(try (have Z:=Vm I;clear I;have I:=Z;clear Z));have Y:=A.later I;clear A;have A:=Y;clear Y;have O:=Qq (Yh I HR.out);clear HR;have HR:=O;clear O;have N:=Qq (D.out.thn I);clear D;have D:=N;clear N;(try (have V:=Qq (U.out.move (.of_below I) Qyv);clear U;have U:=V;clear V));(try (have V:=Qq (aA.out.move (.of_below I) Qyv);clear aA;have aA:=V;clear V));have T:=Qq aZ;clear aZ I)
   | fail)
 all_goals
  go_wp2_with fail
  show bodyPost _ _ _ _ _ (put9 _ w aN (.string aP) aO (.string aQ) (.slice aJ aS aV) (.slice aK aT aW) (.slice aL aU aX) aM aR)
  exact Q7 (v:=.agg (Qxh aN aP aO aQ aJ aS aV aK aT aW aL aU aX aM aR)) (by simp [results,results27,go_sem,Xb HR.out]) rfl (Ug aA.out D.out rfl)
theorem Qjg (S:Nat->Prop) (v:Value) (l:List Int) (w:World) (hs:Xa S w v l) (hi:Uh l) (hk:Yo l 0 13=4):
  Calls prog 27 #[v,Qxc] w (J8 w (Gen.check 4)):=by
 have HP:=Qq (fun W (hb:Below w w W)=>Yr S v l 0 13 W (hs.below hb) hi Qvu Qvu)
 rw [hk] at HP
 obtain ⟨p,cap,rfl,_⟩:=hs.len
 clear hs hi hk
 go_enter func27,ntmps27
 go_upto_region 8 with fail
 generalize M:(((((((w.alloc _).alloc _).alloc _).alloc _).alloc _).alloc _).alloc _).alloc _=W8
 have aV:=eqB M (Zs (Zs (Zs (Zs (Zs (Zs (Zs (Ze w _) _) _) _) _) _) _) _)
 have bA:W8=w.heap.size+8:=by rw [<- M];simp
 have r8:=eqH (b:=w.heap.size) M (Zb (Zb (Zb (Zb (Zb (Zb (Zb (Y3 rfl _) _) _) _) _) _) _) _)
 have A:=((Xq.row (show W8.heap[w.heap.size+1+1+1+1]?=some (.cells zQ 59 (0,0)) from by rw [<- M];exact Zb (Zb (Zb (Y3 Qxz _) _) _) _)).app (Xq.row (show W8.heap[w.heap.size+1+1+1]?=some (.cells #[.int .i64 3,.string ⟨#[99]⟩,Qxc,Qxd,Qxe,Qxe,Qxe,Qxc,Qxc] 59 (0,0)) from by rw [<- M];exact Zb (Zb (Zb (Zb (Y3 Qxz _) _) _) _) _)))
 have hG:=(Un (X8 (show w<w.heap.size+1+1+1+1 by omega) (.int .i64 3) (.string ⟨#[100]⟩) (.int .i64 0) (.string ⟨#[]⟩) (.slice none 0 0) (.slice none 0 0) (.slice none 0 0) (.int .i64 0) (.int .i64 0)) (X8 (show w<w.heap.size+1+1+1 by omega) (.int .i64 3) (.string ⟨#[99]⟩) (.int .i64 0) (.string ⟨#[]⟩) (.slice none 0 0) (.slice none 0 0) (.slice none 0 0) (.int .i64 0) (.int .i64 0)))
 have aD:=Qq aV;have HR:=Qq r8
 clear M aV r8 bA
 go_upto_region 16 with (go_at_call 28;refine (HP.out _ aD.out).mono ?_;rintro e w' ⟨rfl,rfl⟩)
 refine let_mvar% ?Lq1:=fun w':World=>(Qyw w' (w+1+1+1+1) (.int .i64 3) (.string ⟨#[100]⟩) Qxc Qxd Qxe Qxe Qxe Qxc Qxc ((Qye w' (w+1+1+1) (.int .i64 3) (.string ⟨#[99]⟩) Qxc Qxd Qxe Qxe Qxe Qxc Qxc:Prop)):Prop);?_
 have HS:=Qq (fun w' (h:Xq (Jn (w+1+1+1+1) (.int .i64 3) (.string ⟨#[100]⟩) (.int .i64 0) (.string ⟨#[]⟩) (.slice none 0 0) (.slice none 0 0) (.slice none 0 0) (.int .i64 0) (.int .i64 0)++Jn (w+1+1+1) (.int .i64 3) (.string ⟨#[99]⟩) (.int .i64 0) (.string ⟨#[]⟩) (.slice none 0 0) (.slice none 0 0) (.slice none 0 0) (.int .i64 0) (.int .i64 0)) w')=>(show ?Lq1 w' from Xq.spread h))
 have HG:=Qq hG
 have aE:=Qq (fun w' z0 z1 z2 z3 z4 z5 z6 z7 z8 (h:Xq _ w')=>HS.out _ (h.put9 HG.out z0 z1 z2 z3 z4 z5 z6 z7 z8))
 unfold put9 at aE
 have J:=aD
 clear hG
 obtain ⟨V,Y,aZ⟩:=Qxn True.intro True.intro True.intro
 go_region_held3 ?Lq1 (first | with_reducible exact HS.out _ A | with_reducible exact HS.out _ A.drew | with_reducible exact HS.out _ (A.alloc _) | with_reducible exact HS.out _ (A.alloc _).drew | with_reducible exact HS.out _ ((A.alloc _).alloc _) | with_reducible exact HS.out _ ((A.alloc _).alloc _).drew | with_reducible exact HS.out _ (((A.alloc _).alloc _).alloc _) | with_reducible exact aE.out _ _ _ _ _ _ _ _ _ _ A)
  (first
   | (have hn:=T.out;clear hn;have hk:=Y.out;go_at_call 75;refine (Vg w [111,114] _ _ _ _ _ Qxz (by exact (Yq 3 [100] 0 [] Qxz Qxz)) (by exact T.out) (by exact Z8 HR.out)).mono ?_;rintro e W2 ⟨aJ,aL,aK,aM,aF,aO,aR,aG,aP,aS,aH,aQ,aT,aI,aN,rfl,aX,I⟩;clear Y hk;(try (have Z:=Vm I;clear I;have I:=Z;clear Z));have U:=A.later I;clear A;have A:=U;clear U;have O:=Qq (Yh I HR.out);clear HR;have HR:=O;clear O;have N:=Qq (J.out.thn I);clear J;have J:=N;clear N;(try (have h0:=Qq (T.out.move (.of_below I) Qyv);clear T;have T:=h0;clear h0));have aB:=Qq aX;clear aX I;obtain ⟨⟨f0,f1,f2,f3,f4,f5,f6,f7,f8⟩,y0,y1,y2,y3,y4,y5,y6,y7,y8⟩:=Qvv HR.out)
   | (have hk:=V.out;go_at_call 75;refine (Vg w [33,61] _ _ _ _ _ Qxz (by exact (Yq 3 [99] 0 [] Qxz Qxz)) (by exact (Yq 1 [] 0 [97,98] Qxz Qxz)) (by exact Z8 HR.out)).mono ?_;rintro e W1 ⟨bF,bH,bG,bI,bB,bK,bN,bC,bL,bO,bD,bM,bP,bE,bJ,rfl,aW,D⟩;clear V hk;(try (have Z:=Vm D;clear D;have D:=Z;clear Z));have U:=A.later D;clear A;have A:=U;clear U;have O:=Qq (Yh D HR.out);clear HR;have HR:=O;clear O;have N:=Qq (J.out.thn D);clear J;have J:=N;clear N;(try (have h0:=Qq (aB.out.move (.of_below D) Qyv);clear aB;have aB:=h0;clear h0));have T:=Qq aW;clear aW D)
   | fail)
 all_goals
  go_wp2_with fail
  show bodyPost _ _ _ _ _ (put9 _ w aJ (.string aL) aK (.string aM) (.slice aF aO aR) (.slice aG aP aS) (.slice aH aQ aT) aI aN)
  exact Q7 (v:=.agg (Qxh aJ aL aK aM aF aO aR aG aP aS aH aQ aT aI aN)) (by simp [results,results27,go_sem,Xb HR.out]) rfl (Ug aB.out J.out rfl)
theorem As (S:Nat->Prop) (v:Value) (l:List Int) (w:World) (hs:Xa S w v l) (hi:Uh l) (hk:Yo l 0 13=10):
  Calls prog 27 #[v,Qxc] w (J8 w (Gen.check 10)):=by
 have HP:=Qq (fun W (hb:Below w w W)=>Yr S v l 0 13 W (hs.below hb) hi Qvu Qvu)
 rw [hk] at HP
 obtain ⟨p,cap,rfl,_⟩:=hs.len
 clear hs hi hk
 go_enter func27,ntmps27
 go_upto_region 8 with fail
 generalize M:(((((((w.alloc _).alloc _).alloc _).alloc _).alloc _).alloc _).alloc _).alloc _=W8
 have aV:=eqB M (Zs (Zs (Zs (Zs (Zs (Zs (Zs (Ze w _) _) _) _) _) _) _) _)
 have bA:W8=w.heap.size+8:=by rw [<- M];simp
 have r8:=eqH (b:=w.heap.size) M (Zb (Zb (Zb (Zb (Zb (Zb (Zb (Y3 rfl _) _) _) _) _) _) _) _)
 have A:=(((Xq.row (show W8.heap[w.heap.size+1+1+1+1]?=some (.cells zQ 59 (0,0)) from by rw [<- M];exact Zb (Zb (Zb (Y3 Qxz _) _) _) _)).app (Xq.row (show W8.heap[w.heap.size+1]?=some (.cells #[.int .i64 3,.string ⟨#[97]⟩,Qxc,Qxd,Qxe,Qxe,Qxe,Qxc,Qxc] 59 (0,0)) from by rw [<- M];exact Zb (Zb (Zb (Zb (Zb (Zb (Y3 Qxz _) _) _) _) _) _) _))).app (Xq.row (show W8.heap[w.heap.size+1+1+1]?=some (.cells #[.int .i64 3,.string ⟨#[99]⟩,Qxc,Qxd,Qxe,Qxe,Qxe,Qxc,Qxc] 59 (0,0)) from by rw [<- M];exact Zb (Zb (Zb (Zb (Y3 Qxz _) _) _) _) _)))
 have hG:=(Un (Un (X8 (show w<w.heap.size+1+1+1+1 by omega) (.int .i64 3) (.string ⟨#[100]⟩) (.int .i64 0) (.string ⟨#[]⟩) (.slice none 0 0) (.slice none 0 0) (.slice none 0 0) (.int .i64 0) (.int .i64 0)) (X8 (show w<w.heap.size+1 by omega) (.int .i64 3) (.string ⟨#[97]⟩) (.int .i64 0) (.string ⟨#[]⟩) (.slice none 0 0) (.slice none 0 0) (.slice none 0 0) (.int .i64 0) (.int .i64 0))) (X8 (show w<w.heap.size+1+1+1 by omega) (.int .i64 3) (.string ⟨#[99]⟩) (.int .i64 0) (.string ⟨#[]⟩) (.slice none 0 0) (.slice none 0 0) (.slice none 0 0) (.int .i64 0) (.int .i64 0)))
 have aD:=Qq aV;have HR:=Qq r8
 clear M aV r8 bA
 go_upto_region 30 with (go_at_call 28;refine (HP.out _ aD.out).mono ?_;rintro e w' ⟨rfl,rfl⟩)
 refine let_mvar% ?Lq1:=fun w':World=>(Qyw w' (w+1+1+1+1) (.int .i64 3) (.string ⟨#[100]⟩) Qxc Qxd Qxe Qxe Qxe Qxc Qxc ((Qyw w' (w+1) (.int .i64 3) (.string ⟨#[97]⟩) Qxc Qxd Qxe Qxe Qxe Qxc Qxc ((Qye w' (w+1+1+1) (.int .i64 3) (.string ⟨#[99]⟩) Qxc Qxd Qxe Qxe Qxe Qxc Qxc:Prop)):Prop)):Prop);?_
 have HS:=Qq (fun w' (h:Xq (Jn (w+1+1+1+1) (.int .i64 3) (.string ⟨#[100]⟩) (.int .i64 0) (.string ⟨#[]⟩) (.slice none 0 0) (.slice none 0 0) (.slice none 0 0) (.int .i64 0) (.int .i64 0)++Jn (w+1) (.int .i64 3) (.string ⟨#[97]⟩) (.int .i64 0) (.string ⟨#[]⟩) (.slice none 0 0) (.slice none 0 0) (.slice none 0 0) (.int .i64 0) (.int .i64 0)++Jn (w+1+1+1) (.int .i64 3) (.string ⟨#[99]⟩) (.int .i64 0) (.string ⟨#[]⟩) (.slice none 0 0) (.slice none 0 0) (.slice none 0 0) (.int .i64 0) (.int .i64 0)) w')=>(show ?Lq1 w' from Xq.spread h))
 have HG:=Qq hG
 have aE:=Qq (fun w' z0 z1 z2 z3 z4 z5 z6 z7 z8 (h:Xq _ w')=>HS.out _ (h.put9 HG.out z0 z1 z2 z3 z4 z5 z6 z7 z8))
 unfold put9 at aE
 have J:=aD
 clear hG
 obtain ⟨V,Y,aZ⟩:=Qxn True.intro True.intro True.intro
 go_region_held3 ?Lq1 (first | with_reducible exact HS.out _ A | with_reducible exact HS.out _ A.drew | with_reducible exact HS.out _ (A.alloc _) | with_reducible exact HS.out _ (A.alloc _).drew | with_reducible exact HS.out _ ((A.alloc _).alloc _) | with_reducible exact HS.out _ ((A.alloc _).alloc _).drew | with_reducible exact HS.out _ (((A.alloc _).alloc _).alloc _) | with_reducible exact aE.out _ _ _ _ _ _ _ _ _ _ A)
  (first
   | (have hn:=T.out;clear hn;have hk:=Y.out;go_at_call 75;refine (Vg w [97,110,100] _ _ _ _ _ Qxz (by exact (Yq 3 [100] 0 [] Qxz Qxz)) (by exact T.out) (by exact Z8 HR.out)).mono ?_;rintro e W2 ⟨aJ,aL,aK,aM,aF,aO,aR,aG,aP,aS,aH,aQ,aT,aI,aN,rfl,aX,I⟩;clear Y hk;(try (have Z:=Vm I;clear I;have I:=Z;clear Z));have U:=A.later I;clear A;have A:=U;clear U;have O:=Qq (Yh I HR.out);clear HR;have HR:=O;clear O;have N:=Qq (J.out.thn I);clear J;have J:=N;clear N;(try (have h0:=Qq (T.out.move (.of_below I) Qyv);clear T;have T:=h0;clear h0));have aB:=Qq aX;clear aX I;obtain ⟨⟨f0,f1,f2,f3,f4,f5,f6,f7,f8⟩,y0,y1,y2,y3,y4,y5,y6,y7,y8⟩:=Qvv HR.out)
   | (have hk:=V.out;go_at_call 75;refine (Vg w [43] _ _ _ _ _ Qxz (by exact (Yq 3 [97] 0 [] Qxz Qxz)) (by exact (Yq 3 [99] 0 [] Qxz Qxz)) (by exact Z8 HR.out)).mono ?_;rintro e W1 ⟨bF,bH,bG,bI,bB,bK,bN,bC,bL,bO,bD,bM,bP,bE,bJ,rfl,aW,D⟩;clear V hk;(try (have Z:=Vm D;clear D;have D:=Z;clear Z));have U:=A.later D;clear A;have A:=U;clear U;have O:=Qq (Yh D HR.out);clear HR;have HR:=O;clear O;have N:=Qq (J.out.thn D);clear J;have J:=N;clear N;(try (have h0:=Qq (aB.out.move (.of_below D) Qyv);clear aB;have aB:=h0;clear h0));have T:=Qq aW;clear aW D)
   | fail)
 all_goals
  go_wp2_with fail
  show bodyPost _ _ _ _ _ (put9 _ w aJ (.string aL) aK (.string aM) (.slice aF aO aR) (.slice aG aP aS) (.slice aH aQ aT) aI aN)
  exact Q7 (v:=.agg (Qxh aJ aL aK aM aF aO aR aG aP aS aH aQ aT aI aN)) (by simp [results,results27,go_sem,Xb HR.out]) rfl (Ug aB.out J.out rfl)
theorem Py (S:Nat->Prop) (v:Value) (l:List Int) (w:World) (hs:Xa S w v l) (hi:Uh l) (hk:Yo l 0 13=0):
  Calls prog 27 #[v,Qxc] w (J8 w (Gen.check 0)):=by
 have HP:=Qq (fun W (hb:Below w w W)=>Yr S v l 0 13 W (hs.below hb) hi Qvu Qvu)
 rw [hk] at HP
 obtain ⟨p,cap,rfl,_⟩:=hs.len
 clear hs hi hk
 go_enter func27,ntmps27
 go_upto_region 8 with fail
 generalize A:(((((((w.alloc _).alloc _).alloc _).alloc _).alloc _).alloc _).alloc _).alloc _=O
 have M:=eqB A (Zs (Zs (Zs (Zs (Zs (Zs (Zs (Ze w _) _) _) _) _) _) _) _)
 have N:O=w.heap.size+8:=by rw [<- A];simp
 have r8:=eqH (b:=w.heap.size) A (Zb (Zb (Zb (Zb (Zb (Zb (Zb (Y3 rfl _) _) _) _) _) _) _) _)
 have D:=eqH (b:=w.heap.size+1+1+1+1+1+1+1) A (Y3 Qxz _)
 have aF:w.heap.size<O.heap.size:=Qvu
 have aG:w.heap.size≠O.heap.size:=Qvu
 have aE:=Qq N
 clear N
 have J:=Qq M;have I:=Qq r8
 clear A M r8
 obtain ⟨T,U,V,Y,Z,aA,aB,aC,aD⟩:=row9 D
 clear D
 go_upto_region 12 with (go_at_call 28;refine (HP.out _ J.out).mono ?_;rintro e w' ⟨rfl,rfl⟩)
 obtain ⟨y0,y1,y2,y3,y4,y5,y6,y7,y8⟩:=row9 I.out
 obtain ⟨f0,f1,f2,f3,f4,f5,f6,f7,f8⟩:=frz9 I.out
 go_wp2_with fail
 show bodyPost _ _ _ _ _ (put9 O w (.int .i64 2) Qxd (.int .i64 1) Qxd Qxe Qxe Qxe Qxc Qxc)
 exact Q7 (v:=.agg #[.int .i64 2,Qxd,.int .i64 1,Qxd,Qxe,Qxe,Qxe,Qxc,Qxc]) (by simp [results,results27,go_sem,Xb I.out]) rfl (Ug (Yq 2 [] 1 [] Qxz Qxz) J.out rfl)
theorem Oi (S:Nat->Prop) (v:Value) (l:List Int) (w:World) (hs:Xa S w v l) (hi:Uh l) (hk:Yo l 0 13=1):
  Calls prog 27 #[v,Qxc] w (J8 w (Gen.check 1)):=by
 have HP:=Qq (fun W (hb:Below w w W)=>Yr S v l 0 13 W (hs.below hb) hi Qvu Qvu)
 rw [hk] at HP
 obtain ⟨p,cap,rfl,_⟩:=hs.len
 clear hs hi hk
 go_enter func27,ntmps27
 go_upto_region 8 with fail
 generalize A:(((((((w.alloc _).alloc _).alloc _).alloc _).alloc _).alloc _).alloc _).alloc _=O
 have M:=eqB A (Zs (Zs (Zs (Zs (Zs (Zs (Zs (Ze w _) _) _) _) _) _) _) _)
 have N:O=w.heap.size+8:=by rw [<- A];simp
 have r8:=eqH (b:=w.heap.size) A (Zb (Zb (Zb (Zb (Zb (Zb (Zb (Y3 rfl _) _) _) _) _) _) _) _)
 have D:=eqH (b:=w.heap.size+1+1+1+1+1+1+1) A (Y3 Qxz _)
 have aF:w.heap.size<O.heap.size:=Qvu
 have aG:w.heap.size≠O.heap.size:=Qvu
 have aE:=Qq N
 clear N
 have J:=Qq M;have I:=Qq r8
 clear A M r8
 obtain ⟨T,U,V,Y,Z,aA,aB,aC,aD⟩:=row9 D
 clear D
 go_upto_region 12 with (go_at_call 28;refine (HP.out _ J.out).mono ?_;rintro e w' ⟨rfl,rfl⟩)
 obtain ⟨y0,y1,y2,y3,y4,y5,y6,y7,y8⟩:=row9 I.out
 obtain ⟨f0,f1,f2,f3,f4,f5,f6,f7,f8⟩:=frz9 I.out
 go_wp2_with fail
 show bodyPost _ _ _ _ _ (put9 O w (.int .i64 2) Qxd (.int .i64 1) Qxd Qxe Qxe Qxe Qxc Qxc)
 exact Q7 (v:=.agg #[.int .i64 2,Qxd,.int .i64 1,Qxd,Qxe,Qxe,Qxe,Qxc,Qxc]) (by simp [results,results27,go_sem,Xb I.out]) rfl (Ug (Yq 2 [] 1 [] Qxz Qxz) J.out rfl)
theorem Ol (S:Nat->Prop) (v:Value) (l:List Int) (w:World) (hs:Xa S w v l) (hi:Uh l) (hk:Yo l 0 13=2):
  Calls prog 27 #[v,Qxc] w (J8 w (Gen.check 2)):=by
 have HP:=Qq (fun W (hb:Below w w W)=>Yr S v l 0 13 W (hs.below hb) hi Qvu Qvu)
 rw [hk] at HP
 obtain ⟨p,cap,rfl,_⟩:=hs.len
 clear hs hi hk
 go_enter func27,ntmps27
 go_upto_region 8 with fail
 generalize A:(((((((w.alloc _).alloc _).alloc _).alloc _).alloc _).alloc _).alloc _).alloc _=O
 have M:=eqB A (Zs (Zs (Zs (Zs (Zs (Zs (Zs (Ze w _) _) _) _) _) _) _) _)
 have N:O=w.heap.size+8:=by rw [<- A];simp
 have r8:=eqH (b:=w.heap.size) A (Zb (Zb (Zb (Zb (Zb (Zb (Zb (Y3 rfl _) _) _) _) _) _) _) _)
 have D:=eqH (b:=w.heap.size+1+1+1+1+1+1+1) A (Y3 Qxz _)
 have aF:w.heap.size<O.heap.size:=Qvu
 have aG:w.heap.size≠O.heap.size:=Qvu
 have aE:=Qq N
 clear N
 have J:=Qq M;have I:=Qq r8
 clear A M r8
 obtain ⟨T,U,V,Y,Z,aA,aB,aC,aD⟩:=row9 D
 clear D
 go_upto_region 12 with (go_at_call 28;refine (HP.out _ J.out).mono ?_;rintro e w' ⟨rfl,rfl⟩)
 obtain ⟨y0,y1,y2,y3,y4,y5,y6,y7,y8⟩:=row9 I.out
 obtain ⟨f0,f1,f2,f3,f4,f5,f6,f7,f8⟩:=frz9 I.out
 go_wp2_with fail
 show bodyPost _ _ _ _ _ (put9 O w (.int .i64 2) Qxd (.int .i64 1) Qxd Qxe Qxe Qxe Qxc Qxc)
 exact Q7 (v:=.agg #[.int .i64 2,Qxd,.int .i64 1,Qxd,Qxe,Qxe,Qxe,Qxc,Qxc]) (by simp [results,results27,go_sem,Xb I.out]) rfl (Ug (Yq 2 [] 1 [] Qxz Qxz) J.out rfl)
theorem Qzk (S:Nat->Prop) (v:Value) (l:List Int) (w:World) (hs:Xa S w v l) (hi:Uh l) (hk:Yo l 0 13=9):
  Calls prog 27 #[v,Qxc] w (J8 w (Gen.check 9)):=by
 have HP:=Qq (fun W (hb:Below w w W)=>Yr S v l 0 13 W (hs.below hb) hi Qvu Qvu)
 rw [hk] at HP
 obtain ⟨p,cap,rfl,_⟩:=hs.len
 clear hs hi hk
 go_enter func27,ntmps27
 go_upto_region 8 with fail
 generalize D:(((((((w.alloc _).alloc _).alloc _).alloc _).alloc _).alloc _).alloc _).alloc _=A
 have aQ:=eqB D (Zs (Zs (Zs (Zs (Zs (Zs (Zs (Ze w _) _) _) _) _) _) _) _)
 have aT:A=w.heap.size+8:=by rw [<- D];simp
 have r8:=eqH (b:=w.heap.size) D (Zb (Zb (Zb (Zb (Zb (Zb (Zb (Y3 rfl _) _) _) _) _) _) _) _)
 have hc:=eqH (b:=w.heap.size+1+1+1) D (Zb (Zb (Zb (Zb (Y3 Qxz _) _) _) _) _)
 have bL:w.heap.size<A.heap.size:=Qvu
 have bM:w.heap.size≠A.heap.size:=Qvu
 have bK:=Qq aT
 clear aT
 have V:=Qq aQ;have Y:=Qq r8
 clear D aQ r8
 obtain ⟨c0,c1,c2,c3,c4,c5,c6,c7,c8⟩:=row9 hc
 clear hc
 go_upto_region 28 with (go_at_call 28;refine (HP.out _ V.out).mono ?_;rintro e w' ⟨rfl,rfl⟩)
 go_wp2_with (first
   | (go_at_call 75;refine (Vg w [61,61] _ _ (Qxh aY bA aZ bB aU bD bG aV bE bH aW bF bI aX bC) [.int .i64 1,Qxd,Qxc,Qxd,Qxe,Qxe,Qxe,Qxc,Qxc] _ Qxz I.out (Yq 1 [] 0 [] Qxz Qxz) (by have h:=(T.out:Below A A _).size;omega)).mono ?_;rintro e w2 ⟨aD,aF,aE,aG,Z,aI,aL,aA,aJ,aM,aB,aK,aN,aC,aH,rfl,aS,N⟩;have J:Below A A w2:=(T.out).thn N;have M:=kE J (show w<A.heap.size by omega) Y.out;obtain ⟨y0,y1,y2,y3,y4,y5,y6,y7,y8⟩:=row9 M;obtain ⟨f0,f1,f2,f3,f4,f5,f6,f7,f8⟩:=frz9 M;clear M;obtain ⟨bJ,O,U⟩:=Qxn (I.out.move (.of_below N) Qyv) aS J;clear aS N J)
   | (go_at_call 75;refine (Vg w [43,43] _ _ [.int .i64 3,.string ⟨#[99]⟩,Qxc,Qxd,Qxe,Qxe,Qxe,Qxc,Qxc] [.int .i64 3,.string ⟨#[99]⟩,Qxc,Qxd,Qxe,Qxe,Qxe,Qxc,Qxc] _ Qxz (Yq 3 [99] 0 [] Qxz Qxz) (Yq 3 [99] 0 [] Qxz Qxz) (by have h:=((Qz _ _):Below A A _).size;omega)).mono ?_;rintro e w1 ⟨aY,bA,aZ,bB,aU,bD,bG,aV,bE,bH,aW,bF,bI,aX,bC,rfl,aR,aP⟩;have aO:Below A A w1:=((Qz _ _)).thn aP;have I:=Qq aR;have T:=Qq aO;clear aR aP aO))
 have hR:=kE U.out Qvu Y.out
 show bodyPost _ _ _ _ _ (put9 w2 w aD (.string aF) aE (.string aG) (.slice Z aI aL) (.slice aA aJ aM) (.slice aB aK aN) aC aH)
 exact Q7 (v:=.agg (Qxh aD aF aE aG Z aI aL aA aJ aM aB aK aN aC aH)) (by simp [results,results27,go_sem,Xb hR]) rfl (Ug O.out (V.out.thn U.out) rfl)
theorem Aq (S:Nat->Prop) (v:Value) (l:List Int) (w:World) (hs:Xa S w v l) (hi:Uh l) (hk:Yo l 0 13=12):
  Calls prog 27 #[v,Qxc] w (J8 w (Gen.check 12)):=by
 have HP:=Qq (fun W (hb:Below w w W)=>Yr S v l 0 13 W (hs.below hb) hi Qvu Qvu)
 rw [hk] at HP
 obtain ⟨p,cap,rfl,_⟩:=hs.len
 clear hs hi hk
 go_enter func27,ntmps27
 go_upto_region 8 with fail
 generalize M:(((((((w.alloc _).alloc _).alloc _).alloc _).alloc _).alloc _).alloc _).alloc _=O
 have aA:=eqB M (Zs (Zs (Zs (Zs (Zs (Zs (Zs (Ze w _) _) _) _) _) _) _) _)
 have aB:O=w.heap.size+8:=by rw [<- M];simp
 have r8:=eqH (b:=w.heap.size) M (Zb (Zb (Zb (Zb (Zb (Zb (Zb (Y3 rfl _) _) _) _) _) _) _) _)
 have Z:w.heap.size<O.heap.size:=Qvu
 have aE:w.heap.size≠O.heap.size:=Qvu
 have aD:=Qq aB
 clear aB
 have T:=Qq aA;have aC:=Qq r8
 clear M aA r8
 go_upto_region 33 with (go_at_call 28;refine (HP.out _ T.out).mono ?_;rintro e w' ⟨rfl,rfl⟩)
 have D:=Qq True.intro
 go_wp2_with (have hk:=D.out;clear D hk;generalize I:World.alloc O _=W9;have J:=eqB I (Ze _ _);have N:=eqH (b:=O.heap.size) I (Qw _ _);have A:=kE J Z aC.out;obtain ⟨y0,y1,y2,y3,y4,y5,y6,y7,y8⟩:=row9 A;obtain ⟨f0,f1,f2,f3,f4,f5,f6,f7,f8⟩:=frz9 A;obtain ⟨V,U,Y⟩:=Qxn N J A;clear I N J A)
 show bodyPost _ _ _ _ _ (put9 W9 w (.int .i64 4) (.string ⟨#[97,110,121]⟩) Qxc Qxd Qxe Qxe (Qxa O 0 1 1) Qxc Qxc)
 exact Q7 (v:=.agg #[.int .i64 4,.string ⟨#[97,110,121]⟩,Qxc,Qxd,Qxe,Qxe,Qxa O 0 1 1,Qxc,Qxc]) (by simp [results,results27,go_sem,Xb Y.out]) rfl (Ug (Xv (nm:=[97,110,121]) (s:=[]) Qxz Qxz (Sl.nil _ _ _) (Sl.nil _ _ _) (Y2 (xs:=[Ex.mk 9 [] 0 [] [] [] [] 0 0]) V.out Z (Cs.one (r:=Vw) (x:=Ex.mk 9 [] 0 [] [] [] [] 0 0) (c:=[.int .i64 9,.string ⟨#[]⟩,.int .i64 0,.string ⟨#[]⟩,.slice none 0 0,.slice none 0 0,.slice none 0 0,.int .i64 0,.int .i64 0]) (show Y1 _ _ _ _ from Yq 9 [] 0 [] Qxz Qxz)) rfl rfl Qxz)) (T.out.thn U.out) rfl)
theorem Wf (S:Nat->Prop) (v:Value) (l:List Int) (w:World) (hs:Xa S w v l) (hi:Uh l) (hk:Yo l 0 13=11):
  Calls prog 27 #[v,Qxc] w (J8 w (Gen.check 11)):=by
 have HP:=Qq (fun W (hb:Below w w W)=>Yr S v l 0 13 W (hs.below hb) hi Qvu Qvu)
 rw [hk] at HP
 obtain ⟨p,cap,rfl,_⟩:=hs.len
 clear hs hi hk
 go_enter func27,ntmps27
 go_upto_region 8 with fail
 generalize I:(((((((w.alloc _).alloc _).alloc _).alloc _).alloc _).alloc _).alloc _).alloc _=W8
 have bF:=eqB I (Zs (Zs (Zs (Zs (Zs (Zs (Zs (Ze w _) _) _) _) _) _) _) _)
 have bH:W8=w.heap.size+8:=by rw [<- I];simp
 have r8:=eqH (b:=w.heap.size) I (Zb (Zb (Zb (Zb (Zb (Zb (Zb (Y3 rfl _) _) _) _) _) _) _) _)
 have ha:=eqH (b:=w.heap.size+1) I (Zb (Zb (Zb (Zb (Zb (Zb (Y3 Qxz _) _) _) _) _) _) _)
 have hb:=eqH (b:=w.heap.size+1+1) I (Zb (Zb (Zb (Zb (Zb (Y3 Qxz _) _) _) _) _) _)
 have aB:=eqH (b:=w.heap.size+1+1+1+1+1+1) I (Zb (Y3 Qxz _) _)
 have Z:w.heap.size<W8.heap.size:=Qvu
 have bO:w.heap.size≠W8.heap.size:=Qvu
 have bM:=Qq bH
 clear bH
 have aO:=Qq bF;have bK:=Qq r8
 clear I bF r8
 obtain ⟨a0,a1,a2,a3,a4,a5,a6,a7,a8⟩:=row9 ha
 clear ha
 obtain ⟨b0,b1,b2,b3,b4,b5,b6,b7,b8⟩:=row9 hb
 clear hb
 obtain ⟨aC,aD,aE,aF,aG,aH,aI,aJ,aK⟩:=row9 aB
 clear aB
 go_upto_region 32 with (go_at_call 28;refine (HP.out _ aO.out).mono ?_;rintro e w' ⟨rfl,rfl⟩)
 have O:=Qq True.intro;have T:=Qq True.intro
 go_wp2_with (first
   | (have hk:=O.out;clear O hk;generalize U:World.alloc W8 _=W9;have A:=eqB U (Ze _ _);have aA:=eqH (b:=W8.heap.size) U (Qw _ _);have a0:=kC A a0;have a1:=kC A a1;have a2:=kC A a2;have a3:=kC A a3;have a4:=kC A a4;have a5:=kC A a5;have a6:=kC A a6;have a7:=kC A a7;have a8:=kC A a8;have aC:=kC A aC;have aD:=kC A aD;have aE:=kC A aE;have aF:=kC A aF;have aG:=kC A aG;have aH:=kC A aH;have aI:=kC A aI;have aJ:=kC A aJ;have aK:=kC A aK;have aP:=Qq aA;have M:=Qq A;clear U aA A)
   | (have hk:=T.out;clear T hk;generalize J:World.alloc W9 _=bN;have V:=eqB J (Ze _ _);have N:=eqH (b:=W9.heap.size) J (Qw _ _);have aL:=Qq N;have D:=Qq V;clear J N V)
   | (go_at_call 75;refine (Vg w [33,61] _ _ [.int .i64 9,Qxd,Qxc,Qxd,Qxe,Qxe,Qxa W8 0 2 2,Qxc,Qxc] [.int .i64 9,Qxd,Qxc,Qxd,Qxe,Qxe,Qxa W9 0 2 2,Qxc,Qxc] _ Qxz (Xv (nm:=[]) (s:=[]) Qxz Qxz (Sl.nil _ _ _) (Sl.nil _ _ _) (Y2 (xs:=[Gen.a,Gen.b]) (kB D.out aP.out) Z ((Cs.one (r:=Vw) (Yq 3 [97] 0 [] Qxz Qxz)).app (Cs.one (r:=Vw) (Yq 3 [98] 0 [] Qxz Qxz))) rfl rfl Qxz)) (Xv (nm:=[]) (s:=[]) Qxz Qxz (Sl.nil _ _ _) (Sl.nil _ _ _) (Y2 (xs:=[Gen.one,Gen.a]) aL.out (Qa Z M.out.size) ((Cs.one (r:=Vw) (Yq 0 [] 1 [] Qxz Qxz)).app (Cs.one (r:=Vw) (Yq 3 [97] 0 [] Qxz Qxz))) rfl rfl Qxz)) (Qa Z (M.out.thn D.out).size)).mono ?_;rintro e w1 ⟨aU,aW,aV,aX,aQ,aZ,bC,aR,bA,bD,aS,bB,bE,aT,aY,rfl,bG,aM⟩;have Y:=kE (M.out.thn (D.out.thn aM)) Z bK.out;obtain ⟨y0,y1,y2,y3,y4,y5,y6,y7,y8⟩:=row9 Y;obtain ⟨f0,f1,f2,f3,f4,f5,f6,f7,f8⟩:=frz9 Y;have bJ:=Qq Y;clear Y;have H1:=Qq bG;have bI:=Qq aM;clear bG aM))
 show bodyPost _ _ _ _ _ (put9 w1 w aU (.string aW) aV (.string aX) (.slice aQ aZ bC) (.slice aR bA bD) (.slice aS bB bE) aT aY)
 exact Q7 (v:=.agg (Qxh aU aW aV aX aQ aZ bC aR bA bD aS bB bE aT aY)) (by simp [results,results27,go_sem,Xb bJ.out]) rfl (Ug H1.out (aO.out.thn (M.out.thn (D.out.thn bI.out))) rfl)
end Go.Proofs.YtlanplhphiikjaaGreatDoor
