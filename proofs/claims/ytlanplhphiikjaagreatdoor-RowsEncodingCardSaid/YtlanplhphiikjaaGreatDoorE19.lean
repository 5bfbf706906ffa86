import Derived.Test.YtlanplhphiikjaaGreatDoorE15
import Derived.Test.YtlanplhphiikjaaGreatDoorE10
import Derived.Test.YtlanplhphiikjaaGreatDoorE16
set_option maxRecDepth 100000
set_option maxHeartbeats 400000000
namespace Go.Proofs.YtlanplhphiikjaaGreatDoor
open Go.RowKit Go.Shelf Go.Lib Tryz
def atP {T:Type} (p:T->Bool) (xs:List T):Option T:=match xs.findIdx? p with
 | none=>none
 | some i=>xs[i]?
theorem Uf {T:Type} (p:T->Bool) (xs:List T):(Vi p xs=-1/\atP p xs=none)\/∃ (i:Nat) (x:T),Vi p xs=i/\xs[i]?=some x/\atP p xs=some x:=by
 unfold Vi atP
 cases h:xs.findIdx? p with
 | none=>exact .inl ⟨rfl,rfl⟩
 | some i=>
  obtain ⟨hi,_,_⟩:=List.findIdx?_eq_some_iff_getElem.1 h
  exact .inr ⟨i,xs[i],rfl,Qx hi,Qx hi⟩
def J1 (s:Sc) (l:List Rel) (tn:Bs) (key:List Val):Option Val:=match Yy s.tables tn,atP (fun r=>decide (r.table=tn)) l with
 | some t,some r=>if key.length=0 then none else atP (lkP t.key key) r.rows
 | _,_=>none
def LookIs (w:World) (o:Option Val) (e:Ending) (w':World):Prop:=
 ∃ cs',e=.returned (.tuple #[.agg cs'.toArray,.bool o.isSome])/\Za (fun _=>True) w' cs' (o.getD Val.zero)/\Below w w w'
theorem Df (w:World) (A B C:Obj):(((w.alloc A).alloc B).alloc C).heap[w.heap.size+1]?=some B:=
 ((Ze ((w.alloc A).alloc B) C).block (w+1) Qxz).trans (Q6 w A B)
def LookIsS (S:Nat->Prop) (w:World) (o:Option Val) (e:Ending) (w':World):Prop:=
 ∃ cs',e=.returned (.tuple #[.agg cs'.toArray,.bool o.isSome])/\Za S w' cs' (o.getD Val.zero)/\Below w w w'
theorem Pp (S0 S1 S2:Nat->Prop) (s:Sc) (cs:List Value) (lv:Value) (l:List Rel) (tn:Bs) (kv:Value) (key:List Val) (w:World) (hs:Vj S0 w cs s) (hl0:Sl Yx S1 w lv l) (hkv0:Sl Zc S2 w kv key) (hkl:∀ t ∈ s.tables,t.key.length<=1000):
  Calls prog 121 #[cs,lv,sv tn,kv] w (LookIsS S1 w (J1 s l tn key)):=by
 have hl:=hl0.up
 have aQ:Sl Zc (fun b=>b<w) w kv key:=hkv0.mono (fun b hb _=>hb)
 have HT:=Qq (fun W (hb:Below w w W)=>Qkf S0 s cs tn W (hs.below hb))
 have HX:=Qq (fun W (hb:Below w w W)=>N5 _ lv l tn W (hl.below hb))
 obtain ⟨uv,tv,rfl,hu,ht⟩:=hs
 obtain ⟨up,uc,rfl,_⟩:=hu.len
 obtain ⟨tp,tc,rfl,_⟩:=ht.len
 obtain ⟨lp,lc,rfl,dL⟩:=hl.len
 obtain ⟨kp,kc,rfl,cR⟩:=aQ.len
 have HL:=Qq hl;have cC:=Qq aQ
 have bV:((Yy s.tables tn).getD Tbl.zero).key.length<=1000:=by
  cases h:Yy s.tables tn with
  | none=>simp [Tbl.zero]
  | some t=>exact hkl t (List.mem_of_find?_eq_some h)
 have aR:J1 s l tn key=(match Yy s.tables tn,atP (fun r=>decide (r.table=tn)) l with
  | some t,some r=>if key.length=0 then none else atP (lkP t.key key) r.rows
  | _,_=>none):=rfl
 obtain ⟨o,ho⟩:=eX (J1 s l tn key)
 rw [ho] at aR |-
 have aK:=Qq aR;have aZ:=Qq bV
 clear aR bV ho hl hl0 aQ hkv0 hu ht hkl
 unfold sv at HT HX |-
 go_enter func121,ntmps121
 go_wp2_with fail
 refine (HT.out _ (U8 _ _ _ _)).mono ?_
 rintro e w1 ⟨ct,rfl,hT,aB⟩
 obtain ⟨T,aN⟩:=eX ((Yy s.tables tn).getD Tbl.zero)
 rw [aN] at hT aZ
 obtain ⟨dA,cZ,dN,dM,dW,dV,k9,dX,n9,dY,dS,dP,cW,dT,dQ,cX,dU,dR,cY,a9,z9,bS,_⟩:=Yj hT
 simp only [tcs] at bS
 subst bS
 obtain ⟨bF,bG,aI⟩:=Qxn aN hT ((U8 _ _ _ _).thn aB)
 have bK:=(aB.block (w+1) Qxz).trans (Df w _ _ _)
 have bM:=(aB.block (w+1+1) Qxz).trans (Yz w _ _ _)
 have aX:=Qq bK;have bA:=Qq bM
 clear aN hT aB bK bM
 obtain ⟨ok,aS⟩:=eX ((Yy s.tables tn).isSome)
 rw [aS]
 have aL:=Qq aS
 clear aS
 go_upto_region 2 with fail
 generalize aO:w1.alloc _=w5
 have U:=eqB aO (Ze _ _)
 have aP:=eqH (b:=w1.heap.size) aO (Qw _ _)
 obtain ⟨X,hX⟩:=eX (w1.heap.size)
 have bL:=kB U aX.out
 have bN:=kB U bA.out
 have bP:=Zl.frame bG.out (.of_below U)
 have aG:=aI.out.thn U
 have cM:=aI.out.size
 rw [hX] at aP cM |-
 obtain ⟨bI,aY,bB,bE,aJ⟩:=Qxp aP bL bN bP aG
 clear U aP aO hX bL bN bP aG aX bA bG aI HT
 go_wp2_with fail
 refine (HX.out _ aJ.out).mono ?_
 rintro e w3 ⟨rfl,J⟩
 have bQ:=kB J bI.out
 have aM:=kB J aY.out
 have I:=kB J bB.out
 have bO:=Zl.frame bE.out (.of_below J)
 have aF:=aJ.out.thn J
 have k0:=Qk _ _ 0 _ _ _ aM
 obtain ⟨r0,r1,r2,r3,r4⟩:=frz5 I
 have y0:=Qk _ _ 0 _ _ _ I;have y1:=Qk _ _ 1 _ _ _ I;have y2:=Qk _ _ 2 _ _ _ I;have y3:=Qk _ _ 3 _ _ _ I;have y4:=Qk _ _ 4 _ _ _ I
 simp only [Qf,Qg,Qh] at k0 y0 y1 y2 y3 y4
 obtain ⟨bH,cV,N,cF,A⟩:=Qxp bQ aM I bO aF
 clear J bQ aM I bO aF bI aY bB bE aJ HX
 rcases Uf (fun r:Rel=>decide (r.table=tn)) l with ⟨hi,ha⟩ | ⟨i,rl,hi,aT,ha⟩
 ·-- no such relation
  have M:o=none:=by rw [aK.out,ha];cases Yy s.tables tn <;> rfl
  have HO:=Qq M
  rw [hi]
  clear M hi ha
  cases ok
  ·go_wp2_with fail
   show bodyPost _ _ _ _ _ (Zp w3 (w+1+1) Qxc Qxc Qxd Qxe Qxe)
   refine Q7 (v:=.tuple #[.agg zV,.bool false]) (by simp [results,results121,go_sem,Zd N.out]) rfl ?_
   rw [HO.out]
   exact ⟨_,rfl,Yw _ _,Zf A.out Qvu⟩
  go_wp2_with fail
  show bodyPost _ _ _ _ _ (Zp w3 (w+1+1) Qxc Qxc Qxd Qxe Qxe)
  refine Q7 (v:=.tuple #[.agg zV,.bool false]) (by simp [results,results121,go_sem,Zd N.out]) rfl ?_
  rw [HO.out]
  exact ⟨_,rfl,Yw _ _,Zf A.out Qvu⟩
 obtain ⟨lb,cT,dO,cK,cJ,_,_,⟨rv,bX,_,aD⟩,bW⟩:=HL.out.elem aT
 subst bX
 have dE:i<l.length:=(Qj aT).1
 have d1:=bW 1 rv rfl
 subst cK
 rw [hi]
 have dB:(0:Int)<=(i:Int):=Qvu
 have dC:(i:Int)<(l.length:Int):=Qvu
 have dD:decide ((i:Int)<0)=false:=Qxz
 obtain ⟨rp,rc,rfl,cS⟩:=aD.len
 have Y:=Qq aK.out
 rw [ha] at Y
 clear aK hi ha aT bW
 cases ok with
 | false=>
  have M:o=none:=by
   have h:=Y.out
   have h2:=aL.out
   cases hn:Yy s.tables tn with
   | none=>rw [hn] at h;exact h
   | some t=>rw [hn] at h2;cases h2
  have HO:=Qq M
  clear M d1
  go_wp2_with fail
  show bodyPost _ _ _ _ _ (Zp w3 (w+1+1) Qxc Qxc Qxd Qxe Qxe)
  refine Q7 (v:=.tuple #[.agg zV,.bool false]) (by simp [results,results121,go_sem,Zd N.out]) rfl ?_
  rw [HO.out]
  exact ⟨_,rfl,Yw _ _,Zf A.out Qvu⟩
 | true=>
  have M:o=if key.length=0 then none else atP (lkP T.key key) rl.rows:=by
   have h:=Y.out
   have h2:=aL.out
   have h3:=bF.out
   cases hn:Yy s.tables tn with
   | none=>rw [hn] at h2;cases h2
   | some t=>rw [hn] at h h3;rw [show T=t from h3.symm];exact h
  clear Y aL bF
  by_cases hk0:key.length=0
  ·rw [if_pos hk0] at M
   have HO:=Qq M
   clear M d1
   rw [hk0] at k0
   go_wp2_with fail
   show bodyPost _ _ _ _ _ (Zp w3 (w+1+1) Qxc Qxc Qxd Qxe Qxe)
   refine Q7 (v:=.tuple #[.agg zV,.bool false]) (by simp [results,results121,go_sem,Zd N.out]) rfl ?_
   rw [HO.out]
   exact ⟨_,rfl,Yw _ _,Zf A.out Qvu⟩
  rw [if_neg hk0] at M
  have dJ:((key.length:Int)==0)=false:=by simpa using hk0
  have dK:decide ((key.length:Int)=0)=false:=by simpa using hk0
  have Z:=Qq M
  have cD:=Qq (aD.mono (S':=fun _=>True) (fun _ _ _=>trivial))
  have bD:=Qq aD
  have e1:=kD A.out cJ d1
  rw [show Yx.k=2 from rfl] at e1
  have HI:=Qq (Rz Tryz.ixVal Zc isAgg48 sizeOf48 183 #[Qxb X,Qxb (w+1)] (enters_of func183 Qxx rfl) (fun _=>True) (.slice rp rl.rows.length rc) rl.rows w3 _ (cD.out.below A.out)
   (Qqu X (w+1) (fun _=>True) T _ (.slice kp key.length kc) key rl.rows w3 (fun j u h=>by rw [Qk _ _ j _ _ _ bH.out];simpa using h) (Z8 bH.out) cF.out aZ.out k0 ((cC.out.below A.out).mono (fun _ _ _=>trivial))))
  clear M aD d1
  go_wp2_with fail
  refine HI.out.mono ?_
  rintro e w6 ⟨rfl,aC⟩
  have aA:=kB aC N.out
  have aH:=A.out.thn aC
  clear r0 r1 r2 r3 r4 y0 y1 y2 y3 y4
  obtain ⟨r0,r1,r2,r3,r4⟩:=frz5 aA
  obtain ⟨y0,y1,y2,y3,y4⟩:=row5 aA
  have e2:=kC aC e1
  have bC:=Qq aA;have D:=Qq aH
  clear aA aH aC e1 HI
  rcases Uf (lkP T.key key) rl.rows with ⟨hj,O⟩ | ⟨j,u,hj,hu,O⟩
  ·rw [O] at Z
   rw [hj]
   have HO:=Z
   clear hj O
   go_wp2_with fail
   show bodyPost _ _ _ _ _ (Zp w6 (w+1+1) Qxc Qxc Qxd Qxe Qxe)
   refine Q7 (v:=.tuple #[.agg zV,.bool false]) (by simp [results,results121,go_sem,Zd bC.out]) rfl ?_
   rw [HO.out]
   exact ⟨_,rfl,Yw _ _,Zf D.out Qvu⟩
  rw [O] at Z
  obtain ⟨xb,cU,p3,k3,p4,k4,cL,V,bY,g0,g1,g2,g3,g4⟩:=bD.out.val hu
  subst cL
  have dI:j<rl.rows.length:=(Qj hu).1
  have dF:(0:Int)<=(j:Int):=Qvu
  have dG:(j:Int)<(rl.rows.length:Int):=Qvu
  have dH:decide ((j:Int)<0)=false:=Qxz
  rw [hj]
  have t0:=kD D.out V g0;have t1:=kD D.out V g1;have t2:=kD D.out V g2;have t3:=kD D.out V g3;have t4:=kD D.out V g4
  have cG:=Qq bY
  clear g0 g1 g2 g3 g4 bY hj O hu
  go_wp2_with fail
  show bodyPost _ _ _ _ _ (Qxl w6 (w+1+1) u p3 k3 p4 k4)
  refine Q7 (v:=.tuple #[.agg (Qxf u p3 k3 p4 k4),.bool true]) (by simp [results,results121,go_sem,Zd bC.out]) rfl ?_
  rw [Z.out]
  refine ⟨_,rfl,?_,Zf D.out Qvu⟩
  exact Za.move cG.out (fun b hb _=>(Zi (by have:=hb.2;omega)).trans (D.out.block b hb.2)) (fun _ _ h=>h.1)
theorem Af (S0 S1 S2:Nat->Prop) (s:Sc) (cs:List Value) (lv:Value) (l:List Rel) (tn:Bs) (kv:Value) (key:List Val) (w:World) (hs:Vj S0 w cs s) (hl0:Sl Yx S1 w lv l) (hkv0:Sl Zc S2 w kv key) (hkl:∀ t ∈ s.tables,t.key.length<=1000):
  Calls prog 121 #[cs,lv,sv tn,kv] w (LookIs w (J1 s l tn key)):=
 (Pp S0 S1 S2 s cs lv l tn kv key w hs hl0 hkv0 hkl).mono fun _ _ ⟨cs',h1,h2,h3⟩=>⟨cs',h1,h2.move (.refl _ _) (fun _ _ _=>trivial),h3⟩
theorem Hs {A B:Type} (p:A->B->Bool) {a:List A} {b:List B} {k:Nat} {x:A} {y:B} (hx:a[k]?=some x) (hy:b[k]?=some y):eqL p (a.drop k) (b.drop k)=(p x y&&eqL p (a.drop (k+1)) (b.drop (k+1))):=by
 obtain ⟨hk,rfl⟩:=Qj hx
 obtain ⟨D,rfl⟩:=Qj hy
 rw [Qp hk,Qp D];rfl
theorem Bh (S S':Nat->Prop) (av bv:Value) (a b:List Val) (w:World) (ha:Sl Zc S w av a) (hb:Sl Zc S' w bv b):
  Calls prog 40 #[av,bv] w fun e w'=>e=.returned (.bool (eqL eqv a b))/\Gr w w':=by
 obtain ⟨pa,ca,rfl,aD⟩:=ha.len
 obtain ⟨pb,cb,rfl,aE⟩:=hb.len
 have HA:=Qq ha;have HB:=Qq hb
 have mixed:prog.follows .mixedOrders=true:=Qxx
 obtain ⟨r,hr⟩:=eX (eqL eqv a b)
 rw [hr]
 have HR:=Qq hr
 clear ha hb hr
 by_cases hlen:a.length=b.length
 ·obtain ⟨n,hn⟩:=eX (a.length)
  have hm:b.length=n:=Qvu
  have HN:=Qq hn;have HM:=Qq hm
  rw [hn] at HA aD |-
  rw [hm] at HB aE |-
  have M:((n:Int) != (n:Int))=false:=Qxz
  clear hn hm hlen
  go_enter func40,ntmps40
  go_wp2_with fail
  go_loopw [5] (fun i wr=>∃ k:Nat,k<=n/\i=.int .i64 k/\Aside (eqL eqv (a.drop k) (b.drop k)=r)/\Aside (Gr w wr)) (fun i _=>n - (intOf i).toNat)
  case atStart=>exact ⟨0,Q8 _,rfl,HR.out,Gr.refl _⟩
  obtain ⟨k,hk,rfl,A,hG⟩:=hrel
  have Y:=Qq (show Gr w wr from hG);have HE:=Qq (show eqL eqv (a.drop k) (b.drop k)=r from A)
  clear hG A
  by_cases hlt:k<n
  ·have aM:(0:Int)<=(k:Int):=Qvu
   have aN:(k:Int)<(n:Int):=Qvu
   obtain ⟨x,hx⟩:∃ x,a[k]?=some x:=⟨_,Qx (by rw [HN.out];exact hlt)⟩
   obtain ⟨y,hy⟩:∃ y,b[k]?=some y:=⟨_,Qx (by rw [HM.out];exact hlt)⟩
   obtain ⟨ga,oa,p3,k3,p4,k4,rfl,D,aB,d0,d1,d2,d3,d4⟩:=(HA.out.below Y.out.bl).val hx
   obtain ⟨gb,ob,q3,l3,q4,l4,rfl,I,aC,e0,e1,e2,e3,e4⟩:=(HB.out.below Y.out.bl).val hy
   have T:=Jt aB aC
   have D0:=Zm D d0;have D1:=Zm D d1;have D2:=Zm D d2;have D3:=Zm D d3;have D4:=Zm D d4
   have E0:=Zm I e0;have E1:=Zm I e1;have E2:=Zm I e2;have E3:=Zm I e3;have E4:=Zm I e4
   have O:=O5 x y
   have U:=Hs eqv hx hy
   rw [HE.out] at U
   generalize Yk x y=c at T O
   have V:=Qq O;have Z:=Qq U
   clear hx hy aB aC d0 d1 d2 d3 d4 e0 e1 e2 e3 e4 O U
   by_cases M:(c==0)=true
   ·have aH:(c != 0)=false:=by simpa using M
    have N:eqL eqv (a.drop (k+1)) (b.drop (k+1))=r:=by rw [Z.out,<- V.out,M,Bool.true_and]
    have aA:=Qq N
    clear N M
    go_wp2_with fail
    go_quiet_grown (first | (go_at_call 74;refine Calls.grown_of (T _ _)))
    go_wp2_with fail
    go_roundw
    case measure=>simp [intOf];omega
    case rel=>exact ⟨k+1,Qvu,by go_num,aA.out,Y.out.thn (Y7 _ _ _)⟩
   have aH:(c != 0)=true:=by simpa using M
   have J:r=false:=by rw [Z.out,<- V.out,Qt _ |>.mp M,Bool.false_and]
   subst J
   clear M
   go_wp2_with fail
   go_quiet_grown (first | (go_at_call 74;refine Calls.grown_of (T _ _)))
   go_wp2_with fail
   go_ret
   exact ⟨rfl,Y.out.thn (Y7 _ _ _)⟩
  have aL:¬ (k:Int)<(n:Int):=Qvu
  have:k=n:=Qvu
  subst this
  have J:r=true:=by
   rw [<- HE.out,Qu (by rw [HN.out];exact Q9 _),Qu (by rw [HM.out];exact Q9 _)];rfl
  subst J
  go_wp2_with fail
  go_ret
  exact ⟨rfl,Y.out⟩
 have J:r=false:=by rw [<- HR.out];exact Ut eqv a b hlen
 subst J
 have M:((a.length:Int) != (b.length:Int))=true:=by rw [bne_iff_ne];omega
 clear hlen
 go_enter func40,ntmps40
 go_wp2_with fail
 go_ret
 exact ⟨rfl,Gr.refl _⟩
theorem Ss {s:Sc} {k:Nat} {x:Tbl} (hx:s.tables[k]?=some x):(X7 s).take (k+1)=(X7 s).take k++[⟨x.name,[]⟩]:=by
 unfold X7
 rw [<- List.map_take,<- List.map_take]
 obtain ⟨hk,rfl⟩:=Qj hx
 rw [Zz hk,List.map_append];rfl
theorem To (S:Nat->Prop) (s:Sc) (cs:List Value) (w:World) (hs:Vj S w cs s) (hl0:s.tables.length<=1000):
  Calls prog 76 #[cs] w (Qza (fun _=>False) w (X7 s)):=by
 obtain ⟨uv,tv,rfl,hu,aI⟩:=hs
 have ht:Sl Zl (fun b=>b<w) w tv s.tables:=aI.mono (fun b hb _=>hb)
 obtain ⟨up,uc,rfl,_⟩:=hu.len
 obtain ⟨tp,tc,rfl,_⟩:=ht.len
 have HT:=Qq ht
 clear hu ht aI
 obtain ⟨i0,j1,j2,j3,j4⟩:=Y4 (P:=prog) (t:=42) (z:=.agg #[Qxd,Qxe]) (n:=2) (b:=40) Qxx
 obtain ⟨HJ,aL,aM,aN⟩:=Qxo j1 j2 j3 j4
 clear j1 j2 j3 j4
 unfold Qza
 have J:(X7 s).length=s.tables.length:=by unfold X7;simp
 rw [J]
 obtain ⟨n,hn⟩:=eX (s.tables.length)
 rw [hn] at HT hl0 |-
 have HN:=Qq hn;have N:=Qq J
 clear hn J
 go_enter func76,ntmps76
 go_wp2_with fail
 generalize I:w.alloc _=W1
 have aD:=eqB I (Ze _ _)
 have aB:=eqH (b:=w.heap.size) I (Qw _ _)
 have aJ:=Qq aD;have O:=Qq aB
 clear I aD aB
 go_loopw [3,4] (fun o i wr=>∃ (k:Nat) (p:Option Addr) (cap:Nat),k<=n/\i=.int .i64 k/\o=.slice p k cap/\Below (w+1) W1 wr/\(∃ css,Own Ym 42 (fun _=>False) (w+1) wr (.slice p k cap) ((X7 s).take k) css)) (fun _ i _=>n - (intOf i).toNat)
 case atStart=>exact ⟨0,none,0,Q8 _,rfl,rfl,Qz _ _,[],Own.nil _ _ _ _ _⟩
 obtain ⟨k,p,cap,bG,rfl,rfl,A,css,hO⟩:=hrel
 have bI:=Z8 O.out
 have aC:=kE A Qvu O.out
 have aE:Below w w wr:=aJ.out.trans (A.mono Qvu)
 have bH:=A.size
 obtain ⟨aK,M,HO⟩:=Qxn A aE hO
 obtain ⟨c0,c1⟩:=row2 aC
 clear aC A aE hO
 have aH:((X7 s).take k).length=k:=by rw [Qm,N.out,HN.out];omega
 have aP:=Qq aH
 clear aH
 by_cases hlt:k<n
 ·have bE:(0:Int)<=(k:Int):=Qvu
  have bF:(k:Int)<(n:Int):=Qvu
  obtain ⟨x,hx⟩:∃ x,s.tables[k]?=some x:=⟨_,Qx (by rw [HN.out];exact hlt)⟩
  obtain ⟨b,off,cs,rfl,bD,_,_,hR,hc⟩:=(HT.out.below M.out).elem hx
  obtain ⟨bC,bB,bK,bJ,bS,bR,k9,bT,n9,bU,bO,bL,aY,bP,bM,aZ,bQ,bN,bA,a9,z9,aF,aX,_⟩:=Yj hR
  simp only [tcs] at aF
  subst aF
  have d0:=hc 0 _ rfl
  rw [show Zl.k=13 from rfl,Nat.add_zero] at d0
  have aA:Ym.R (But (fun _=>False) (.slice p k cap)) wr [x.name,Qxe] ⟨x.name,[]⟩:=⟨_,rfl,aX,Sl.nil _ _ _,⟨_,_,rfl,Q9 _⟩⟩
  have aS:=Qq aA
  have D:=Ss hx
  have aT:=Qq D
  clear hx hc hR aA D
  go_wp2_with (at_builtin;refine Yf (r:=Ym) Qxv rfl (.tmp 12) (.tmp 20) _ rfl 42 i0 (.agg #[Qxd,Qxe]) 40 underlying29 HJ.out aL.out aM.out aN.out rfl Qvu (fun _=>False) (w+1) wr (.slice p k cap) ((X7 s).take k) css [x.name,Qxe] ⟨x.name,[]⟩ rfl HO.out rfl aS.out (by simp [Value.oneCell']) k aP.out Qvu Qvu ?_;intro p7 T U w7 Z V;have aR:=Qq Z;have aO:=Qq V;clear Z V)
  go_roundw
  case measure=>simp [intOf];omega
  case rel=>
   refine ⟨k+1,p7,T,Qvu,by go_num,rfl,aK.out.trans aO.out.below,U,?_⟩
   rw [aT.out];exact aR.out
 have aG:k=n:=Qvu
 subst aG
 go_wp2_with fail
 go_ret
 have D:(X7 s).take k=X7 s:=Zj (by rw [N.out,HN.out];exact Q9 _)
 have Y:=HO.out
 rw [D] at Y
 exact ⟨p,cap,css,rfl,Y.weak Qvu (fun b _ h=>h.elim),M.out⟩
def Qjq (S:Nat->Prop) (w W1:World) (r:Option Val) (t10 t11:Value) (wx:World):Prop:=
 ∃ (G:Nat) (uk un:Int) (us:ByteArray) (u3:Option Addr) (m3 l3:Nat) (u4:Option Addr) (m4 l4:Nat) (b:Bool),t10=.pointer (some ⟨G,0,none⟩)/\t11=.bool b/\wx.heap[G]?=some (.cells #[uk,un,.string us,.slice u3 m3 l3,.slice u4 m4 l4] 48 (0,0))/\Below W1 W1 wx/\W1<=G/\EvS (fun c=>(S c/\c<w)\/W1<=c) wx [uk,un,.string us,.slice u3 m3 l3,.slice u4 m4 l4] r b
def WithMid (S:Nat->Prop) (w W1:World) (r:Option Val) (i:Value) (wr:World):Prop:=(i=.int .i64 1/\W1=wr) \/
 (i=.int .i64 2/\Below w w wr/\∃ (uk un:Int) (us:ByteArray) (u3:Option Addr) (m3 l3:Nat) (u4:Option Addr) (m4 l4:Nat),wr.heap[w.heap.size+1]?=some (.cells zV 48 (0,0))/\wr.heap[w.heap.size+1+1]?=some (.cells #[uk,un,.string us,.slice u3 m3 l3,.slice u4 m4 l4] 48 (0,0))/\∃ v,Za (fun c=>(S c/\c<w)\/w+3<=c) wr [uk,un,.string us,.slice u3 m3 l3,.slice u4 m4 l4] v/\Y0 v/\r=some v)
theorem Ps (nm:Bs) (n:Int) (sx:Bs) (names binds:List Bs) (kids:List Ex) (a z:Int) (S:Nat->Prop) (ce:List Value) (vv:Value) (vals:List Val) (w:World) (he:Y1 S w ce (.mk 7 nm n sx names binds kids a z)) (hv0:Sl Zc S w vv vals) (hb:∀ v ∈ vals,Y0 v) (x1:Bs) (hnames:names=[x1]) (v0 v1:Val) (hvals:vals=[v0,v1]):Calls prog 248 #[ce,vv] w (Xy S w (Xr 7 nm names vals)):=by
 subst hnames;subst hvals
 have hv:Sl Zc (fun b=>S b/\b<w) w vv [v0,v1]:=hv0.mono (fun b hb h=>⟨h,hb⟩)
 obtain ⟨vp,vc,rfl,dR⟩:=hv.len
 obtain ⟨nv,bv,kv,rfl,dP,dQ,hn,cC,hk⟩:=Yd.1 he
 obtain ⟨p1,c1,rfl,_⟩:=hn.len
 obtain ⟨p2,c2,rfl,_⟩:=cC.len
 obtain ⟨p3,c3,rfl,_⟩:=hk.len
 obtain ⟨HV,bC,bE⟩:=Qxn hv hb hn
 clear he hv0 hv hn cC hk hb
 unfold sv
 simp only [List.length_cons,List.length_nil,Nat.zero_add,Nat.reduceAdd] at HV bE |-
 have mixed:prog.follows .mixedOrders=true:=Qxx
 obtain ⟨vb,A,q3,e3,q4,e4,dF,aF,aE,d0,d1,d2,d3,d4⟩:=HV.out.val (i:=0) (x:=v0) rfl
 obtain ⟨dI,aX,r3,f3,r4,f4,cF,_,aL,g0,g1,g2,g3,g4⟩:=HV.out.val (i:=1) (x:=v1) rfl
 subst dF
 obtain ⟨rfl,rfl⟩:vb=dI/\A=aX:=by simpa using cF
 obtain ⟨nb,aN,dC,aI,_⟩:=bE.out.str (i:=0) (x:=x1) rfl
 subst dC
 have dB:=Qv _ _ aI
 simp only [Nat.zero_mul,Nat.one_mul,Nat.add_zero] at d0 d1 d2 d3 d4 g0 g1 g2 g3 g4 aI
 have cO:=Qq (bC.out v0 Qxz);have bA:=Qq (bC.out v1 Qxz)
 have HW:=Qq (fun W (hb:Below w w W)=>Qzo (fun b=>S b/\b<w) v0 v1 x1 (Qxf v0 q3 e3 q4 e4) (Qxf v1 r3 f3 r4 f4) W (Za.move aE (.of_below hb) Qyv) (Za.move aL (.of_below hb) Qyv) cO.out bA.out)
 unfold sv at HW
 have dL:=Qq aE
 have GG:=Qq (Qe g0 (Qe g1 (Qe g2 (Qe g3 (Qe g4 aI)))))
 clear aE aL cF g0 g1 g2 g3 g4 aI
 go_enter func248,ntmps248
 go_upto_region 13 with fail
 generalize aD:((w.alloc _).alloc _).alloc _=I
 have cB:=eqB aD (U8 _ _ _ _)
 have bY:=eqH (b:=w.heap.size) aD (Yc _ _ _ _)
 have cA:=eqH (b:=w.heap.size+1) aD (Y8 _ _ _ _)
 have aR:=eqH (b:=w.heap.size+1+1) aD (Yz _ _ _ _)
 obtain ⟨N,cW,bJ,cR⟩:=Qxo cB cA aR bY
 have cG:=Z8 aR
 clear aD cB cA bY aR d0 d1 d2 d3 d4
 go_wp2_with fail
 go_loopw [9,10,11,12] (fun i _ _ _ wr=>WithMid S w I (Dh v0 x1 v1) i wr) (fun i _ _ _ _=>2 - (intOf i).toNat)
 case atStart=>exact .inl ⟨rfl,rfl⟩
 rcases hrel with ⟨rfl,rfl⟩ | ⟨rfl,cE,J,un,us,Z,V,T,u4,Y,U,hZ,hX,v,hv,cD,aU⟩
 ·obtain ⟨bN,bP,bR,bT,bV,aK⟩:=GG.out
  refine let_mvar% ?Lq1:=fun w':World=>(Qyy w' (w+1+1) v0.kind v0.n v0.s (.slice q3 v0.names.length e3) (.slice q4 v0.kids.length e4) (Qxw w' w 4 (Qxa nb aN 1 c1)/\Qxw w' nb aN x1/\Qxw w' vb (A+5) v1.kind/\Qxw w' vb (A+5+1) v1.n/\Qxw w' vb (A+5+2) v1.s/\Qxw w' vb (A+5+3) (.slice r3 v1.names.length f3)/\Qxw w' vb (A+5+4) (.slice r4 v1.kids.length f4)/\Below I I w'):Prop);?_
  have HS:∀ w',Below I I w'->?Lq1 w':=by
   intro w' h
   have hh:∀ {b j:Nat} {u:Value},b<w->w.cell? ⟨b,j,none⟩=some u->w'.cell? ⟨b,j,none⟩=some u:=fun {b j u} hlt2 hc=>(h.cell (p:=⟨b,j,none⟩) (Qa hlt2 N.out.size)).trans (kD N.out hlt2 hc)
   have hV:=kE h cG bJ.out
   have hE:=kB h cR.out
   exact ⟨Qk _ _ 0 _ _ _ hV,Qk _ _ 1 _ _ _ hV,Qk _ _ 2 _ _ _ hV,Qk _ _ 3 _ _ _ hV,Qk _ _ 4 _ _ _ hV,Qk _ _ 4 _ _ _ hE,hh dB aK,hh aF bN,hh aF bP,hh aF bR,hh aF bT,hh aF bV,h⟩
  have D:∀ w',?Lq1 w'->Below I I w':=fun w' h=>h.2.2.2.2.2.2.2.2.2.2.2.2
  have HA:∀ w' o,?Lq1 w'->?Lq1 (w'.alloc o):=fun w' o h=>HS _ ((D w' h).alloc (D w' h).size o)
  have HP:∀ w' a b c d e,?Lq1 w'->?Lq1 (Zp w' I a b c d e):=fun w' a b c d e h=>HS _ (Zf (D w' h) (Q9 _))
  unfold Zp at HP
  have HC:=Qq (fun W' (h':?Lq1 W')=>(HW.out W' (N.out.thn (D _ h'))).mono (R':=fun e w2=>∃ (J un:Int) (us:ByteArray) (Z:Option Addr) (V T:Nat) (u4:Option Addr) (Y U:Nat) (b:Bool),e=.returned (.tuple #[.agg #[J,un,.string us,.slice Z V T,.slice u4 Y U],.bool b])/\EvS (fun c=>(S c/\c<w)\/W'<=c) w2 [J,un,.string us,.slice Z V T,.slice u4 Y U] (Dh v0 x1 v1) b/\Below W' W' w2/\I<=W'.heap.size/\?Lq1 w2) (by
   rintro e w2 ⟨J,un,us,Z,V,T,u4,Y,U,b,rfl,h3,h4⟩
   exact ⟨J,un,us,Z,V,T,u4,Y,U,b,rfl,h3,h4,(D _ h').size,HS _ ((D _ h').thn h4)⟩))
  obtain ⟨bH,bI,bD,M,aO,bF⟩:=Qxr (HS I.drew (Qz _ _).drew) (HS I (Qz _ _)) (fun w' (h:?Lq1 w')=>HS w'.drew (D w' h).drew) D HA HP
  clear HS D HA HP bN bP bR bT bV aK
  have dS:IntKind.i64.wrap 0=0:=Qxv
  go_upto_region 16 with fail
  go_cut [10,11] from 55 to 100 (fun dG aW wx=>Qjq S w I (Dh v0 x1 v1) dG aW wx)
  case first=>
   go_region_held3 ?Lq1 (first | with_reducible exact bH.out | with_reducible exact O | with_reducible exact bD.out _ (aO.out _ _ bI.out) | with_reducible exact aO.out _ _ O | with_reducible exact bF.out _ _ _ _ _ _ O)
    (first
     | (go_at_call 225;refine (HC.out _ Qxy).mono ?_;rintro e w2 ⟨J,un,us,Z,V,T,u4,Y,U,b,rfl,aJ,aS,dJ,O⟩;(try (have r2:w2.heap[I.heap.size]?=some (.cells zV 48 (0,0)):=(aS.block I Qxz).trans (Qw I _);obtain ⟨y0,y1,y2,y3,y4⟩:=row5 r2;obtain ⟨g0,g1,g2,g3,g4⟩:=frz5 r2;have cT:=Qq r2;clear r2));have bK:=Qq aJ;have dK:=Qq aS;clear aJ aS))
   all_goals
    go_wp2_with fail
    go_meet
   ·exact ⟨w2.heap.size,J,un,us,Z,V,T,u4,Y,U,b,rfl,rfl,Qw _ _,(M.out _ O).thn (Ze _ _),(M.out _ O).size,bK.out.map fun v h1=>h1.move (.of_below (Ze _ _)) (fun c _ h=>by rcases h with h | h;exact .inl h;exact .inr (by simpa using h))⟩
   show Qjq S w I _ _ _ (Zp w2 I _ _ _ _ _)
   exact ⟨I.heap.size,J,un,us,Z,V,T,u4,Y,U,b,rfl,rfl,Vx cT.out,Zf (M.out _ O) (Q9 _),Q9 _,bK.out.map fun v h1=>h1.move (S':=fun c=>(S c/\c<w)\/I<c) (.refl _ _) (fun c _ h=>by rcases h with h | h;exact .inl h;exact .inr (by have h':=h;simp at h';omega)) |>.move (fun c hc _=>Zi (by rcases hc with h | h;exact (by have:=h.2;have:=N.out.size;omega);omega)) (fun c _ h=>by rcases h with h | h;exact .inl h;exact .inr Qvu)⟩
  obtain ⟨G,J,un,us,Z,V,T,u4,Y,U,b,rfl,rfl,hG,aH,dM,aM⟩:=hcut
  obtain ⟨HG,bB,bL⟩:=Qxn hG aH aM
  have dN:=Z8 hG
  have aQ:=Qq (kE aH cG bJ.out);have aG:=Qq (kB aH cW.out)
  clear HC bH bI bD M aO bF hG aH aM
  go_wp2_with fail
  go_loopw [11,12] (fun aW dH wr=>aW=.bool b/\dH=.int .i64 0/\wc=wr) (fun _ _ _=>0)
  case atStart=>exact ⟨rfl,rfl,rfl⟩
  obtain ⟨rfl,rfl,rfl⟩:=hrel
  obtain ⟨c0,c1,c2,c3,c4⟩:=row5 aQ.out
  obtain ⟨f0,f1,f2,f3,f4⟩:=frz5 aQ.out
  obtain ⟨g0,g1,g2,g3,g4⟩:=row5 HG.out
  obtain ⟨z0,z1,z2,z3,z4⟩:=row5 aG.out
  obtain ⟨h0,h1,h2,h3,h4⟩:=frz5 aG.out
  cases b with
  | false=>
   go_wp2_with fail
   show bodyPost _ _ _ _ _ (Qxl wc (w+1) v0 q3 e3 q4 e4)
   refine Q7 (v:=.tuple #[.agg (Qxf v0 q3 e3 q4 e4),.bool false]) (by simp [results,results248,go_sem,Zd aG.out]) rfl ⟨_,_,_,_,_,_,_,_,_,false,rfl,.no (by unfold Xr;rw [if_neg Qxv,if_neg Qxv,if_neg Qxv,if_neg Qxv,if_pos rfl];exact bL.out.2 rfl),Zf (N.out.thn bB.out) Qvu⟩
  | true=>
   go_wp2_with fail
   go_roundw
   case measure=>simp [intOf]
   case rel=>
    obtain ⟨v,dD,aJ,dE⟩:=bL.out.1 rfl
    refine .inr ⟨rfl,?_,J,un,us,Z,V,T,u4,Y,U,?_,?_,v,?_,aJ,dE⟩
    ·exact Zf (N.out.thn bB.out) Qvu
    ·show (Zp wc (w+1+1) J un (.string us) (.slice Z V T) (.slice u4 Y U)).heap[_]?=_
     rw [Zi Qvu];exact aG.out
    ·exact Vx aQ.out
    exact (dD.move (S':=fun c=>(S c/\c<w)\/w+3<=c) (.refl _ _) (fun c _ h=>by rcases h with h | h;exact .inl h;exact .inr Qvu)).move (fun c hc _=>Zi (by rcases hc with h | h;exact (by have:=h.2;omega);omega)) Qyv
 have bG:=Qq (show J=4/\Xr 7 nm [x1] [v0,v1]=some v from ⟨(Za.head hv).1.symm.trans (Tg aU),by unfold Xr;rw [if_neg Qxv,if_neg Qxv,if_neg Qxv,if_neg Qxv,if_pos rfl];exact aU⟩)
 clear aU
 obtain ⟨cQ,HZ,HX,cV,cP⟩:=Qxp cE hZ hX hv cD
 obtain ⟨c0,c1,c2,c3,c4⟩:=row5 hX
 obtain ⟨z0,z1,z2,z3,z4⟩:=row5 hZ
 obtain ⟨h0,h1,h2,h3,h4⟩:=frz5 hZ
 clear cE hZ hX hv cD
 have dO:=Z8 HZ.out
 go_upto_region 24 with fail
 go_region_with fail
 all_goals
  go_wp2_with fail
  show bodyPost _ _ _ _ _ (Zp wr (w+1) J un (.string us) (.slice Z V T) (.slice u4 Y U)).drew
  refine Q7 (v:=.tuple #[.agg #[J,un,.string us,.slice Z V T,.slice u4 Y U],.bool (J==4)]) (by simp [results,results248,go_sem,Zd HZ.out]) rfl ⟨_,_,_,_,_,_,_,_,_,_,rfl,⟨fun _=>⟨v,?_,cP.out,bG.out.2⟩,fun hf=>absurd hf (by rw [bG.out.1];simp)⟩,(Zf cQ.out Qvu).drew⟩
  exact cV.out.move (fun c hc _=>by rw [show ∀ W:World,W.drew.heap=W.heap from fun _=>rfl];exact Zi (by rcases hc with h | h;exact (by have:=h.2;omega);omega)) (fun c _ h=>by rcases h with h | h;exact .inl h.1;exact .inr Qvu)
theorem Zb {W:World} {b:Nat} {o:Obj} (h:W.heap[b]?=some o) (o':Obj):(W.alloc o').heap[b]?=some o:=((Ze W o').block b (Z8 h)).trans h
theorem Y3 {W:World} {n:Nat} (h:W=n) (o:Obj):(W.alloc o).heap[n]?=some o:=by subst h;exact Qw W o
theorem Wa {T:Type} (r:Rd T) (S:Nat->Prop) (w:World) (p:Option Addr) (c:Nat):Sl r S w (.slice p 0 c) []:=⟨p,c,rfl,Qxz,fun h=>absurd rfl h⟩
theorem P6 (S:Nat->Prop) (w:World) (p1 p2 p3:Option Addr) (c1 c2 c3:Nat):Y1 S w [.int .i64 2,Qxd,.int .i64 1,Qxd,.slice p1 0 c1,.slice p2 0 c2,.slice p3 0 c3,Qxc,Qxc] Gen.yes:=
 Xv (nm:=[]) (s:=[]) Qxz Qxz (Wa _ _ _ _ _) (Wa _ _ _ _ _) (Wa _ _ _ _ _)
theorem Uz {S:Nat->Prop} {w:World} (nm:Bs) (k:Int) (tn:Bs) (h1:nm.length<=1000000) (h2:tn.length<=1000000):Xw.R S w [nm,k,tn,Qxc,Qxe,Qxe] ⟨nm,.mk k tn 0 [] []⟩:=
 ⟨_,rfl,h1,Dy h2 (Sl.nil _ _ _) (Sl.nil _ _ _)⟩
theorem O8 {S:Nat->Prop} {w:World} (nm:Bs) (b:Bool) (k:Int) (h1:nm.length<=1000000):Mp.R S w [nm,.bool b,k,Qxd,Qxc,Qxe,Qxe] ⟨nm,b,.mk k [] 0 [] []⟩:=
 ⟨_,rfl,h1,Dy (s:=[]) Qxz (Sl.nil _ _ _) (Sl.nil _ _ _)⟩
theorem Dq {S:Nat->Prop} {w:World} (a:Bs) (ha:a.length<=1000000):Cs Zg S w [[.string ⟨a.toArray⟩]] [a]:=Cs.one (r:=Zg) (x:=a) (show Zg.R S w [a] a from ⟨rfl,ha⟩)
def J8 (w:World) (x:Ex) (e:Ending) (w':World):Prop:=∃ cs,e=.returned (.agg cs.toArray)/\Y1 (fun b=>w<=b) w' cs x/\Below w w w'
def NewSc (w:World) (x:Sc) (e:Ending) (w':World):Prop:=∃ cs,e=.returned (.agg cs.toArray)/\Vj (fun b=>w<=b) w' cs x/\Below w w w'
theorem Zs {w W:World} (h:Below w w W) (o:Obj):Below w w (W.alloc o):=h.alloc h.size o
def put9 (W:World) (R:Nat) (a0 a1 a2 a3 a4 a5 a6 a7 a8:Value):World:=(((((((((W.setCell ⟨R,0,none⟩ a0).setCell ⟨R,1,none⟩ a1).setCell ⟨R,2,none⟩ a2).setCell ⟨R,3,none⟩ a3).setCell ⟨R,4,none⟩ a4).setCell ⟨R,5,none⟩ a5).setCell ⟨R,6,none⟩ a6).setCell ⟨R,7,none⟩ a7).setCell ⟨R,8,none⟩ a8)
theorem Qqj {W:World} {R:Nat} {a0 a1 a2 a3 a4 a5 a6 a7 a8 x0 x1 x2 x3 x4 x5 x6 x7 x8:Value} {t:TypeId} (h:W.heap[R]?=some (.cells #[x0,x1,x2,x3,x4,x5,x6,x7,x8] t (0,0))):(put9 W R a0 a1 a2 a3 a4 a5 a6 a7 a8).heap[R]?=some (.cells #[a0,a1,a2,a3,a4,a5,a6,a7,a8] t (0,0)):=by
 have A:=Qi _ _ 0 _ _ a0 h;have A:=Qi _ _ 1 _ _ a1 A;have A:=Qi _ _ 2 _ _ a2 A;have A:=Qi _ _ 3 _ _ a3 A;have A:=Qi _ _ 4 _ _ a4 A;have A:=Qi _ _ 5 _ _ a5 A;have A:=Qi _ _ 6 _ _ a6 A;have A:=Qi _ _ 7 _ _ a7 A;have A:=Qi _ _ 8 _ _ a8 A
 simpa [put9] using A
theorem M5 {W:World} {R k:Nat} {a0 a1 a2 a3 a4 a5 a6 a7 a8:Value} (h:k≠R):(put9 W R a0 a1 a2 a3 a4 a5 a6 a7 a8).heap[k]?=W.heap[k]?:=by
 unfold put9
 repeat rw [Z9 h]
theorem Ah {B R:Nat} {w W:World} {a0 a1 a2 a3 a4 a5 a6 a7 a8:Value} (h:Below B w W) (hR:B<=R):Below B w (put9 W R a0 a1 a2 a3 a4 a5 a6 a7 a8):=
 ((((((((h.setCell (p:=⟨R,0,none⟩) hR _).setCell (p:=⟨R,1,none⟩) hR _).setCell (p:=⟨R,2,none⟩) hR _).setCell (p:=⟨R,3,none⟩) hR _).setCell (p:=⟨R,4,none⟩) hR _).setCell (p:=⟨R,5,none⟩) hR _).setCell (p:=⟨R,6,none⟩) hR _).setCell (p:=⟨R,7,none⟩) hR _).setCell (p:=⟨R,8,none⟩) hR _
theorem Xb {W:World} {R:Nat} {a0 a1 a2 a3 a4 a5 a6 a7 a8 x0 x1 x2 x3 x4 x5 x6 x7 x8:Value} {t:TypeId} (h:W.heap[R]?=some (.cells #[x0,x1,x2,x3,x4,x5,x6,x7,x8] t (0,0))) (j:Nat):(put9 W R a0 a1 a2 a3 a4 a5 a6 a7 a8).cell? ⟨R,j,none⟩=#[a0,a1,a2,a3,a4,a5,a6,a7,a8][j]?:=
 Qk _ _ _ _ _ _ (Qqj h)
def ExIs (S:Nat->Prop) (w:World) (x:Ex) (e:Ending) (w':World):Prop:=∃ ek es en et e1 f1 g1 e2 f2 g2 e3 f3 g3 ea ez,e=.returned (.agg (Qxh ek es en et e1 f1 g1 e2 f2 g2 e3 f3 g3 ea ez))/\Y1 (fun b=>S b\/w<=b) w' (Qxh ek es en et e1 f1 g1 e2 f2 g2 e3 f3 g3 ea ez) x/\Below w w w'
theorem rop_any (S:Nat->Prop) (o:Bs) (a b:Ex) (ca cb:List Value) (w:World) (ho:o.length<=1000000) (ha0:Y1 S w ca a) (hb0:Y1 S w cb b):
  Calls prog 75 #[sv o,ca,cb] w (ExIs S w (Gen.op o [a,b])):=by
 have M:Y1 (fun c=>S c/\c<w) w ca a:=ha0.move (.refl _ _) (fun b hb h=>⟨h,hb⟩)
 have hb:Y1 (fun c=>S c/\c<w) w cb b:=hb0.move (.refl _ _) (fun b hb h=>⟨h,hb⟩)
 obtain ⟨aD,aH,aF,aJ,T,aN,aT,V,aP,aV,Z,aR,aX,aB,aL,N⟩:=Y1.cells M
 obtain ⟨aE,aI,aG,aK,U,aO,aU,Y,aQ,aW,aA,aS,aY,aC,aM,O⟩:=Y1.cells hb
 subst N;subst O
 have HA:=Qq M;have HB:=Qq hb
 clear M hb ha0 hb0
 unfold sv
 go_enter func75,ntmps75
 go_wp2_with fail
 generalize A:(((w.alloc _).alloc _).alloc _).alloc _=W1
 have D:=eqB A (Zs (Zs (Zs (Ze w _) _) _) _)
 have J:=eqH (b:=w.heap.size+1+1) A (Zb (Y3 Qxz _) _)
 have I:=eqH (b:=w.heap.size+1+1+1) A (Y3 Qxz _)
 clear A
 refine Q7 (v:=.agg #[.int .i64 14,o,Qxc,Qxd,Qxe,Qxe,Qxa (w+1+1+1) 0 2 2,Qxc,Qxc]) (by simp [results,results75,go_sem,Qk _ _ _ _ _ _ J]) rfl ⟨_,_,_,_,_,_,_,_,_,_,_,_,_,_,_,rfl,?_,D⟩
 refine Xv ho (s:=[]) Qxz (Sl.nil _ _ _) (Sl.nil _ _ _) ?_
 exact Y2 I (.inr Qvu) ((Cs.one (r:=Vw) ((HA.out.move (.of_below D) Qyv).move (.refl _ _) (fun b _ h=>.inl h.1))).app (Cs.one (r:=Vw) ((HB.out.move (.of_below D) Qyv).move (.refl _ _) (fun b _ h=>.inl h.1)))) rfl rfl Qxz
end Go.Proofs.YtlanplhphiikjaaGreatDoor
