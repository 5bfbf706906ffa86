import Derived.Test.YtcljcblceodciaaGreatDoorU10
import Derived.Test.YtcljcblceodciaaGreatDoorU08
set_option maxRecDepth 100000
set_option maxHeartbeats 400000000
namespace Go.Proofs.YtcljcblceodciaaGreatDoor
open Go.RowKit Go.Shelf Go.Lib Tryz
def atP {T:Type} (p:T->Bool) (xs:List T):Option T:=match xs.findIdx? p with
 | none=>none
 | some i=>xs[i]?
theorem V5 {T:Type} (p:T->Bool) (xs:List T):(Vx p xs=-1/\atP p xs=none)\/∃ (i:Nat) (x:T),Vx p xs=i/\xs[i]?=some x/\atP p xs=some x:=by
 unfold Vx atP
 cases h:xs.findIdx? p with
 | none=>exact .inl ⟨rfl,rfl⟩
 | some i=>
  obtain ⟨hi,_,_⟩:=List.findIdx?_eq_some_iff_getElem.1 h
  exact .inr ⟨i,xs[i],rfl,Qx hi,Qx hi⟩
def V6 (s:Sc) (l:List Rel) (tn:Bs) (key:List Val):Option Val:=match Yq s.tables tn,atP (fun r=>decide (r.table=tn)) l with
 | some t,some r=>if key.length=0 then none else atP (lkP t.key key) r.rows
 | _,_=>none
def LookIs (w:World) (o:Option Val) (e:Ending) (w':World):Prop:=
 ∃ cs',e=.returned (.tuple #[.agg cs'.toArray,.bool o.isSome])/\Z9 (fun _=>True) w' cs' (o.getD Val.zero)/\Below w w w'
theorem Ul (w:World) (A B C:Obj):(((w.alloc A).alloc B).alloc C).heap[w.heap.size+1]?=some B:=
 ((Zg ((w.alloc A).alloc B) C).block (w+1) Ca).trans (Q6 w A B)
def M1 (S:Nat->Prop) (w:World) (o:Option Val) (e:Ending) (w':World):Prop:=
 ∃ cs',e=.returned (.tuple #[.agg cs'.toArray,.bool o.isSome])/\Z9 S w' cs' (o.getD Val.zero)/\Below w w w'
theorem Ki (S0 S1 S2:Nat->Prop) (s:Sc) (cs:List Value) (lv:Value) (l:List Rel) (tn:Bs) (kv:Value) (key:List Val) (w:World) (hs:Xt S0 w cs s) (hl0:Sl Y6 S1 w lv l) (hkv0:Sl Zd S2 w kv key) (hkl:∀ t ∈ s.tables,t.key.length<=1000):
  Calls prog 14 #[cs,lv,sv tn,kv] w (M1 S1 w (V6 s l tn key)):=by
 have hl:=hl0.up
 have aP:Sl Zd (fun b=>b<w) w kv key:=hkv0.mono (fun b hb _=>hb)
 have HT:=Qq (fun W (hb:Below w w W)=>Wj S0 s cs tn W (hs.below hb))
 have HX:=Qq (fun W (hb:Below w w W)=>G5 _ lv l tn W (hl.below hb))
 obtain ⟨uv,tv,rfl,hu,ht⟩:=hs
 obtain ⟨up,uc,rfl,_⟩:=hu.len
 obtain ⟨tp,tc,rfl,_⟩:=ht.len
 obtain ⟨lp,lc,rfl,dK⟩:=hl.len
 obtain ⟨kp,kc,rfl,cQ⟩:=aP.len
 have HL:=Qq hl;have cB:=Qq aP
 have bU:((Yq s.tables tn).getD Tbl.zero).key.length<=1000:=by
  cases h:Yq s.tables tn with
  | none=>simp [Tbl.zero]
  | some t=>exact hkl t (List.mem_of_find?_eq_some h)
 have aQ:V6 s l tn key=(match Yq s.tables tn,atP (fun r=>decide (r.table=tn)) l with
  | some t,some r=>if key.length=0 then none else atP (lkP t.key key) r.rows
  | _,_=>none):=rfl
 obtain ⟨o,ho⟩:=eX (V6 s l tn key)
 rw [ho] at aQ |-
 have aJ:=Qq aQ;have aY:=Qq bU
 clear aQ bU ho hl hl0 aP hkv0 hu ht hkl
 unfold sv at HT HX |-
 go_enter func14,ntmps14
 go_wp2_with fail
 refine (HT.out _ (Xm _ _ _ _)).mono ?_
 rintro e w1 ⟨ct,rfl,hT,aA⟩
 obtain ⟨T,aM⟩:=eX ((Yq s.tables tn).getD Tbl.zero)
 rw [aM] at hT aY
 obtain ⟨cZ,cY,dM,dL,dV,dU,k9,dW,n9,dX,dR,dO,cV,dS,dP,cW,dT,dQ,cX,a9,z9,bR,_⟩:=Zt hT
 simp only [tcs] at bR
 subst bR
 obtain ⟨bE,bF,aH⟩:=Qjq aM hT ((Xm _ _ _ _).thn aA)
 have bJ:=(aA.block (w+1) Ca).trans (Ul w _ _ _)
 have bL:=(aA.block (w+1+1) Ca).trans (Zl w _ _ _)
 have aW:=Qq bJ;have aZ:=Qq bL
 clear aM hT aA bJ bL
 obtain ⟨ok,aR⟩:=eX ((Yq s.tables tn).isSome)
 rw [aR]
 have aK:=Qq aR
 clear aR
 go_upto_region 2 with fail
 generalize aN:w1.alloc _=w5
 have O:=eqB aN (Zg _ _)
 have aO:=eqH (b:=w1.heap.size) aN (Qw _ _)
 obtain ⟨X,hX⟩:=eX (w1.heap.size)
 have bK:=kB O aW.out
 have bM:=kB O aZ.out
 have bO:=Zm.frame bF.out (.of_below O)
 have aF:=aH.out.thn O
 have cL:=aH.out.size
 rw [hX] at aO cL |-
 obtain ⟨bH,aX,bA,bD,aI⟩:=Qjk aO bK bM bO aF
 clear O aO aN hX bK bM bO aF aW aZ bF aH HT
 go_wp2_with fail
 refine (HX.out _ aI.out).mono ?_
 rintro e w3 ⟨rfl,I⟩
 have bP:=kB I bH.out
 have aL:=kB I aX.out
 have G:=kB I bA.out
 have bN:=Zm.frame bD.out (.of_below I)
 have aE:=aI.out.thn I
 have k0:=Qk _ _ 0 _ _ _ aL
 obtain ⟨r0,r1,r2,r3,r4⟩:=frz5 G
 have y0:=Qk _ _ 0 _ _ _ G;have y1:=Qk _ _ 1 _ _ _ G;have y2:=Qk _ _ 2 _ _ _ G;have y3:=Qk _ _ 3 _ _ _ G;have y4:=Qk _ _ 4 _ _ _ G
 simp only [Qf,Qg,Qh] at k0 y0 y1 y2 y3 y4
 obtain ⟨bG,cU,M,cE,A⟩:=Qjk bP aL G bN aE
 clear I bP aL G bN aE bH aX bA bD aI HX
 rcases V5 (fun r:Rel=>decide (r.table=tn)) l with ⟨hi,ha⟩ | ⟨i,rl,hi,aS,ha⟩
 ·-- no such relation
  have J:o=none:=by rw [aJ.out,ha];cases Yq s.tables tn <;> rfl
  have HO:=Qq J
  rw [hi]
  clear J hi ha
  cases ok
  ·go_wp2_with fail
   show bodyPost _ _ _ _ _ (Zi w3 (w+1+1) Ci Ci Cl Cm Cm)
   refine Q7 (v:=.tuple #[.agg zV,.bool false]) (by simp [results,results14,go_sem,Ze M.out]) rfl ?_
   rw [HO.out]
   exact ⟨_,rfl,Yi _ _,Zc A.out C7⟩
  go_wp2_with fail
  show bodyPost _ _ _ _ _ (Zi w3 (w+1+1) Ci Ci Cl Cm Cm)
  refine Q7 (v:=.tuple #[.agg zV,.bool false]) (by simp [results,results14,go_sem,Ze M.out]) rfl ?_
  rw [HO.out]
  exact ⟨_,rfl,Yi _ _,Zc A.out C7⟩
 obtain ⟨lb,cS,dN,cJ,cI,_,_,⟨rv,bW,_,aC⟩,bV⟩:=HL.out.elem aS
 subst bW
 have dD:i<l.length:=(Qj aS).1
 have d1:=bV 1 rv rfl
 subst cJ
 rw [hi]
 have dA:(0:Int)<=(i:Int):=C7
 have dB:(i:Int)<(l.length:Int):=C7
 have dC:decide ((i:Int)<0)=false:=Ca
 obtain ⟨rp,rc,rfl,cR⟩:=aC.len
 have V:=Qq aJ.out
 rw [ha] at V
 clear aJ hi ha aS bV
 cases ok with
 | false=>
  have J:o=none:=by
   have h:=V.out
   have h2:=aK.out
   cases hn:Yq s.tables tn with
   | none=>rw [hn] at h;exact h
   | some t=>rw [hn] at h2;cases h2
  have HO:=Qq J
  clear J d1
  go_wp2_with fail
  show bodyPost _ _ _ _ _ (Zi w3 (w+1+1) Ci Ci Cl Cm Cm)
  refine Q7 (v:=.tuple #[.agg zV,.bool false]) (by simp [results,results14,go_sem,Ze M.out]) rfl ?_
  rw [HO.out]
  exact ⟨_,rfl,Yi _ _,Zc A.out C7⟩
 | true=>
  have J:o=if key.length=0 then none else atP (lkP T.key key) rl.rows:=by
   have h:=V.out
   have h2:=aK.out
   have h3:=bE.out
   cases hn:Yq s.tables tn with
   | none=>rw [hn] at h2;cases h2
   | some t=>rw [hn] at h h3;rw [show T=t from h3.symm];exact h
  clear V aK bE
  by_cases hk0:key.length=0
  ·rw [if_pos hk0] at J
   have HO:=Qq J
   clear J d1
   rw [hk0] at k0
   go_wp2_with fail
   show bodyPost _ _ _ _ _ (Zi w3 (w+1+1) Ci Ci Cl Cm Cm)
   refine Q7 (v:=.tuple #[.agg zV,.bool false]) (by simp [results,results14,go_sem,Ze M.out]) rfl ?_
   rw [HO.out]
   exact ⟨_,rfl,Yi _ _,Zc A.out C7⟩
  rw [if_neg hk0] at J
  have dI:((key.length:Int)==0)=false:=by simpa using hk0
  have dJ:decide ((key.length:Int)=0)=false:=by simpa using hk0
  have Y:=Qq J
  have cC:=Qq (aC.mono (S':=fun _=>True) (fun _ _ _=>trivial))
  have bC:=Qq aC
  have e1:=kD A.out cI d1
  rw [show Y6.k=2 from rfl] at e1
  have HI:=Qq (Bg Tryz.ixVal Zd isAgg36 sizeOf36 57 #[Ch X,Ch (w+1)] (enters_of func57 Cd rfl) (fun _=>True) (.slice rp rl.rows.length rc) rl.rows w3 _ (cC.out.below A.out)
   (Ah X (w+1) (fun _=>True) T _ (.slice kp key.length kc) key rl.rows w3 (fun j u h=>by rw [Qk _ _ j _ _ _ bG.out];simpa using h) (Z8 bG.out) cE.out aY.out k0 ((cB.out.below A.out).mono (fun _ _ _=>trivial))))
  clear J aC d1
  go_wp2_with fail
  refine HI.out.mono ?_
  rintro e w6 ⟨rfl,aB⟩
  have Z:=kB aB M.out
  have aG:=A.out.thn aB
  clear r0 r1 r2 r3 r4 y0 y1 y2 y3 y4
  obtain ⟨r0,r1,r2,r3,r4⟩:=frz5 Z
  obtain ⟨y0,y1,y2,y3,y4⟩:=row5 Z
  have e2:=kC aB e1
  have bB:=Qq Z;have D:=Qq aG
  clear Z aG aB e1 HI
  rcases V5 (lkP T.key key) rl.rows with ⟨hj,N⟩ | ⟨j,u,hj,hu,N⟩
  ·rw [N] at Y
   rw [hj]
   have HO:=Y
   clear hj N
   go_wp2_with fail
   show bodyPost _ _ _ _ _ (Zi w6 (w+1+1) Ci Ci Cl Cm Cm)
   refine Q7 (v:=.tuple #[.agg zV,.bool false]) (by simp [results,results14,go_sem,Ze bB.out]) rfl ?_
   rw [HO.out]
   exact ⟨_,rfl,Yi _ _,Zc D.out C7⟩
  rw [N] at Y
  obtain ⟨xb,cT,p3,k3,p4,k4,cK,U,bX,g0,g1,g2,g3,g4⟩:=bC.out.val hu
  subst cK
  have dH:j<rl.rows.length:=(Qj hu).1
  have dE:(0:Int)<=(j:Int):=C7
  have dF:(j:Int)<(rl.rows.length:Int):=C7
  have dG:decide ((j:Int)<0)=false:=Ca
  rw [hj]
  have t0:=kD D.out U g0;have t1:=kD D.out U g1;have t2:=kD D.out U g2;have t3:=kD D.out U g3;have t4:=kD D.out U g4
  have cF:=Qq bX
  clear g0 g1 g2 g3 g4 bX hj N hu
  go_wp2_with fail
  show bodyPost _ _ _ _ _ (Cu w6 (w+1+1) u p3 k3 p4 k4)
  refine Q7 (v:=.tuple #[.agg (Cn u p3 k3 p4 k4),.bool true]) (by simp [results,results14,go_sem,Ze bB.out]) rfl ?_
  rw [Y.out]
  refine ⟨_,rfl,?_,Zc D.out C7⟩
  exact Z9.move cF.out (fun b hb _=>(Zf (by have:=hb.2;omega)).trans (D.out.block b hb.2)) (fun _ _ h=>h.1)
theorem Pl (S0 S1 S2:Nat->Prop) (s:Sc) (cs:List Value) (lv:Value) (l:List Rel) (tn:Bs) (kv:Value) (key:List Val) (w:World) (hs:Xt S0 w cs s) (hl0:Sl Y6 S1 w lv l) (hkv0:Sl Zd S2 w kv key) (hkl:∀ t ∈ s.tables,t.key.length<=1000):
  Calls prog 14 #[cs,lv,sv tn,kv] w (LookIs w (V6 s l tn key)):=
 (Ki S0 S1 S2 s cs lv l tn kv key w hs hl0 hkv0 hkl).mono fun _ _ ⟨cs',h1,h2,h3⟩=>⟨cs',h1,h2.move (.refl _ _) (fun _ _ _=>trivial),h3⟩
def Fg (s:Sc) (l:List Rel) (r:Rf) (v:Val):Bool:=match Yt v r.column with
 | some u=>(V6 s l r.table [u]).isSome
 | none=>false
theorem Jo {S:Nat->Prop} {w w6:World} {cs:List Value} {u:Val} {b:Nat} {E:TypeId} (hv:Z9 S w cs u) (hb:Below w w w6) (hc:w6.heap[b]?=some (.cells cs.toArray E (0,0))):Sl Zd (fun _=>True) w6 (.slice (some ⟨b,0,none⟩) 1 1) [u]:=
 Sl.of_css (css:=[cs]) Ca (Cs.one (Z9.move hv (.of_below hb) (fun _ _ _=>trivial))) trivial (Z8 hc) (fun j x hx=>by
  rw [Nat.zero_add,Qk _ _ _ _ _ _ hc]
  simpa using hx)
theorem Wa (A B C:Nat) (S S1 S2:Nat->Prop) (s:Sc) (uv tv lv:Value) (l:List Rel) (r:Rf) (rows:List Val) (w:World) (hA0:w.cell? ⟨A,0,none⟩=some (sv r.column)) (hA1:w.cell? ⟨A,1,none⟩=some (sv r.table))
  (hB0:w.cell? ⟨B,0,none⟩=some uv) (hB1:w.cell? ⟨B,1,none⟩=some tv) (hC:w.cell? ⟨C,0,none⟩=some lv) (hs:Xt S1 w [uv,tv] s) (hl:Sl Y6 S2 w lv l) (hkl:∀ t ∈ s.tables,t.key.length<=1000):
  Vo prog 99 #[Ch A,Ch B,Ch C] Zd S rows (Fg s l r) w:=by
 intro W v cs hb _ hr
 have aP:=hs
 obtain ⟨aX,aW,aQ,hu,ht⟩:=aP
 cases aQ
 obtain ⟨up,uc,rfl,_⟩:=hu.len
 obtain ⟨tp,tc,rfl,_⟩:=ht.len
 obtain ⟨lp,lc,rfl,aV⟩:=hl.len
 have a0:=kD hb (Qv w _ hA0) hA0
 have a1:=kD hb (Qv w _ hA1) hA1
 have b0:=kD hb (Qv w _ hB0) hB0
 have b1:=kD hb (Qv w _ hB1) hB1
 have c0:=kD hb (Qv w _ hC) hC
 have aL:A<W.heap.size:=Qv _ _ a0
 have aM:B<W.heap.size:=Qv _ _ b0
 have aN:C<W.heap.size:=Qv _ _ c0
 have Y:=hs.below hb
 have V:=hl.below hb
 have HG:=Qq (fun W' (h':Below W W W')=>K8 S v cs r.column W' (Z9.move (show Z9 S W cs v from hr) (.of_below h') Qje))
 have aD:=Qq (fun W' (h':Below W W W') (kv:Value) (u:Val) (hk:Sl Zd (fun _=>True) W' kv [u])=>Pl S1 S2 (fun _=>True) s _ _ l r.table kv [u] W' (Y.below h') (V.below h') hk hkl)
 obtain ⟨p3,k3,p4,k4,D,_⟩:=Z9.cells (show Z9 S W cs v from hr)
 simp only [vcs] at D
 subst D
 obtain ⟨res,N⟩:=eX (Fg s l r v)
 rw [N]
 have O:res=(match Yt v r.column with | some u=>(V6 s l r.table [u]).isSome | none=>false):=N.symm
 show Calls prog 99 #[.agg (Cn v p3 k3 p4 k4),Ch A,Ch B,Ch C] W (fun e w'=>e=.returned (.bool res)/\Below W W w')
 clear N hs hl Y V hb hr hA0 hA1 hB0 hB1 hC hu ht hkl
 unfold sv at *
 cases hg:Yt v r.column with
 | none=>
  rw [hg] at HG O
  have HR:=Qq (show res=false from O)
  clear O hg
  go_enter func99,ntmps99
  go_wp2_with fail
  refine (HG.out _ (Zg _ _)).mono ?_
  rintro e w1 ⟨T,rfl,I,M⟩
  have J:=Qq ((Zg W _).thn M)
  obtain ⟨q3,l3,q4,l4,D,_⟩:=Z9.cells I
  simp only [vcs,Option.getD_none] at D
  subst D
  clear I M
  go_wp2_with fail
  go_ret
  rw [HR.out]
  exact ⟨rfl,J.out.alloc (C8 J.out.size) _⟩
 | some u=>
  rw [hg] at HG O
  have HR:=Qq (show res=(V6 s l r.table [u]).isSome from O)
  clear O hg
  go_enter func99,ntmps99
  go_wp2_with fail
  refine (HG.out _ (Zg _ _)).mono ?_
  rintro e w1 ⟨T,rfl,I,M⟩
  have G:=(Zg W _).thn M
  obtain ⟨q3,l3,q4,l4,D,_⟩:=Z9.cells I
  simp only [vcs,Option.getD_some] at D
  subst D
  have aG:=kC G a1
  have aI:=kC G b0
  have aU:=kC G b1
  have aK:=kC G c0
  have aF:=Qq I;have J:=Qq G
  have aR:A<w1.heap.size:=Qv _ _ aG
  have aS:B<w1.heap.size:=Qv _ _ aI
  have aT:C<w1.heap.size:=Qv _ _ aK
  clear a0 a1 b0 b1 c0 M G I aL aM aN
  go_wp2_with fail
  refine (aD.out _ (J.out.thn (Zu _ _ _)) _ u (Jo aF.out (Zu _ _ _) (Q6 _ _ _))).mono ?_
  rintro e w4 ⟨T,rfl,Z,U⟩
  obtain ⟨q3,l3,q4,l4,D,_⟩:=Z9.cells Z
  simp only [vcs] at D
  subst D
  have aC:=Qq (J.out.thn ((Zu w1 _ _).thn U))
  clear Z U
  go_wp2_with fail
  go_ret
  rw [HR.out]
  exact ⟨rfl,aC.out⟩
def Xg (s:Sc) (l:List Rel) (rows:List Val):List Rf->Ft
 | []=>Ft.zero
 | r::rs=>if (Vi 12 (Fg s l r) rows).code=0 then Xg s l rows rs else Vi 12 (Fg s l r) rows
theorem heap4 (w:World) (A B C D:Obj):((((w.alloc A).alloc B).alloc C).alloc D).heap[w.heap.size]?=some A/\((((w.alloc A).alloc B).alloc C).alloc D).heap[w.heap.size+1]?=some B /\
  ((((w.alloc A).alloc B).alloc C).alloc D).heap[w.heap.size+1+1]?=some C/\((((w.alloc A).alloc B).alloc C).alloc D).heap[w.heap.size+1+1+1]?=some D:=by
 have e3:(((w.alloc A).alloc B).alloc C).heap.size=w.heap.size+1+1+1:=Ca
 have G:=Zg (((w.alloc A).alloc B).alloc C) D
 refine ⟨(G.block _ (by simp;omega)).trans ?_,kE G Ca (Ul _ _ _ _),kE G Ca (Zl _ _ _ _),by rw [<- e3];exact Qw _ _⟩
 exact ((Zg ((w.alloc A).alloc B) C).block _ (by simp;omega)).trans (Q5 _ _ _)
theorem bal4 (w:World) (A B C D:Obj):Below w w ((((w.alloc A).alloc B).alloc C).alloc D):=(Xm w A B C).alloc (Xm w A B C).size _
theorem R2 (S0 S1 S2 S3:Nat->Prop) (s:Sc) (cs:List Value) (lv:Value) (l:List Rel) (t:Tbl) (ct:List Value) (rv:Value) (rows:List Val) (w:World) (hs0:Xt S0 w cs s) (hl0:Sl Y6 S1 w lv l) (ht0:Zm.R S2 w ct t) (hr0:Sl Zd S3 w rv rows) (hkl:∀ t ∈ s.tables,t.key.length<=1000):
  Calls prog 41 #[cs,lv,ct,rv] w (Dg S3 w (Xg s l rows t.refs)):=by
 have ht:Zm.R (fun b=>b<w) w ct t:=Zm.mono ht0 (fun b hb _=>hb)
 have hr:=hr0.up
 obtain ⟨HS,HL,cS,cP⟩:=Qjz hs0 hl0 hr hkl
 obtain ⟨uv,tv,rfl,hu,bR⟩:=hs0
 obtain ⟨up,uc,rfl,_⟩:=hu.len
 obtain ⟨tp,tc,rfl,_⟩:=bR.len
 obtain ⟨lp,lc,rfl,eR⟩:=hl0.len
 obtain ⟨rp,rc,rfl,_⟩:=hr.len
 obtain ⟨cX,cW,dL,dK,eD,eC,k9,eE,n9,eF,dP,dM,cT,dQ,dN,cU,dR,dO,cV,a9,z9,Z,_,_,_,aI,_⟩:=Zt ht
 simp only [tcs] at Z
 subst Z
 have hn:t.refs.length<=1000000:=by obtain ⟨_,_,_,h⟩:=aI.len;exact h
 obtain ⟨n,aH⟩:=eX (t.refs.length)
 obtain ⟨res,aA⟩:=eX (Xg s l rows t.refs)
 have bF:=Qq aA;have HN:=Qq aH
 rw [aA,aH]
 rw [aH] at hn aI
 have cR:=Qq aI
 clear hl0 ht ht0 hr hr0 hu bR aI aA hkl aH
 go_enter func41,ntmps41
 go_upto_region 1 with fail
 generalize aO:(((w.alloc _).alloc _).alloc _).alloc _=w4
 have bL:Below w w w4:=by rw [<- aO];exact bal4 _ _ _ _ _
 obtain ⟨h0,h1,h2,h3⟩:w4.heap[w.heap.size]?=some (.cells #[.slice up s.sums.length uc,.slice tp s.tables.length tc] 26 (0,0))/\w4.heap[w.heap.size+1]?=some (.cells #[.slice lp l.length lc] 28 (0,0))/\w4.heap[w.heap.size+1+1]?=some (.cells #[t.name,.slice cX t.columns.length cW,.slice dL t.key.length dK,.slice eD n eC,k9,.string eE,n9,.string eF,.slice dP dM cT,.slice dQ dN cU,.slice dR dO cV,a9,z9] 48 (0,0)) /\
   w4.heap[w.heap.size+1+1+1]?=some (.cells zF 38 (0,0)):=by rw [<- aO];exact heap4 _ _ _ _ _
 have c3:=rA3 h2
 obtain ⟨H0,H1,H3,cM⟩:=Qjz h0 h1 h3 bL
 clear h0 h1 h2 h3 aO bL
 go_wp2_with fail
 go_loopw [15] (fun i wr=>∃ k:Nat,k<=n/\i=.int .i64 k/\Aside (Xg s l rows (t.refs.drop k)=res)/\Below w4 w4 wr) (fun i _=>n - (intOf i).toNat)
 case atStart=>exact ⟨0,Q8 _,rfl,bF.out,Qz _ _⟩
 obtain ⟨k,eQ,rfl,hE,J⟩:=hrel
 have cO:=Qq J
 have bH:=kB J H0.out
 have bI:=kB J H1.out
 have bJ:=kB J H3.out
 obtain ⟨aV,aW,O⟩:=Qjq bH bI bJ
 have aL:=Qq (cM.out.thn J)
 clear J bH bI bJ
 by_cases hlt:k<n
 ·have eO:(0:Int)<=(k:Int):=C7
  have eP:(k:Int)<(n:Int):=C7
  have aG:k<t.refs.length:=by rw [HN.out];exact hlt
  obtain ⟨r,hx⟩:∃ r,t.refs[k]?=some r:=⟨_,Qx aG⟩
  have bN:t.refs.drop k=r::t.refs.drop (k+1):=by rw [Qp aG];rw [Qx aG] at hx;cases hx;rfl
  have bK:(if (Vi 12 (Fg s l r) rows).code=0 then Xg s l rows (t.refs.drop (k+1)) else Vi 12 (Fg s l r) rows)=res:=by have:=hE.out;rw [bN] at this;exact this
  obtain ⟨ba,oa,cx,dH,eK,-,-,dI,aR⟩:=(cR.out.below aL.out).elem hx
  obtain ⟨bM,dE,dJ⟩:=dI
  subst bM
  have d0:=aR 0 _ rfl;have d1:=aR 1 _ rfl
  simp only [show Kz.k=2 from rfl,Nat.add_zero] at d0 d1
  unfold sv at d0 d1
  have U:=Qq bK
  subst dH
  clear hE bK bN aG hx aR dE dJ
  go_upto_region 4 with fail
  generalize aP:wr.alloc _=w5
  have M:=eqB aP (Zg _ _)
  have h5:=eqH (b:=wr.heap.size) aP (Qw _ _)
  have g0:=kB M aV.out
  have g1:=kB M aW.out
  have g3:=kB M O.out
  have D:=aL.out.thn M
  have I:=Qq (Li 12 99 #[Ch wr,Ch w,Ch (w+1)] (enters_of func99 Cd rfl) (fun b=>S3 b/\b<w) (.slice rp rows.length rc) rows (Fg s l r) w5 (cS.out.below D)
   (Wa wr w.heap.size (w+1) _ S0 S1 s _ _ _ l r rows w5 (Qk _ _ 0 _ _ _ h5) (Qk _ _ 1 _ _ _ h5) (Qk _ _ 0 _ _ _ g0) (Qk _ _ 1 _ _ _ g0) (Qk _ _ 0 _ _ _ g1) (HS.out.below D) (HL.out.below D) cP.out))
  obtain ⟨f,hf⟩:=eX (Vi 12 (Fg s l r) rows)
  rw [hf] at I U
  obtain ⟨G3,aY,aJ⟩:=Qjq g3 D (cO.out.thn M)
  clear hf aP M h5 g0 g1 g3 D d0 d1
  go_wp2_with fail
  refine I.out.mono ?_
  rintro e w6 ⟨eJ,rfl,bO,aF⟩
  obtain ⟨p3,k3,p4,k4,q3,l3,q4,l4,Z,dF,bQ,bP⟩:=Ud bO
  simp only [fcs] at Z
  subst Z
  have bE:=Qq (kB aF G3.out)
  have aZ:=Qq (aY.out.thn aF);have aK:=Qq (aJ.out.thn aF)
  have bC:=Qq bQ;have bA:=Qq bP
  clear bO aF bQ bP
  go_upto_region 5 with fail
  generalize aQ:w6.alloc _=w7
  have N:=eqB aQ (Zg _ _)
  have h7:=eqH (b:=w6.heap.size) aQ (Qw _ _)
  have aN:=Qq (kB N bE.out)
  have cN:=Qq (aZ.out.thn N);have aX:=Qq (aK.out.thn N)
  have bD:=Qq (Z9.move bC.out (.of_below N) Qje);have bB:=Qq (Z9.move bA.out (.of_below N) Qje)
  have xx:=fun j=>Qk _ _ j _ _ _ h7
  obtain ⟨cB,x1,x2,x3,x4,x5,x6,x7,x8,x9,eH,eI⟩:=Qjb xx
  simp only [Qf,Qg,Qh] at cB x1 x2 x3 x4 x5 x6 x7 x8 x9 eH eI
  clear aQ N h7 xx bE aZ aK bC bA I G3 aY aJ aV aW O
  by_cases hc:f.code=0
  ·have aM:=Qq (show Xg s l rows (t.refs.drop (k+1))=res by have:=U.out;rw [if_pos hc] at this;exact this)
   rw [hc] at cB
   clear U
   go_wp2_with fail
   go_roundw
   case measure=>simp [intOf];omega
   case rel=>exact ⟨k+1,C7,by go_num,aM.out,aX.out⟩
  have aM:=Qq (show f=res by have:=U.out;rw [if_neg hc] at this;exact this)
  have eL:(f.code != 0)=true:=by simpa using hc
  have eM:decide (f.code=0)=false:=by simpa using hc
  have eN:(f.code==0)=false:=by simpa using hc
  clear U
  have fz:=fun j=>Qn _ _ j _ _ aN.out
  have rr:=fun j=>Qk _ _ j _ _ _ aN.out
  obtain ⟨f0,f1,f2,f3,f4,f5,f6,f7,f8,f9,dA,dB⟩:=Qjb fz
  obtain ⟨r0,r1,r2,r3,r4,r5,r6,r7,r8,r9,aS,aT⟩:=Qjb rr
  simp only [Qf,Qg,Qh] at r0 r1 r2 r3 r4 r5 r6 r7 r8 r9 aS aT
  clear fz rr
  go_wp2_with fail
  obtain ⟨W,Y⟩:=eX (Yd w7 (w+1+1+1) f.code f.table f.row.kind f.row.n f.row.s (.slice p3 f.row.names.length k3) (.slice p4 f.row.kids.length k4) f.other.kind f.other.n f.other.s (.slice q3 f.other.names.length l3) (.slice q4 f.other.kids.length l4))
  have q:∀ j,W.cell? ⟨w+1+1+1,j,none⟩=#[.int .i64 f.code,.string ⟨f.table.toArray⟩,.int .i64 f.row.kind,.int .i64 f.row.n,.string ⟨f.row.s.toArray⟩,.slice p3 f.row.names.length k3,.slice p4 f.row.kids.length k4,.int .i64 f.other.kind,.int .i64 f.other.n,.string ⟨f.other.s.toArray⟩,.slice q3 f.other.names.length l3,.slice q4 f.other.kids.length l4][j]?:=fun j=>by rw [<- Y];exact Y8 aN.out j
  have G:∀ b,b≠w.heap.size+1+1+1->W.heap[b]?=w7.heap[b]?:=fun b hb=>by rw [<- Y];exact Ys hb
  have A:Below w w W:=by rw [<- Y];exact Y1 cN.out C7
  show bodyPost _ _ _ _ _ (Yd w7 (w+1+1+1) f.code f.table f.row.kind f.row.n f.row.s (.slice p3 f.row.names.length k3) (.slice p4 f.row.kids.length k4) f.other.kind f.other.n f.other.s (.slice q3 f.other.names.length l3) (.slice q4 f.other.kids.length l4))
  rw [Y]
  have T:=Qq A;have V:=Qq G
  obtain ⟨q0,q1,q2,aD,aE,q5,q6,q7,q8,q9,aB,aC⟩:=Qjb q
  simp only [Qf,Qg,Qh] at q0 q1 q2 aD aE q5 q6 q7 q8 q9 aB aC
  clear Y A q G
  refine Q7 (v:=.agg (Cr f.code f.table f.row p3 k3 p4 k4 f.other q3 l3 q4 l4)) (by simp [results,results41,go_sem,q0,q1,q2,aD,aE,q5,q6,q7,q8,q9,aB,aC]) rfl ⟨_,rfl,?_,T.out⟩
  rw [<- aM.out]
  exact ⟨_,_,rfl,dF,Z9.move bD.out (fun b hb _=>V.out b (by have:b<w.heap.size:=hb.2;omega)) (fun _ _ h=>h.1),Z9.move bB.out (fun b hb _=>V.out b (by have:b<w.heap.size:=hb.2;omega)) (fun _ _ h=>h.1)⟩
 have hr0:res=Ft.zero:=by
  have:=hE.out
  rw [Qu (by rw [HN.out];omega)] at this
  exact this.symm
 have hd:decide ((k:Int)<(n:Int))=false:=by simpa using hlt
 have cQ:=Qq hr0
 have fz:=fun j=>Qn _ _ j _ _ O.out
 have rr:=fun j=>Qk _ _ j _ _ _ O.out
 obtain ⟨f0,f1,f2,f3,f4,f5,f6,f7,f8,f9,dA,dB⟩:=Qjb fz
 obtain ⟨r0,r1,r2,r3,r4,r5,r6,r7,r8,r9,aS,aT⟩:=Qjb rr
 simp only [Qf,Qg,Qh] at r0 r1 r2 r3 r4 r5 r6 r7 r8 r9 aS aT
 clear fz rr hE hr0
 go_wp2_with fail
 obtain ⟨W,Y⟩:=eX (Yd wr (w+1+1+1) Ci Cl Ci Ci Cl Cm Cm Ci Ci Cl Cm Cm)
 have q:∀ j,W.cell? ⟨w+1+1+1,j,none⟩=zF[j]?:=fun j=>by rw [<- Y];exact Y8 O.out j
 have G:∀ b,b≠w.heap.size+1+1+1->W.heap[b]?=wr.heap[b]?:=fun b hb=>by rw [<- Y];exact Ys hb
 have A:Below w w W:=by rw [<- Y];exact Y1 aL.out C7
 show bodyPost _ _ _ _ _ (Yd wr (w+1+1+1) Ci Cl Ci Ci Cl Cm Cm Ci Ci Cl Cm Cm)
 rw [Y]
 have T:=Qq A;have V:=Qq G
 obtain ⟨q0,q1,q2,aD,aE,q5,q6,q7,q8,q9,aB,aC⟩:=Qjb q
 simp only [Qf,Qg,Qh] at q0 q1 q2 aD aE q5 q6 q7 q8 q9 aB aC
 clear Y A q G
 refine Q7 (v:=.agg zF) (by simp [results,results41,go_sem,q0,q1,q2,aD,aE,q5,q6,q7,q8,q9,aB,aC]) rfl ⟨[Ci,Cl,Ci,Ci,Cl,Cm,Cm,Ci,Ci,Cl,Cm,Cm],rfl,?_,T.out⟩
 rw [cQ.out]
 exact Jh _ _
end Go.Proofs.YtcljcblceodciaaGreatDoor
