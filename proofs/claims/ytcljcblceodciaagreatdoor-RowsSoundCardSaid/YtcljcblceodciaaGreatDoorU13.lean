import Derived.Test.YtcljcblceodciaaGreatDoorU12
import Derived.Test.YtcljcblceodciaaGreatDoorU11
set_option maxRecDepth 100000
set_option maxHeartbeats 400000000
namespace Go.Proofs.YtcljcblceodciaaGreatDoor
open Go.RowKit Go.Shelf Go.Lib Tryz
def Pz:Rd Bs where
 k:=2
 R _ _ cs x:=cs=[sv x,.slice none 0 0]/\x.length<=1000000
 len h:=by rw [h.1];rfl
 frame h _:=h
 mono h _:=h
def Xu (s:Sc):List Rel:=s.tables.map (fun t=>⟨t.name,[]⟩)
theorem C5 {E:TypeId} {S:Nat->Prop} {B:Nat} {w:World} {v:Value} {ns:List Bs} {css:List (List Value)} (h:Own Pz E S B w v ns css) (hE:E=80):Uj B w v (ns.map fun x=>⟨x,[]⟩) (List.replicate ns.length (.slice none 0 0)):=by
 subst hE
 have hc:css=Y9 (ns.map fun x=>⟨x,[]⟩) (List.replicate ns.length (.slice none 0 0)):=by
  apply List.ext_getElem?
  intro i
  by_cases G:i<ns.length
  ·have I:=Qx (l:=css) (i:=i) (by rw [h.cs.len];exact G)
   have h2:=Qx G
   have h3:=(h.cs.R i _ _ I h2).1
   rw [I,h3,Kb (r:=⟨ns[i],[]⟩) (rv:=.slice none 0 0) (by rw [List.getElem?_map,h2];rfl) (by rw [List.getElem?_replicate,if_pos G])]
  rw [List.getElem?_eq_none (by rw [h.cs.len];omega),List.getElem?_eq_none (by rw [Ue Ca];simp;omega)]
 refine ⟨Ca,?_,?_,?_,?_⟩
 ·rw [<- hc,Z7];exact h.row
 ·intro r D
  obtain ⟨x,M,rfl⟩:=List.mem_map.1 D
  obtain ⟨i,G⟩:=Zk M
  have N:=(Qj G).1
  exact (h.cs.R i _ _ (Qx (by rw [h.cs.len];exact N)) G).2
 ·intro i r rv D A
  rw [List.getElem?_replicate] at A
  split at A
  ·cases A
   rw [List.getElem?_map] at D
   cases M:ns[i]? with
   | none=>rw [M] at D;cases D
   | some x=>rw [M] at D;cases D;exact ⟨[],Own.nil _ _ _ _ _⟩
  cases A
 intro i j a b g J _ I
 rw [List.getElem?_replicate] at J
 split at J
 ·cases J;cases I
 cases J
def Si (w:World) (s:Sc) (e:Ending) (w':World):Prop:=∃ p cap,e=.returned (.slice p s.tables.length cap)/\Uj w w' (.slice p s.tables.length cap) (Xu s) (List.replicate s.tables.length (.slice none 0 0))/\Below w w w'
theorem Ac (S0:Nat->Prop) (s:Sc) (cs:List Value) (w:World) (hs:Xt S0 w cs s) (hnl:∀ t ∈ s.tables,t.name.length<=1000000) (hl0:s.tables.length<=1000):
  Calls prog 52 #[cs] w (Si w s):=by
 obtain ⟨uv,tv,rfl,hu,aP⟩:=hs
 have ht:Sl Zm (fun b=>b<w) w tv s.tables:=aP.mono (fun b hb _=>hb)
 obtain ⟨up,uc,rfl,_⟩:=hu.len
 obtain ⟨tp,tc,rfl,cF⟩:=ht.len
 have HT:=Qq ht;have aZ:=Qq hnl
 obtain ⟨i0,j1,j2,j3,j4⟩:=Y7 (P:=prog) (t:=80) (z:=.agg #[Cl,Cm]) (n:=2) (b:=40) Cd
 obtain ⟨HJ,aV,aW,aX⟩:=Qjz j1 j2 j3 j4
 clear hu aP ht hnl j1 j2 j3 j4
 unfold Si Xu
 obtain ⟨n,hn⟩:=eX (s.tables.length)
 rw [hn] at HT hl0 |-
 have HN:=Qq hn
 clear hn
 go_enter func52,ntmps52
 go_wp2_with fail
 generalize N:w.alloc _=T
 have aL:=eqB N (Zg _ _)
 have aJ:=eqH (b:=w.heap.size) N (Qw _ _)
 have Z:=Qq aL;have bE:=Qq aJ
 clear N aL aJ
 have J:w.heap.size<=T.heap.size:=Z.out.size
 go_loopw [3,9] (fun o i wr=>∃ (k:Nat) (p:Option Addr) (cap:Nat) (Y:List Bs) (css:List (List Value)),k<=n/\i=.int .i64 k/\o=.slice p k cap/\Y.length=k/\Aside (Y=(s.tables.take k).map Tbl.name) /\
  Own Pz 80 (fun _=>False) T wr (.slice p k cap) Y css/\Below T T wr) (fun _ i _=>n - (intOf i).toNat)
 case atStart=>exact ⟨0,none,0,[],[],Q8 _,rfl,rfl,rfl,rfl,Own.nil _ _ _ _ _,Qz _ _⟩
 obtain ⟨k,p,cap,Y,css,cD,rfl,rfl,aN,hE,U,D⟩:=hrel
 have bK:=kB D bE.out
 have bN:=D.size
 obtain ⟨aU,aA,HO,HE,M⟩:=Qjk D (Z.out.trans (D.mono J)) U hE.out aN
 clear bK D U hE aN
 by_cases hlt:k<n
 ·have cC:(0:Int)<=(k:Int):=C7
  have bL:(k:Int)<(n:Int):=C7
  obtain ⟨t,V⟩:∃ t,s.tables[k]?=some t:=⟨_,Qx (by rw [HN.out];exact hlt)⟩
  have aS:=aZ.out t (Qy V)
  have aR:(s.tables.take (k+1)).map Tbl.name=(s.tables.take k).map Tbl.name++[t.name]:=by
   have hk:=(Qj V).1
   rw [Zz hk,List.map_append]
   rw [Qx hk] at V;cases V;rfl
  obtain ⟨tb,cB,ct,rfl,cE,_,O,aQ,A⟩:=(HT.out.below aA.out).elem V
  obtain ⟨bJ,bI,bQ,bP,bY,bX,k9,bZ,n9,cA,bU,bR,bF,bV,bS,bG,bW,bT,bH,a9,z9,aM,_⟩:=Zt aQ
  simp only [tcs] at aM
  subst aM
  have d0:=A 0 _ rfl
  have d1:=A 1 _ rfl
  have d2:=A 2 _ rfl
  have d3:=A 3 _ rfl
  have d4:=A 4 _ rfl
  have d5:=A 5 _ rfl
  have d6:=A 6 _ rfl
  have d7:=A 7 _ rfl
  have d8:=A 8 _ rfl
  have d9:=A 9 _ rfl
  have aD:=A 10 _ rfl
  have aE:=A 11 _ rfl
  have aF:=A 12 _ rfl
  simp only [show Zm.k=13 from rfl,Nat.add_zero] at d0 d1 d2 d3 d4 d5 d6 d7 d8 d9 aD aE aF
  have bD:=Qq aS;have bC:=Qq aR
  clear V aS aR aQ A O
  go_upto_region 5 with fail
  obtain ⟨W5,G⟩:=eX (wr.alloc (.cells (Co t bJ bI bQ bP bY bX k9 bZ n9 cA bU bR bF bV bS bG bW bT bH a9 z9) 48))
  rw [G]
  have I:=eqB G (Zg _ _)
  have aK:=eqH (b:=wr.heap.size) G (Qw _ _)
  have x0:=rA0 aK
  have bA:=Qq (HO.out.below I);have aT:=Qq (aU.out.trans (I.mono bN))
  have aO:T.heap.size<=W5.heap.size:=C8 I.size
  clear G I aK d0 d1 d2 d3 d4 d5 d6 d7 d8 d9 aD aE aF
  go_wp2_with (at_builtin;refine Yg (r:=Pz) Cc rfl (.tmp 13) (.tmp 17) _ rfl 80 i0 (.agg #[Cl,Cm]) 40 underlying28 HJ.out aV.out aW.out aX.out rfl C7 (fun _=>False) T W5 (.slice p k cap) Y css [t.name,Cm] t.name rfl bA.out rfl ⟨rfl,bD.out⟩ (by simp [Value.oneCell']) k M.out C7 aO ?_;intro p7 aB aC w7 aI aH;have bB:=Qq aI;have aY:=Qq aH;clear aI aH)
  go_roundw
  case measure=>simp [intOf];omega
  case rel=>exact ⟨k+1,p7,aB,Y++[t.name],aC,C7,by go_num,rfl,by have:=M.out;simp [this],(show Aside _ from by have:=HE.out;show _=_;rw [this,bC.out]),bB.out,aT.out.trans aY.out.below⟩
 obtain rfl:k=n:=C7
 have bL:¬ (k:Int)<(k:Int):=C7
 go_wp2_with fail
 go_ret
 have hE:=HE.out
 rw [Zj (by rw [HN.out];exact Q9 _)] at hE
 have U:=C5 (HO.out.move J (fun b hb _=>rfl)) rfl
 rw [M.out] at U
 refine ⟨p,cap,rfl,?_,aA.out⟩
 rw [hE,List.map_map] at U
 exact U
def Na (rows:List Val):Ft:=if 256<rows.length then ⟨4,[],Val.zero,Val.zero⟩ else Ft.zero
theorem con1_any (S0 S1 S:Nat->Prop) (t:Tbl) (ct:List Value) (rv:Value) (rows:List Val) (w:World) (ht:Zm.R S0 w ct t) (hr:Sl Zd S1 w rv rows):
  Calls prog 34 #[ct,rv] w (Dg S w (Na rows)):=by
 obtain ⟨O,N,V,U,aF,aE,k9,aG,n9,aH,aB,Y,I,aC,Z,J,aD,aA,M,a9,z9,D,_⟩:=Zt ht
 simp only [tcs] at D
 subst D
 obtain ⟨rp,rc,rfl,hl⟩:=hr.len
 unfold Na
 clear ht hr
 by_cases h:256<rows.length
 ·rw [if_pos h]
  have hi:(256:Int)<(rows.length:Int):=C7
  clear h
  go_enter func34,ntmps34
  go_wp2_with fail
  generalize A:(w.alloc _).alloc _=W
  have hb:=eqB A (Zu _ _ _)
  have G:=eqH (b:=w.heap.size+1) A (Q6 _ _ _)
  refine Q7 (v:=.agg #[.int .i64 4,Cl,Ci,Ci,Cl,Cm,Cm,Ci,Ci,Cl,Cm,Cm]) (by simp [results,results34,go_sem,Qk _ _ _ _ _ _ G]) rfl ⟨_,rfl,?_,hb⟩
  exact ⟨_,_,rfl,Ca,Yi _ _,Yi _ _⟩
 rw [if_neg h]
 have hi:¬ (256:Int)<(rows.length:Int):=C7
 have T:decide ((256:Int)<(rows.length:Int))=false:=decide_eq_false hi
 clear h
 go_enter func34,ntmps34
 go_wp2_with fail
 generalize A:(w.alloc _).alloc _=W
 have hb:=eqB A (Zu _ _ _)
 have G:=eqH (b:=w.heap.size+1) A (Q6 _ _ _)
 refine Q7 (v:=.agg zF) (by simp [results,results34,go_sem,Qk _ _ _ _ _ _ G]) rfl ⟨[Ci,Cl,Ci,Ci,Cl,Cm,Cm,Ci,Ci,Cl,Cm,Cm],rfl,?_,hb⟩
 exact Jh _ _
theorem con3_any (S0 S1:Nat->Prop) (t:Tbl) (ct:List Value) (rv:Value) (rows:List Val) (K:Val->List Int) (w:World) (ht:Zm.R S0 w ct t) (hr:Sl Zd S1 w rv rows) (hK:B6 t rows K) (hl:rows.length<=100000) (hkl:t.key.length<=1000):
  Calls prog 38 #[ct,rv] w (Dg S1 w (Uk rows (ust rows.length (rows.map fun r=>kb (K r)) rows.length))):=by
 have HU:=Qq (fun W (hb:Below w w W)=>Ru S0 (fun b=>S1 b/\b<w) t rows K ct rv W (Zm.frame ht (.of_below hb)) ((hr.mono (fun b hb h=>⟨h,hb⟩)).below hb) hK hl hkl)
 obtain ⟨aW,aV,bB,bA,bJ,bI,k9,bK,n9,bL,bF,bC,aS,bG,bD,aT,bH,bE,aU,a9,z9,A,_⟩:=Zt ht
 simp only [tcs] at A
 subst A
 obtain ⟨rp,rc,rfl,_⟩:=hr.len
 obtain ⟨f,hf⟩:=eX (Uk rows (ust rows.length (rows.map fun r=>kb (K r)) rows.length))
 rw [hf] at HU |-
 clear ht hr hK hf
 go_enter func38,ntmps38
 go_wp2_with fail
 refine (HU.out _ (Zu _ _ _)).mono ?_
 rintro e w5 ⟨aX,rfl,T,M⟩
 obtain ⟨p3,k3,p4,k4,q3,l3,q4,l4,A,U,Y,V⟩:=Ud T
 simp only [fcs] at A
 subst A
 have J:=Qq ((M.block (w+1) Ca).trans (Q6 w _ _))
 have aL:=Qq ((Zu w _ _).thn M)
 obtain ⟨aO,aN,aM⟩:=Qjq Y V U
 have fz:=fun j=>Qn _ _ j _ _ J.out
 have rr:=fun j=>Qk _ _ j _ _ _ J.out
 obtain ⟨f0,f1,f2,f3,f4,f5,f6,f7,f8,f9,aY,aZ⟩:=Qjb fz
 obtain ⟨r0,r1,r2,r3,r4,r5,r6,r7,r8,r9,aP,aQ⟩:=Qjb rr
 simp only [Qf,Qg,Qh] at r0 r1 r2 r3 r4 r5 r6 r7 r8 r9 aP aQ
 clear fz rr T M Y V U
 go_wp2_with fail
 obtain ⟨W,O⟩:=eX (Yd w5 (w+1) f.code f.table f.row.kind f.row.n f.row.s (.slice p3 f.row.names.length k3) (.slice p4 f.row.kids.length k4) f.other.kind f.other.n f.other.s (.slice q3 f.other.names.length l3) (.slice q4 f.other.kids.length l4))
 have q:∀ j,W.cell? ⟨w+1,j,none⟩=#[.int .i64 f.code,.string ⟨f.table.toArray⟩,.int .i64 f.row.kind,.int .i64 f.row.n,.string ⟨f.row.s.toArray⟩,.slice p3 f.row.names.length k3,.slice p4 f.row.kids.length k4,.int .i64 f.other.kind,.int .i64 f.other.n,.string ⟨f.other.s.toArray⟩,.slice q3 f.other.names.length l3,.slice q4 f.other.kids.length l4][j]?:=fun j=>by rw [<- O];exact Y8 J.out j
 have I:∀ b,b≠w.heap.size+1->W.heap[b]?=w5.heap[b]?:=fun b hb=>by rw [<- O];exact Ys hb
 have G:Below w w W:=by rw [<- O];exact Y1 aL.out C7
 show bodyPost _ _ _ _ _ (Yd w5 (w+1) f.code f.table f.row.kind f.row.n f.row.s (.slice p3 f.row.names.length k3) (.slice p4 f.row.kids.length k4) f.other.kind f.other.n f.other.s (.slice q3 f.other.names.length l3) (.slice q4 f.other.kids.length l4))
 rw [O]
 have N:=Qq G;have D:=Qq I
 obtain ⟨q0,q1,q2,aB,aC,q5,q6,q7,q8,q9,Z,aA⟩:=Qjb q
 simp only [Qf,Qg,Qh] at q0 q1 q2 aB aC q5 q6 q7 q8 q9 Z aA
 clear O G q I
 refine Q7 (v:=.agg (Cr f.code f.table f.row p3 k3 p4 k4 f.other q3 l3 q4 l4)) (by simp [results,results38,go_sem,q0,q1,q2,aB,aC,q5,q6,q7,q8,q9,Z,aA]) rfl ⟨_,rfl,?_,N.out⟩
 exact ⟨_,_,rfl,aM.out,Z9.move aO.out (fun b hb _=>D.out b (by have:b<w.heap.size:=hb.2;omega)) (fun _ _ h=>h.1),Z9.move aN.out (fun b hb _=>D.out b (by have:b<w.heap.size:=hb.2;omega)) (fun _ _ h=>h.1)⟩
theorem con4_any (B C:Nat) (S0 S1 S2 S3:Nat->Prop) (s:Sc) (uv tv' lv:Value) (l:List Rel) (t:Tbl) (ct:List Value) (rv:Value) (rows:List Val) (w:World) (hB0:w.cell? ⟨B,0,none⟩=some uv) (hB1:w.cell? ⟨B,1,none⟩=some tv') (hC:w.cell? ⟨C,0,none⟩=some lv)
  (hs:Xt S0 w [uv,tv'] s) (hl:Sl Y6 S1 w lv l) (ht:Zm.R S2 w ct t) (hr:Sl Zd S3 w rv rows) (hkl:∀ t ∈ s.tables,t.key.length<=1000):
  Calls prog 40 #[ct,rv,Ch B,Ch C] w (Dg S3 w (Xg s l rows t.refs)):=by
 have HU:=Qq (fun W (hb:Below w w W)=>R2 S0 S1 S2 (fun b=>S3 b/\b<w) s _ lv l t ct rv rows W (hs.below hb) (hl.below hb) (Zm.frame ht (.of_below hb)) ((hr.mono (fun b hb h=>⟨h,hb⟩)).below hb) hkl)
 obtain ⟨bR,bQ,aS,hu,aB⟩:=hs
 cases aS
 obtain ⟨up,uc,rfl,_⟩:=hu.len
 obtain ⟨tp,tc,rfl,_⟩:=aB.len
 obtain ⟨lp,lc,rfl,_⟩:=hl.len
 obtain ⟨bA,aZ,bF,bE,bN,bM,k9,bO,n9,bP,bJ,bG,aW,bK,bH,aX,bL,bI,aY,a9,z9,A,_⟩:=Zt ht
 simp only [tcs] at A
 subst A
 obtain ⟨rp,rc,rfl,_⟩:=hr.len
 obtain ⟨f,hf⟩:=eX (Xg s l rows t.refs)
 rw [hf] at HU |-
 have O:=Qv _ _ hB0
 have T:=Qv _ _ hC
 have O:B<w.heap.size:=O
 have T:C<w.heap.size:=T
 clear ht hr hf hl hu aB
 go_enter func40,ntmps40
 go_wp2_with fail
 refine (HU.out _ (Zu _ _ _)).mono ?_
 rintro e w5 ⟨bB,rfl,V,M⟩
 obtain ⟨p3,k3,p4,k4,q3,l3,q4,l4,A,Y,aA,Z⟩:=Ud V
 simp only [fcs] at A
 subst A
 have J:=Qq ((M.block (w+1) Ca).trans (Q6 w _ _))
 have aO:=Qq ((Zu w _ _).thn M)
 obtain ⟨aR,aQ,aP⟩:=Qjq aA Z Y
 have fz:=fun j=>Qn _ _ j _ _ J.out
 have rr:=fun j=>Qk _ _ j _ _ _ J.out
 obtain ⟨f0,f1,f2,f3,f4,f5,f6,f7,f8,f9,bC,bD⟩:=Qjb fz
 obtain ⟨r0,r1,r2,r3,r4,r5,r6,r7,r8,r9,aT,aU⟩:=Qjb rr
 simp only [Qf,Qg,Qh] at r0 r1 r2 r3 r4 r5 r6 r7 r8 r9 aT aU
 clear fz rr V M aA Z Y
 go_wp2_with fail
 obtain ⟨W,U⟩:=eX (Yd w5 (w+1) f.code f.table f.row.kind f.row.n f.row.s (.slice p3 f.row.names.length k3) (.slice p4 f.row.kids.length k4) f.other.kind f.other.n f.other.s (.slice q3 f.other.names.length l3) (.slice q4 f.other.kids.length l4))
 have q:∀ j,W.cell? ⟨w+1,j,none⟩=#[.int .i64 f.code,.string ⟨f.table.toArray⟩,.int .i64 f.row.kind,.int .i64 f.row.n,.string ⟨f.row.s.toArray⟩,.slice p3 f.row.names.length k3,.slice p4 f.row.kids.length k4,.int .i64 f.other.kind,.int .i64 f.other.n,.string ⟨f.other.s.toArray⟩,.slice q3 f.other.names.length l3,.slice q4 f.other.kids.length l4][j]?:=fun j=>by rw [<- U];exact Y8 J.out j
 have I:∀ b,b≠w.heap.size+1->W.heap[b]?=w5.heap[b]?:=fun b hb=>by rw [<- U];exact Ys hb
 have G:Below w w W:=by rw [<- U];exact Y1 aO.out C7
 show bodyPost _ _ _ _ _ (Yd w5 (w+1) f.code f.table f.row.kind f.row.n f.row.s (.slice p3 f.row.names.length k3) (.slice p4 f.row.kids.length k4) f.other.kind f.other.n f.other.s (.slice q3 f.other.names.length l3) (.slice q4 f.other.kids.length l4))
 rw [U]
 have N:=Qq G;have D:=Qq I
 obtain ⟨q0,q1,q2,aE,aF,q5,q6,q7,q8,q9,aC,aD⟩:=Qjb q
 simp only [Qf,Qg,Qh] at q0 q1 q2 aE aF q5 q6 q7 q8 q9 aC aD
 clear U G q I
 refine Q7 (v:=.agg (Cr f.code f.table f.row p3 k3 p4 k4 f.other q3 l3 q4 l4)) (by simp [results,results40,go_sem,q0,q1,q2,aE,aF,q5,q6,q7,q8,q9,aC,aD]) rfl ⟨_,rfl,?_,N.out⟩
 exact ⟨_,_,rfl,aP.out,Z9.move aR.out (fun b hb _=>D.out b (by have:b<w.heap.size:=hb.2;omega)) (fun _ _ h=>h.1),Z9.move aQ.out (fun b hb _=>D.out b (by have:b<w.heap.size:=hb.2;omega)) (fun _ _ h=>h.1)⟩
def Dq (t:Tbl) (v:Val) (b:Bool):Prop:=∀ (S0 S1:Nat->Prop) (ct cr:List Value) (w:World),Xh w->Zm.R S0 w ct t->Z9 S1 w cr v ->
 Calls prog 44 #[ct,cr] w fun e w'=>e=.returned (.bool b)/\Below w w w'
theorem Nc {t:Tbl} {v:Val} {b:Bool} (hs:Uy t.check=true) (he:EvV t.check (D7 v) (Vf b)) (hl:v.names.length<=v.kids.length):Dq t v b:=
 fun S0 S1 ct cr w _ ht hr=>sat_ok S0 S1 t v ct cr b w ht hr hs he hl
theorem sat2_any (X:Nat) (S:Nat->Prop) (t:Tbl) (ct:List Value) (rows:List Val) (p:Val->Bool) (w:World) (hct:∀ j u,ct[j]?=some u->w.cell? ⟨X,j,none⟩=some u) (hXl:X<w) (ht:Zm.R S w ct t) (hkw:Xh w)
  (hev:∀ x ∈ rows,Dq t x (p x)):Vo prog 43 #[Ch X] Zd S rows p w:=by
 intro W x cs hb hx G
 have D:=Zm.frame ht (.of_below hb)
 have HC:=Qq (fun W' (h':Below W W W')=>hev x hx S S ct cs W' ((hkw.below hb).below h') (Zm.frame D (.of_below h')) (Z9.move (show Z9 S W cs x from G) (.of_below h') Qje))
 obtain ⟨O,N,aA,Z,aI,aH,k9,aJ,n9,aK,aE,aB,I,aF,aC,J,aG,aD,M,a9,z9,A,_⟩:=Zt D
 simp only [tcs] at A
 subst A
 obtain ⟨p3,k3,p4,k4,A,_⟩:=Z9.cells (show Z9 S W cs x from G)
 simp only [vcs] at A
 subst A
 have d:=fun j u hj=>(hb.cell (p:=⟨X,j,none⟩) hXl).trans (hct j u hj)
 have d0:=d 0 _ rfl
 have d1:=d 1 _ rfl
 have d2:=d 2 _ rfl
 have d3:=d 3 _ rfl
 have d4:=d 4 _ rfl
 have d5:=d 5 _ rfl
 have d6:=d 6 _ rfl
 have d7:=d 7 _ rfl
 have d8:=d 8 _ rfl
 have d9:=d 9 _ rfl
 have T:=d 10 _ rfl
 have U:=d 11 _ rfl
 have V:=d 12 _ rfl
 have Y:X<W.heap.size:=Qv W _ d0
 show Calls prog 43 #[.agg (Cn x p3 k3 p4 k4),Ch X] W (fun e w'=>e=.returned (.bool (p x))/\Below W W w')
 generalize p x=b at HC |-
 clear d hct ht hb hx G D hev hkw
 go_enter func43,ntmps43
 go_wp2_with (go_at_call 44;refine (HC.out _ (Zg _ _)).mono ?_;rintro e w' ⟨rfl,hw⟩)
 go_ret
 exact ⟨rfl,(Zg _ _).thn hw⟩
theorem con5_any (S0 S3:Nat->Prop) (t:Tbl) (ct:List Value) (rv:Value) (rows:List Val) (p:Val->Bool) (w:World) (ht:Zm.R S0 w ct t) (hr:Sl Zd S3 w rv rows) (hkw:Xh w)
  (hev:∀ x ∈ rows,Dq t x (p x)):
  Calls prog 42 #[ct,rv] w (Dg S3 w (Vi 13 p rows)):=by
 have HU:=Qq (fun W (hb:Below w w W) (hct:∀ j u,ct[j]?=some u->W.cell? ⟨w,j,none⟩=some u) (hl:w<W.heap.size)=>Li 13 43 #[Ch w] (enters_of func43 Cd rfl) (fun b=>S3 b/\b<w) rv rows p W ((hr.mono (fun b hb h=>⟨h,hb⟩)).below hb)
  (fun W' x cs h1 h2 h3=>sat2_any w (fun _=>True) t ct rows p W hct hl (Zm.mono (Zm.frame ht (.of_below hb)) (fun _ _ _=>trivial)) (hkw.below hb) hev W' x cs h1 h2 (Z9.move h3 (.refl _ _) (fun _ _ _=>trivial))))
 obtain ⟨aW,aV,bB,bA,bJ,bI,k9,bK,n9,bL,bF,bC,aS,bG,bD,aT,bH,bE,aU,a9,z9,A,_⟩:=Zt ht
 simp only [tcs] at A
 subst A
 obtain ⟨rp,rc,rfl,_⟩:=hr.len
 obtain ⟨f,hf⟩:=eX (Vi 13 p rows)
 rw [hf] at HU |-
 clear ht hr hf hev hkw
 go_enter func42,ntmps42
 go_wp2_with fail
 refine (HU.out _ (Zu _ _ _) (fun j u hj=>by rw [Qk _ _ j _ _ _ (Q5 w _ _)];simpa using hj) (by simp;omega)).mono ?_
 rintro e w5 ⟨aX,rfl,T,M⟩
 obtain ⟨p3,k3,p4,k4,q3,l3,q4,l4,A,U,Y,V⟩:=Ud T
 simp only [fcs] at A
 subst A
 have J:=Qq ((M.block (w+1) Ca).trans (Q6 w _ _))
 have aL:=Qq ((Zu w _ _).thn M)
 obtain ⟨aO,aN,aM⟩:=Qjq Y V U
 have fz:=fun j=>Qn _ _ j _ _ J.out
 have rr:=fun j=>Qk _ _ j _ _ _ J.out
 obtain ⟨f0,f1,f2,f3,f4,f5,f6,f7,f8,f9,aY,aZ⟩:=Qjb fz
 obtain ⟨r0,r1,r2,r3,r4,r5,r6,r7,r8,r9,aP,aQ⟩:=Qjb rr
 simp only [Qf,Qg,Qh] at r0 r1 r2 r3 r4 r5 r6 r7 r8 r9 aP aQ
 clear fz rr T M Y V U
 go_wp2_with fail
 obtain ⟨W,O⟩:=eX (Yd w5 (w+1) f.code f.table f.row.kind f.row.n f.row.s (.slice p3 f.row.names.length k3) (.slice p4 f.row.kids.length k4) f.other.kind f.other.n f.other.s (.slice q3 f.other.names.length l3) (.slice q4 f.other.kids.length l4))
 have q:∀ j,W.cell? ⟨w+1,j,none⟩=#[.int .i64 f.code,.string ⟨f.table.toArray⟩,.int .i64 f.row.kind,.int .i64 f.row.n,.string ⟨f.row.s.toArray⟩,.slice p3 f.row.names.length k3,.slice p4 f.row.kids.length k4,.int .i64 f.other.kind,.int .i64 f.other.n,.string ⟨f.other.s.toArray⟩,.slice q3 f.other.names.length l3,.slice q4 f.other.kids.length l4][j]?:=fun j=>by rw [<- O];exact Y8 J.out j
 have I:∀ b,b≠w.heap.size+1->W.heap[b]?=w5.heap[b]?:=fun b hb=>by rw [<- O];exact Ys hb
 have G:Below w w W:=by rw [<- O];exact Y1 aL.out C7
 show bodyPost _ _ _ _ _ (Yd w5 (w+1) f.code f.table f.row.kind f.row.n f.row.s (.slice p3 f.row.names.length k3) (.slice p4 f.row.kids.length k4) f.other.kind f.other.n f.other.s (.slice q3 f.other.names.length l3) (.slice q4 f.other.kids.length l4))
 rw [O]
 have N:=Qq G;have D:=Qq I
 obtain ⟨q0,q1,q2,aB,aC,q5,q6,q7,q8,q9,Z,aA⟩:=Qjb q
 simp only [Qf,Qg,Qh] at q0 q1 q2 aB aC q5 q6 q7 q8 q9 Z aA
 clear O G q I
 refine Q7 (v:=.agg (Cr f.code f.table f.row p3 k3 p4 k4 f.other q3 l3 q4 l4)) (by simp [results,results42,go_sem,q0,q1,q2,aB,aC,q5,q6,q7,q8,q9,Z,aA]) rfl ⟨_,rfl,?_,N.out⟩
 exact ⟨_,_,rfl,aM.out,Z9.move aO.out (fun b hb _=>D.out b (by have:b<w.heap.size:=hb.2;omega)) (fun _ _ h=>h.1),Z9.move aN.out (fun b hb _=>D.out b (by have:b<w.heap.size:=hb.2;omega)) (fun _ _ h=>h.1)⟩
theorem Pv (us:List Sm) (B Y:Nat) (S:Nat->Prop) (ps:Option Addr) (ns nc:Nat) (T:Ty) (cty:List Value) (rows:List Val) (p:Val->Bool) (w:World) (hB0:w.cell? ⟨B,0,none⟩=some (.slice ps ns nc)) (hct:∀ j u,cty[j]?=some u->w.cell? ⟨Y,j,none⟩=some u) (hYl:Y<w)
  (hsm:Sl Ug S w (.slice ps ns nc) us) (hty:X5 S w cty T) (hp:∀ x ∈ rows,Y4 x/\Kf us x T (p x)) (hK:Xh w):Vo prog 37 #[Ch B,Ch Y] Zd S rows p w:=by
 intro W x cs hb I G
 have A:=hty.move (.of_below hb) Qje
 have HC:=Qq (fun W' (h':Below W W W')=>Tq us x T (p x) (hp x I).1 (hp x I).2 S S S cs cty ps ns nc W' ((hsm.below hb).below h') (Z9.move (show Z9 S W cs x from G) (.of_below h') Qje) (A.move (.of_below h') Qje) ((hK.below hb).below h'))
 obtain ⟨k,s,n,names,kids⟩:=T
 obtain ⟨y3,m3,y4,m4,rfl,_⟩:=A.cells'
 obtain ⟨p3,k3,p4,k4,D,_⟩:=Z9.cells (show Z9 S W cs x from G)
 simp only [vcs] at D
 subst D
 have b0:=kC hb hB0
 have d:=fun j u hj=>(hb.cell (p:=⟨Y,j,none⟩) hYl).trans (hct j u hj)
 have d0:=d 0 _ rfl
 have d1:=d 1 _ rfl
 have d2:=d 2 _ rfl
 have d3:=d 3 _ rfl
 have d4:=d 4 _ rfl
 have M:Y<W.heap.size:=Qv W _ d0
 have J:B<W.heap.size:=Qv W _ b0
 show Calls prog 37 #[.agg (Cn x p3 k3 p4 k4),Ch B,Ch Y] W (fun e w'=>e=.returned (.bool (p x))/\Below W W w')
 generalize p x=b at HC |-
 clear d hct hty hb I G A hp hB0 hK hsm
 go_enter func37,ntmps37
 go_wp2_with (go_at_call 17;refine (HC.out _ (Zg _ _)).mono ?_;rintro e w' ⟨rfl,hw⟩)
 go_ret
 exact ⟨rfl,(Zg _ _).thn hw⟩
theorem con2_any (us:List Sm) (B:Nat) (S0 S3:Nat->Prop) (ps:Option Addr) (ns nc:Nat) (t:Tbl) (ct:List Value) (rv:Value) (rows:List Val) (p:Val->Bool) (w:World) (hB0:w.cell? ⟨B,0,none⟩=some (.slice ps ns nc)) (ht:Zm.R S0 w ct t) (hr:Sl Zd S3 w rv rows)
  (hsm:Sl Ug (fun b=>b<w) w (.slice ps ns nc) us) (ho:Srt Kq t.columns) (hl:t.columns.length<=19) (hne:t.columns≠[]) (hp:∀ x ∈ rows,Y4 x/\Kf us x (Fa t) (p x)) (hK:Xh w):
  Calls prog 35 #[ct,rv,Ch B] w (Dg S3 w (Vi 9 p rows)):=by
 have aH:=Qq (fun W (hb:Below w w W)=>Tj S0 t ct W (Zm.frame ht (.of_below hb)) ho hl hne)
 have bK:=Qv _ _ hB0
 have HU:=Qq (fun W Y M (hb:Below w w W) (hct:∀ j u,M[j]?=some u->W.cell? ⟨Y,j,none⟩=some u) (hY:Y<W) (D:X5 (fun _=>True) W M (Fa t))=>Li 9 37 #[Ch B,Ch Y] (enters_of func37 Cd rfl) (fun b=>S3 b/\b<w) rv rows p W ((hr.mono (fun b hb h=>⟨h,hb⟩)).below hb)
  (fun W' x cs h1 h2 h3=>Pv us B Y (fun _=>True) ps ns nc (Fa t) M rows p W (kD hb bK hB0) hct hY ((hsm.mono (fun _ _ _=>trivial)).below hb) D hp (hK.below hb) W' x cs h1 h2 (Z9.move h3 (.refl _ _) (fun _ _ _=>trivial))))
 obtain ⟨bT,bS,bY,bX,cG,cF,k9,cH,n9,cI,cC,bZ,bP,cD,cA,bQ,cE,cB,bR,a9,z9,G,_⟩:=Zt ht
 simp only [tcs] at G
 subst G
 obtain ⟨rp,rc,rfl,_⟩:=hr.len
 obtain ⟨f,hf⟩:=eX (Vi 9 p rows)
 rw [hf] at HU |-
 clear ht hr hf hp hK ho hl hne hB0 hsm
 go_enter func35,ntmps35
 go_wp2_with fail
 refine (aH.out _ (Zu _ _ _)).mono ?_
 rintro e w1 ⟨M,rfl,D,O⟩
 have I:=D
 generalize hT:Fa t=T at D I HU
 obtain ⟨tk,ts,tn,A,J⟩:=T
 obtain ⟨y3,m3,y4,m4,bL,_⟩:=I.cells'
 subst bL
 have bH:=Qq D;have bB:=Qq ((Zu w _ _).thn O)
 have bG:=Qq ((O.block (w+1) Ca).trans (Q6 w _ _))
 have bJ:=Qq (show w+2<=w1.heap.size by have:=O.size;simp at this;omega)
 clear D I O hT
 go_upto_region 2 with fail
 obtain ⟨W2,N⟩:=eX (w1.alloc (.cells #[tk,ts,tn,.slice y3 A.length m3,.slice y4 J.length m4] 57))
 rw [N]
 have U:=eqB N (Zg _ _)
 have aD:=eqH (b:=w1.heap.size) N (Qw _ _)
 have aE:=Qq (bB.out.thn U)
 have aG:=Qq ((U.block (w+1) (C8 bJ.out)).trans bG.out)
 have bI:=Qq (HU.out W2 w1 [tk,ts,tn,.slice y3 A.length m3,.slice y4 J.length m4] aE.out (fun j u hj=>by rw [Qk _ _ j _ _ _ aD];simpa using hj) (Z8 aD) (bH.out.move (.of_below U) (fun _ _ _=>trivial)))
 clear N U aD HU
 go_wp2_with fail
 refine bI.out.mono ?_
 rintro e w5 ⟨bU,rfl,aJ,aC⟩
 obtain ⟨p3,k3,p4,k4,q3,l3,q4,l4,G,aK,aM,aL⟩:=Ud aJ
 simp only [fcs] at G
 subst G
 have aB:=Qq ((aC.block (w+1) (Z8 aG.out)).trans aG.out)
 have bC:=Qq (aE.out.thn aC)
 obtain ⟨bF,bE,bD⟩:=Qjq aM aL aK
 have fz:=fun j=>Qn _ _ j _ _ aB.out
 have rr:=fun j=>Qk _ _ j _ _ _ aB.out
 obtain ⟨f0,f1,f2,f3,f4,f5,f6,f7,f8,f9,bV,bW⟩:=Qjb fz
 obtain ⟨r0,r1,r2,r3,r4,r5,r6,r7,r8,r9,bM,bN⟩:=Qjb rr
 simp only [Qf,Qg,Qh] at r0 r1 r2 r3 r4 r5 r6 r7 r8 r9 bM bN
 clear fz rr aJ aC aM aL aK
 go_wp2_with fail
 obtain ⟨W,hW⟩:=eX (Yd w5 (w+1) f.code f.table f.row.kind f.row.n f.row.s (.slice p3 f.row.names.length k3) (.slice p4 f.row.kids.length k4) f.other.kind f.other.n f.other.s (.slice q3 f.other.names.length l3) (.slice q4 f.other.kids.length l4))
 have q:∀ j,W.cell? ⟨w+1,j,none⟩=#[.int .i64 f.code,.string ⟨f.table.toArray⟩,.int .i64 f.row.kind,.int .i64 f.row.n,.string ⟨f.row.s.toArray⟩,.slice p3 f.row.names.length k3,.slice p4 f.row.kids.length k4,.int .i64 f.other.kind,.int .i64 f.other.n,.string ⟨f.other.s.toArray⟩,.slice q3 f.other.names.length l3,.slice q4 f.other.kids.length l4][j]?:=fun j=>by rw [<- hW];exact Y8 aB.out j
 have aA:∀ b,b≠w.heap.size+1->W.heap[b]?=w5.heap[b]?:=fun b hb=>by rw [<- hW];exact Ys hb
 have Z:Below w w W:=by rw [<- hW];exact Y1 bC.out C7
 show bodyPost _ _ _ _ _ (Yd w5 (w+1) f.code f.table f.row.kind f.row.n f.row.s (.slice p3 f.row.names.length k3) (.slice p4 f.row.kids.length k4) f.other.kind f.other.n f.other.s (.slice q3 f.other.names.length l3) (.slice q4 f.other.kids.length l4))
 rw [hW]
 have aF:=Qq Z;have V:=Qq aA
 obtain ⟨q0,q1,q2,aP,aQ,q5,q6,q7,q8,q9,aN,aO⟩:=Qjb q
 simp only [Qf,Qg,Qh] at q0 q1 q2 aP aQ q5 q6 q7 q8 q9 aN aO
 clear hW Z q aA
 refine Q7 (v:=.agg (Cr f.code f.table f.row p3 k3 p4 k4 f.other q3 l3 q4 l4)) (by simp [results,results35,go_sem,q0,q1,q2,aP,aQ,q5,q6,q7,q8,q9,aN,aO]) rfl ⟨_,rfl,?_,aF.out⟩
 exact ⟨_,_,rfl,bD.out,Z9.move bF.out (fun b hb _=>V.out b (by have:b<w.heap.size:=hb.2;omega)) (fun _ _ h=>h.1),Z9.move bE.out (fun b hb _=>V.out b (by have:b<w.heap.size:=hb.2;omega)) (fun _ _ h=>h.1)⟩
def Ku:List Val->Bool
 | a::b::l=>decide (Yv a b<0)&&Ku (b::l)
 | _=>true
theorem Bm:∀ (l:List Val),Ku l=true↔∀ (j:Nat) (x y:Val),l[j]?=some x->l[j+1]?=some y->Yv x y<0
 | []=>by simp [Ku]
 | [a]=>by simp [Ku]
 | a::b::l=>by
  rw [Ku,Bool.and_eq_true,decide_eq_true_eq,Bm (b::l)]
  constructor
  ·rintro ⟨h1,h2⟩ j x y hx hy
   cases j with
   | zero=>simp at hx hy;subst hx;subst hy;exact h1
   | succ j=>exact h2 j x y (by simpa using hx) (by simpa using hy)
  intro h
  exact ⟨h 0 a b rfl rfl,fun j x y hx hy=>h (j+1) x y (by simpa using hx) (by simpa using hy)⟩
theorem incV_not {l:List Val} {j:Nat} {x y:Val} (hx:l[j]?=some x) (hy:l[j+1]?=some y) (h:¬ Yv x y<0):Ku l=false:=by
 rw [<- Qt,Bm]
 exact fun g=>h (g j x y hx hy)
theorem Cx (S0 S1:Nat->Prop) (t:Tbl) (ct:List Value) (r:Rel) (cr:List Value) (w:World) (ht:Zm.R S0 w ct t) (hr:Y6.R S1 w cr r):
  Calls prog 96 #[ct,cr] w fun e w'=>e=.returned (.bool (Ku r.rows&&decide (t.name=r.table)))/\Below w w w':=by
 obtain ⟨bF,bE,bR,bQ,bZ,bY,k9,cA,n9,cB,bV,bS,bB,bW,bT,bC,bX,bU,bD,a9,z9,aH,_⟩:=Zt ht
 simp only [tcs] at aH
 subst aH
 obtain ⟨rv,rfl,_,N⟩:=hr
 have U:Sl Zd (fun b=>b<w) w rv r.rows:=N.mono (fun b hb _=>hb)
 obtain ⟨rp,rc,rfl,hl⟩:=U.len
 have hC:∀ (W:World) (x y:Val) (cx cy:List Value),Below w w W->Z9 (fun b=>b<w) W cx x->Z9 (fun b=>b<w) W cy y->∀ n os,Calls prog 16 #[cx,cy] (Sort.grow (W.drewN n) os) fun e w'=>e=.returned (.int .i64 (Yv x y))/\∃ q os',w'=Sort.grow ((Sort.grow (W.drewN n) os).drewN q) os':=
  fun W x y cx cy _ Y T n os=>Fi _ x y cx cy _ (Y.move (.of_below (Yb W n os).bl) Qje) (T.move (.of_below (Yb W n os).bl) Qje)
 have HC:=Qq hC;have HV:=Qq U
 clear ht N hC U
 obtain ⟨n,hn⟩:=eX (r.rows.length)
 rw [hn] at HV hl |-
 have HN:=Qq hn
 clear hn
 obtain ⟨tb,V⟩:=eX (decide (t.name=r.table))
 rw [V]
 have O:(t.name==r.table)=tb:=by rw [<- V];by_cases h:t.name=r.table <;> simp [h]
 have aS:=Qq O
 clear V O
 obtain ⟨res,A⟩:=eX (Ku r.rows)
 rw [A]
 have HR:=Qq A
 clear A
 unfold sv
 have mixed:(prog).follows .mixedOrders=true:=Cd
 go_enter func96,ntmps96
 go_wp2_with fail
 generalize I:(w.alloc _).alloc _=W1
 have aF:=eqB I (Zu _ _ _)
 have aC:=eqH (b:=w.heap.size) I (Q5 _ _ _)
 have aE:=eqH (b:=w.heap.size+1) I (Q6 _ _ _)
 obtain ⟨Z,aR,aB⟩:=Qjq aF aC aE
 clear I aF aC aE
 go_loopw [5,9] (fun _ i wr=>∃ k:Nat,k<=n/\i=.int .i64 k/\Gr W1 wr/\Aside (∀ (j:Nat) (x y:Val),j+1<k->r.rows[j]?=some x->r.rows[j+1]?=some y->Yv x y<0)) (fun _ i _=>n - (intOf i).toNat)
 case atStart=>exact ⟨0,Q8 _,rfl,Gr.refl _,fun j x y hj=>absurd hj (Z6 _)⟩
 obtain ⟨k,bP,rfl,hG,hI⟩:=hrel
 have aZ:=Z8 aB.out
 have J:=kE hG.bl aZ aB.out
 have aU:=Z8 J
 have aD:=kB hG.bl aR.out
 have x0:=rA0 J;have x1:=rA1 J;have t0:=rA0 aD
 have HG:=Qq hG;have HI:=Qq hI.out
 have G:=Qq (Z.out.trans (hG.bl.mono Z.out.size))
 clear hG hI J aD
 by_cases hlt:k<n
 ·have aV:(0:Int)<=(k:Int):=C7
  have aW:(k:Int)<(n:Int):=C7
  by_cases hk0:k=0
  ·have hd:decide ((k:Int) > 0)=false:=by simp;omega
   have bG:decide ((0:Int)<(k:Int))=false:=by simp;omega
   have bH:decide (0<k)=false:=by simp;omega
   have aP:=Qq hk0
   clear hk0
   go_wp2_with fail
   go_quiet (fail)
   go_wp2_with fail
   go_roundw
   case measure=>simp [intOf];omega
   case rel=>exact ⟨k+1,C7,by go_num,HG.out.thn ⟨_,#[],by rw [Sort.grow_empty]⟩,(show Aside _ from fun j x y hj=>absurd hj (C8 aP.out))⟩
  obtain ⟨j,rfl⟩:∃ j,k=j+1:=⟨k - 1,C7⟩
  clear hk0
  obtain ⟨x,Y⟩:∃ x,r.rows[j]?=some x:=⟨_,Qx (by rw [HN.out];omega)⟩
  obtain ⟨y,T⟩:∃ y,r.rows[j+1]?=some y:=⟨_,Qx (by rw [HN.out];omega)⟩
  obtain ⟨xb,aL,p3,k3,p4,k4,rfl,D,aJ,d0,d1,d2,d3,d4⟩:=(HV.out.below G.out).val Y
  obtain ⟨yb,aM,q3,l3,q4,l4,he,bA,aK,e0,e1,e2,e3,e4⟩:=(HV.out.below G.out).val T
  obtain ⟨rfl,rfl,-⟩:xb=yb/\aL=aM/\True:=by simpa using he
  have M:=HC.out wr x y _ _ G.out aJ aK
  have D0:=Zs D d0;have D1:=Zs D d1;have D2:=Zs D d2;have D3:=Zs D d3;have D4:=Zs D d4
  have E0:=Zs D e0;have E1:=Zs D e1;have E2:=Zs D e2;have E3:=Zs D e3;have E4:=Zs D e4
  have X1:=Zs aU x1
  have bI:IntKind.i64.wrap (j:Int)=(j:Int):=by rw [IntKind.wrap_i64];omega
  have bJ:(j:Int)<(n:Int):=C7
  have bK:(0:Int)<(j:Int)+1:=C7
  have bL:(0:Int)<=(j:Int)+1:=C7
  have bM:(j:Int)+1<(n:Int):=C7
  have bN:(0:Int)<=(j:Int):=C7
  have bO:((j:Int)+1).toNat=j+1:=C7
  have HX:=Qq Y;have HY:=Qq T
  unfold vcs at M
  generalize aG:Yv x y=c at M
  have aA:=Qq aG
  clear Y T he aJ aK bA d0 d1 d2 d3 d4 e0 e1 e2 e3 e4 aG aV aW
  by_cases hneg:c<0
  ·have hq:decide (0<=c)=false:=by simpa using hneg
   go_wp2_with fail
   go_quiet_grown (first | (go_at_call 16;refine Calls.grown_of (M _ _)))
   go_wp2_with fail
   go_roundw
   case measure=>simp [intOf];omega
   case rel=>
    refine ⟨j+1+1,C7,by go_num,HG.out.thn (Yb _ _ _),(show Aside _ from fun i u v hi hu hv=>?_)⟩
    by_cases e:i=j
    ·subst e
     have h1:=HX.out;have h2:=HY.out
     rw [hu] at h1;rw [hv] at h2
     cases h1;cases h2
     rw [aA.out];exact hneg
    exact HI.out i u v C7 hu hv
  have hq:decide (0<=c)=true:=by simp;omega
  have A:res=false:=by rw [<- HR.out];exact incV_not HX.out HY.out (by rw [aA.out];exact hneg)
  subst A
  go_wp2_with fail
  go_quiet_grown (first | (go_at_call 16;refine Calls.grown_of (M _ _)))
  go_wp2_with fail
  go_ret
  exact ⟨Ca,G.out.thn (Yb _ _ _).bl⟩
 have aI:k=n:=C7
 subst aI
 have A:res=true:=by
  rw [<- HR.out,Bm]
  exact fun j x y Y T=>HI.out j x y (by have:=(Qj T).1;have:=HN.out;omega) Y T
 subst A
 go_wp2_with fail
 go_ret
 refine ⟨?_,G.out⟩
 rw [Bool.true_and,<- aS.out]
 rfl
def F6 (s:Sc) (l:List Rel):Bool:=eqL (fun (t:Tbl) (r:Rel)=>Ku r.rows&&decide (t.name=r.table)) s.tables l
theorem Pn (S0 S1:Nat->Prop) (s:Sc) (cs:List Value) (lv:Value) (l:List Rel) (w:World) (hs:Xt S0 w cs s) (hl:Sl Y6 S1 w lv l):
  Calls prog 33 #[cs,lv] w fun e w'=>e=.returned (.bool (F6 s l))/\Below w w w':=by
 obtain ⟨uv,tv,rfl,hu,A⟩:=hs
 have HE:=Qq (fun W (hb:Below w w W)=>Ab 96 #[] (enters_of func96 Cd rfl) (fun _=>True) tv lv s.tables l W ((A.mono (fun _ _ _=>trivial)).below hb) ((hl.mono (fun _ _ _=>trivial)).below hb) (fun t r=>Ku r.rows&&decide (t.name=r.table))
  (fun W' x y cx cy _ _ _ hx hy=>Cx _ _ x cx y cy W' hx hy))
 obtain ⟨up,uc,rfl,_⟩:=hu.len
 obtain ⟨tp,tc,rfl,_⟩:=A.len
 obtain ⟨lp,lc,rfl,_⟩:=hl.len
 unfold F6
 generalize eqL _ s.tables l=r at HE |-
 clear hu A hl
 go_enter func33,ntmps33
 go_wp2_with (go_at_call 95;refine (HE.out _ (Zg _ _)).mono ?_;rintro e w' ⟨rfl,hw⟩)
 go_ret
 exact ⟨rfl,(Zg _ _).thn hw⟩
end Go.Proofs.YtcljcblceodciaaGreatDoor
