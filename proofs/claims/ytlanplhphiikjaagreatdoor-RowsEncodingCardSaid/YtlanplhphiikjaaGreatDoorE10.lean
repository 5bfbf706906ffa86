import Derived.Test.YtlanplhphiikjaaGreatDoorE09
set_option maxRecDepth 100000
set_option maxHeartbeats 400000000
namespace Go.Proofs.YtlanplhphiikjaaGreatDoor
open Go.RowKit Go.Shelf Go.Lib Tryz
def TableIsX (S:Nat->Prop) (w:World) (o:Option Tbl) (e:Ending) (w':World):Prop:=∃ cs',e=.returned (.tuple #[.agg cs'.toArray,.bool o.isSome])/\Zl.R (fun b=>S b\/w<=b) w' cs' (o.getD Tbl.zero)/\Below w w w'
structure TMidX (S:Nat->Prop) (w:World) (X:Nat) (x:Tbl) (cp:Option Addr) (cc:Nat) (kp:Option Addr) (kc:Nat) (rp:Option Addr) (rc:Nat) (k9:Int) (s19:ByteArray) (n9:Int) (s29:ByteArray) (p19:Option Addr) (n19 c19:Nat) (p29:Option Addr) (n29 c29:Nat) (p39:Option Addr) (n39 c39:Nat) (a9 z9:Int) (wx:World):Prop where
 below:Below w w wx
 box:wx.heap[X]?=some (.cells (Qxg x cp cc kp kc rp rc k9 s19 n9 s29 p19 n19 c19 p29 n29 c29 p39 n39 c39 a9 z9) 61 (0,0))
 res:wx.heap[w.heap.size+1]?=some (.cells zT 61 (0,0))
 cols:Sl Xw (fun b=>(S b/\b<w)\/w+1<b) wx (.slice cp x.columns.length cc) x.columns
 key:Sl Zg (fun b=>(S b/\b<w)\/w+1<b) wx (.slice kp x.key.length kc) x.key
 refs:Sl Fw (fun b=>(S b/\b<w)\/w+1<b) wx (.slice rp x.refs.length rc) x.refs
theorem clSX {T:Type} {r:Rd T} {E:TypeId} {S:Nat->Prop} {B X:Nat} {w:World} {v:Value} {xs:List T} {css:List (List Value)} (h:Own r E S B w v xs css) (hl:xs.length<=1000000) (hX:X<B):Sl r (fun b=>S b\/X<b) w v xs:=
 h.sl hl (fun b hb=>.inr Qvu) (fun b _ hb=>.inl hb)
theorem tmid_ofX {S:Nat->Prop} {w wC:World} {X:Nat} {x:Tbl} {cp:Option Addr} {cc:Nat} {kp:Option Addr} {kc:Nat} {rp:Option Addr} {rc:Nat} {k9:Int} {s19:ByteArray} {n9:Int} {s29:ByteArray} {p19:Option Addr} {n19 c19:Nat} {p29:Option Addr} {n29 c29:Nat} {p39:Option Addr} {n39 c39:Nat} {a9 z9:Int} {y1 y2 y3:Value}
  (hlt:w+1<X) (hb:Below w w wC)
  (hX:wC.heap[X]?=some (.cells #[x.name,y1,y2,y3,k9,.string s19,n9,.string s29,.slice p19 n19 c19,.slice p29 n29 c29,.slice p39 n39 c39,a9,z9] 61 (0,0)))
  (hR:wC.heap[w.heap.size+1]?=some (.cells zT 61 (0,0)))
  (h1:Sl Xw (fun b=>(S b/\b<w)\/X<b) wC (.slice cp x.columns.length cc) x.columns)
  (h2:Sl Zg (fun b=>(S b/\b<w)\/X<b) wC (.slice kp x.key.length kc) x.key)
  (h3:Sl Fw (fun b=>(S b/\b<w)\/X<b) wC (.slice rp x.refs.length rc) x.refs):
  TMidX S w X x cp cc kp kc rp rc k9 s19 n9 s29 p19 n19 c19 p29 n29 c29 p39 n39 c39 a9 z9 (((wC.setCell ⟨X,1,none⟩ (.slice cp x.columns.length cc)).setCell ⟨X,2,none⟩ (.slice kp x.key.length kc)).setCell ⟨X,3,none⟩ (.slice rp x.refs.length rc)):=by
 have e1:(wC.setCell ⟨X,1,none⟩ (.slice cp x.columns.length cc)).heap[X]?=some (.cells #[x.name,.slice cp x.columns.length cc,y2,y3,k9,.string s19,n9,.string s29,.slice p19 n19 c19,.slice p29 n29 c29,.slice p39 n39 c39,a9,z9] 61 (0,0)):=by rw [Qi _ _ _ _ _ _ hX];rfl
 have e2:((wC.setCell ⟨X,1,none⟩ (.slice cp x.columns.length cc)).setCell ⟨X,2,none⟩ (.slice kp x.key.length kc)).heap[X]?=some (.cells #[x.name,.slice cp x.columns.length cc,.slice kp x.key.length kc,y3,k9,.string s19,n9,.string s29,.slice p19 n19 c19,.slice p29 n29 c29,.slice p39 n39 c39,a9,z9] 61 (0,0)):=by rw [Qi _ _ _ _ _ _ e1];rfl
 have A:∀ b,b≠X->(((wC.setCell ⟨X,1,none⟩ (.slice cp x.columns.length cc)).setCell ⟨X,2,none⟩ (.slice kp x.key.length kc)).setCell ⟨X,3,none⟩ (.slice rp x.refs.length rc)).heap[b]?=wC.heap[b]?:=fun b hb=>by rw [Z9 hb,Z9 hb,Z9 hb]
 have D:∀ {T:Type} {r:Rd T} {v:Value} {xs:List T},Sl r (fun b=>(S b/\b<w)\/X<b) wC v xs->Sl r (fun b=>(S b/\b<w)\/w+1<b) (((wC.setCell ⟨X,1,none⟩ (.slice cp x.columns.length cc)).setCell ⟨X,2,none⟩ (.slice kp x.key.length kc)).setCell ⟨X,3,none⟩ (.slice rp x.refs.length rc)) v xs:=by
  intro T r v xs h
  exact (h.frame (fun b hb _=>A b (by rcases hb with hb | hb <;> omega))).mono (fun b _ hb=>by rcases hb with hb | hb;(exact .inl hb);(exact .inr Qvu))
 exact ⟨((hb.setCell (by show w<=X;omega) _).setCell (by show w<=X;omega) _).setCell (by show w<=X;omega) _,by rw [Qi _ _ _ _ _ _ e2];rfl,by rw [A _ Qvu];exact hR,D h1,D h2,D h3⟩
theorem Ak (S:Nat->Prop) (s:Sc) (cs:List Value) (x0:Bs) (w:World) (hs:Vj S w cs s):
  Calls prog 182 #[cs,sv x0] w (TableIsX S w (Yy s.tables x0)):=by
 obtain ⟨uv,tv,rfl,hu,cU⟩:=hs
 have ht:=cU.up
 obtain ⟨up,uc,rfl,_⟩:=hu.len
 obtain ⟨tp,eO,rfl,_⟩:=ht.len
 have HN:=Qq (fun W (hb:Below w w W)=>Qks _ s.tables _ x0 W (ht.below hb))
 clear hu ht cU
 cases hr:Yy s.tables x0 with
 | none=>
  rw [hr] at HN
  clear hr
  unfold sv at HN |-
  go_enter func182,ntmps182
  go_wp2_with fail
  refine (HN.out _ (Zu _ _ _)).mono ?_
  rintro e w1 ⟨cO,rfl,aN,aA⟩
  obtain ⟨bR,bP,cD,cB,cI,cG,k9,aI,n9,aJ,aF,aC,O,aG,aD,U,aH,aE,V,a9,z9,aP,_⟩:=Yj aN
  simp only [tcs] at aP
  subst aP
  have Y:=(aA.block (w+1) Qxz).trans (Q6 w _ _)
  have aY:=Qq ((Zu w _ _).thn aA);have bM:=Qq Y
  have aQ:=Z8 Y
  clear aN aA Y
  go_upto_region 3 with fail
  generalize aM:w1.alloc _=w5
  have aB:=eqB aM (Ze _ _)
  have Z:=kE aB aQ bM.out
  have fz:=fun j=>Qn _ _ j _ _ Z
  have rr:=fun j=>Qk _ _ j _ _ _ Z
  obtain ⟨f0,f1,f2,f3,f4,f5,f6,f7,f8,f9,bS,bT,bU⟩:=Qyz fz
  obtain ⟨r0,r1,r2,r3,r4,r5,r6,r7,r8,r9,aU,aV,aW⟩:=Qyz rr
  simp only [Qf,Qg,Qh] at r0 r1 r2 r3 r4 r5 r6 r7 r8 r9 aU aV aW
  have aL:=Qq (aY.out.thn aB);have bN:=Qq Z
  clear fz rr Z aB aM
  go_wp2_with fail
  obtain ⟨W,hW⟩:=eX (Vn w5 (w+1) Qxd Qxe Qxe Qxe Qxc Qxd Qxc Qxd Qxe Qxe Qxe Qxc Qxc)
  have q:∀ j,W.cell? ⟨w+1,j,none⟩=zT[j]?:=fun j=>by rw [<- hW];exact Uo bN.out j
  have N:Below w w W:=by rw [<- hW];exact Xo aL.out Qvu
  show bodyPost _ _ _ _ _ (Vn w5 (w+1) Qxd Qxe Qxe Qxe Qxc Qxd Qxc Qxd Qxe Qxe Qxe Qxc Qxc)
  rw [hW]
  have aK:=Qq N
  obtain ⟨q0,q1,q2,q3,q4,q5,q6,q7,q8,q9,aR,aS,aT⟩:=Qyz q
  simp only [Qf,Qg,Qh] at q0 q1 q2 q3 q4 q5 q6 q7 q8 q9 aR aS aT
  clear hW N q r0 r1 r2 r3 r4 r5 r6 r7 r8 r9 aU aV aW f0 f1 f2 f3 f4 f5 f6 f7 f8 f9 bS bT bU
  refine Q7 (v:=.tuple #[.agg zT,.bool false]) (by simp [results,results182,go_sem,q0,q1,q2,q3,q4,q5,q6,q7,q8,q9,aR,aS,aT]) rfl ⟨[Qxd,Qxe,Qxe,Qxe,Qxc,Qxd,Qxc,Qxd,Qxe,Qxe,Qxe,Qxc,Qxc],rfl,Gw _ _,aK.out⟩
 | some x=>
  rw [hr] at HN
  clear hr
  unfold sv at HN |-
  go_enter func182,ntmps182
  go_wp2_with fail
  refine (HN.out _ (Zu _ _ _)).mono ?_
  rintro e w1 ⟨cO,rfl,aN,aA⟩
  rw [Option.getD_some] at aN
  have cV:Zl.R (fun b=>S b/\b<w) w1 cO x:=Zl.mono aN (fun b _ h=>h.1)
  obtain ⟨bR,bP,cD,cB,cI,cG,k9,aI,n9,aJ,aF,aC,O,aG,aD,U,aH,aE,V,a9,z9,aP,eF,bI,bJ,bL,cQ⟩:=Yj cV
  simp only [tcs] at aP
  subst aP
  have Y:=(aA.block (w+1) Qxz).trans (Q6 w _ _)
  have aY:=Qq ((Zu w _ _).thn aA);have bM:=Qq Y
  have aQ:=Z8 Y
  obtain ⟨bE,bF,bG,dS⟩:=Qxo bI bJ bL cQ
  clear aN cV aA Y bI bJ bL cQ
  go_upto_region 4 with fail
  generalize aM:w1.alloc (.cells (Qxg x bR bP cD cB cI cG k9 aI n9 aJ aF aC O aG aD U aH aE V a9 z9) 61)=w5
  have aB:=eqB aM (Ze _ _)
  have bV:=eqH (b:=w1.heap.size) aM (Qw _ _)
  have Z:=kE aB aQ bM.out
  obtain ⟨aL,eP,bN⟩:=Qxn aB bV Z
  obtain ⟨X,hX⟩:=eX (w1.heap.size)
  have D:=bV
  rw [hX] at D aQ |-
  have eQ:=Qq hX;have cN:=Qq D
  have aO:=Z8 D
  have v1:=Qk _ _ 1 _ _ _ D;have v2:=Qk _ _ 2 _ _ _ D;have v3:=Qk _ _ 3 _ _ _ D;have eH:=fA 1 D;have eI:=fA 2 D;have eJ:=fA 3 D;simp only [Qf,Qg,Qh] at v1 v2 v3
  clear aB bV D Z aM hX
  go_cut [30] (fun _ wx=>∃ cp cc kp kc rp rc,TMidX S w X x cp cc kp kc rp rc k9 aI n9 aJ aF aC O aG aD U aH aE V a9 z9 wx)
  case first=>
   go_region_with (first
    | (go_at_call 113;refine (S9 _ _ x.columns _ (bE.out.below aL.out.drew)).mono ?_;rintro e wA ⟨cp,cc,eY,rfl,cR,bW⟩;have I:=(bW.block X aO).trans cN.out;have a1:=Qk _ _ 1 _ _ _ I;have a2:=Qk _ _ 2 _ _ _ I;have a3:=Qk _ _ 3 _ _ _ I;have eR:=fA 1 I;have eS:=fA 2 I;have eT:=fA 3 I;simp only [Qf,Qg,Qh] at a1 a2 a3;obtain ⟨aZ,bB,dU⟩:=Qxn I bW cR;clear I bW cR)
    | (go_at_call 150;refine (Po _ _ x.key _ (bF.out.below (aL.out.drew.thn bB.out))).mono ?_;rintro e wB ⟨kp,kc,fD,rfl,cS,bX⟩;have J:=(bX.block X (Z8 aZ.out)).trans aZ.out;have b1:=Qk _ _ 1 _ _ _ J;have b2:=Qk _ _ 2 _ _ _ J;have b3:=Qk _ _ 3 _ _ _ J;have eU:=fA 1 J;have eV:=fA 2 J;have eW:=fA 3 J;simp only [Qf,Qg,Qh] at b1 b2 b3;obtain ⟨bA,bC,dV⟩:=Qxn J bX cS;clear J bX cS)
    | (go_at_call 235;refine (cloneRef _ _ x.refs _ (bG.out.below ((aL.out.drew.thn bB.out).thn bC.out))).mono ?_;rintro e wC ⟨rp,rc,fE,rfl,cT,bY⟩;have M:=(bY.block X (Z8 bA.out)).trans bA.out;have c1:=Qk _ _ 1 _ _ _ M;have c2:=Qk _ _ 2 _ _ _ M;have c3:=Qk _ _ 3 _ _ _ M;have eZ:=fA 1 M;have fB:=fA 2 M;have fC:=fA 3 M;simp only [Qf,Qg,Qh] at c1 c2 c3;obtain ⟨dT,bD,dW⟩:=Qxn M bY cT;clear M bY cT))
   all_goals
    go_wp2_with fail
    go_meet
    exact ⟨_,_,_,_,_,_,tmid_ofX (y1:=.slice bR x.columns.length bP) (y2:=.slice cD x.key.length cB) (y3:=.slice cI x.refs.length cG) aQ (aY.out.thn (aL.out.drew.thn (bB.out.thn (bC.out.thn bD.out)))) dT.out
     (bD.out.block _ (by have:=Z8 bA.out;omega) |>.trans (bC.out.block _ (by have:=Z8 aZ.out;omega) |>.trans (bB.out.block _ (by have:=aO;show _<w5.heap.size;omega) |>.trans bN.out)))
     (((clSX dU.out (by have:=bE.out.len;obtain ⟨_,_,_,h⟩:=this;exact h) (by show X<w5;exact aO)).below bC.out).below bD.out) ((clSX dV.out (by have:=bF.out.len;obtain ⟨_,_,_,h⟩:=this;exact h) (Z8 aZ.out)).below bD.out) (clSX dW.out (by have:=bG.out.len;obtain ⟨_,_,_,h⟩:=this;exact h) (Z8 bA.out))⟩
  obtain ⟨cp,cc,kp,kc,rp,rc,hT⟩:=hcut
  have HT:=Qq hT
  clear hT
  have fz:=fun j=>Qn _ _ j _ _ HT.out.res
  have rr:=fun j=>Qk _ _ j _ _ _ HT.out.res
  have xx:=fun j=>Qk _ _ j _ _ _ HT.out.box
  obtain ⟨f0,f1,f2,f3,f4,f5,f6,f7,f8,f9,bS,bT,bU⟩:=Qyz fz
  obtain ⟨r0,r1,r2,r3,r4,r5,r6,r7,r8,r9,aU,aV,aW⟩:=Qyz rr
  obtain ⟨eK,x1,x2,x3,x4,x5,x6,x7,x8,x9,eL,eM,eN⟩:=Qyz xx
  simp only [Qf,Qg,Qh] at r0 r1 r2 r3 r4 r5 r6 r7 r8 r9 aU aV aW eK x1 x2 x3 x4 x5 x6 x7 x8 x9 eL eM eN
  clear fz rr xx v1 v2 v3 eH eI eJ
  go_wp2_with fail
  obtain ⟨W,hW⟩:=eX (Vn wc (w+1) x.name (.slice cp x.columns.length cc) (.slice kp x.key.length kc) (.slice rp x.refs.length rc) k9 (.string aI) n9 (.string aJ) (.slice aF aC O) (.slice aG aD U) (.slice aH aE V) a9 z9)
  have q:∀ j,W.cell? ⟨w+1,j,none⟩=#[.string ⟨x.name.toArray⟩,.slice cp x.columns.length cc,.slice kp x.key.length kc,.slice rp x.refs.length rc,.int .i64 k9,.string aI,.int .i64 n9,.string aJ,.slice aF aC O,.slice aG aD U,.slice aH aE V,.int .i64 a9,.int .i64 z9][j]?:=fun j=>by rw [<- hW];exact Uo HT.out.res j
  have bK:∀ b,b≠w.heap.size+1->W.heap[b]?=wc.heap[b]?:=fun b hb=>by rw [<- hW];exact J0 hb
  have N:Below w w W:=by rw [<- hW];exact Xo HT.out.below Qvu
  show bodyPost _ _ _ _ _ (Vn wc (w+1) x.name (.slice cp x.columns.length cc) (.slice kp x.key.length kc) (.slice rp x.refs.length rc) k9 (.string aI) n9 (.string aJ) (.slice aF aC O) (.slice aG aD U) (.slice aH aE V) a9 z9)
  rw [hW]
  have aK:=Qq N;have cM:=Qq bK
  obtain ⟨q0,q1,q2,q3,q4,q5,q6,q7,q8,q9,aR,aS,aT⟩:=Qyz q
  simp only [Qf,Qg,Qh] at q0 q1 q2 q3 q4 q5 q6 q7 q8 q9 aR aS aT
  clear hW N bK q r0 r1 r2 r3 r4 r5 r6 r7 r8 r9 aU aV aW f0 f1 f2 f3 f4 f5 f6 f7 f8 f9 bS bT bU
  have A:∀ {T:Type} {r:Rd T} {v:Value} {xs:List T},Sl r (fun b=>(S b/\b<w)\/w+1<b) wc v xs->Sl r (fun b=>S b\/w<=b) W v xs:=fun h=>(h.frame (fun b hb _=>cM.out b (by rcases hb with hb | hb <;> omega))).mono (fun b _ hb=>by rcases hb with hb | hb;(exact .inl hb.1);(exact .inr Qvu))
  refine Q7 (v:=.tuple #[.agg (Qxg x cp cc kp kc rp rc k9 aI n9 aJ aF aC O aG aD U aH aE V a9 z9),.bool true]) (by simp [results,results182,go_sem,q0,q1,q2,q3,q4,q5,q6,q7,q8,q9,aR,aS,aT]) rfl ⟨_,rfl,?_,aK.out⟩
  refine ⟨_,_,_,_,rfl,eF,A HT.out.cols,A HT.out.key,A HT.out.refs,?_⟩
  exact Y1.move dS.out (fun b hb _=>(aK.out.block b hb.2).trans (aY.out.block b hb.2).symm) (fun b _ hb=>.inl hb.1)
def TableIs (w:World) (o:Option Tbl) (e:Ending) (w':World):Prop:=∃ cs',e=.returned (.tuple #[.agg cs'.toArray,.bool o.isSome])/\Zl.R (fun _=>True) w' cs' (o.getD Tbl.zero)/\Below w w w'
theorem Qkf (S:Nat->Prop) (s:Sc) (cs:List Value) (x0:Bs) (w:World) (hs:Vj S w cs s):
  Calls prog 182 #[cs,sv x0] w (TableIs w (Yy s.tables x0)):=by
 refine (Ak S s cs x0 w hs).mono ?_
 rintro e w' ⟨A,h1,h2,h3⟩
 exact ⟨A,h1,Zl.mono h2 (fun _ _ _=>trivial),h3⟩
def Aj:Rd Bs where
 k:=2
 R _ _ cs x:=cs=[sv x,.slice none 0 0]/\x.length<=1000000
 len h:=by rw [h.1];rfl
 frame h _:=h
 mono h _:=h
def X7 (s:Sc):List Rel:=s.tables.map (fun t=>⟨t.name,[]⟩)
theorem Qqv {E:TypeId} {S:Nat->Prop} {B:Nat} {w:World} {v:Value} {ns:List Bs} {css:List (List Value)} (h:Own Aj E S B w v ns css) (hE:E=42):U3 B w v (ns.map fun x=>⟨x,[]⟩) (List.replicate ns.length (.slice none 0 0)):=by
 subst hE
 have hc:css=Yb (ns.map fun x=>⟨x,[]⟩) (List.replicate ns.length (.slice none 0 0)):=by
  apply List.ext_getElem?
  intro i
  by_cases I:i<ns.length
  ·have J:=Qx (l:=css) (i:=i) (by rw [h.cs.len];exact I)
   have h2:=Qx I
   have h3:=(h.cs.R i _ _ J h2).1
   rw [J,h3,Dk (r:=⟨ns[i],[]⟩) (rv:=.slice none 0 0) (by rw [List.getElem?_map,h2];rfl) (by rw [List.getElem?_replicate,if_pos I])]
  rw [List.getElem?_eq_none (by rw [h.cs.len];omega),List.getElem?_eq_none (by rw [Jz Qxz];simp;omega)]
 refine ⟨Qxz,?_,?_,?_,?_⟩
 ·rw [<- hc,Z7];exact h.row
 ·intro r D
  obtain ⟨x,N,rfl⟩:=List.mem_map.1 D
  obtain ⟨i,I⟩:=Zk N
  have O:=(Qj I).1
  exact (h.cs.R i _ _ (Qx (by rw [h.cs.len];exact O)) I).2
 ·intro i r rv D A
  rw [List.getElem?_replicate] at A
  split at A
  ·cases A
   rw [List.getElem?_map] at D
   cases N:ns[i]? with
   | none=>rw [N] at D;cases D
   | some x=>rw [N] at D;cases D;exact ⟨[],Own.nil _ _ _ _ _⟩
  cases A
 intro i j a b g M _ J
 rw [List.getElem?_replicate] at M
 split at M
 ·cases M;cases J
 cases M
def Cu (w:World) (s:Sc) (e:Ending) (w':World):Prop:=∃ p cap,e=.returned (.slice p s.tables.length cap)/\U3 w w' (.slice p s.tables.length cap) (X7 s) (List.replicate s.tables.length (.slice none 0 0))/\Below w w w'
theorem Qqw (S0:Nat->Prop) (s:Sc) (cs:List Value) (w:World) (hs:Vj S0 w cs s) (hnl:∀ t ∈ s.tables,t.name.length<=1000000) (hl0:s.tables.length<=1000):
  Calls prog 47 #[cs] w (Cu w s):=by
 obtain ⟨uv,tv,rfl,hu,aQ⟩:=hs
 have ht:Sl Zl (fun b=>b<w) w tv s.tables:=aQ.mono (fun b hb _=>hb)
 obtain ⟨up,uc,rfl,_⟩:=hu.len
 obtain ⟨tp,tc,rfl,cG⟩:=ht.len
 have HT:=Qq ht;have bA:=Qq hnl
 obtain ⟨i0,j1,j2,j3,j4⟩:=Y4 (P:=prog) (t:=42) (z:=.agg #[Qxd,Qxe]) (n:=2) (b:=40) Qxx
 obtain ⟨HJ,aW,aX,aY⟩:=Qxo j1 j2 j3 j4
 clear hu aQ ht hnl j1 j2 j3 j4
 unfold Cu X7
 obtain ⟨n,hn⟩:=eX (s.tables.length)
 rw [hn] at HT hl0 |-
 have HN:=Qq hn
 clear hn
 go_enter func47,ntmps47
 go_wp2_with fail
 generalize O:w.alloc _=U
 have aM:=eqB O (Ze _ _)
 have aK:=eqH (b:=w.heap.size) O (Qw _ _)
 have aA:=Qq aM;have bF:=Qq aK
 clear O aM aK
 have M:w.heap.size<=U.heap.size:=aA.out.size
 go_loopw [3,9] (fun o i wr=>∃ (k:Nat) (p:Option Addr) (cap:Nat) (Z:List Bs) (css:List (List Value)),k<=n/\i=.int .i64 k/\o=.slice p k cap/\Z.length=k/\Aside (Z=(s.tables.take k).map Tbl.name) /\
  Own Aj 42 (fun _=>False) U wr (.slice p k cap) Z css/\Below U U wr) (fun _ i _=>n - (intOf i).toNat)
 case atStart=>exact ⟨0,none,0,[],[],Q8 _,rfl,rfl,rfl,rfl,Own.nil _ _ _ _ _,Qz _ _⟩
 obtain ⟨k,p,cap,Z,css,cE,rfl,rfl,aO,hE,V,D⟩:=hrel
 have bL:=kB D bF.out
 have bO:=D.size
 obtain ⟨aV,aB,HO,HE,N⟩:=Qxp D (aA.out.trans (D.mono M)) V hE.out aO
 clear bL D V hE aO
 by_cases hlt:k<n
 ·have cD:(0:Int)<=(k:Int):=Qvu
  have bM:(k:Int)<(n:Int):=Qvu
  obtain ⟨t,Y⟩:∃ t,s.tables[k]?=some t:=⟨_,Qx (by rw [HN.out];exact hlt)⟩
  have aT:=bA.out t (Qy Y)
  have aS:(s.tables.take (k+1)).map Tbl.name=(s.tables.take k).map Tbl.name++[t.name]:=by
   have hk:=(Qj Y).1
   rw [Zz hk,List.map_append]
   rw [Qx hk] at Y;cases Y;rfl
  obtain ⟨tb,cC,ct,rfl,cF,_,T,aR,A⟩:=(HT.out.below aB.out).elem Y
  obtain ⟨bK,bJ,bR,bQ,bZ,bY,k9,cA,n9,cB,bV,bS,bG,bW,bT,bH,bX,bU,bI,a9,z9,aN,_⟩:=Yj aR
  simp only [tcs] at aN
  subst aN
  have d0:=A 0 _ rfl
  have d1:=A 1 _ rfl
  have d2:=A 2 _ rfl
  have d3:=A 3 _ rfl
  have d4:=A 4 _ rfl
  have d5:=A 5 _ rfl
  have d6:=A 6 _ rfl
  have d7:=A 7 _ rfl
  have d8:=A 8 _ rfl
  have d9:=A 9 _ rfl
  have aE:=A 10 _ rfl
  have aF:=A 11 _ rfl
  have aG:=A 12 _ rfl
  simp only [show Zl.k=13 from rfl,Nat.add_zero] at d0 d1 d2 d3 d4 d5 d6 d7 d8 d9 aE aF aG
  have bE:=Qq aT;have bD:=Qq aS
  clear Y aT aS aR A T
  go_upto_region 5 with fail
  obtain ⟨W5,I⟩:=eX (wr.alloc (.cells (Qxg t bK bJ bR bQ bZ bY k9 cA n9 cB bV bS bG bW bT bH bX bU bI a9 z9) 61))
  rw [I]
  have J:=eqB I (Ze _ _)
  have aL:=eqH (b:=wr.heap.size) I (Qw _ _)
  have x0:=rA0 aL
  have bB:=Qq (HO.out.below J);have aU:=Qq (aV.out.trans (J.mono bO))
  have aP:U.heap.size<=W5.heap.size:=Qxj J.size
  clear I J aL d0 d1 d2 d3 d4 d5 d6 d7 d8 d9 aE aF aG
  go_wp2_with (at_builtin;refine Yf (r:=Aj) Qxv rfl (.tmp 13) (.tmp 17) _ rfl 42 i0 (.agg #[Qxd,Qxe]) 40 underlying29 HJ.out aW.out aX.out aY.out rfl Qvu (fun _=>False) U W5 (.slice p k cap) Z css [t.name,Qxe] t.name rfl bB.out rfl ⟨rfl,bE.out⟩ (by simp [Value.oneCell']) k N.out Qvu aP ?_;intro p7 aC aD w7 aJ aI;have bC:=Qq aJ;have aZ:=Qq aI;clear aJ aI)
  go_roundw
  case measure=>simp [intOf];omega
  case rel=>exact ⟨k+1,p7,aC,Z++[t.name],aD,Qvu,by go_num,rfl,by have:=N.out;simp [this],(show Aside _ from by have:=HE.out;show _=_;rw [this,bD.out]),bC.out,aU.out.trans aZ.out.below⟩
 obtain rfl:k=n:=Qvu
 have bM:¬ (k:Int)<(k:Int):=Qvu
 go_wp2_with fail
 go_ret
 have hE:=HE.out
 rw [Zj (by rw [HN.out];exact Q9 _)] at hE
 have V:=Qqv (HO.out.move M (fun b hb _=>rfl)) rfl
 rw [N.out] at V
 refine ⟨p,cap,rfl,?_,aB.out⟩
 rw [hE,List.map_map] at V
 exact V
namespace Inc
end Inc
def UpV (l:List Val):Prop:=l.Pairwise (fun a b=>Yk a b<0)
theorem hasV_iff {l:List Val} {x:Val}:Nv l x=true↔key x ∈ l.map key:=by
 unfold Nv
 rw [List.any_eq_true,List.mem_map]
 constructor
 ·rintro ⟨y,A,h⟩;exact ⟨y,A,Cn.1 h⟩
 rintro ⟨y,A,h⟩;exact ⟨y,A,Cn.2 h⟩
theorem Fm {α:Type} (p:α->Bool):∀ (l:List α) (x:α),x ∈ l.take (l.takeWhile p).length->p x=true
 | [],x,h=>by simp at h
 | a::l,x,h=>by
  rw [List.takeWhile_cons] at h
  split at h
  ·rename_i hp
   rw [List.length_cons,List.take_succ_cons] at h
   rcases Z3.1 h with rfl | h
   ·exact hp
   exact Fm p l x h
  simp at h
theorem Lg {α:Type} (p:α->Bool):∀ (l:List α) (y:α) (r:List α),l.drop (l.takeWhile p).length=y::r->p y=false
 | [],y,r,h=>by simp at h
 | a::l,y,r,h=>by
  rw [List.takeWhile_cons] at h
  split at h
  ·rw [List.length_cons,List.drop_succ_cons] at h
   exact Lg p l y r h
  rename_i hp
  simp at h
  rw [<- h.1];simpa using hp
theorem Qjz {l:List Val} (h:UpV l) (x:Val):UpV (J3 l x):=by
 by_cases hh:Nv l x=true
 ·unfold J3;rw [if_pos hh];exact h
 rw [Qzn _ _ (by simpa using hh)]
 have J:∀ y ∈ l,Yk y x≠0:=fun y D h0=>hh (hasV_iff.2 (List.mem_map.2 ⟨y,D,N1.1 h0⟩))
 have h1:∀ y ∈ l.take (Ua l x),Yk y x<0:=fun y D=>by
  have:=Fm _ _ _ D
  have h2:=of_decide_eq_true this
  have:=J y (List.mem_of_mem_take D)
  omega
 have A:=h
 unfold UpV at A |-
 rw [<- List.take_append_drop (Ua l x) l,List.pairwise_append] at A
 have hl:∀ a b:Val,Yk a b<0->∀ c,Yk b c<0->Yk a c<0:=fun a b h c h'=>by rw [Gd] at *;exact Nt h h'
 have h2:∀ y ∈ l.drop (Ua l x),Yk x y<0:=by
  intro y D
  cases hd:l.drop (Ua l x) with
  | nil=>rw [hd] at D;cases D
  | cons z r=>
   have hz:=Lg _ _ _ _ hd
   have M:0<Yk z x:=by
    have:=of_decide_eq_false hz
    omega
   have I:Yk x z<0:=by
    rw [Gd,Du,<- Gd];omega
   rw [hd] at D
   rcases Z3.1 D with rfl | D
   ·exact I
   have:=A.2.1
   rw [hd] at this
   exact hl _ _ I _ ((List.pairwise_cons.1 this).1 y D)
 rw [List.pairwise_append]
 refine ⟨A.1,List.pairwise_cons.2 ⟨h2,A.2.1⟩,fun a ha b hb=>?_⟩
 rcases Z3.1 hb with rfl | hb
 ·exact h1 a ha
 exact A.2.2 a ha b hb
end Go.Proofs.YtlanplhphiikjaaGreatDoor
