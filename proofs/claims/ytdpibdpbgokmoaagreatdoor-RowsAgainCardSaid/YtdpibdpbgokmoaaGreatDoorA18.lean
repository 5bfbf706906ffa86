import Derived.Test.YtdpibdpbgokmoaaGreatDoorA17
set_option maxRecDepth 100000
set_option maxHeartbeats 400000000
namespace Go.Proofs.YtdpibdpbgokmoaaGreatDoor
open Go.RowKit Go.Shelf Go.Lib Tryz
def Xz:Rd Rel where
 k:=2
 R S w cs x:=∃ v,cs=[sv x.table,v]/\x.table.length<=1000000/\Sl Zc S w v x.rows/\CapV v x.rows.length
 len h:=by obtain ⟨v,rfl,_⟩:=h;rfl
 frame h hA:=by obtain ⟨v,rfl,A,D,G⟩:=h;exact ⟨v,rfl,A,D.frame hA,G⟩
 mono h hS:=by obtain ⟨v,rfl,A,D,G⟩:=h;exact ⟨v,rfl,A,D.mono hS,G⟩
theorem Hd {S:Nat->Prop} {w:World} {cs:List Value} {x:Rel} (h:Xz.R S w cs x):Yk.R S w cs x:=by obtain ⟨v,rfl,h1,h2,_⟩:=h;exact ⟨v,rfl,h1,h2⟩
theorem Sl.rel {S:Nat->Prop} {w:World} {v:Value} {l:List Rel} (h:Sl Xz S w v l):Sl Yk S w v l:=by
 obtain ⟨p,cap,h1,h2,h3⟩:=h
 refine ⟨p,cap,h1,h2,λD=>?_⟩
 obtain ⟨b,G,e,hS,hb,hc⟩:=h3 D
 refine ⟨b,G,e,hS,hb,λi x hx=>?_⟩
 obtain ⟨cs,A,hr⟩:=hc i x hx
 exact ⟨cs,A,Hd hr⟩
theorem Cs.rel {S:Nat->Prop} {w:World} {css:List (List Value)} {l:List Rel} (h:Cs Xz S w css l):Cs Yk S w css l:=⟨h.len,λi c x hc hx=>Hd (h.R i c x hc hx)⟩
theorem Own.rel {E:TypeId} {S:Nat->Prop} {B:Nat} {w:World} {v:Value} {l:List Rel} {css:List (List Value)} (h:Own Xz E S B w v l css):Own Yk E S B w v l css:=⟨h.row,h.cs.rel⟩
theorem relc_one:∀ S w cs x,Xz.R S w cs x->∀ u ∈ cs,u.oneCell'=true:=λS w cs x h=>Ao S w cs x (Hd h)
theorem relc_set {S:Nat->Prop} {E:TypeId} {B:Nat} {w:World} {g n cap:Nat} {l:List Rel} {css:List (List Value)} {i:Nat} {x:Rel} {rv':Value} {zs:List Val} (hn:l.length=n) (h:Own Xz E S B w (.slice (some ⟨g,0,none⟩) n cap) l css) (hi:l[i]?=some x)
  (hs:Sl Zc (But S (.slice (some ⟨g,0,none⟩) n cap)) w rv' zs) (hc':CapV rv' zs.length):
  ∃ css',Own Xz E S B (w.setCell ⟨g,i*2+1,none⟩ rv') (.slice (some ⟨g,0,none⟩) n cap) (l.set i ⟨x.table,zs⟩) css':=by
 subst hn
 have A:=(Qj hi).1
 obtain ⟨c,hc⟩:∃ c,css[i]?=some c:=⟨_,Qx (by rw [h.cs.len];exact A)⟩
 obtain ⟨rv,rfl,I,_⟩:=h.cs.R i c x hc hi
 have hA:Jy (But S (.slice (some ⟨g,0,none⟩) l.length cap)) w (w.setCell ⟨g,i*2+1,none⟩ rv'):=λb hS _=>Za (λe=>hS.2 (by rw [e];rfl))
 refine ⟨css.set i [sv x.table,rv'],⟨?_,⟨by rw [List.length_set,List.length_set];exact h.cs.len,λj d y D G=>?_⟩⟩⟩
 ·rw [List.length_set,<- Ny css i _ rv rv' h.cs.all hc]
  exact (h.row.stored (i*2+1) rv').1
 by_cases e:j=i
 ·subst e
  rw [List.getElem?_set_self A] at G
  rw [List.getElem?_set_self (by rw [h.cs.len];exact A)] at D
  cases D;cases G
  exact ⟨rv',rfl,I,hs.frame hA,hc'⟩
 rw [List.getElem?_set_ne (Ne.symm e)] at D G
 exact Xz.frame (h.cs.R j d y D G) hA
theorem Own.weak {T:Type} {r:Rd T} {E:TypeId} {S S':Nat->Prop} {B B':Nat} {w:World} {v:Value} {xs:List T} {css:List (List Value)} (h:Own r E S B w v xs css) (hB:B'<=B) (hS:∀ b,b<w.heap.size->S b->S' b):Own r E S' B' w v xs css:=by
 refine ⟨⟨h.row.1,?_⟩,h.cs.move (.refl _ _) (λb hb hs=>⟨hS b hb hs.1,hs.2⟩)⟩
 rcases h.row.2 with hn | ⟨g,cap,cur,rfl,hg,rest⟩
 ·exact .inl hn
 exact .inr ⟨g,cap,cur,rfl,Ia,rest⟩
def BL (S:Nat->Prop) (w:World) (l:List Rel) (e:Ending) (w':World):Prop:=∃ p cap css,e=.returned (.slice p l.length cap)/\Own Xz 70 (λb=>S b\/w<=b) w w' (.slice p l.length cap) l css/\Below w w w'
theorem Rw (S:Nat->Prop) (lv:Value) (l:List Rel) (w:World) (hl0:Sl Xz S w lv l) (hl1:l.length<=1000):
  Calls prog 64 #[lv] w λe w'=>∃ p cap css,e=.returned (.slice p l.length cap)/\Own Xz 70 (λb=>S b/\b<w) w w' (.slice p l.length cap) l css/\Below w w w':=by
 have V:Sl Xz (But (λb=>S b/\b<w) (.slice none 0 0)) w lv l:=hl0.mono (λb hb h=>⟨⟨h,hb⟩,λe=>by cases e⟩)
 have HL:=Qq V
 obtain ⟨p,cap,rfl,_⟩:=V.len
 clear hl0 V
 obtain ⟨i0,j1,j2,j3,j4⟩:=Y8 (P:=prog) (t:=70) (z:=.agg #[Ig,Ie]) (n:=2) (b:=40) Ir
 obtain ⟨HJ,J,M,N⟩:=It j1 j2 j3 j4
 clear j1 j2 j3 j4
 obtain ⟨n,Y⟩:=eX (l.length)
 rw [Y] at HL hl1 |-
 have I:([]:List Rel).length+l.length=n:=by rw [Y];simp
 have T:=Qq I
 clear Y I
 go_enter func64,ntmps64
 go_wp2_with (at_builtin;refine Xg (r:=Xz) Ih relc_one rfl (.tmp 4) (.tmp 5) _ rfl 70 i0 (.agg #[Ig,Ie]) 40 underlying28 HJ.o J.o M.o N.o rfl Ia (λb=>S b/\b<w) w w (.slice none 0 0) [] [] rfl (Own.nil _ _ _ _ _) (.slice p n cap) l rfl HL.o n T.o Ia Ia ?_;intro p4 c4 A w4 G D;have U:=Qq G;have O:=Qq D;clear G D)
 go_ret
 exact ⟨p4,c4,A,rfl,U.o,O.o.below⟩
theorem Bp {l:List Rel} {x:Bs} {v:Val} (h:Yr l x=none):Xn l x v=l:=by unfold Xn;rw [h]
theorem Ey {l:List Rel} {x:Bs} {v:Val} {i:Nat} {r:Rel} (h:Yr l x=some i) (hr:l[i]?=some r):Xn l x v=l.set i ⟨r.table,Uk r.rows v⟩:=by unfold Xn;rw [h];simp [hr]
theorem My (l:List Rel) (x:Bs) (v:Val):(Xn l x v).length=l.length:=by unfold Xn;split <;> simp
theorem R0 (S:Nat->Prop) (lv:Value) (l:List Rel) (x:Bs) (v:Val) (cv:List Value) (w:World) (hl0:Sl Xz S w lv l) (hv0:Z9 S w cv v) (hl1:l.length<=1000) (hr1:∀ r ∈ l,r.rows.length<=1000):
  Calls prog 20 #[lv,sv x,cv] w (BL S w (Xn l x v)):=by
 have hl:=hl0.up
 have hv:Z9 (λb=>S b/\b<w) w cv v:=hv0.move (.refl _ _) (λb hb h=>⟨h,hb⟩)
 have aB:=Qq (λW (hb:Below w w W)=>Rw _ lv l W (hl.below hb) hl1)
 obtain ⟨p0,bA,rfl,_⟩:=hl.len
 obtain ⟨p3,k3,p4,k4,aJ,_⟩:=Z9.cells hv
 have HV:=Qq hv
 simp only [Il] at aJ
 subst aJ
 clear hl0 hv0 hl hv
 unfold sv
 go_enter func20,ntmps20
 go_wp2_with fail
 refine (aB.o _ (Zg _ _)).mono ?_
 rintro e V ⟨p,cap,css,rfl,hO,T⟩
 have O:=(T.block w Ib).trans (Qw _ _)
 have N:Own Xz 70 (λb=>S b/\b<w) (w+1) V (.slice p l.length cap) l css:=hO.weak Ib (λb _ h=>h.1)
 obtain ⟨J,aS,A⟩:=Im ((Zg w _).n T) O N
 have bB:w.heap.size<V.heap.size:=Z8 O
 have HF:=Qq (Mn (λb=>S b\/w<=b) (.slice p l.length cap) l x V (N.rel.sl (S':=λb=>S b\/w<=b) Ia (λb hb=>.inr Ia) (λb _ h=>.inl h.1)))
 unfold sv at HF
 clear T O hO N aB
 rcases Fc l x with ⟨hr,hi⟩ | ⟨i,r,hr,hi,Y⟩
 ·have hR:=Bp (v:=v) hr
  rw [hi] at HF
  have M:=Qq hR
  clear hr hi hR
  go_wp2_with (go_at_call 22;refine HF.o.mono ?_;rintro e w' ⟨rfl,rfl⟩)
  go_ret
  unfold BL
  rw [M.o]
  exact ⟨p,cap,css,rfl,A.o.weak Ia (λb _ h=>.inl h.1),J.o⟩
 have hR:=Ey (v:=v) hr Y
 rw [hi] at HF
 have I:(Xn l x v).length=l.length:=My l x v
 have M:=Qq hR;have aD:=Qq I
 have aV:=(Qj Y).1
 have aX:=hr1 r (Qy Y)
 obtain ⟨g,aZ,aM,bC,aK⟩:=A.o.row.form Ia
 simp only [Qr] at aM
 obtain ⟨rfl,-,rfl⟩:=aM
 obtain ⟨c,hc⟩:∃ c,css[i]?=some c:=⟨_,Qx (by rw [A.o.cs.len];exact aV)⟩
 obtain ⟨rv,rfl,bG,U,G⟩:=A.o.cs.R i c r hc Y
 have l1:=A.o.row.cellAt (i*2+1) (by show _<l.length*2;omega)
 rw [show css.flatten[i*2+1]?=some rv from Vg (k:=2) A.o.cs.all hc (j:=1) rfl] at l1
 have f1:=A.o.row.frozenAt (i*2+1)
 obtain ⟨q,qc,rfl,_⟩:=U.len
 have bD:(0:Int)<=(i:Int):=Ia
 have bE:(i:Int)<(l.length:Int):=Ia
 have bF:decide (0<=(i:Int))=true:=Ib
 obtain ⟨x0,x1,x2,x3,x4⟩:=If aS.o
 obtain ⟨aQ,aA,HX⟩:=Im (U.mono (S':=λb=>S b/\b<w) (λb _ h=>h.1)) G Y
 have aE:=Qq (λW (hb:Below V V W)=>put_any (λb=>S b/\b<w) (.slice q r.rows.length qc) r.rows v (Is v p3 k3 p4 k4) W ((aQ.o).below hb) aA.o (HV.o.move (.f (J.o.n hb)) Ij) aX)
 clear hr hi hR I Y hc U G
 go_upto_region 4 with (go_at_call 22;refine HF.o.mono ?_;rintro e w' ⟨rfl,rfl⟩)
 go_region_with (go_at_call 65;refine (aE.o _ (Qz _ _).drew).mono ?_;rintro e w5 ⟨p5,c5,rfl,aI,aO,aH⟩;have D:=((Qz _ V).drew).n aH;obtain ⟨aR,aP,Z⟩:=Im aO aI D;have f5:=BO D aK f1;have l5:=kD D aK l1;clear aO aI aH D)
 all_goals
  go_wp2_with fail
  go_ret
  obtain ⟨aF,aT⟩:=relc_set (zs:=Uk r.rows v) rfl ((A.o.weak (S':=λb=>S b\/w<=b) (B':=w.heap.size) Ia (λb _ h=>.inl h.1)).below Z.o) HX.o (rv':=.slice p5 (Uk r.rows v).length c5) (aR.o.mono (S':=But (λb=>S b\/w<=b) (.slice (some ⟨g,0,none⟩) l.length cap)) (λb _ h=>by
   rcases h with h | h
   ·exact ⟨.inl h.1,λe=>by have e':b=g:=Qb e;have:=h.2;omega⟩
   have h':V.heap.size<=b:=by simpa using h
   exact ⟨.inr Ia,λe=>by have e':b=g:=Qb e;omega⟩)) ⟨_,_,rfl,aP.o⟩
  unfold BL
  rw [aD.o,M.o]
  exact ⟨_,_,aF,rfl,aT,(J.o.n Z.o).setCell (p:=⟨g,i*2+1,none⟩) (by show w<=g;omega) _⟩
def ifR (r0 r1 r2:Option Val):Option Val:=match r0 with
 | some v=>if v.kind=2 then (if (v.n==1)=true then r1 else r2) else none
 | none=>none
theorem ev_if (nm:Bs) (n:Int) (s:Bs) (names binds:List Bs) (x y t:Ex) (a z:Int) (env:List (Bs × Val)) (r0 r1 r2:Option Val) (hx:EvO x env r0) (hy:EvO y env r1) (ht:EvO t env r2):EvO (.mk 12 nm n s names binds [x,y,t] a z) env (ifR r0 r1 r2):=by
 obtain ⟨R,I⟩:=eX (ifR r0 r1 r2)
 rw [I]
 intro S0 S' cs p w bL aY aX aW
 have bG:=Qq aY
 clear aY
 have he:Xy (λb=>S0 b/\b<w) w p env:=aW.move (.refl _ _) (λb hb h=>⟨h,hb⟩)
 obtain ⟨nv,bv,kv,rfl,bR,bS,hn,hb,hk⟩:=Yy.1 aX
 obtain ⟨np,nc,rfl,_⟩:=hn.len
 obtain ⟨bp,bc,rfl,_⟩:=hb.len
 obtain ⟨kp,kc,rfl,bN⟩:=hk.len
 obtain ⟨q,rfl⟩:=he.ptr
 obtain ⟨HE,HK,bH,bE⟩:=It he hk hn hb
 obtain ⟨kl,Y⟩:=eX ([x,y,t].length)
 rw [Y] at HK bN
 have aQ:=Qq Y
 clear aX he aW hn hb hk
 unfold sv
 rw [Y]
 clear Y
 go_enter func91,ntmps91
 go_upto_region 3 with fail
 generalize aB:((w.alloc _).alloc _).alloc _=U
 have Z:=Iq aB (Xt _ _ _ _)
 have h0:=Ik (b:=w.heap.size) aB (Zp _ _ _ _)
 have h1:=Ik (b:=w.heap.size+1) aB (Zo _ _ _ _)
 have h2:=Ik (b:=w.heap.size+1+1) aB (Zi _ _ _ _)
 have bT:w.heap.size+1+1<U.heap.size:=Z8 h2
 have c0:=AB h0;have c1:=AA h0;have c2:=AM h0;have c3:=AH h0;have c4:=Iz h0;have c5:=AY h0;have c6:=AK h0
 obtain ⟨H0,H1,H2,aE⟩:=It h0 h1 h2 Z
 have V:=Qq (λ(k:Nat) e9 r9 (hke:[x,y,t][k]?=some e9) (hev:EvO e9 env r9) W (hbw:Below U U W) (x9:Nat) (hxl:w<=x9) (hxW:x9<W)=>D8 w (w+1) k (λb=>S0 b/\b≠w+1+1/\b≠x9) S' kp kc [x,y,t] e9 (.pointer q) env r9 W
  (by rw [aQ.o];exact (Qk _ _ 6 _ _ _ (kB hbw h0)).trans rfl) (by rw [aQ.o];exact (HK.o.below Z).below hbw) ((Qk _ _ 0 _ _ _ (kB hbw h1)).trans rfl) (λb hb=>⟨bL b (BC Z.size hbw.size),by have:=hbw.size;omega,Ia⟩) (bG.o.below (Z.n hbw)) ((HE.o.move (.f Z) Ij).move (.f hbw) (λb _ h=>⟨h.1,by have:=h.2;omega,by have:=h.2;omega⟩)) hke hev)
 have M:Hid (∀ W,Below U U W->Calls prog 132 #[Ic,Iv w,Iv (w+1)] W (Xw (λb=>S0 b/\b≠w+1+1/\b≠w+1+1) W r0)):=Qq (λW hW=>V.o 0 x r0 rfl hx W hW (w+1+1) Ia (Ix hW.size))
 have aO:Hid (∀ W,Below U U W->Calls prog 132 #[.int .i64 1,Iv w,Iv (w+1)] W (Xw (λb=>S0 b/\b≠w+1+1/\b≠w+1+1) W r1)):=Qq (λW hW=>V.o 1 y r1 rfl hy W hW (w+1+1) Ia (Ix hW.size))
 have aP:Hid (∀ W,Below U U W->Calls prog 132 #[.int .i64 2,Iv w,Iv (w+1)] W (Xw (λb=>S0 b/\b≠w+1+1/\b≠w+1+1) W r2)):=Qq (λW hW=>V.o 2 t r2 rfl ht W hW (w+1+1) Ia (Ix hW.size))
 clear h0 h1 h2 Z aB HE HK V hx hy ht c1 c2 c3 c4 c5 c6 bH bE
 cases r0 with
 | none=>
  obtain rfl:none=R:=I
  go_wp2_with (go_at_call 132;refine (M.o _ (Qz _ _)).mono ?_;rintro e w4 ⟨rfl,hb⟩)
  exact ⟨rfl,rfl,aE.o.n hb⟩
 | some u=>
  by_cases hk:u.kind=2
  ·have HT:=Qq (λcu W (T:Z9 (λb=>S0 b/\b≠w+1+1/\b≠w+1+1) W cu u)=>Uo _ u cu W T hk)
   obtain ⟨b,aL⟩:=eX ((u.n==1))
   have J:ifR (some u) r1 r2=if b=true then r1 else r2:=by unfold ifR;dsimp only;rw [if_pos hk,aL]
   rw [J] at I
   simp only [aL] at HT
   clear J hk aL
   cases b
   ·obtain rfl:r2=R:=I
    go_wp2_with (first
     | (go_at_call 90;refine (HT.o _ _ HU.o).mono ?_;rintro e w5 ⟨rfl,hb⟩;have D:=Qq (G.o.n hb);clear hb)
     | (go_at_call 132;refine (M.o _ (Qz _ _)).mono ?_;rintro e w4 ⟨cu,rfl,T,hb⟩;obtain ⟨a3,aT,a4,aU,A,_⟩:=Z9.cells T;simp only [Il] at A;subst A;have HU:=Qq T;have G:=Qq ((Qz U U).n hb);clear T hb;clear M))
    have aJ:=Qq (kB D.o H2.o)
    have aA:=Qq (aE.o.n D.o)
    cases r2 with
    | none=>
     refine (aP.o _ D.o).mono ?_
     rintro e w8 ⟨rfl,aM⟩
     exact ⟨rfl,rfl,aA.o.n aM⟩
    | some r=>
     refine (aP.o _ D.o).mono ?_
     rintro e w4 ⟨cr,rfl,O,N⟩
     obtain ⟨q3,l3,q4,l4,A,_⟩:=Z9.cells O
     simp only [Il] at A
     subst A
     have I:=kB N aJ.o
     have aH:=Qq (aA.o.n N)
     have aI:=Qq O
     have HR:=Qq I
     have fz:=λj=>Qn _ _ j _ _ I
     obtain ⟨f0,f1,f2,f3,f4⟩:=Iw fz
     have rr:=λj=>Qk _ _ j _ _ _ I
     obtain ⟨r0,r1,r2,r3,r4⟩:=Iw rr
     simp only [Qf,Qg,Qh] at r0 r1 r2 r3 r4
     clear fz rr O N I
     go_wp2_with fail
     show bodyPost _ _ _ _ _ (AI w4 (w+1+1) r q3 l3 q4 l4)
     refine Q7 (v:=.agg (Is r q3 l3 q4 l4)) (by simp [results,results91,go_sem,Ze HR.o]) rfl ⟨_,rfl,?_,Zd aH.o Ia⟩
     exact Z9.move aI.o (λb hb _=>Zf (by have:=hb.2.1;omega)) (λ_ _ h=>h.1)
   obtain rfl:r1=R:=I
   go_wp2_with (first
    | (go_at_call 90;refine (HT.o _ _ HU.o).mono ?_;rintro e w5 ⟨rfl,hb⟩;have D:=Qq (G.o.n hb);clear hb)
    | (go_at_call 132;refine (M.o _ (Qz _ _)).mono ?_;rintro e w4 ⟨cu,rfl,T,hb⟩;obtain ⟨a3,aT,a4,aU,A,_⟩:=Z9.cells T;simp only [Il] at A;subst A;have HU:=Qq T;have G:=Qq ((Qz U U).n hb);clear T hb;clear M))
   have aJ:=Qq (kB D.o H2.o)
   have aA:=Qq (aE.o.n D.o)
   cases r1 with
   | none=>
    refine (aO.o _ D.o).mono ?_
    rintro e w8 ⟨rfl,aM⟩
    exact ⟨rfl,rfl,aA.o.n aM⟩
   | some r=>
    refine (aO.o _ D.o).mono ?_
    rintro e w4 ⟨cr,rfl,O,N⟩
    obtain ⟨q3,l3,q4,l4,A,_⟩:=Z9.cells O
    simp only [Il] at A
    subst A
    have I:=kB N aJ.o
    have aH:=Qq (aA.o.n N)
    have aI:=Qq O
    have HR:=Qq I
    have fz:=λj=>Qn _ _ j _ _ I
    obtain ⟨f0,f1,f2,f3,f4⟩:=Iw fz
    have rr:=λj=>Qk _ _ j _ _ _ I
    obtain ⟨r0,r1,r2,r3,r4⟩:=Iw rr
    simp only [Qf,Qg,Qh] at r0 r1 r2 r3 r4
    clear fz rr O N I
    go_wp2_with fail
    show bodyPost _ _ _ _ _ (AI w4 (w+1+1) r q3 l3 q4 l4)
    refine Q7 (v:=.agg (Is r q3 l3 q4 l4)) (by simp [results,results91,go_sem,Ze HR.o]) rfl ⟨_,rfl,?_,Zd aH.o Ia⟩
    exact Z9.move aI.o (λb hb _=>Zf (by have:=hb.2.1;omega)) (λ_ _ h=>h.1)
  have HT:=Qq (λcu W (T:Z9 (λb=>S0 b/\b≠w+1+1/\b≠w+1+1) W cu u)=>Pu _ u cu W T hk)
  have J:ifR (some u) r1 r2=none:=by unfold ifR;dsimp only;rw [if_neg hk]
  rw [J] at I
  obtain rfl:none=R:=I
  clear J hk
  go_wp2_with (first
   | (go_at_call 90;refine (HT.o _ _ HU.o).mono ?_;rintro e w5 ⟨rfl,hb⟩)
   | (go_at_call 132;refine (M.o _ (Qz _ _)).mono ?_;rintro e w4 ⟨cu,rfl,T,hb⟩;obtain ⟨a3,aT,a4,aU,A,_⟩:=Z9.cells T;simp only [Il] at A;subst A;have HU:=Qq T;have G:=Qq ((Qz U U).n hb);clear T hb;clear M))
  exact ⟨rfl,rfl,aE.o.n (G.o.n hb)⟩
end Go.Proofs.YtdpibdpbgokmoaaGreatDoor
