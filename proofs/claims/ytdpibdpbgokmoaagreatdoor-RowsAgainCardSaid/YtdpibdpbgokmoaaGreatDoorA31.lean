import Derived.Test.YtdpibdpbgokmoaaGreatDoorA30
set_option maxRecDepth 100000
set_option maxHeartbeats 400000000
namespace Go.Proofs.YtdpibdpbgokmoaaGreatDoor
open Go.RowKit Go.Shelf Go.Lib Tryz
def Jd (l:List Col):List Bs × List Ty:=l.foldl (λA c=>(Xp A.1 (below A.1 c.name) c.name,Xp A.2 (below A.1 c.name) c.type)) ([],[])
def Ov (t:Tbl):Ty:=.mk 5 [] 0 (Jd t.columns).1 (Jd t.columns).2
theorem Ev (l:List Col) (c:Col):Jd (l++[c])=(Xp (Jd l).1 (below (Jd l).1 c.name) c.name,Xp (Jd l).2 (below (Jd l).1 c.name) c.type):=by unfold Jd;rw [List.foldl_append];rfl
theorem L9 {T:Type} (l:List T) (i:Nat) (x:T):(Xp l i x).length=l.length+1:=by unfold Xp;simp;omega
theorem Wa {T:Type} {l:List T} {i:Nat} {x y:T} (h:y ∈ Xp l i x):y ∈ l\/y=x:=by
 unfold Xp at h
 rcases Z4.1 h with h | h
 ·exact .inl (List.mem_of_mem_take h)
 rcases Z3.1 h with h | h
 ·exact .inr h
 exact .inl (Zw h)
theorem Li:∀ (k:Nat) (l:List Col),l.length=k->(Jd l).1.length=l.length/\(Jd l).2.length=l.length/\∀ y ∈ (Jd l).2,∃ c ∈ l,c.type=y
 | 0,l,h=>by rw [Zy h];exact ⟨rfl,rfl,λy hy=>by simp [Jd] at hy⟩
 | k+1,l,h=>by
  obtain ⟨l',c,rfl⟩:∃ l' c,l=l'++[c]:=⟨l.dropLast,l.getLast (by intro e;subst e;simp at h),(List.dropLast_concat_getLast (by intro e;subst e;simp at h)).symm⟩
  obtain ⟨h1,h2,h3⟩:=Li k l' (by simpa using h)
  rw [Ev]
  refine ⟨by rw [L9,h1];simp,by rw [L9,h2];simp,λy hy=>?_⟩
  rcases Wa hy with hy | rfl
  ·obtain ⟨c',hc,e⟩:=h3 y hy
   exact ⟨c',by simp [hc],e⟩
  exact ⟨c,Ib,rfl⟩
theorem Lp {T:Type} {l:List T} {k:Nat} {x:T} (h:l[k]?=some x):l.take (k+1)=l.take k++[x]:=by
 obtain ⟨h1,rfl⟩:=Qj h
 exact Zz h1
theorem Sl.col {S:Nat->Prop} {w:World} {p:Option Addr} {n cap:Nat} {xs:List Col} (h:Sl Xa S w (.slice p n cap) xs) {i:Nat} {x:Col} (hx:xs[i]?=some x):
  ∃ b off tk ts tn t3 n3 l3 t4 n4 l4,p=some ⟨b,off,none⟩/\S b/\b<w.heap.size/\x.name.length<=1000000/\Xl S w [.int .i64 tk,.string ts,.int .i64 tn,.slice t3 n3 l3,.slice t4 n4 l4] x.type/\Ii w b (off+i*6) x.name/\Ii w b (off+i*6+1) (.int .i64 tk)/\Ii w b (off+i*6+2) (.string ts)/\Ii w b (off+i*6+3) (.int .i64 tn)/\Ii w b (off+i*6+4) (.slice t3 n3 l3)/\Ii w b (off+i*6+5) (.slice t4 n4 l4):=by
 obtain ⟨b,off,cs,rfl,hb,hS,_,hr,A⟩:=h.elem hx
 obtain ⟨tc,rfl,hn,ht⟩:=hr
 obtain ⟨tk,ts,tn,t3,n3,l3,t4,n4,l4,rfl⟩:=ht.cells
 simp only [show Xa.k=6 from rfl] at A
 exact ⟨b,off,tk,ts,tn,t3,n3,l3,t4,n4,l4,rfl,hS,hb,hn,ht,A 0 _ rfl,A 1 _ rfl,A 2 _ rfl,A 3 _ rfl,A 4 _ rfl,A 5 _ rfl⟩
theorem veil0 {P:Program} {id:Nat} {b:Bool} {Q:Exit->Act->World->Prop} {a:Act} {w:World} {o:Oper} {l:List Oper} (h:(Code.region id (List.toArray (veil o::l)) b).wp P Q a w):(Code.region id (List.toArray (o::l)) b).wp P Q a w:=h
def RowTIs (S:Nat->Prop) (w:World) (u:Ty) (m:Nat) (e:Ending) (w':World):Prop:=∃ p3 k3 p4 k4,e=.returned (.agg #[.int .i64 5,Ig,Ic,.slice p3 m k3,.slice p4 m k4])/\Xl (λb=>S b\/w<=b) w' [.int .i64 5,Ig,Ic,.slice p3 m k3,.slice p4 m k4] u/\Below w w w'
def Nm (S:Nat->Prop) (w W1:World) (t:Tbl) (k:Nat) (wx:World):Prop:=∃ p3 k3 p4 k4,k<=k3/\k<=k4/\wx.heap[w.heap.size+2]?=some (.cells #[.int .i64 5,Ig,Ic,.slice p3 k k3,.slice p4 k k4] 56 (0,0)) /\
 Sl Zh (λb=>(S b/\b<w)\/w+3<=b) wx (.slice p3 k k3) (Jd (t.columns.take k)).1/\Sl Jl (λb=>(S b/\b<w)\/w+3<=b) wx (.slice p4 k k4) (Jd (t.columns.take k)).2/\Below (w+2) W1 wx
theorem Qqr (S:Nat->Prop) (t:Tbl) (ct:List Value) (w:World) (ht0:Zn.R S w ct t) (hcl:t.columns.length<=1000):
  Calls prog 40 #[ct] w (RowTIs S w (Ov t) t.columns.length):=by
 have ht:Zn.R (λb=>S b/\b<w) w ct t:=Zn.mono ht0 (λb hb h=>⟨h,hb⟩)
 obtain ⟨cL,bS,cT,cS,dA,cZ,k0,dB,n0,dC,cW,cU,cI,cX,n20,cJ,cY,cV,cK,a0,z0,rfl,_,Y,_,_,_⟩:=Yq ht
 unfold AL
 have HC:=Qq Y
 clear ht0 ht Y
 obtain ⟨n,hn⟩:=eX (t.columns.length)
 rw [hn] at HC hcl |-
 have HN:=Qq hn
 clear hn
 go_enter func40,ntmps40
 go_wp2_with fail
 generalize J:((w.alloc _).alloc _).alloc _=W1
 have aS:=Iq J (Xt _ _ _ _)
 have aP:=Ik (b:=w.heap.size) J (Zp _ _ _ _)
 have aQ:=Ik (b:=w.heap.size+1) J (Zo _ _ _ _)
 have aN:=Ik (b:=w.heap.size+2) J (Zi _ _ _ _)
 have bB:W1=w.heap.size+3:=by rw [<- J];simp
 obtain ⟨bG,bN,bQ,bR⟩:=It aS aP aQ bB
 have bA:Nm S w W1 t 0 W1:=⟨none,0,none,0,Q9 _,Q9 _,aN,Sl.nil _ _ _,Sl.nil _ _ _,Qz _ _⟩
 clear J aS aP aQ aN bB
 go_loopw [4] (λi wr=>∃ k:Nat,k<=n/\i=.int .i64 k/\Aside (Nm S w W1 t k wr)) (λi _=>n - (intOf i).toNat)
 case atStart=>exact ⟨0,Q8 _,rfl,bA⟩
 clear bA
 obtain ⟨k,hk,rfl,U⟩:=hrel
 obtain ⟨p3,k3,p4,k4,bX,bY,hQ,aY,aW,I⟩:=U.o
 have aE:=kE I Ia bN.o
 have aR:=kE I Ia bQ.o
 have aU:Below w w wr:=bG.o.trans (I.mono Ia)
 have cQ:=I.size
 have cR:=bR.o
 obtain ⟨cH,aC,bH,aI,aB,aA,HQ⟩:=BN aE aR I aU aY aW hQ
 have c1:=AA aE
 clear aE aR I aU aY aW U
 by_cases hlt:k<n
 ·have cN:(0:Int)<=(k:Int):=Ia
  have cO:(k:Int)<(n:Int):=Ia
  obtain ⟨c,hc⟩:∃ c,t.columns[k]?=some c:=⟨_,Qx (by rw [HN.o];exact hlt)⟩
  have aZ:=Lp hc
  obtain ⟨cb,A,tk,ts,tn,t3,n3,l3,t4,n4,l4,bW,bU,cM,bV,Z,d0,d1,d2,d3,d4,d5⟩:=(HC.o.below aI.o).col hc
  subst bW
  have cG:=bU.2
  have aF:=Li _ (t.columns.take k) rfl
  have aX:(t.columns.take k).length=k:=by rw [Qm,HN.o];omega
  rw [aX] at aF
  obtain ⟨bO,aJ,aL⟩:=Im Z aF aZ
  refine let_mvar% ?Lq1:=λw':World=>Ii w' w 1 (Io cb A n bS)/\Ii w' cb (A+k*6) c.name/\Ii w' cb (A+k*6+1) tk/\Ii w' cb (A+k*6+2) (.string ts)/\Ii w' cb (A+k*6+3) tn/\Ii w' cb (A+k*6+4) (.slice t3 n3 l3)/\Ii w' cb (A+k*6+5) (.slice t4 n4 l4);?_
  have aK:=Qq (λ(w':World) (h:Below wr wr w')=>(show ?Lq1 w' from ⟨kC h c1,kC h d0,kC h d1,kC h d2,kC h d3,kC h d4,kC h d5⟩))
  have HP:∀ w' x0 x1 x2 x3 x4,?Lq1 w'->?Lq1 (Zl w' (w+2) x0 x1 x2 x3 x4):=λw' x0 x1 x2 x3 x4 h=>⟨Zm Ia h.1,Zm Ia h.2.1,Zm Ia h.2.2.1,Zm Ia h.2.2.2.1,Zm Ia h.2.2.2.2.1,Zm Ia h.2.2.2.2.2.1,Zm Ia h.2.2.2.2.2.2⟩
  unfold Zl at HP
  have bK:=Qq HP
  have bM:=Qq (aK.o wr.drew (Qz _ _).drew)
  have V:=Qq (λW (hW:Below wr wr W)=>Qzb (λb=>(S b/\b<w)\/w+3<=b) 5 ⟨#[]⟩ 0 (Jd (t.columns.take k)).1 (Jd (t.columns.take k)).2 k p3 k3 p4 k4 c.name c.type [tk,.string ts,tn,.slice t3 n3 l3,.slice t4 n4 l4] W (aB.o.below hW) (aA.o.below hW) aJ.o.1 aJ.o.2.1 (bO.o.move (.f hW) (λ_ _ h=>.inl h)) bX bY Ia bV)
  unfold sv at V
  have cF:∀ o,veil o=o:=λ_=>rfl
  obtain ⟨q0,q1,q2,q3,q4⟩:=If hQ
  have bT:=Z8 hQ
  clear Z aF aX aZ HP hQ
  go_upto_region 5 with fail
  clear c1 d0 d1 d2 d3 d4 d5
  refine veil0 ?_
  go_region_held3 ?Lq1 (first | with_reducible exact bM.o | with_reducible exact aO | with_reducible exact bK.o _ _ _ _ _ _ aO)
   (first
    | (go_at_call 94;refine (V.o _ (Qz _ _).drew).mono ?_;rintro e w7 ⟨r3,m3,r4,m4,rfl,cB,cC,T,aT⟩;have G:=(Qz _ wr).drew.n aT;have aO:=aK.o w7 G;have O:=kE G bT HQ.o;obtain ⟨y0,y1,y2,y3,y4⟩:=If O;obtain ⟨f0,f1,f2,f3,f4⟩:=Ip O;obtain ⟨bL,bP,aH⟩:=Im O T G;clear T aT G O))
  all_goals
   go_wp2_with fail
   go_roundw
   case measure=>simp [intOf];omega
   case rel=>
    refine ⟨k+1,Ia,by go_num,(show Aside _ from ?_)⟩
    show Nm S w W1 t (k+1) (Zl w7 (w+2) (.int .i64 5) Ig Ic (.slice r3 (k+1) m3) (.slice r4 (k+1) m4))
    have T:=bP.o
    have cP:=aH.o.size
    obtain ⟨nv,kv,aV,_,cE,bZ⟩:=Rs.1 T
    simp only [List.cons.injEq,and_true,true_and] at aV
    obtain ⟨-,rfl,rfl⟩:=aV
    have D:∀ b,((λb=>(S b/\b<w.heap.size)\/w.heap.size+3<=b) b\/wr.heap.size<=b)->b≠w.heap.size+2:=λb hb=>by
     rcases hb with (hb | hb) | hb
     ·have:=hb.2;omega
     ·omega
     omega
    have N:∀ b,((λb=>(S b/\b<w.heap.size)\/w.heap.size+3<=b) b\/wr.heap.size<=b)->(λb=>(S b/\b<w.heap.size)\/w.heap.size+3<=b) b:=λb hb=>by
     rcases hb with hb | hb
     ·exact hb
     exact .inr Ia
    refine ⟨r3,m3,r4,m4,cB,cC,Yd bL.o,?_,?_,?_⟩
    ·rw [aL.o,Ev]
     exact (cE.frame (λb hb _=>Zf (D b hb))).mono (λb _ hb=>N b hb)
    ·rw [aL.o,Ev]
     exact (bZ.frame (λb hb _=>Zf (D b hb))).mono (λb _ hb=>N b hb)
    exact Zd (bH.o.trans (aH.o.mono Ia)) (Q9 _)
 have cA:k=n:=Ia
 subst cA
 have M:t.columns.take k=t.columns:=Zj (by rw [HN.o];exact Q9 _)
 rw [M] at aB aA
 obtain ⟨q0,q1,q2,q3,q4⟩:=If hQ
 obtain ⟨y0,y1,y2,y3,y4⟩:=If aC.o
 obtain ⟨f0,f1,f2,f3,f4⟩:=Ip aC.o
 clear hQ M
 go_wp2_with fail
 show bodyPost _ _ _ _ _ (Zl wr (w+1) (.int .i64 5) Ig Ic (.slice p3 k k3) (.slice p4 k k4))
 refine Q7 (v:=.agg #[.int .i64 5,Ig,Ic,.slice p3 k k3,.slice p4 k k4]) (by simp [results,results40,go_sem,Ze aC.o]) rfl ⟨p3,k3,p4,k4,rfl,?_,Zd aI.o Ia⟩
 have D:∀ b,(λb=>(S b/\b<w.heap.size)\/w.heap.size+3<=b) b->b≠w.heap.size+1:=λb hb=>by
  rcases hb with hb | hb
  ·have:=hb.2;omega
  omega
 exact (D9 (s:=[]) Ib (aB.o.frame (λb hb _=>Zf (D b hb))) (aA.o.frame (λb hb _=>Zf (D b hb)))).move (.refl _ _) (λb _ hb=>by
  rcases hb with hb | hb
  ·exact .inl hb.1
  exact .inr Ia)
theorem Sa (S0 S1:Nat->Prop) (lv:Value) (l:List Rel) (tn:Bs) (x:Val) (cx:List Value) (w:World) (i:Nat) (o:Rel) (hl0:Sl Yk S0 w lv l) (hx0:Z9 S1 w cx x) (hf:l.findIdx? (λr=>decide (r.table=tn))=some i) (ho:l[i]?=some o)
  (hany:o.rows.any (λv=>eqv v x)=true) (hrl:∀ r ∈ l,r.rows.length<=10000):
  Calls prog 16 #[lv,sv tn,cx] w (Va w l):=by
 have hx:Z9 (λb=>b<w) w cx x:=hx0.move (.refl _ _) (λb hb _=>hb)
 have J:=Qq (λW (hb:Below w w W)=>Um S0 lv l W (hl0.below hb))
 have aT:X8 (λr=>decide (r.table=tn)) l=i:=by unfold X8;rw [hf]
 have M:=Qq (λv W (hs:Sl Yk (λ_=>True) W v l)=>U7 _ v l tn W hs)
 rw [aT] at M
 have aS:i<l.length:=(Qj ho).1
 have aZ:l.length<=1000000:=by obtain ⟨_,_,_,h⟩:=hl0.len;exact h
 obtain ⟨lp,lc,rfl,_⟩:=hl0.len
 obtain ⟨HX,HO,aH⟩:=Im hx ho hrl
 have bL:=hrl o (Qy ho)
 obtain ⟨x3,bC,x4,bD,aR,_⟩:=Z9.cells hx
 simp only [Il] at aR
 have HB:=Qq (λv W (hb:Below w w W) (hs:Sl Zc (λ_=>True) W v o.rows) (hc:∀ j u,cx[j]?=some u->W.cell? ⟨w,j,none⟩=some u) (hR:w<W.heap.size)=>Ph Tryz.cfVal Zc isAgg36 sizeOf36 58 #[Iv w] (enters_of func58 Ir rfl) (λ_=>True) v o.rows W _ hs
  (Hg w (λ_=>True) x cx o.rows W hc hR (hx.move (.f hb) (λ_ _ _=>trivial))))
 rw [hany] at HB
 subst aR
 clear hx hx0 hl0 hf aT hrl hany ho
 unfold sv at M |-
 obtain ⟨n,hn⟩:=eX (l.length)
 unfold Jm at J
 rw [hn] at J aS aZ |-
 have HN:=Qq hn
 clear hn
 have bI:(0:Int)<=(i:Int):=Ia
 have bJ:(i:Int)<(n:Int):=Ia
 have bK:decide ((i:Int)<0)=false:=Ib
 go_enter func16,ntmps16
 go_wp2_with fail
 obtain ⟨W1,N⟩:=eX (w.alloc (.cells (Is x x3 bC x4 bD) 36))
 have aA:=Iq N (Zg _ _)
 have aN:=Ik (b:=w.heap.size) N (Qw _ _)
 have aE:=Qq aA;have aK:=Qq aN
 rw [N]
 have aQ:=J.o W1 aA
 clear N aA aN
 refine aQ.mono ?_
 rintro e w2 ⟨p,cap,rvs,rfl,A,aO⟩
 obtain ⟨g,bE,hv,bG,bH⟩:=A.row.form (by rw [HN.o];omega)
 simp only [Qr] at hv
 obtain ⟨rfl,-,rfl⟩:=hv
 obtain ⟨aC,I⟩:∃ aC,rvs[i]?=some aC:=⟨_,Qx (by rw [A.len,HN.o];exact aS)⟩
 obtain ⟨css,D⟩:=A.rows i o aC HO.o I
 obtain ⟨bN,bM,rfl⟩:=D.form
 obtain ⟨aI,aF,V⟩:=Im A aO I
 have aG:=Qq (M.o _ w2 (A.sl (by rw [HN.o];omega) (λr hr=>by have:=aH.o r hr;omega) _ (λ_ _=>trivial) (λ_ _ _=>trivial)))
 clear A aO D I aQ J M
 go_wp2_with fail
 refine aG.o.mono ?_
 rintro e w3 ⟨rfl,T⟩
 have G:=aI.o.below T
 have O:=kB T (kE aF.o (Z8 aK.o) aK.o)
 obtain ⟨aY,Z,-,aP⟩:=G.at HO.o V.o
 have c1:=Qk _ _ (i*2+1) _ _ _ Z
 rw [aP] at c1
 obtain ⟨css,D⟩:=G.rows i o _ HO.o V.o
 have U:=Qq (aE.o.trans ((aF.o.n T).mono aE.o.size))
 have aW:=Qq (HB.o _ w3 U.o (D.sl Ia (λ_ _=>trivial) (λ_ _ _=>trivial)) (λj u hu=>by rw [Qk _ _ j _ _ _ O];simpa using hu) (Z8 O))
 have aJ:=Qq G;have bF:=Qq O
 clear G O Z aP D T aY HB
 go_wp2_with fail
 refine aW.o.mono ?_
 rintro e w4 ⟨rfl,aB⟩
 have Y:=aJ.o.below aB
 have aM:=Y.sl (by rw [HN.o];omega) (λr hr=>by have:=aH.o r hr;omega) (λ_=>True) (λ_ _=>trivial) (λ_ _ _=>trivial)
 have aL:=U.o.n aB
 have HF:=Qq (show Va w l (.returned (.slice (some ⟨g,0,none⟩) n cap)) w4 from ⟨some ⟨g,0,none⟩,cap,by rw [HN.o],by rw [HN.o];exact aM,aL⟩)
 clear Y aM aL aB c1
 go_wp2_with fail
 go_ret
 exact HF.o
theorem Ps (S0 S1:Nat->Prop) (lv:Value) (l:List Rel) (tn:Bs) (x:Val) (cx:List Value) (w:World) (hl0:Sl Yk S0 w lv l) (hx0:Z9 S1 w cx x) (hf:l.findIdx? (λr=>decide (r.table=tn))=none) (hrl:∀ r ∈ l,r.rows.length<=10000):
  Calls prog 16 #[lv,sv tn,cx] w (Va w l):=by
 have hx:Z9 (λb=>b<w) w cx x:=hx0.move (.refl _ _) (λb hb _=>hb)
 have D:=Qq (λW (hb:Below w w W)=>Um S0 lv l W (hl0.below hb))
 have aE:X8 (λr=>decide (r.table=tn)) l=-1:=by unfold X8;rw [hf]
 have G:=Qq (λv W (hs:Sl Yk (λ_=>True) W v l)=>U7 _ v l tn W hs)
 rw [aE] at G
 have aH:l.length<=1000000:=by obtain ⟨_,_,_,h⟩:=hl0.len;exact h
 obtain ⟨lp,lc,rfl,_⟩:=hl0.len
 have U:=Qq hrl
 obtain ⟨x3,aK,x4,aL,aD,_⟩:=Z9.cells hx
 simp only [Il] at aD
 subst aD
 clear hx hx0 hl0 hf aE hrl
 unfold sv at G |-
 obtain ⟨n,hn⟩:=eX (l.length)
 unfold Jm at D
 rw [hn] at D aH |-
 have HN:=Qq hn
 clear hn
 go_enter func16,ntmps16
 go_wp2_with fail
 obtain ⟨W1,I⟩:=eX (w.alloc (.cells (Is x x3 aK x4 aL) 36))
 have M:=Iq I (Zg _ _)
 have aA:=Ik (b:=w.heap.size) I (Qw _ _)
 have O:=Qq M;have aM:=Qq aA
 rw [I]
 have aC:=D.o W1 M
 clear I M aA
 refine aC.mono ?_
 rintro e w2 ⟨p,cap,rvs,rfl,A,aB⟩
 have V:=Qq A;have aG:=Qq aB
 have T:=Qq (G.o _ w2 (A.sl (by rw [HN.o];omega) (λr hr=>by have:=U.o r hr;omega) _ (λ_ _=>trivial) (λ_ _ _=>trivial)))
 clear A aB aC D G
 go_wp2_with fail
 refine T.o.mono ?_
 rintro e w3 ⟨rfl,N⟩
 have J:=V.o.below N
 have Z:=J.sl (by rw [HN.o];omega) (λr hr=>by have:=U.o r hr;omega) (λ_=>True) (λ_ _=>trivial) (λ_ _ _=>trivial)
 have Y:=O.o.trans ((aG.o.n N).mono O.o.size)
 have HF:=Qq (show Va w l (.returned (.slice p n cap)) w3 from ⟨p,cap,by rw [HN.o],by rw [HN.o];exact Z,Y⟩)
 clear J Z Y N
 go_wp2_with fail
 go_ret
 exact HF.o
theorem Fj (x:Val):∀ (l:List Val),(∀ (j:Nat) (y:Val),j<Xq l x->l[j]?=some y->Zu y x<=0)/\(∀ (y:Val),l[Xq l x]?=some y->¬ Zu y x<=0)/\Xq l x<=l.length
 | []=>⟨λj y _ h=>by simp at h,λy h=>by simp at h,by simp [Xq]⟩
 | a::l=>by
  obtain ⟨h1,h2,h3⟩:=Fj x l
  by_cases ha:Zu a x<=0
  ·have e:Xq (a::l) x=Xq l x+1:=by unfold Xq;rw [List.takeWhile_cons_of_pos (by simpa using ha)];rfl
   rw [e]
   refine ⟨λj y hj A=>?_,λy A=>h2 y (by simpa using A),by simp;omega⟩
   cases j with
   | zero=>simp at A;rw [<- A];exact ha
   | succ j=>exact h1 j y Ia (by simpa using A)
  have e:Xq (a::l) x=0:=by unfold Xq;rw [List.takeWhile_cons_of_neg (by simpa using ha)];rfl
  rw [e]
  exact ⟨λj y hj _=>Ia,λy A=>by simp at A;rw [<- A];exact ha,Ia⟩
theorem Lc {l:List Rel} {t:Bs} {i:Nat} (h:Yr l t=some i):∃ r,l[i]?=some r:=by
 unfold Yr at h
 have:=List.findIdx?_eq_some_iff_getElem.1 h
 exact ⟨_,Qx this.1⟩
theorem E7 (S0 S1:Nat->Prop) (lv:Value) (l:List Rel) (tn:Bs) (x:Val) (cx:List Value) (w:World) (hl0:Sl Yk S0 w lv l) (hx0:Z9 S1 w cx x) (hrl:∀ r ∈ l,r.rows.length<=10000):
  Calls prog 16 #[lv,sv tn,cx] w (Va w (Xn l tn x)):=by
 cases hf:Yr l tn with
 | none=>rw [show Xn l tn x=l by unfold Xn;rw [hf]];exact Ps S0 S1 lv l tn x cx w hl0 hx0 hf hrl
 | some i=>
  obtain ⟨o,I⟩:=Lc hf
  rw [show Xn l tn x=l.set i ⟨o.table,Uk o.rows x⟩ by unfold Xn;rw [hf];simp [I]]
  by_cases hh:Hk o.rows x=true
  ·rw [show Uk o.rows x=o.rows by unfold Uk;rw [if_pos hh]]
   rw [show l.set i ⟨o.table,o.rows⟩=l by rw [show (⟨o.table,o.rows⟩:Rel)=o from rfl];obtain ⟨D,O⟩:=Qj I;rw [<- O];exact List.set_getElem_self D]
   exact Sa S0 S1 lv l tn x cx w i o hl0 hx0 hf I hh hrl
  have G:∀ y ∈ o.rows,eqv y x=false:=by
   intro y A
   cases M:eqv y x with
   | false=>rfl
   | true=>exact absurd (show Hk o.rows x=true from List.any_eq_true.2 ⟨y,A,M⟩) hh
  have J:Uk o.rows x=Un o.rows (Xq o.rows x) x:=by unfold Uk;rw [if_neg hh];rfl
  rw [J]
  by_cases hk:Xq o.rows x<o.rows.length
  ·have A:=Qx hk
   obtain ⟨D,O,_⟩:=Fj x o.rows
   have T:=O _ A
   exact S7 S0 S1 lv l tn x cx w i o hl0 hx0 hf I G _ _ A Ia (λj y N A=>by have:=D j y N A;simpa using this) hrl
  obtain ⟨D,_,h3⟩:=Fj x o.rows
  have M:Xq o.rows x=o.rows.length:=Ia
  rw [M,Ho]
  refine Da S0 S1 lv l tn x cx w i o hl0 hx0 hf I G (λy A=>?_) hrl
  obtain ⟨j,N⟩:=Zk A
  have:=D j y (by rw [M];exact (Qj N).1) N
  simpa using this
def Su (w:World) (u:Val) (tv t t':Value) (wx:World):Prop:=
 ∃ G q3 m3 q4 m4,t=.pointer (some ⟨G,0,none⟩)/\t'=tv/\wx.heap[G]?=some (.cells (Is u q3 m3 q4 m4) 36 (0,0))/\Z9 (λb=>w<=b/\b≠G) wx (Il u q3 m3 q4 m4) u/\Below w w wx/\w.heap.size<=G
def WithAt (u:Val) (f:Bs) (y R:Val):Prop:=∀ (S S1:Nat->Prop) (cv cy:List Value) (w:World),Z9 S w cv u->Z9 S1 w cy y ->
 Calls prog 137 #[cv,sv f,cy] w λe w'=>∃ cs',e=.returned (.tuple #[.agg cs'.toArray,.bool true])/\Z9 (λb=>w<=b) w' cs' R/\Below w w w'
theorem ev_with (nm:Bs) (n:Int) (s:Bs) (names binds:List Bs) (x e1:Ex) (a z:Int) (env:List (Bs × Val)) (u y R:Val) (f1:Bs) (hf:names[0]?=some f1) (hx:EvO x env (some u)) (hy:EvO e1 env (some y)) (hk4:u.kind=4) (hw:WithAt u f1 y R):EvO (.mk 7 nm n s names binds [x,e1] a z) env (some R):=by
 have cX:=Qq (λ(S:Nat->Prop) cu W (hu:Z9 S W cu u)=>Hn 4 S u cu W hu hk4)
 have dC:Hid (WithAt u f1 y R):=Qq hw
 clear hk4 hw
 intro S0 S' cs p w bL dX cE dV
 have cU:=Qq dX
 clear dX
 have he:Xy (λb=>S0 b/\b<w) w p env:=dV.move (.refl _ _) (λb hb h=>⟨h,hb⟩)
 obtain ⟨nv,bv,kv,rfl,gF,fG,hn,hb,hk⟩:=Yy.1 cE
 have cH:=Yx.room cE
 obtain ⟨np,nc,rfl,_⟩:=hn.len
 obtain ⟨bp,bc,rfl,_⟩:=hb.len
 obtain ⟨kp,kc,rfl,fB⟩:=hk.len
 obtain ⟨_,_,dY,dZ⟩:=cH
 simp only [Qh,Qg,Zv,Qr] at dY
 obtain ⟨-,-,rfl⟩:=dY
 have gE:2<=kc:=dZ
 clear dZ
 obtain ⟨q,rfl⟩:=he.ptr
 obtain ⟨HE,HK,cV,eO⟩:=It he hk hn hb
 obtain ⟨kl,bB⟩:=eX ([x,e1].length)
 rw [bB] at HK fB
 have bZ:=Qq bB
 clear cE he dV hn hb hk
 unfold sv
 rw [bB]
 clear bB
 go_enter func91,ntmps91
 go_upto_region 3 with fail
 generalize bE:((w.alloc _).alloc _).alloc _=w3
 have U:=Iq bE (Xt _ _ _ _)
 have h0:=Ik (b:=w.heap.size) bE (Zp _ _ _ _)
 have h1:=Ik (b:=w.heap.size+1) bE (Zo _ _ _ _)
 have h2:=Ik (b:=w.heap.size+1+1) bE (Zi _ _ _ _)
 have gH:w.heap.size+1+1<w3.heap.size:=Z8 h2
 have c0:=AB h0;have c1:=AA h0;have c2:=AM h0;have c3:=AH h0;have Y:=Iz h0;have c5:=AY h0;have c6:=AK h0
 obtain ⟨H0,H1,H2,eK⟩:=It h0 h1 h2 U
 have bR:=Qq (λ(k:Nat) e9 r9 (hke:[x,e1][k]?=some e9) (hev:EvO e9 env r9) W (V:Below w3 w3 W) (x9:Nat) (hxl:w<=x9) (hxW:x9<W)=>D8 w (w+1) k (λb=>S0 b/\b≠w+1+1/\b≠x9) S' kp kc [x,e1] e9 (.pointer q) env r9 W
  (by rw [bZ.o];exact (Qk _ _ 6 _ _ _ (kB V h0)).trans rfl) (by rw [bZ.o];exact (HK.o.below U).below V) ((Qk _ _ 0 _ _ _ (kB V h1)).trans rfl) (λb hb=>⟨bL b (BC U.size V.size),by have:=V.size;omega,Ia⟩) (cU.o.below (U.n V)) ((HE.o.move (.f U) Ij).move (.f V) (λb _ h=>⟨h.1,by have:=h.2;omega,by have:=h.2;omega⟩)) hke hev)
 have cT:Hid (∀ W,Below w3 w3 W->Calls prog 132 #[Ic,Iv w,Iv (w+1)] W (Xw (λb=>S0 b/\b≠w+1+1/\b≠w+1+1) W (some u))):=Qq (λW hW=>bR.o 0 x (some u) rfl hx W hW (w+1+1) Ia (Ix hW.size))
 obtain ⟨kb,aJ,_,fC,_,_,_,_,_⟩:=HK.o.elem (i:=0) (x:=x) rfl
 subst fC
 have dW:kl=2:=bZ.o.symm
 subst dW
 have dQ:Sl Vz S' w (.slice (some ⟨kb,aJ+9,none⟩) 1 (kc - 1)) [e1]:=(HK.o.sub 1 1 (kc - 1) Ib)
 have bP:=Qq (λW (hW:Below w3 w3 W)=>O7 (w+1) (λb=>S0 b/\b≠w+1+1) S' (some ⟨kb,aJ+9,none⟩) (kc - 1) [e1] (.pointer q) env (λ_=>some y) W ((dQ.below U).below hW) ((Qk _ _ 0 _ _ _ (kB hW h1)).trans rfl) (λb hb=>⟨bL b (BC U.size hW.size),by have:=hW.size;omega⟩) (cU.o.below (U.n hW)) ((HE.o.move (.f U) Ij).move (.f hW) (λb _ h=>⟨h.1,by have:=h.2;omega⟩)) (λe he=>by obtain rfl:=Z5.1 he;exact hy))
 have fG:∀ W,(Instr.slice 44 (.slice (some ⟨kb,aJ,none⟩) 2 kc) (some (.int .i64 1)) none none).run prog W=.ok (.slice (some ⟨kb,aJ+9,none⟩) 1 (kc - 1)) W:=λW=>by
  have h:=Df 44 46 9 underlying44 sizeOf46 (some ⟨kb,aJ,none⟩) 2 kc 1 Ia W
  rw [if_neg Ia] at h
  simpa [Hl] using h
 obtain ⟨nb,bV,fF,cG,fA⟩:=(cV.o.below U).str hf
 subst fF
 rw [Nat.add_zero] at cG
 obtain ⟨nl,bG⟩:=eX (names.length)
 have fX:0<nl:=by rw [<- bG];exact (Qj hf).1
 have fY:(0:Int)<(nl:Int):=Ia
 rw [bG] at h0 Y H0
 have cR:=Qq (λ(o c:Nat) W=>(Ta (λ_=>True) (.slice (some ⟨nb,o,none⟩) 0 c) [] f1 W (Sl.empty _ _ _ _ _)).mono (R':=λe w'=>e=.returned (.bool false)/\w'=W) (by
  rintro e w' ⟨rfl,rfl⟩
  exact ⟨rfl,rfl⟩))
 unfold sv at cR
 have HC:=Qq (λW (h:Below w3 w3 W)=>Qe (kC h Y) (Qe (kC h c6) (kC h cG)))
 have eS:=Qq bL;have HM:=Qq Xf
 have gG:w.heap.size<w3.heap.size:=Ia
 clear h0 h1 h2 U bE HE HK bR hx hy hf fA dQ bG c1 c2 c3 Y c5 c6 cV eO bL cG
 go_upto_region 25 with (first
  | (go_at_call 131;refine (cX.o _ _ _ HU.o).mono ?_;rintro e w5 ⟨rfl,hb⟩;have eT:=Qq (Z9.move HU.o (.f hb) Ij);have bX:=Qq (cN.o.n hb);clear hb;clear cX)
  | (go_at_call 132;refine (cT.o _ (Qz _ _)).mono ?_;rintro e w4 ⟨cu,rfl,hu,hb⟩;obtain ⟨a3,dJ,a4,dK,aI,_⟩:=Z9.cells hu;simp only [Il] at aI;subst aI;have HU:=Qq hu;have cN:=Qq ((Qz w3 w3).n hb);clear hu hb;clear cT))
 generalize cC:World.alloc w5 _=w6
 have bN:=Iq cC (Zg _ _)
 have dT:=Ik (b:=w5.heap.size) cC (Qw _ _)
 obtain ⟨bY,cO,dE⟩:=Im (bX.o.n bN) bN dT
 have cY:Hid (Z9 (λb=>b<w5) w6 (Il u a3 dJ a4 dK) u):=Qq (Z9.move (Z9.move eT.o (.refl _ _) (λb hb _=>(hb:b<w5))) (.f bN) Ij)
 obtain ⟨Y,c6,n0⟩:=HC.o w6 bY.o
 clear cC bN dT Y n0 c0
 go_upto_region 26 with (go_at_call 133;refine (bP.o _ bY.o).mono ?_;rintro e w7 ⟨p4,fV,fW,rfl,dP,fD,hb⟩;have cW:=Qq dP;have aY:=Qq hb;clear dP fD hb)
 have dR:=cW.o.sl (S':=λ_=>True) Ib (λ_ _=>trivial) (λ_ _ _=>trivial)
 obtain ⟨yb,fZ,y3,fT,y4,fU,fH,gI,eB,d0,d1,d2,d3,d4⟩:=dR.val (i:=0) (x:=y) rfl
 subst fH
 simp only [Nat.zero_mul,Nat.add_zero] at d0 d1 d2 d3 d4
 have dH:=Qq (Z9.move eB (.refl _ _) (λb hb _=>(hb:b<w7)))
 have cZ:=Qq (Z9.move cY.o (.f aY.o) Ij)
 have cB:=Qq (kB aY.o dE.o)
 have eM:=Qq (bY.o.n aY.o)
 have fJ:=Z8 cB.o
 have fI:w3.heap.size<=w5.heap.size:=bX.o.size
 clear dR eB cW cY dE bP c6
 go_loopw [100] (λbI wr=>∃ k:Nat,k<=1/\bI=.int .i64 k/\Aside ((k=0/\w7=wr)\/(k=1/\Below w5 w5 wr/\∃ q3 Z q4 l4,wr.heap[w5.heap.size]?=some (.cells (Is R q3 Z q4 l4) 36 (0,0))/\Z9 (λb=>w3<=b) wr (Il R q3 Z q4 l4) R))) (λbI _=>1 - (intOf bI).toNat)
 case atStart=>exact ⟨0,Q8 _,rfl,.inl ⟨rfl,rfl⟩⟩
 obtain ⟨k,gD,rfl,hA⟩:=hrel
 rcases hA.o with ⟨rfl,rfl⟩ | ⟨rfl,V,q3,Z,q4,l4,M,dS⟩
 ·clear hA
  go_upto_region 28 with fail
  generalize T:World.alloc w7 _=w8
  have O:=Iq T (Zg _ _)
  have cD:=Ik (b:=w7.heap.size) T (Qw _ _)
  obtain ⟨I,cP,eU⟩:=Im (eM.o.n O) O cD
  have dF:=Qq (kE O fJ cB.o)
  have dA:=Qq (Z9.move cZ.o (.f O) Ij)
  have dI:=Qq (Z9.move dH.o (.f O) Ij)
  have gJ:=Z8 cD
  have eC:w5.heap.size<w8.heap.size:=Ia
  have gB:=Qq (kB I.o H0.o)
  clear T O cD d0 d1 d2 d3 d4 cZ dH cB
  go_cut [13,14] from 101 to 132 (λfQ fR wx=>Su w8 R (.bool true) fQ fR wx)
  case first=>
   have HD:=Qq (show ∀ W,(λW=>Below w8 w8 W) W->(AQ W w5 u.kind u.n u.s (.slice a3 u.names.length dJ) (.slice a4 u.kids.length dK) ((AQ W w7 y.kind y.n y.s (.slice y3 y.names.length fT) (.slice y4 y.kids.length fU) (Ii W w 4 (Io nb bV nl nc)/\Ii W nb bV f1):Prop)):Prop) from λW h=>by
    have e1:=kB h dF.o
    have e2:=kB h eU.o
    have e3:=HC.o W (I.o.n h)
    exact ⟨(Qk _ _ 0 _ _ _ e1).trans rfl,(Qk _ _ 1 _ _ _ e1).trans rfl,(Qk _ _ 2 _ _ _ e1).trans rfl,(Qk _ _ 3 _ _ _ e1).trans rfl,(Qk _ _ 4 _ _ _ e1).trans rfl,(Qk _ _ 0 _ _ _ e2).trans rfl,(Qk _ _ 1 _ _ _ e2).trans rfl,(Qk _ _ 2 _ _ _ e2).trans rfl,(Qk _ _ 3 _ _ _ e2).trans rfl,(Qk _ _ 4 _ _ _ e2).trans rfl,e3.1,e3.2.2⟩)
   have aO:=Qq (show ∀ W,Below w8 w8 W->(λW=>Below w8 w8 W) W from λW hb=>hb)
   refine wp_region_held_drew (S:=λW=>Below w8 w8 W) Ir (aO.o _ (Qz _ _).drew) (λD=>?_)
   refine In (v:=?_) 0 (λN A=>?_) ?_;rotate_left
   ·(obtain ⟨x0,x1,x2,x3,x4,z0,z1,z2,z3,z4,Y,n0⟩:=HD.o N A;go_simp;try with_reducible rfl)
   refine In (v:=?_) 1 (λN A=>?_) ?_;rotate_left
   ·(obtain ⟨x0,x1,x2,x3,x4,z0,z1,z2,z3,z4,Y,n0⟩:=HD.o N A;go_simp;try with_reducible rfl)
   refine In (v:=?_) 2 (λN A=>?_) ?_;rotate_left
   ·(obtain ⟨x0,x1,x2,x3,x4,z0,z1,z2,z3,z4,Y,n0⟩:=HD.o N A;go_simp;try with_reducible rfl)
   refine In (v:=?_) 3 (λN A=>?_) ?_;rotate_left
   ·(obtain ⟨x0,x1,x2,x3,x4,z0,z1,z2,z3,z4,Y,n0⟩:=HD.o N A;go_simp;try with_reducible rfl)
   refine In (v:=?_) 4 (λN A=>?_) ?_;rotate_left
   ·(obtain ⟨x0,x1,x2,x3,x4,z0,z1,z2,z3,z4,Y,n0⟩:=HD.o N A;go_simp;try with_reducible rfl)
   refine In (v:=?_) 5 (λN A=>?_) ?_;rotate_left
   ·(obtain ⟨x0,x1,x2,x3,x4,z0,z1,z2,z3,z4,Y,n0⟩:=HD.o N A;go_simp;try with_reducible rfl)
   refine In (v:=?_) 6 (λN A=>?_) ?_;rotate_left
   ·(obtain ⟨x0,x1,x2,x3,x4,z0,z1,z2,z3,z4,Y,n0⟩:=HD.o N A;go_simp;try with_reducible rfl)
   have aM:Hid (Below w8 w8 w8.drew):=Qq (Qz _ _).drew
   have fN:=aM.o.size
   generalize w8.drew=wd at D aM fN |-
   refine BH [7,11] ?_
   refine AZ (λK hK=>?_) ?_
   ·go_simp
    refine (dC.o _ _ _ _ wd (Z9.move dA.o (.f aM.o) Ij) (Z9.move dI.o (.f aM.o) Ij)).mono ?_
    rintro e wn ⟨eV,rfl,aR,hb⟩
    obtain ⟨q3,Z,q4,l4,aI,_⟩:=Z9.cells aR
    simp only [Il] at aI
    subst aI
    have HV:Hid (Z9 (λb=>wd<=b/\b<wn) wn (Il R q3 Z q4 l4) R):=Qq (Z9.move aR (.refl _ _) (λb hb h=>⟨h,hb⟩))
    clear aR
    have J:=Qq (aM.o.n hb)
    have eD:=J.o.size
    clear hb
    try dsimp only
    refine hK.o _ _ (aO.o _ J.o) (λD=>?_)
    clear hK K
    refine In (v:=?_) 8 (λN A=>?_) ?_;rotate_left
    ·(obtain ⟨x0,x1,x2,x3,x4,z0,z1,z2,z3,z4,Y,n0⟩:=HD.o N A;go_simp;try with_reducible rfl)
    refine In (v:=?_) 9 (λN A=>?_) ?_;rotate_left
    ·(obtain ⟨x0,x1,x2,x3,x4,z0,z1,z2,z3,z4,Y,n0⟩:=HD.o N A;go_simp;try with_reducible rfl)
    refine In (v:=?_) 10 (λN A=>?_) ?_;rotate_left
    ·(obtain ⟨x0,x1,x2,x3,x4,z0,z1,z2,z3,z4,Y,n0⟩:=HD.o N A;go_simp;try with_reducible rfl)
    refine AE 11 (λK hK=>?_) Qo
    go_simp
    generalize T:World.alloc wn _=wb
    have O:=Iq T (Zg _ _)
    have I:=Qq (J.o.n O)
    have fK:=J.o.size
    have fM:=I.o.size
    have aG:Hid (wb.heap[wn.heap.size]?=some (.cells zV 36 (0,0))):=Qq (by rw [<- T];exact Qw _ _)
    clear T
    replace HV:=Qq (Z9.move HV.o (.f O) Ij)
    clear O
    try dsimp only
    refine hK.o _ _ (aO.o _ I.o) (λD=>?_)
    clear hK K
    have aP:=aG.o
    have fz:=λj=>Qn _ _ j _ _ aP
    obtain ⟨f0,f1,f2,f3,f4⟩:=Iw fz
    have rr:=λj=>Qk _ _ j _ _ _ aP
    obtain ⟨r0,r1,r2,r3,r4⟩:=Iw rr
    simp only [Qf,Qg,Qh] at r0 r1 r2 r3 r4
    clear fz rr
    refine AE 12 (λK hK=>?_) Qo
    go_simp
    have fL:=I.o.size
    have aD:Below w8 w8 (AI wb wn R q3 Z q4 l4):=Zd I.o Ia
    have M:(Zl wb wn R.kind R.n R.s (.slice q3 R.names.length Z) (.slice q4 R.kids.length l4)).heap[wn.heap.size]?=some (.cells (Is R q3 Z q4 l4) 36 (0,0)):=Yd aG.o
    have aQ:∀ k,k≠wn.heap.size->(Zl wb wn R.kind R.n R.s (.slice q3 R.names.length Z) (.slice q4 R.kids.length l4)).heap[k]?=wb.heap[k]?:=λk hk=>Zf hk
    unfold Zl at aD M aQ
    refine hK.o _ _ (aO.o _ aD) (λD=>?_)
    refine In (v:=?_) 13 (λN A=>?_) ?_;rotate_left
    ·(obtain ⟨x0,x1,x2,x3,x4,z0,z1,z2,z3,z4,Y,n0⟩:=HD.o N A;go_simp;try with_reducible rfl)
    refine wpAnyH_done Ir ?_ _
    clear hK K D f0 f1 f2 f3 f4 r0 r1 r2 r3 r4 aP
    generalize World.setCell _ _ _=w9 at aD M aQ |-
    go_wp2_with fail
    go_meet
    exact ⟨wn.heap.size,q3,Z,q4,l4,rfl,rfl,M,Z9.move HV.o (λb hb _=>aQ b (by have:=hb.1;have:=hb.2;omega)) (λb _ hb=>⟨by have:=hb.1;omega,by have:=hb.1;have:=hb.2;omega⟩),aD,Ia⟩
   refine AZ (λK hK=>?_) ?_
   ·go_simp
    generalize T:World.alloc wd _=wb
    have O:=Iq T (Zg _ _)
    have I:=Qq (aM.o.n O)
    have fK:=aM.o.size
    have fM:=I.o.size
    have bS:Hid (wb.heap[wd.heap.size]?=some (.cells zV 36 (0,0))):=Qq (by rw [<- T];exact Qw _ _)
    clear T
    clear O
    try dsimp only
    refine hK.o _ _ (aO.o _ I.o) (λD=>?_)
    clear hK K
    refine AE 7 (λK hK=>?_) ?_
    ·go_simp
     refine (dC.o _ _ _ _ wb (Z9.move dA.o (.f I.o) Ij) (Z9.move dI.o (.f I.o) Ij)).mono ?_
     rintro e wn ⟨eV,rfl,aR,hb⟩
     obtain ⟨q3,Z,q4,l4,aI,_⟩:=Z9.cells aR
     simp only [Il] at aI
     subst aI
     have HV:Hid (Z9 (λb=>wb<=b/\b<wn) wn (Il R q3 Z q4 l4) R):=Qq (Z9.move aR (.refl _ _) (λb hb h=>⟨h,hb⟩))
     clear aR
     have J:=Qq (I.o.n hb)
     have eD:=J.o.size
     have aG:=Qq (kB hb bS.o)
     have gK:=Z8 bS.o
     clear hb
     try dsimp only
     refine hK.o _ _ (aO.o _ J.o) (λD=>?_)
     clear hK K
     refine In (v:=?_) 8 (λN A=>?_) ?_;rotate_left
     ·(obtain ⟨x0,x1,x2,x3,x4,z0,z1,z2,z3,z4,Y,n0⟩:=HD.o N A;go_simp;try with_reducible rfl)
     refine In (v:=?_) 9 (λN A=>?_) ?_;rotate_left
     ·(obtain ⟨x0,x1,x2,x3,x4,z0,z1,z2,z3,z4,Y,n0⟩:=HD.o N A;go_simp;try with_reducible rfl)
     refine In (v:=?_) 10 (λN A=>?_) ?_;rotate_left
     ·(obtain ⟨x0,x1,x2,x3,x4,z0,z1,z2,z3,z4,Y,n0⟩:=HD.o N A;go_simp;try with_reducible rfl)
     have aP:=aG.o
     have fz:=λj=>Qn _ _ j _ _ aP
     obtain ⟨f0,f1,f2,f3,f4⟩:=Iw fz
     have rr:=λj=>Qk _ _ j _ _ _ aP
     obtain ⟨r0,r1,r2,r3,r4⟩:=Iw rr
     simp only [Qf,Qg,Qh] at r0 r1 r2 r3 r4
     clear fz rr
     refine AE 12 (λK hK=>?_) Qo
     go_simp
     have fL:=J.o.size
     have aD:Below w8 w8 (AI wn wd R q3 Z q4 l4):=Zd J.o Ia
     have M:(Zl wn wd R.kind R.n R.s (.slice q3 R.names.length Z) (.slice q4 R.kids.length l4)).heap[wd.heap.size]?=some (.cells (Is R q3 Z q4 l4) 36 (0,0)):=Yd aG.o
     have aQ:∀ k,k≠wd.heap.size->(Zl wn wd R.kind R.n R.s (.slice q3 R.names.length Z) (.slice q4 R.kids.length l4)).heap[k]?=wn.heap[k]?:=λk hk=>Zf hk
     unfold Zl at aD M aQ
     refine hK.o _ _ (aO.o _ aD) (λD=>?_)
     refine In (v:=?_) 13 (λN A=>?_) ?_;rotate_left
     ·(obtain ⟨x0,x1,x2,x3,x4,z0,z1,z2,z3,z4,Y,n0⟩:=HD.o N A;go_simp;try with_reducible rfl)
     refine wpAnyH_done Ir ?_ _
     clear hK K D f0 f1 f2 f3 f4 r0 r1 r2 r3 r4 aP
     generalize World.setCell _ _ _=w9 at aD M aQ |-
     go_wp2_with fail
     go_meet
     exact ⟨wd.heap.size,q3,Z,q4,l4,rfl,rfl,M,Z9.move HV.o (λb hb _=>aQ b (by have:=hb.1;have:=hb.2;omega)) (λb _ hb=>⟨by have:=hb.1;omega,by have:=hb.1;have:=hb.2;omega⟩),aD,Ia⟩
    exact Qo
   exact Qo
  obtain ⟨G,q3,Z,q4,l4,rfl,rfl,hG,hV,hb,gC⟩:=hcut
  obtain ⟨w9,rfl⟩:∃ w9,w9=wc:=⟨_,rfl⟩
  obtain ⟨cQ,cA,eR⟩:=Im hb hV hG
  have eN:=Qq (I.o.n hb)
  obtain ⟨Y,_,n0⟩:=HC.o w9 eN.o
  have M:=kE hb eC dF.o
  have dG:=Qq M
  clear hG hV hb
  go_upto_region 29 with fail
  go_quiet (first
   | (go_at_call 138;exact Calls.quiet_of_same (cR.o _ _ _))
   | (go_at_call 134;exact Calls.quiet_of_same ((HM.o _).mono λ_ _ h=>⟨h.1,h.2.symm⟩)))
  obtain ⟨fS,bH⟩:=eX (w9.drewN nq)
  have bA:Below w9 w9 fS:=by rw [<- bH];exact Yz _ _
  rw [bH]
  have bT:=kB bA eR.o
  have aZ:=kB bA dG.o
  have dD:=Qq aZ;have bQ:=Qq bA
  obtain ⟨z0,z1,z2,z3,z4⟩:=If bT
  have fz:=λj=>Qn _ _ j _ _ aZ
  obtain ⟨f0,f1,f2,f3,f4⟩:=Iw fz
  clear fz
  obtain ⟨r0,r1,r2,r3,r4⟩:=If aZ
  clear bT aZ bA bH Y n0 M
  go_wp2_with fail
  go_roundw
  case measure=>simp [intOf]
  case rel=>
   refine ⟨1,Q9 1,by go_num,.inr ⟨rfl,Zd (((cO.o.n aY.o).n (cP.o.n cQ.o)).n bQ.o) (Q9 _),q3,Z,q4,l4,Yd dD.o,Z9.move (Z9.move cA.o (.f bQ.o) Ij) (λb hb _=>Zf (by have:=hb.1;omega)) (λb _ hb=>by have:=hb.1;have:=I.o.size;show w3<=b;omega)⟩⟩
 clear hA
 obtain ⟨dG,cA,gA⟩:=Im M dS V
 have bF:Below w3 w3 wr:=bX.o.trans (V.mono fI)
 have bK:=kB bF H2.o
 have HR:=Qq bK;have eL:=Qq (eK.o.n bF)
 obtain ⟨x0,x1,x2,x3,x4⟩:=If M
 have fz:=λj=>Qn _ _ j _ _ bK
 obtain ⟨f0,f1,f2,f3,f4⟩:=Iw fz
 clear fz
 obtain ⟨r0,r1,r2,r3,r4⟩:=If bK
 clear M dS V bK bF
 go_wp2_with fail
 show bodyPost _ _ _ _ _ (AI wr (w+1+1) R q3 Z q4 l4)
 refine Q7 (v:=.agg (Is R q3 Z q4 l4)) (by simp [results,results91,go_sem,Ze HR.o]) rfl ⟨_,rfl,?_,Zd eL.o Ia⟩
 exact Z9.move cA.o (λb hb _=>Zf Ia) (λb _ h=>eS.o b Ia)
end Go.Proofs.YtdpibdpbgokmoaaGreatDoor
