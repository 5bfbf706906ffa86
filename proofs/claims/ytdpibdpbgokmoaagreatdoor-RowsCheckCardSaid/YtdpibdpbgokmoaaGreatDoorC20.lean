import Derived.Test.YtdpibdpbgokmoaaGreatDoorC16
set_option maxRecDepth 100000
set_option maxHeartbeats 400000000
namespace Go.Proofs.YtdpibdpbgokmoaaGreatDoor
open Go.RowKit Go.Shelf Go.Lib Tryz
def Yn:Rd Rel where
 k:=2
 R S w cs x:=∃ v,cs=[sv x.table,v]∧x.table.length≤1000000∧Sl Ze S w v x.rows∧CapV v x.rows.length
 len h:=by obtain ⟨v,rfl,_⟩:=h;rfl
 frame h hA:=by obtain ⟨v,rfl,A,D,G⟩:=h;exact ⟨v,rfl,A,D.frame hA,G⟩
 mono h hS:=by obtain ⟨v,rfl,A,D,G⟩:=h;exact ⟨v,rfl,A,D.mono hS,G⟩
theorem Ep {S:Nat→Prop} {w:World} {cs:List Value} {x:Rel} (h:Yn.R S w cs x):Y7.R S w cs x:=by obtain ⟨v,rfl,h1,h2,_⟩:=h;exact ⟨v,rfl,h1,h2⟩
theorem Sl.rel {S:Nat→Prop} {w:World} {v:Value} {l:List Rel} (h:Sl Yn S w v l):Sl Y7 S w v l:=by
 obtain ⟨p,cap,h1,h2,h3⟩:=h
 refine ⟨p,cap,h1,h2,fun D=>?_⟩
 obtain ⟨b,G,e,hS,hb,hc⟩:=h3 D
 refine ⟨b,G,e,hS,hb,fun i x hx=>?_⟩
 obtain ⟨cs,A,hr⟩:=hc i x hx
 exact ⟨cs,A,Ep hr⟩
theorem Cs.rel {S:Nat→Prop} {w:World} {css:List (List Value)} {l:List Rel} (h:Cs Yn S w css l):Cs Y7 S w css l:=⟨h.len,fun i c x hc hx=>Ep (h.R i c x hc hx)⟩
theorem Own.rel {E:TypeId} {S:Nat→Prop} {B:Nat} {w:World} {v:Value} {l:List Rel} {css:List (List Value)} (h:Own Yn E S B w v l css):Own Y7 E S B w v l css:=⟨h.row,h.cs.rel⟩
theorem relc_one:∀ S w cs x,Yn.R S w cs x→∀ u ∈ cs,u.oneCell'=true:=fun S w cs x h=>Tf S w cs x (Ep h)
theorem Of {S:Nat→Prop} {E:TypeId} {B:Nat} {w:World} {g n cap:Nat} {l:List Rel} {css:List (List Value)} {i:Nat} {x:Rel} {rv':Value} {zs:List Val} (hn:l.length=n) (h:Own Yn E S B w (.slice (some ⟨g,0,none⟩) n cap) l css) (hi:l[i]?=some x)
  (hs:Sl Ze (But S (.slice (some ⟨g,0,none⟩) n cap)) w rv' zs) (hc':CapV rv' zs.length):
  ∃ css',Own Yn E S B (w.setCell ⟨g,i*2+1,none⟩ rv') (.slice (some ⟨g,0,none⟩) n cap) (l.set i ⟨x.table,zs⟩) css':=by
 subst hn
 have A:=(Qj hi).1
 obtain ⟨c,hc⟩:∃ c,css[i]?=some c:=⟨_,Qx (by rw [h.cs.len];exact A)⟩
 obtain ⟨rv,rfl,I,_⟩:=h.cs.R i c x hc hi
 have hA:Ui (But S (.slice (some ⟨g,0,none⟩) l.length cap)) w (w.setCell ⟨g,i*2+1,none⟩ rv'):=fun b hS _=>Za (fun e=>hS.2 (by rw [e];rfl))
 refine ⟨css.set i [sv x.table,rv'],⟨?_,⟨by rw [List.length_set,List.length_set];exact h.cs.len,fun j d y D G=>?_⟩⟩⟩
 ·rw [List.length_set,← Lo css i _ rv rv' h.cs.all hc]
  exact (h.row.stored (i*2+1) rv').1
 by_cases e:j=i
 ·subst e
  rw [List.getElem?_set_self A] at G
  rw [List.getElem?_set_self (by rw [h.cs.len];exact A)] at D
  cases D;cases G
  exact ⟨rv',rfl,I,hs.frame hA,hc'⟩
 rw [List.getElem?_set_ne (Ne.symm e)] at D G
 exact Yn.frame (h.cs.R j d y D G) hA
theorem Own.weak {T:Type} {r:Rd T} {E:TypeId} {S S':Nat→Prop} {B B':Nat} {w:World} {v:Value} {xs:List T} {css:List (List Value)} (h:Own r E S B w v xs css) (hB:B'≤B) (hS:∀ b,b<w.heap.size→S b→S' b):Own r E S' B' w v xs css:=by
 refine ⟨⟨h.row.1,?_⟩,h.cs.move (.refl _ _) (fun b hb hs=>⟨hS b hb hs.1,hs.2⟩)⟩
 rcases h.row.2 with hn | ⟨g,cap,cur,rfl,hg,rest⟩
 ·exact .inl hn
 exact .inr ⟨g,cap,cur,rfl,Qqj,rest⟩
def Az (S:Nat→Prop) (w:World) (l:List Rel) (e:Ending) (w':World):Prop:=∃ p cap css,e=.returned (.slice p l.length cap)∧Own Yn 70 (fun b=>S b∨w≤b) w w' (.slice p l.length cap) l css∧Below w w w'
theorem O6 (S:Nat→Prop) (lv:Value) (l:List Rel) (w:World) (hl0:Sl Yn S w lv l) (hl1:l.length≤1000):
  Calls prog 64 #[lv] w fun e w'=>∃ p cap css,e=.returned (.slice p l.length cap)∧Own Yn 70 (fun b=>S b∧b<w) w w' (.slice p l.length cap) l css∧Below w w w':=by
 have V:Sl Yn (But (fun b=>S b∧b<w) (.slice none 0 0)) w lv l:=hl0.mono (fun b hb h=>⟨⟨h,hb⟩,fun e=>by cases e⟩)
 have HL:=Qq V
 obtain ⟨p,cap,rfl,_⟩:=V.len
 clear hl0 V
 obtain ⟨i0,j1,j2,j3,j4⟩:=Y9 (P:=prog) (t:=70) (z:=.agg #[Qqe,Qqf]) (n:=2) (b:=40) Qqy
 obtain ⟨HJ,J,M,N⟩:=Qqp j1 j2 j3 j4
 clear j1 j2 j3 j4
 obtain ⟨n,Y⟩:=eX (l.length)
 rw [Y] at HL hl1 ⊢
 have I:([]:List Rel).length+l.length=n:=by rw [Y];simp
 have T:=Qq I
 clear Y I
 go_enter func64,ntmps64
 go_wp2_with (at_builtin;refine Xj (r:=Yn) Qqx relc_one rfl (.tmp 4) (.tmp 5) _ rfl 70 i0 (.agg #[Qqe,Qqf]) 40 underlying28 HJ.out J.out M.out N.out rfl Qqj (fun b=>S b∧b<w) w w (.slice none 0 0) [] [] rfl (Own.nil _ _ _ _ _) (.slice p n cap) l rfl HL.out n T.out Qqj Qqj ?_;intro p4 c4 A w4 G D;have U:=Qq G;have O:=Qq D;clear G D)
 go_ret
 exact ⟨p4,c4,A,rfl,U.out,O.out.below⟩
theorem Gp {l:List Rel} {x:Bs} {v:Val} (h:Ur l x=none):Dj l x v=l:=by unfold Dj;rw [h]
theorem Gs {l:List Rel} {x:Bs} {v:Val} {i:Nat} {r:Rel} (h:Ur l x=some i) (hr:l[i]?=some r):Dj l x v=l.set i ⟨r.table,Kj r.rows v⟩:=by unfold Dj;rw [h];simp [hr]
theorem Dx (l:List Rel) (x:Bs) (v:Val):(Dj l x v).length=l.length:=by unfold Dj;split <;> simp
theorem B3 (S:Nat→Prop) (lv:Value) (l:List Rel) (x:Bs) (v:Val) (cv:List Value) (w:World) (hl0:Sl Yn S w lv l) (hv0:Z9 S w cv v) (hl1:l.length≤1000) (hr1:∀ r ∈ l,r.rows.length≤1000):
  Calls prog 20 #[lv,sv x,cv] w (Az S w (Dj l x v)):=by
 have hl:=hl0.up
 have hv:Z9 (fun b=>S b∧b<w) w cv v:=hv0.move (.refl _ _) (fun b hb h=>⟨h,hb⟩)
 have aB:=Qq (fun W (hb:Below w w W)=>O6 _ lv l W (hl.below hb) hl1)
 obtain ⟨p0,bA,rfl,_⟩:=hl.len
 obtain ⟨p3,k3,p4,k4,aJ,_⟩:=Z9.cells hv
 have HV:=Qq hv
 simp only [vcs] at aJ
 subst aJ
 clear hl0 hv0 hl hv
 unfold sv
 go_enter func20,ntmps20
 go_wp2_with fail
 refine (aB.out _ (Zg _ _)).mono ?_
 rintro e V ⟨p,cap,css,rfl,hO,T⟩
 have O:=(T.block w Qqk).trans (Qw _ _)
 have N:Own Yn 70 (fun b=>S b∧b<w) (w+1) V (.slice p l.length cap) l css:=hO.weak Qqk (fun b _ h=>h.1)
 obtain ⟨J,aS,A⟩:=Qqo ((Zg w _).thn T) O N
 have bB:w.heap.size<V.heap.size:=Z8 O
 have HF:=Qq (Dt (fun b=>S b∨w≤b) (.slice p l.length cap) l x V (N.rel.sl (S':=fun b=>S b∨w≤b) Qqj (fun b hb=>.inr Qqj) (fun b _ h=>.inl h.1)))
 unfold sv at HF
 clear T O hO N aB
 rcases K9 l x with ⟨hr,hi⟩ | ⟨i,r,hr,hi,Y⟩
 ·have hR:=Gp (v:=v) hr
  rw [hi] at HF
  have M:=Qq hR
  clear hr hi hR
  go_wp2_with (go_at_call 22;refine HF.out.mono ?_;rintro e w' ⟨rfl,rfl⟩)
  go_ret
  unfold Az
  rw [M.out]
  exact ⟨p,cap,css,rfl,A.out.weak Qqj (fun b _ h=>.inl h.1),J.out⟩
 have hR:=Gs (v:=v) hr Y
 rw [hi] at HF
 have I:(Dj l x v).length=l.length:=Dx l x v
 have M:=Qq hR;have aD:=Qq I
 have aV:=(Qj Y).1
 have aX:=hr1 r (Qy Y)
 obtain ⟨g,aZ,aM,bC,aK⟩:=A.out.row.form Qqj
 simp only [Qr] at aM
 obtain ⟨rfl,-,rfl⟩:=aM
 obtain ⟨c,hc⟩:∃ c,css[i]?=some c:=⟨_,Qx (by rw [A.out.cs.len];exact aV)⟩
 obtain ⟨rv,rfl,bG,U,G⟩:=A.out.cs.R i c r hc Y
 have l1:=A.out.row.cellAt (i*2+1) (by show _<l.length*2;omega)
 rw [show css.flatten[i*2+1]?=some rv from V6 (k:=2) A.out.cs.all hc (j:=1) rfl] at l1
 have f1:=A.out.row.frozenAt (i*2+1)
 obtain ⟨q,qc,rfl,_⟩:=U.len
 have bD:(0:Int)≤(i:Int):=Qqj
 have bE:(i:Int)<(l.length:Int):=Qqj
 have bF:decide (0≤(i:Int))=true:=Qqk
 obtain ⟨x0,x1,x2,x3,x4⟩:=row5 aS.out
 obtain ⟨aQ,aA,HX⟩:=Qqo (U.mono (S':=fun b=>S b∧b<w) (fun b _ h=>h.1)) G Y
 have aE:=Qq (fun W (hb:Below V V W)=>put_any (fun b=>S b∧b<w) (.slice q r.rows.length qc) r.rows v (Qqg v p3 k3 p4 k4) W ((aQ.out).below hb) aA.out (HV.out.move (.of_below (J.out.thn hb)) Qzx) aX)
 clear hr hi hR I Y hc U G
 go_upto_region 4 with (go_at_call 22;refine HF.out.mono ?_;rintro e w' ⟨rfl,rfl⟩)
 go_region_with (go_at_call 65;refine (aE.out _ (Qz _ _).drew).mono ?_;rintro e w5 ⟨p5,c5,rfl,aI,aO,aH⟩;have D:=((Qz _ V).drew).thn aH;obtain ⟨aR,aP,Z⟩:=Qqo aO aI D;have f5:=Qzy D aK f1;have l5:=kD D aK l1;clear aO aI aH D)
 all_goals
  go_wp2_with fail
  go_ret
  obtain ⟨aF,aT⟩:=Of (zs:=Kj r.rows v) rfl ((A.out.weak (S':=fun b=>S b∨w≤b) (B':=w.heap.size) Qqj (fun b _ h=>.inl h.1)).below Z.out) HX.out (rv':=.slice p5 (Kj r.rows v).length c5) (aR.out.mono (S':=But (fun b=>S b∨w≤b) (.slice (some ⟨g,0,none⟩) l.length cap)) (fun b _ h=>by
   rcases h with h | h
   ·exact ⟨.inl h.1,fun e=>by have e':b=g:=Qb e;have:=h.2;omega⟩
   have h':V.heap.size≤b:=by simpa using h
   exact ⟨.inr Qqj,fun e=>by have e':b=g:=Qb e;omega⟩)) ⟨_,_,rfl,aP.out⟩
  unfold Az
  rw [aD.out,M.out]
  exact ⟨_,_,aF,rfl,aT,(J.out.thn Z.out).setCell (p:=⟨g,i*2+1,none⟩) (by show w≤g;omega) _⟩
theorem O3 {A B:Type} (p:A→B→Bool) {a:List A} {b:List B} {k:Nat} {x:A} {y:B} (hx:a[k]?=some x) (hy:b[k]?=some y):eqL p (a.drop k) (b.drop k)=(p x y&&eqL p (a.drop (k+1)) (b.drop (k+1))):=by
 obtain ⟨hk,rfl⟩:=Qj hx
 obtain ⟨D,rfl⟩:=Qj hy
 rw [Qp hk,Qp D];rfl
theorem Ll (S S':Nat→Prop) (av bv:Value) (a b:List Val) (w:World) (ha:Sl Ze S w av a) (hb:Sl Ze S' w bv b):
  Calls prog 41 #[av,bv] w fun e w'=>e=.returned (.bool (eqL eqv a b))∧Gr w w':=by
 obtain ⟨pa,ca,rfl,aC⟩:=ha.len
 obtain ⟨pb,cb,rfl,aD⟩:=hb.len
 have HA:=Qq ha;have HB:=Qq hb
 have mixed:prog.follows .mixedOrders=true:=Qqy
 obtain ⟨r,hr⟩:=eX (eqL eqv a b)
 rw [hr]
 have HR:=Qq hr
 clear ha hb hr
 by_cases hlen:a.length=b.length
 ·obtain ⟨n,hn⟩:=eX (a.length)
  have hm:b.length=n:=Qqj
  have HN:=Qq hn;have HM:=Qq hm
  rw [hn] at HA aC ⊢
  rw [hm] at HB aD ⊢
  have J:((n:Int) != (n:Int))=false:=Qqk
  clear hn hm hlen
  go_enter func41,ntmps41
  go_wp2_with fail
  go_loopw [5] (fun i wr=>∃ k:Nat,k≤n∧i=.int .i64 k∧Aside (eqL eqv (a.drop k) (b.drop k)=r)∧Aside (Gr w wr)) (fun i _=>n - (intOf i).toNat)
  case atStart=>exact ⟨0,Q8 _,rfl,HR.out,Gr.refl _⟩
  obtain ⟨k,hk,rfl,A,hG⟩:=hrel
  have V:=Qq (show Gr w wr from hG);have HE:=Qq (show eqL eqv (a.drop k) (b.drop k)=r from A)
  clear hG A
  by_cases hlt:k<n
  ·have aL:(0:Int)≤(k:Int):=Qqj
   have aM:(k:Int)<(n:Int):=Qqj
   obtain ⟨x,hx⟩:∃ x,a[k]?=some x:=⟨_,Qx (by rw [HN.out];exact hlt)⟩
   obtain ⟨y,hy⟩:∃ y,b[k]?=some y:=⟨_,Qx (by rw [HM.out];exact hlt)⟩
   obtain ⟨ga,oa,p3,k3,p4,k4,rfl,D,aA,d0,d1,d2,d3,d4⟩:=(HA.out.below V.out.bl).val hx
   obtain ⟨gb,ob,q3,l3,q4,l4,rfl,G,aB,e0,e1,e2,e3,e4⟩:=(HB.out.below V.out.bl).val hy
   have O:=J7 aA aB
   have D0:=Zs D d0;have D1:=Zs D d1;have D2:=Zs D d2;have D3:=Zs D d3;have D4:=Zs D d4
   have E0:=Zs G e0;have E1:=Zs G e1;have E2:=Zs G e2;have E3:=Zs G e3;have E4:=Zs G e4
   have N:=Nv x y
   have T:=O3 eqv hx hy
   rw [HE.out] at T
   generalize Yz x y=c at O N
   have U:=Qq N;have Y:=Qq T
   clear hx hy aA aB d0 d1 d2 d3 d4 e0 e1 e2 e3 e4 N T
   by_cases J:(c==0)=true
   ·have aG:(c != 0)=false:=by simpa using J
    have M:eqL eqv (a.drop (k+1)) (b.drop (k+1))=r:=by rw [Y.out,← U.out,J,Bool.true_and]
    have Z:=Qq M
    clear M J
    go_wp2_with fail
    go_quiet_grown (first | (go_at_call 23;refine Calls.grown_of (O _ _)))
    go_wp2_with fail
    go_roundw
    case measure=>simp [intOf];omega
    case rel=>exact ⟨k+1,Qqj,by go_num,Z.out,V.out.thn (Yg _ _ _)⟩
   have aG:(c != 0)=true:=by simpa using J
   have I:r=false:=by rw [Y.out,← U.out,Qt _ |>.mp J,Bool.false_and]
   subst I
   clear J
   go_wp2_with fail
   go_quiet_grown (first | (go_at_call 23;refine Calls.grown_of (O _ _)))
   go_wp2_with fail
   go_ret
   exact ⟨rfl,V.out.thn (Yg _ _ _)⟩
  have aK:¬ (k:Int)<(n:Int):=Qqj
  have:k=n:=Qqj
  subst this
  have I:r=true:=by
   rw [← HE.out,Qu (by rw [HN.out];exact Q9 _),Qu (by rw [HM.out];exact Q9 _)];rfl
  subst I
  go_wp2_with fail
  go_ret
  exact ⟨rfl,V.out⟩
 have I:r=false:=by rw [← HR.out];exact Ji eqv a b hlen
 subst I
 have J:((a.length:Int) != (b.length:Int))=true:=by rw [bne_iff_ne];omega
 clear hlen
 go_enter func41,ntmps41
 go_wp2_with fail
 go_ret
 exact ⟨rfl,Gr.refl _⟩
theorem Pc {s:Sc} {k:Nat} {x:Tbl} (hx:s.tables[k]?=some x):(X9 s).take (k+1)=(X9 s).take k++[⟨x.name,[]⟩]:=by
 unfold X9
 rw [← List.map_take,← List.map_take]
 obtain ⟨hk,rfl⟩:=Qj hx
 rw [Zz hk,List.map_append];rfl
theorem R0 (S:Nat→Prop) (s:Sc) (cs:List Value) (w:World) (hs:Xu S w cs s) (hl0:s.tables.length≤1000):
  Calls prog 19 #[cs] w (Az (fun _=>False) w (X9 s)):=by
 obtain ⟨uv,tv,rfl,hu,aH⟩:=hs
 have ht:Sl Zn (fun b=>b<w) w tv s.tables:=aH.mono (fun b hb _=>hb)
 obtain ⟨up,uc,rfl,_⟩:=hu.len
 obtain ⟨tp,tc,rfl,_⟩:=ht.len
 have HT:=Qq ht
 clear hu ht aH
 obtain ⟨i0,j1,j2,j3,j4⟩:=Y9 (P:=prog) (t:=70) (z:=.agg #[Qqe,Qqf]) (n:=2) (b:=40) Qqy
 obtain ⟨HJ,aK,aL,aM⟩:=Qqp j1 j2 j3 j4
 clear j1 j2 j3 j4
 unfold Az
 have I:(X9 s).length=s.tables.length:=by unfold X9;simp
 rw [I]
 obtain ⟨n,hn⟩:=eX (s.tables.length)
 rw [hn] at HT hl0 ⊢
 have HN:=Qq hn;have M:=Qq I
 clear hn I
 go_enter func19,ntmps19
 go_wp2_with fail
 generalize G:w.alloc _=W1
 have aC:=eqB G (Zg _ _)
 have aA:=eqH (b:=w.heap.size) G (Qw _ _)
 have aI:=Qq aC;have N:=Qq aA
 clear G aC aA
 go_loopw [3,4] (fun o i wr=>∃ (k:Nat) (p:Option Addr) (cap:Nat),k≤n∧i=.int .i64 k∧o=.slice p k cap∧Below (w+1) W1 wr∧(∃ css,Own Yn 70 (fun _=>False) (w+1) wr (.slice p k cap) ((X9 s).take k) css)) (fun _ i _=>n - (intOf i).toNat)
 case atStart=>exact ⟨0,none,0,Q8 _,rfl,rfl,Qz _ _,[],Own.nil _ _ _ _ _⟩
 obtain ⟨k,p,cap,bF,rfl,rfl,A,css,hO⟩:=hrel
 have bH:=Z8 N.out
 have aB:=kE A Qqj N.out
 have aD:Below w w wr:=aI.out.trans (A.mono Qqj)
 have bG:=A.size
 obtain ⟨aJ,J,HO⟩:=Qqo A aD hO
 obtain ⟨c0,c1⟩:=row2 aB
 clear aB A aD hO
 have aG:((X9 s).take k).length=k:=by rw [Qm,M.out,HN.out];omega
 have aO:=Qq aG
 clear aG
 by_cases hlt:k<n
 ·have bD:(0:Int)≤(k:Int):=Qqj
  have bE:(k:Int)<(n:Int):=Qqj
  obtain ⟨x,hx⟩:∃ x,s.tables[k]?=some x:=⟨_,Qx (by rw [HN.out];exact hlt)⟩
  obtain ⟨b,bN,cs,rfl,bC,_,_,hR,hc⟩:=(HT.out.below J.out).elem hx
  obtain ⟨bB,bA,bJ,bI,bS,bR,k9,bT,n9,bU,bO,bK,aX,bP,bL,aY,bQ,bM,aZ,a9,z9,aE,aW,_⟩:=Yj hR
  simp only [tcs] at aE
  subst aE
  have d0:=hc 0 _ rfl
  rw [show Zn.k=13 from rfl,Nat.add_zero] at d0
  have Z:Yn.R (But (fun _=>False) (.slice p k cap)) wr [x.name,Qqf] ⟨x.name,[]⟩:=⟨_,rfl,aW,Sl.nil _ _ _,⟨_,_,rfl,Q9 _⟩⟩
  have aR:=Qq Z
  have D:=Pc hx
  have aS:=Qq D
  clear hx hc hR Z D
  go_wp2_with (at_builtin;refine Yl (r:=Yn) Qqx rfl (.tmp 12) (.tmp 20) _ rfl 70 i0 (.agg #[Qqe,Qqf]) 40 underlying28 HJ.out aK.out aL.out aM.out rfl Qqj (fun _=>False) (w+1) wr (.slice p k cap) ((X9 s).take k) css [x.name,Qqf] ⟨x.name,[]⟩ rfl HO.out rfl aR.out (by simp [Value.oneCell']) k aO.out Qqj Qqj ?_;intro p7 O T w7 Y U;have aQ:=Qq Y;have aN:=Qq U;clear Y U)
  go_roundw
  case measure=>simp [intOf];omega
  case rel=>
   refine ⟨k+1,p7,O,Qqj,by go_num,rfl,aJ.out.trans aN.out.below,T,?_⟩
   rw [aS.out];exact aQ.out
 have aF:k=n:=Qqj
 subst aF
 go_wp2_with fail
 go_ret
 have D:(X9 s).take k=X9 s:=Zj (by rw [M.out,HN.out];exact Q9 _)
 have V:=HO.out
 rw [D] at V
 exact ⟨p,cap,css,rfl,V.weak Qqj (fun b _ h=>h.elim),J.out⟩
theorem L2 (S0 S1:Nat→Prop) (s:Sc) (cs:List Value) (lv:Value) (l:List Rel) (w:World) (hs:Xu S0 w cs s) (hl0:Sl Y7 S1 w lv l) (hlen:l.length=s.tables.length):
  Calls prog 38 #[cs,lv] w fun e w'=>e=.returned (.bool (Uy s l))∧Below w w w':=by
 obtain ⟨uv,tv,rfl,hu,ht⟩:=hs
 obtain ⟨up,uc,rfl,_⟩:=hu.len
 obtain ⟨tp,tc,rfl,cD⟩:=ht.len
 obtain ⟨lp,lc,rfl,_⟩:=hl0.len
 have HT:=Qq ht;have HL:=Qq hl0
 have mixed:prog.follows .mixedOrders=true:=Qqy
 obtain ⟨n,hn⟩:=eX (s.tables.length)
 rw [hn] at HT cD ⊢
 have hm:l.length=n:=Qqj
 rw [hm] at HL ⊢
 have HN:=Qq hn;have HM:=Qq hm
 clear hu ht hl0 hn hm hlen
 obtain ⟨B9,aB⟩:=eX (Uy s l)
 rw [aB]
 have bW:=Qq aB
 clear aB
 have cG:((n:Int) != (n:Int))=false:=Qqk
 go_enter func38,ntmps38
 go_wp2_with fail
 clear cG
 generalize aC:w.alloc _=W1
 have aY:=eqB aC (Zg _ _)
 have aX:=eqH (b:=w.heap.size) aC (Qw _ _)
 have bU:=Qq aY;have cA:=Qq aX
 clear aC aY aX
 go_loopw [5,6] (fun i _ wr=>∃ k:Nat,k≤n∧i=.int .i64 k∧Aside (B9=eqL (fun (t:Tbl) (r:Rel)=>Ue r.rows&&decide (t.name=r.table)) (s.tables.drop k) (l.drop k))∧Aside (Below W1 W1 wr)) (fun i _ _=>n - (intOf i).toNat)
 case atStart=>exact ⟨0,Q8 _,rfl,bW.out.symm,Qz _ _⟩
 obtain ⟨k,hk,rfl,bD,aW⟩:=hrel
 have aS:=Qq (show B9=eqL (fun (t:Tbl) (r:Rel)=>Ue r.rows&&decide (t.name=r.table)) (s.tables.drop k) (l.drop k) from bD)
 clear bD
 have V:=Qq (show Below W1 W1 wr from aW)
 have I:=Qq (bU.out.thn V.out)
 have aD:=kB V.out cA.out
 have cV:=Z8 aD
 obtain ⟨c0,c1⟩:=row2 aD
 clear aW aD c0
 by_cases hlt:k<n
 ·have cW:(0:Int)≤(k:Int):=Qqj
  have cX:(k:Int)<(n:Int):=Qqj
  obtain ⟨r,hr⟩:∃ r,l[k]?=some r:=⟨_,Qx (by rw [HM.out];exact hlt)⟩
  obtain ⟨t,ht⟩:∃ t,s.tables[k]?=some t:=⟨_,Qx (by rw [HN.out];exact hlt)⟩
  obtain ⟨rb,cL,dM,rfl,cI,_,_,⟨rv,rfl,_,O⟩,aH⟩:=(HL.out.below I.out).elem hr
  obtain ⟨tb,cN,cM,rfl,dC,_,_,hR,bJ⟩:=(HT.out.below I.out).elem ht
  obtain ⟨cU,cT,dE,dD,dN,dL,k9,dO,n9,dP,dI,dF,cQ,dJ,dG,cR,dK,dH,cS,a9,z9,bA,_⟩:=Yj hR
  simp only [tcs] at bA
  subst bA
  have d0:=bJ 0 _ rfl
  have e0:=aH 0 _ rfl;have e1:=aH 1 _ rfl
  rw [show Zn.k=13 from rfl,Nat.add_zero] at d0
  rw [show Y7.k=2 from rfl] at e0 e1
  rw [Nat.add_zero] at e0
  unfold sv at e0
  obtain ⟨q,m,qc,bI,bC⟩:∃ q m qc,rv=.slice q m qc∧r.rows.length=m:=by obtain ⟨q,qc,h,_⟩:=O.len;exact ⟨q,_,qc,h,rfl⟩
  subst bI
  have bY:=Qq O;have Y:=Qq bC
  have cK:m≤1000000:=by obtain ⟨_,_,_,h⟩:=O.len;omega
  have aA:Hid (B9=((Ue r.rows&&decide (t.name=r.table))&&eqL (fun (t:Tbl) (r:Rel)=>Ue r.rows&&decide (t.name=r.table)) (s.tables.drop (k+1)) (l.drop (k+1)))):=Qq (aS.out.trans (O3 (fun (t:Tbl) (r:Rel)=>Ue r.rows&&decide (t.name=r.table)) ht hr))
  clear hr ht hR bJ aH O bC
  by_cases M:r.table=t.name
  ·have bE:(r.table==t.name)=true:=by rw [M];simp
   have bF:(r.table != t.name)=false:=by rw [M];simp
   have bZ:=Qq M
   clear M
   go_wp2_with fail
   go_quiet (fail)
   go_wp2_with fail
   obtain ⟨wo,aJ⟩:=eX (wr.drewN nq)
   have J:Below wr wr wo:=by rw [← aJ];exact Yq _ _
   rw [aJ]
   have aP:=Qq J
   have E1:=Qq (kD J cI e1)
   have aT:=Qq (bY.out.below J)
   have bH:rb<wo.heap.size:=Qqq J.size
   clear aJ J e0 e1 d0 c1 bE bF
   go_loopw [6] (fun i wi=>∃ j:Nat,j≤m∧i=.int .i64 ((j:Int)+1)∧Aside (∀ (D:Nat) (x y:Val),D<j→r.rows[D]?=some x→r.rows[D+1]?=some y→Yz x y<0)∧Aside (Below wo wo wi)) (fun i _=>m - (intOf i).toNat)
   case atStart=>exact ⟨0,Q8 _,Qqk,(by intro D _ _ h9;omega),Qz _ _⟩
   obtain ⟨j,hj,rfl,U,aV⟩:=hrel
   have T:=Qq (show ∀ (D:Nat) (x y:Val),D<j→r.rows[D]?=some x→r.rows[D+1]?=some y→Yz x y<0 from U)
   clear U
   have G:=Qq (show Below wo wo wr from aV)
   have e1:=kD G.out bH E1.out
   clear aV
   by_cases hlt2:j+1<m
   ·obtain ⟨x,hx⟩:∃ x,r.rows[j]?=some x:=⟨_,Qx (by rw [Y.out];omega)⟩
    obtain ⟨y,hy⟩:∃ y,r.rows[j+1]?=some y:=⟨_,Qx (by rw [Y.out];omega)⟩
    obtain ⟨xb,bP,p3,k3,p4,k4,rfl,A,bK,d0,d1,d2,d3,d4⟩:=(aT.out.below G.out).val hx
    obtain ⟨yb,bQ,q3,l3,q4,l4,M,cJ,bL,f0,f1,f2,f3,f4⟩:=(aT.out.below G.out).val hy
    obtain ⟨rfl,rfl,-⟩:xb=yb∧bP=bQ∧True:=by simpa using M
    have aE:=J7 bK bL
    have bG:rb<wr.heap.size:=Qv _ _ e1
    have D0:=Zs A d0;have D1:=Zs A d1;have D2:=Zs A d2;have D3:=Zs A d3;have D4:=Zs A d4
    have F0:=Zs A f0;have F1:=Zs A f1;have F2:=Zs A f2;have F3:=Zs A f3;have F4:=Zs A f4
    have E2:=Zs bG e1
    have aF:IntKind.i64.wrap (j:Int)=(j:Int):=by rw [IntKind.wrap_i64];omega
    have cY:(j:Int)<(m:Int):=Qqj
    have cZ:(0:Int)<(j:Int)+1:=Qqj
    have dA:(0:Int)≤(j:Int)+1:=Qqj
    have cC:(j:Int)+1<(m:Int):=Qqj
    have dB:(0:Int)≤(j:Int):=Qqj
    have aG:((j:Int)+1).toNat=j+1:=Qqj
    generalize aZ:Yz x y=c at aE
    have aQ:=Qq aZ;have N:=Qq (Qe hx hy)
    clear aZ
    have cO:=Qq aF;have cP:=Qq aG
    clear hx hy M bK bL cJ d0 d1 d2 d3 d4 f0 f1 f2 f3 f4
    by_cases hneg:c<0
    ·have aR:Hid (∀ (D:Nat) (x y:Val),D<j+1→r.rows[D]?=some x→r.rows[D+1]?=some y→Yz x y<0):=Qq (by
      intro D x' y' cB bN bO
      rcases Nat.lt_succ_iff_lt_or_eq.1 cB with h9 | rfl
      ·exact T.out D x' y' h9 bN bO
      cases bN.symm.trans N.out.1;cases bO.symm.trans N.out.2
      rw [aQ.out];exact hneg)
     have hq:decide (0≤c)=false:=by simpa using hneg
     go_wp2_with fail
     go_quiet_grown (first | (go_at_call 23;refine Calls.grown_of (aE _ _)))
     clear aF aG
     go_wp2_with fail
     go_roundw
     case measure=>simp [intOf];omega
     case rel=>exact ⟨j+1,Qqj,by go_num,aR.out,G.out.thn (Yg _ _ _).bl⟩
    have Z:Hid (B9=false):=Qq (by
     rw [aA.out,P8 N.out.1 N.out.2 (by rw [aQ.out];exact hneg)];rfl)
    have hq:decide (0≤c)=true:=by simp;omega
    go_wp2_with fail
    go_quiet_grown (first | (go_at_call 23;refine Calls.grown_of (aE _ _)))
    clear aF aG
    go_wp2_with fail
    go_ret
    exact ⟨by rw [Z.out];rfl,((I.out.thn aP.out).thn G.out).thn (Yg _ _ _).bl⟩
   have bX:Hid (B9=eqL (fun (t:Tbl) (r:Rel)=>Ue r.rows&&decide (t.name=r.table)) (s.tables.drop (k+1)) (l.drop (k+1))):=Qq (by
    have h9:Ue r.rows=true:=(Fg _).2 fun D x y hx hy=>T.out D x y (by
     have:=(Qj hy).1
     have:=Y.out
     omega) hx hy
    rw [aA.out,h9,decide_eq_true bZ.out.symm];rfl)
   have cC:¬ (j:Int)+1<(m:Int):=Qqj
   go_wp2_with fail
   go_roundw
   case measure=>simp [intOf];omega
   case rel=>exact ⟨k+1,Qqj,by go_num,bX.out,(V.out.thn aP.out).thn G.out⟩
  have bE:(r.table==t.name)=false:=by rw [← Qt,beq_iff_eq];exact M
  have bF:(r.table != t.name)=true:=by rw [bne_iff_ne];exact M
  have Z:Hid (B9=false):=Qq (by
   rw [aA.out,decide_eq_false (fun h9=>M h9.symm),Bool.and_false,Bool.false_and])
  clear M
  go_wp2_with fail
  go_quiet (fail)
  go_wp2_with fail
  go_ret
  exact ⟨by rw [Z.out];rfl,I.out.thn (Yq _ _)⟩
 have bB:k=n:=Qqj
 subst bB
 go_wp2_with fail
 go_ret
 refine ⟨?_,I.out⟩
 rw [aS.out,← HN.out,List.drop_length,List.drop_of_length_le (by rw [HM.out,HN.out];exact Q9 _)];rfl
inductive Y3:Val→Prop
 | mk (k n:Int) (s:Bs) (names:List Bs) (kids:List Val) (hb:k=2→n=0∨n=1) (hk:∀ x ∈ kids,Y3 x):Y3 (.mk k n s names kids)
theorem Y3.kids {v:Val} (h:Y3 v):∀ x ∈ v.kids,Y3 x:=by cases h;assumption
theorem Y3.bool {v:Val} (h:Y3 v) (hk:v.kind=2):v.n=0∨v.n=1:=by cases h with | mk k n s names kids hb _=>exact hb hk
theorem Y3.zero:Y3 Val.zero:=.mk 0 0 [] [] [] (fun h=>by cases h) (fun x h=>by simp at h)
theorem Y2.boolOk {v:Val} (h:Y2 v):Y3 v:=by
 induction h with
 | int n=>exact .mk _ _ _ _ _ (fun h=>by cases h) (fun x h=>by simp at h)
 | text s=>exact .mk _ _ _ _ _ (fun h=>by cases h) (fun x h=>by simp at h)
 | bool n hn=>exact .mk _ _ _ _ _ (fun _=>hn) (fun x h=>by simp at h)
 | make s kids _ _ _ ih=>exact .mk _ _ _ _ _ (fun h=>by cases h) ih
 | record names kids _ _ _ _ ih=>exact .mk _ _ _ _ _ (fun h=>by cases h) ih
 | list kids _ ih=>exact .mk _ _ _ _ _ (fun h=>by cases h) ih
theorem Z9.head {S:Nat→Prop} {w:World} {k n:Int} {s:ByteArray} {p3:Option Addr} {n3 k3:Nat} {p4:Option Addr} {n4 k4:Nat} {v:Val} (h:Z9 S w [k,n,.string s,.slice p3 n3 k3,.slice p4 n4 k4] v):v.kind=k∧v.n=n∧v.kids.length=n4:=by
 obtain ⟨a,b,c,d,e,_⟩:=Z9.cells h
 simp only [vcs,List.cons.injEq,Value.int.injEq,Qr,true_and,and_true] at e
 obtain ⟨h1,h2,_,_,h5⟩:=e
 exact ⟨h1.symm,h2.symm,h5.2.1.symm⟩
def EvS (S:Nat→Prop) (w:World) (cs:List Value) (r:Option Val) (b:Bool):Prop:=(b=true→∃ v,Z9 S w cs v∧Y3 v∧r=some v)∧(b=false→r=none)
theorem EvS.yes {S:Nat→Prop} {w:World} {cs:List Value} {r:Option Val} {v:Val} (h:Z9 S w cs v) (hb:Y3 v) (hr:r=some v):EvS S w cs r true:=⟨fun _=>⟨v,h,hb,hr⟩,fun h=>by cases h⟩
theorem EvS.no {S:Nat→Prop} {w:World} {cs:List Value} {r:Option Val} (hr:r=none):EvS S w cs r false:=⟨(fun h=>by cases h),fun _=>hr⟩
theorem EvS.map {S S':Nat→Prop} {w w':World} {cs:List Value} {r:Option Val} {b:Bool} (h:EvS S w cs r b) (hm:∀ v,Z9 S w cs v→Z9 S' w' cs v):EvS S' w' cs r b:=⟨fun hb=>by
 obtain ⟨v,h1,h2,h3⟩:=h.1 hb
 exact ⟨v,hm v h1,h2,h3⟩,h.2⟩
def X6 (S:Nat→Prop) (w:World) (r:Option Val) (e:Ending) (w':World):Prop:=∃ (k n:Int) (s:ByteArray) (p3:Option Addr) (n3 k3:Nat) (p4:Option Addr) (n4 k4:Nat) (b:Bool),
 e=.returned (.tuple #[.agg #[k,n,.string s,.slice p3 n3 k3,.slice p4 n4 k4],.bool b])∧EvS (fun c=>S c∨w≤c) w' [k,n,.string s,.slice p3 n3 k3,.slice p4 n4 k4] r b∧Below w w w'
theorem X6.weak {S S':Nat→Prop} {w w1 w2:World} {r:Option Val} {e:Ending} (h:X6 S' w1 r e w2) (hb:Below w w w1) (hS:∀ c,S' c→S c∨w.heap.size≤c):X6 S w r e w2:=by
 obtain ⟨k,n,s,p3,n3,k3,p4,n4,k4,b,he,hv,D⟩:=h
 refine ⟨k,n,s,p3,n3,k3,p4,n4,k4,b,he,hv.map (fun v h1=>h1.move (.refl _ _) (fun c _ A=>?_)),hb.thn D⟩
 rcases A with A | A
 ·exact hS c A
 exact .inr (Qqq hb.size)
theorem X6.of_eq {S:Nat→Prop} {w w':World} {r r':Option Val} {e:Ending} (hr:r=r') (h:X6 S w r' e w'):X6 S w r e w':=hr ▸ h
theorem Su (b:Bool) (w:World):Calls prog 144 #[.bool b] w fun e w'=>e=.returned (.tuple #[.agg #[.int .i64 2,.int .i64 (if b then 1 else 0),Qqe,Qqf,Qqf],.bool true])∧Below w w w':=by
 cases b with
 | true=>
  go_enter func144,ntmps144
  go_wp2_with fail
  exact Q7 (v:=.tuple #[.agg #[.int .i64 2,.int .i64 1,Qqe,Qqf,Qqf],.bool true]) (by simp [results,results144,go_sem]) rfl ⟨rfl,Zg _ _⟩
 | false=>
  go_enter func144,ntmps144
  go_wp2_with fail
  exact Q7 (v:=.tuple #[.agg #[.int .i64 2,Qqd,Qqe,Qqf,Qqf],.bool true]) (by simp [results,results144,go_sem]) rfl ⟨rfl,Zg _ _⟩
theorem B1 (n:Int) (w:World):Calls prog 143 #[n] w fun e w'=>e=.returned (.tuple #[.agg #[Qqd,n,Qqe,Qqf,Qqf],.bool true])∧Below w w w':=by
 go_enter func143,ntmps143
 go_wp2_with fail
 exact Q7 (v:=.tuple #[.agg #[Qqd,n,Qqe,Qqf,Qqf],.bool true]) (by simp [results,results143,go_sem]) rfl ⟨rfl,Zg _ _⟩
theorem S9 (S:Nat→Prop) (w:World) (n:Int):Z9 S w [.int .i64 2,n,Qqe,Qqf,Qqf] (.mk 2 n [] [] []):=Y8 (s:=[]) Qqk (Sl.nil _ _ _) (Sl.nil _ _ _)
theorem E9 (n:Int):Y3 (.mk 0 n [] [] []):=.mk _ _ _ _ _ (fun h=>by cases h) (fun x h=>by simp at h)
theorem Sl.ex {S:Nat→Prop} {w:World} {p:Option Addr} {n cap:Nat} {xs:List Ex} (h:Sl Xp S w (.slice p n cap) xs) {i:Nat} {x:Ex} (hx:xs[i]?=some x):
  ∃ b off ek es1 en es2 ep1 en1 ec1 ep2 en2 ec2 ep3 en3 ec3 ea ez,p=some ⟨b,off,none⟩∧b<w.heap.size∧Yv S w (Qqi ek es1 en es2 ep1 en1 ec1 ep2 en2 ec2 ep3 en3 ec3 ea ez) x∧Qqa w b (off+i*9) (.int .i64 ek)∧Qqa w b (off+i*9+1) (.string es1)∧Qqa w b (off+i*9+2) (.int .i64 en)∧Qqa w b (off+i*9+3) (.string es2)∧Qqa w b (off+i*9+4) (.slice ep1 en1 ec1)∧Qqa w b (off+i*9+5) (.slice ep2 en2 ec2)∧Qqa w b (off+i*9+6) (.slice ep3 en3 ec3)∧Qqa w b (off+i*9+7) (.int .i64 ea)∧Qqa w b (off+i*9+8) (.int .i64 ez):=by
 obtain ⟨b,off,cs,rfl,hb,_,_,hr,A⟩:=h.elem hx
 obtain ⟨ek,es1,en,es2,ep1,en1,ec1,ep2,en2,ec2,ep3,en3,ec3,ea,ez,D⟩:=Yv.cells (show Yv S w cs x from hr)
 subst D
 simp only [show Xp.k=9 from rfl] at A
 exact ⟨b,off,ek,es1,en,es2,ep1,en1,ec1,ep2,en2,ec2,ep3,en3,ec3,ea,ez,rfl,hb,hr,A 0 _ rfl,A 1 _ rfl,A 2 _ rfl,A 3 _ rfl,A 4 _ rfl,A 5 _ rfl,A 6 _ rfl,A 7 _ rfl,A 8 _ rfl⟩
def Do (x:Ex):Prop:=∀ (S:Nat→Prop) (ce:List Value) (w:World),Yv S w ce x→Calls prog 96 #[ce] w fun e w'=>e=.returned (.bool (Vx x))∧Below w w w'
theorem Pu (k:Int) (nm:Bs) (n:Int) (s:Bs) (names binds:List Bs) (kids:List Ex) (a z:Int) (ih:∀ x ∈ kids,Do x):Do (.mk k nm n s names binds kids a z):=by
 intro S ce w h
 obtain ⟨nv,bv,kv,rfl,_,_,hn,hb,hk⟩:=Yx.1 h
 obtain ⟨p1,c1,rfl,_⟩:=hn.len
 obtain ⟨p2,c2,rfl,_⟩:=hb.len
 obtain ⟨p3,c3,rfl,aJ⟩:=hk.len
 have HK:=Qq hk;have HI:=Qq ih
 clear h hn hb hk ih
 obtain ⟨m,hm⟩:=eX (kids.length)
 rw [hm] at HK aJ ⊢
 have HM:=Qq hm
 clear hm
 unfold sv
 by_cases hbad:k=4∨k=10∨k=15∨k=16
 ·rcases hbad with rfl | rfl | rfl | rfl
  all_goals
   go_enter func96,ntmps96
   go_wp2_with fail
   go_ret
   exact ⟨rfl,Zg _ _⟩
 have HQ:Hid (Vx (.mk k nm n s names binds kids a z)=Lj kids):=Qq (by
  have e:([4,10,15,16].any fun y=>decide (y=k))=false:=by
   simp only [List.any_cons,List.any_nil,Bool.or_false,Bool.or_eq_false_iff,decide_eq_false_iff_not]
   omega
  rw [Vx,e];rfl)
 have q4:(k==4)=false:=by rw [← Qt,beq_iff_eq];omega
 have aL:(k==10)=false:=by rw [← Qt,beq_iff_eq];omega
 have aM:(k==15)=false:=by rw [← Qt,beq_iff_eq];omega
 have aN:(k==16)=false:=by rw [← Qt,beq_iff_eq];omega
 clear hbad
 go_enter func96,ntmps96
 go_wp2_with fail
 generalize N:w.alloc _=W0
 have aB:=eqB N (Zg _ _)
 have Z:=eqH (b:=w.heap.size) N (Qw _ _)
 have J:=Qq aB;have aF:=Qq Z
 clear N aB Z q4 aL aM aN
 go_loopw [3,4] (fun i _ wr=>∃ k:Nat,k≤m∧i=.int .i64 k∧Aside (∀ x ∈ kids.take k,Vx x=true)∧Aside (Below W0 W0 wr)) (fun i _ _=>m - (intOf i).toNat)
 case atStart=>exact ⟨0,Q8 _,rfl,(by intro x I;simp at I),Qz _ _⟩
 obtain ⟨j,hj,rfl,aC,Y⟩:=hrel
 have U:=Qq (show ∀ x ∈ kids.take j,Vx x=true from aC)
 clear aC
 have A:=Qq (show Below W0 W0 wr from Y)
 have aA:=kB A.out aF.out
 have c6:=rA6 aA
 clear Y aA
 by_cases hlt:j<m
 ·have bA:(0:Int)≤(j:Int):=Qqj
  have bB:(j:Int)<(m:Int):=Qqj
  obtain ⟨x,I⟩:∃ x,kids[j]?=some x:=⟨_,Qx (by rw [HM.out];exact hlt)⟩
  obtain ⟨b,bC,ek,aX,en,aY,aU,aR,aO,aV,aS,aP,aW,aT,aQ,ea,ez,rfl,aZ,aD,d0,d1,d2,d3,d4,d5,d6,d7,d8⟩:=(HK.out.below (J.out.thn A.out)).ex I
  obtain ⟨V,G,HX⟩:=Qqo aD (HI.out x (Qy I)) I
  clear aD I
  obtain ⟨q,hq⟩:=eX (Vx x)
  unfold Do at G
  rw [hq] at G
  have T:=Qq hq
  clear hq
  cases q with
  | false=>
   go_wp2_with (go_at_call 96;refine (G.out _ _ _ V.out).mono ?_;rintro e w5 ⟨rfl,D⟩;have M:=Qq D;clear D)
   go_ret
   refine ⟨?_,(J.out.thn A.out).thn M.out⟩
   rw [HQ.out,Fa,List.any_eq_true.2 ⟨x,Qy HX.out,by rw [T.out];rfl⟩];rfl
  | true=>
   go_wp2_with (go_at_call 96;refine (G.out _ _ _ V.out).mono ?_;rintro e w5 ⟨rfl,D⟩;have M:=Qq D;clear D)
   go_roundw
   case measure=>simp [intOf];omega
   case rel=>exact ⟨j+1,Qqj,by go_num,(by
    intro y O
    rw [Fm HX.out] at O
    rcases Z4.1 O with O | O
    ·exact U.out y O
    rw [Z5.1 O];exact T.out),A.out.thn M.out⟩
 have aG:j=m:=Qqj
 subst aG
 go_wp2_with fail
 go_ret
 refine ⟨?_,J.out.thn A.out⟩
 have hs:=U.out
 rw [← HM.out,List.take_length] at hs
 rw [HQ.out,Fa,List.any_eq_false.2 fun x I=>by rw [hs x I];simp];rfl
theorem Bc:∀ x:Ex,Do x
 | .mk k nm n s names binds kids a z=>Pu k nm n s names binds kids a z fun x _=>Bc x
termination_by x=>SizeOf.sizeOf x
decreasing_by
 have:=List.sizeOf_lt_of_mem ‹_ ∈ kids›
 simp only [Ex.mk.sizeOf_spec]
 omega
structure Fd (w:World) where
 wd:World
 below:Below w w wd
instance {w:World}:Inhabited (Fd w):=⟨⟨w,Qz _ _⟩⟩
theorem U7 {P:Program} {id:Nat} {Q:Exit→Act→World→Prop} {a:Act} {w:World} {l:List Oper} (hm:P.follows .mixedOrders=true) (hB:Region.lexB .any l.toArray=true)
  (h:wpQuiet P l.toArray (fun w'=>∃ p:Fd w,w'=p.wd) (fun a'=>∀ w',(∃ p:Fd w,w'=p.wd)→Q .normal a' w') l a):(Code.region id l.toArray true).wp P Q a w:=
 wp_region_quiet (C:=fun w'=>∃ p:Fd w,w'=p.wd) hm hB ⟨⟨w.drew,(Qz _ _).drew⟩,rfl⟩ (by simpa using h)
theorem Kh {w:World} {b o:Nat} {v:Value} (hb:b<w) (h:w.cell? ⟨b,o,none⟩=some v) (p:Fd w):p.wd.cell? ⟨b,o,none⟩=some v:=kD p.below hb h
theorem Calls.later_of {P:Program} {f:FuncId} {args:Array Value} {w:World} {p:Fd w} {v:Value} (h:Calls P f args p.wd fun e w'=>e=.returned v∧Below p.wd.heap.size p.wd w'):Calls P f args p.wd fun e w''=>e=.returned v∧∃ q:Fd w,w''=q.wd:=
 h.mono fun _ w' ⟨he,hb⟩=>⟨he,⟨w',p.below.thn hb⟩,rfl⟩
theorem Lc (a b:Bs):Yf a b=- Yf b a:=by
 have:=Vs a b [] []
 have h:=Vs b a [] []
 simp only [List.append_nil,lex,Kw] at this h
 rw [← this,← h];exact D8 _ _
def Xh (v:Val):Prop:=∀ (S:Nat→Prop) (cs:List Value) (w:World),Z9 S w cs v→Calls prog 92 #[cs] w fun e w'=>e=.returned (.bool true)∧Below w w w'
theorem Rv (n:Int) (ks:List Val) (hks:ks=[]) (ih:∀ x ∈ ks,Xh x):Xh (.mk 0 n [] [] ks):=by
 intro S cs w h
 obtain ⟨p3,k3,p4,k4,V,hn,M,_⟩:=Z9.cells h
 simp only [vcs,Val.kind,Val.n,Val.s,Val.names,Val.kids,List.length_nil] at V hn M
 subst V
 obtain ⟨_,_,_,aH⟩:=M.len
 have HI:=Qq ih
 obtain ⟨m,Z⟩:=eX (ks.length)
 rw [Z] at M aH ⊢
 have aC:=Qq M;have HM:=Qq Z
 have mixed:prog.follows .mixedOrders=true:=Qqy
 have aG:m=0:=by rw [← Z,hks];rfl
 have aM:decide (0<m)=false:=by simp;omega
 clear Z hn hks aG
 clear h M ih
 go_enter func92,ntmps92
 go_wp2_with fail
 generalize J:w.alloc _=G
 have T:=eqB J (Zg _ _)
 have A:=eqH (b:=w.heap.size) J (Qw _ _)
 clear J
 have I:Hid (w<G.heap.size∧Qqa G w 4 (.slice p4 m k4)):=Qq ⟨Z8 A,Qk _ _ 4 _ _ _ A⟩
 have aE:Hid (w<G.heap.size∧Qqa G w 3 (.slice p3 0 k3)):=Qq ⟨Z8 A,Qk _ _ 3 _ _ _ A⟩
 have N:=Qq T
 clear A T
 go_loopw [5] (fun i wr=>i=.int .i64 0∧G=wr) (fun _ _=>0)
 case atStart=>exact ⟨rfl,rfl⟩
 obtain ⟨rfl,rfl⟩:=hrel
 have c4:=I.out.2
 have c3:=aE.out.2
 go_wp2_with fail
 clear c3 c4
 go_loopw [6] (fun i wr=>∃ k:Nat,k≤m∧i=.int .i64 k∧Aside (Below G G wr)) (fun i _=>m - (intOf i).toNat)
 case atStart=>exact ⟨0,Q8 _,rfl,Qz _ _⟩
 obtain ⟨k,M,rfl,O⟩:=hrel
 have D:=Qq (show Below G G wr from O)
 have c4:=(D.out.cell (p:=⟨w,4,none⟩) I.out.1).trans I.out.2
 clear O
 by_cases hlt:k<m
 ·have aK:(0:Int)≤(k:Int):=Qqj
  have aL:(k:Int)<(m:Int):=Qqj
  obtain ⟨y,hy⟩:∃ y,ks[k]?=some y:=⟨_,Qx (by rw [HM.out];exact hlt)⟩
  obtain ⟨b,aN,q3,l3,q4,l4,rfl,aJ,Y,d0,d1,d2,d3,d4⟩:=(aC.out.below (N.out.thn D.out)).val hy
  have aD:=Qq Y;have aB:=Qq (HI.out y (Qy hy))
  clear Y hy
  go_wp2_with (go_at_call 92;refine (aB.out _ _ _ aD.out).mono ?_;rintro e w5 ⟨rfl,U⟩;have aA:=Qq U;clear U)
  go_roundw
  case measure=>simp [intOf];omega
  case rel=>exact ⟨k+1,Qqj,by go_num,D.out.thn aA.out⟩
 have aF:k=m:=Qqj
 subst aF
 go_wp2_with fail
 go_ret
 exact ⟨rfl,N.out.thn D.out⟩
theorem Ns (sx:Bs) (ks:List Val) (hks:ks=[]) (ih:∀ x ∈ ks,Xh x):Xh (.mk 1 0 sx [] ks):=by
 intro S cs w h
 obtain ⟨p3,k3,p4,k4,V,hn,M,_⟩:=Z9.cells h
 simp only [vcs,Val.kind,Val.n,Val.s,Val.names,Val.kids,List.length_nil] at V hn M
 subst V
 obtain ⟨_,_,_,aH⟩:=M.len
 have HI:=Qq ih
 obtain ⟨m,Z⟩:=eX (ks.length)
 rw [Z] at M aH ⊢
 have aC:=Qq M;have HM:=Qq Z
 have mixed:prog.follows .mixedOrders=true:=Qqy
 have aG:m=0:=by rw [← Z,hks];rfl
 have aM:decide (0<m)=false:=by simp;omega
 clear Z hn hks aG
 clear h M ih
 go_enter func92,ntmps92
 go_wp2_with fail
 generalize J:w.alloc _=G
 have T:=eqB J (Zg _ _)
 have A:=eqH (b:=w.heap.size) J (Qw _ _)
 clear J
 have I:Hid (w<G.heap.size∧Qqa G w 4 (.slice p4 m k4)):=Qq ⟨Z8 A,Qk _ _ 4 _ _ _ A⟩
 have aE:Hid (w<G.heap.size∧Qqa G w 3 (.slice p3 0 k3)):=Qq ⟨Z8 A,Qk _ _ 3 _ _ _ A⟩
 have N:=Qq T
 clear A T
 go_loopw [5] (fun i wr=>i=.int .i64 0∧G=wr) (fun _ _=>0)
 case atStart=>exact ⟨rfl,rfl⟩
 obtain ⟨rfl,rfl⟩:=hrel
 have c4:=I.out.2
 have c3:=aE.out.2
 go_wp2_with fail
 clear c3 c4
 go_loopw [6] (fun i wr=>∃ k:Nat,k≤m∧i=.int .i64 k∧Aside (Below G G wr)) (fun i _=>m - (intOf i).toNat)
 case atStart=>exact ⟨0,Q8 _,rfl,Qz _ _⟩
 obtain ⟨k,M,rfl,O⟩:=hrel
 have D:=Qq (show Below G G wr from O)
 have c4:=(D.out.cell (p:=⟨w,4,none⟩) I.out.1).trans I.out.2
 clear O
 by_cases hlt:k<m
 ·have aK:(0:Int)≤(k:Int):=Qqj
  have aL:(k:Int)<(m:Int):=Qqj
  obtain ⟨y,hy⟩:∃ y,ks[k]?=some y:=⟨_,Qx (by rw [HM.out];exact hlt)⟩
  obtain ⟨b,aN,q3,l3,q4,l4,rfl,aJ,Y,d0,d1,d2,d3,d4⟩:=(aC.out.below (N.out.thn D.out)).val hy
  have aD:=Qq Y;have aB:=Qq (HI.out y (Qy hy))
  clear Y hy
  go_wp2_with (go_at_call 92;refine (aB.out _ _ _ aD.out).mono ?_;rintro e w5 ⟨rfl,U⟩;have aA:=Qq U;clear U)
  go_roundw
  case measure=>simp [intOf];omega
  case rel=>exact ⟨k+1,Qqj,by go_num,D.out.thn aA.out⟩
 have aF:k=m:=Qqj
 subst aF
 go_wp2_with fail
 go_ret
 exact ⟨rfl,N.out.thn D.out⟩
theorem Mt (ks:List Val) (hks:ks=[]) (ih:∀ x ∈ ks,Xh x):Xh (.mk 2 0 [] [] ks):=by
 intro S cs w h
 obtain ⟨p3,k3,p4,k4,V,hn,M,_⟩:=Z9.cells h
 simp only [vcs,Val.kind,Val.n,Val.s,Val.names,Val.kids,List.length_nil] at V hn M
 subst V
 obtain ⟨_,_,_,aH⟩:=M.len
 have HI:=Qq ih
 obtain ⟨m,Z⟩:=eX (ks.length)
 rw [Z] at M aH ⊢
 have aC:=Qq M;have HM:=Qq Z
 have mixed:prog.follows .mixedOrders=true:=Qqy
 have aG:m=0:=by rw [← Z,hks];rfl
 have aM:decide (0<m)=false:=by simp;omega
 clear Z hn hks aG
 clear h M ih
 go_enter func92,ntmps92
 go_wp2_with fail
 generalize J:w.alloc _=G
 have T:=eqB J (Zg _ _)
 have A:=eqH (b:=w.heap.size) J (Qw _ _)
 clear J
 have I:Hid (w<G.heap.size∧Qqa G w 4 (.slice p4 m k4)):=Qq ⟨Z8 A,Qk _ _ 4 _ _ _ A⟩
 have aE:Hid (w<G.heap.size∧Qqa G w 3 (.slice p3 0 k3)):=Qq ⟨Z8 A,Qk _ _ 3 _ _ _ A⟩
 have N:=Qq T
 clear A T
 go_loopw [5] (fun i wr=>i=.int .i64 0∧G=wr) (fun _ _=>0)
 case atStart=>exact ⟨rfl,rfl⟩
 obtain ⟨rfl,rfl⟩:=hrel
 have c4:=I.out.2
 have c3:=aE.out.2
 go_wp2_with fail
 clear c3 c4
 go_loopw [6] (fun i wr=>∃ k:Nat,k≤m∧i=.int .i64 k∧Aside (Below G G wr)) (fun i _=>m - (intOf i).toNat)
 case atStart=>exact ⟨0,Q8 _,rfl,Qz _ _⟩
 obtain ⟨k,M,rfl,O⟩:=hrel
 have D:=Qq (show Below G G wr from O)
 have c4:=(D.out.cell (p:=⟨w,4,none⟩) I.out.1).trans I.out.2
 clear O
 by_cases hlt:k<m
 ·have aK:(0:Int)≤(k:Int):=Qqj
  have aL:(k:Int)<(m:Int):=Qqj
  obtain ⟨y,hy⟩:∃ y,ks[k]?=some y:=⟨_,Qx (by rw [HM.out];exact hlt)⟩
  obtain ⟨b,aN,q3,l3,q4,l4,rfl,aJ,Y,d0,d1,d2,d3,d4⟩:=(aC.out.below (N.out.thn D.out)).val hy
  have aD:=Qq Y;have aB:=Qq (HI.out y (Qy hy))
  clear Y hy
  go_wp2_with (go_at_call 92;refine (aB.out _ _ _ aD.out).mono ?_;rintro e w5 ⟨rfl,U⟩;have aA:=Qq U;clear U)
  go_roundw
  case measure=>simp [intOf];omega
  case rel=>exact ⟨k+1,Qqj,by go_num,D.out.thn aA.out⟩
 have aF:k=m:=Qqj
 subst aF
 go_wp2_with fail
 go_ret
 exact ⟨rfl,N.out.thn D.out⟩
theorem Ma (ks:List Val) (hks:ks=[]) (ih:∀ x ∈ ks,Xh x):Xh (.mk 2 1 [] [] ks):=by
 intro S cs w h
 obtain ⟨p3,k3,p4,k4,V,hn,M,_⟩:=Z9.cells h
 simp only [vcs,Val.kind,Val.n,Val.s,Val.names,Val.kids,List.length_nil] at V hn M
 subst V
 obtain ⟨_,_,_,aH⟩:=M.len
 have HI:=Qq ih
 obtain ⟨m,Z⟩:=eX (ks.length)
 rw [Z] at M aH ⊢
 have aC:=Qq M;have HM:=Qq Z
 have mixed:prog.follows .mixedOrders=true:=Qqy
 have aG:m=0:=by rw [← Z,hks];rfl
 have aM:decide (0<m)=false:=by simp;omega
 clear Z hn hks aG
 clear h M ih
 go_enter func92,ntmps92
 go_wp2_with fail
 generalize J:w.alloc _=G
 have T:=eqB J (Zg _ _)
 have A:=eqH (b:=w.heap.size) J (Qw _ _)
 clear J
 have I:Hid (w<G.heap.size∧Qqa G w 4 (.slice p4 m k4)):=Qq ⟨Z8 A,Qk _ _ 4 _ _ _ A⟩
 have aE:Hid (w<G.heap.size∧Qqa G w 3 (.slice p3 0 k3)):=Qq ⟨Z8 A,Qk _ _ 3 _ _ _ A⟩
 have N:=Qq T
 clear A T
 go_loopw [5] (fun i wr=>i=.int .i64 0∧G=wr) (fun _ _=>0)
 case atStart=>exact ⟨rfl,rfl⟩
 obtain ⟨rfl,rfl⟩:=hrel
 have c4:=I.out.2
 have c3:=aE.out.2
 go_wp2_with fail
 clear c3 c4
 go_loopw [6] (fun i wr=>∃ k:Nat,k≤m∧i=.int .i64 k∧Aside (Below G G wr)) (fun i _=>m - (intOf i).toNat)
 case atStart=>exact ⟨0,Q8 _,rfl,Qz _ _⟩
 obtain ⟨k,M,rfl,O⟩:=hrel
 have D:=Qq (show Below G G wr from O)
 have c4:=(D.out.cell (p:=⟨w,4,none⟩) I.out.1).trans I.out.2
 clear O
 by_cases hlt:k<m
 ·have aK:(0:Int)≤(k:Int):=Qqj
  have aL:(k:Int)<(m:Int):=Qqj
  obtain ⟨y,hy⟩:∃ y,ks[k]?=some y:=⟨_,Qx (by rw [HM.out];exact hlt)⟩
  obtain ⟨b,aN,q3,l3,q4,l4,rfl,aJ,Y,d0,d1,d2,d3,d4⟩:=(aC.out.below (N.out.thn D.out)).val hy
  have aD:=Qq Y;have aB:=Qq (HI.out y (Qy hy))
  clear Y hy
  go_wp2_with (go_at_call 92;refine (aB.out _ _ _ aD.out).mono ?_;rintro e w5 ⟨rfl,U⟩;have aA:=Qq U;clear U)
  go_roundw
  case measure=>simp [intOf];omega
  case rel=>exact ⟨k+1,Qqj,by go_num,D.out.thn aA.out⟩
 have aF:k=m:=Qqj
 subst aF
 go_wp2_with fail
 go_ret
 exact ⟨rfl,N.out.thn D.out⟩
theorem Nu (ks:List Val) (ih:∀ x ∈ ks,Xh x):Xh (.mk 5 0 [] [] ks):=by
 intro S cs w h
 obtain ⟨p3,k3,p4,k4,V,hn,M,_⟩:=Z9.cells h
 simp only [vcs,Val.kind,Val.n,Val.s,Val.names,Val.kids,List.length_nil] at V hn M
 subst V
 obtain ⟨_,_,_,aG⟩:=M.len
 have HI:=Qq ih
 obtain ⟨m,hm⟩:=eX (ks.length)
 rw [hm] at M aG ⊢
 have aB:=Qq M;have HM:=Qq hm
 have mixed:prog.follows .mixedOrders=true:=Qqy
 clear hm hn
 clear h M ih
 go_enter func92,ntmps92
 go_wp2_with fail
 generalize J:w.alloc _=G
 have T:=eqB J (Zg _ _)
 have A:=eqH (b:=w.heap.size) J (Qw _ _)
 clear J
 have I:Hid (w<G.heap.size∧Qqa G w 4 (.slice p4 m k4)):=Qq ⟨Z8 A,Qk _ _ 4 _ _ _ A⟩
 have aD:Hid (w<G.heap.size∧Qqa G w 3 (.slice p3 0 k3)):=Qq ⟨Z8 A,Qk _ _ 3 _ _ _ A⟩
 have N:=Qq T
 clear A T
 go_loopw [5] (fun i wr=>i=.int .i64 0∧G=wr) (fun _ _=>0)
 case atStart=>exact ⟨rfl,rfl⟩
 obtain ⟨rfl,rfl⟩:=hrel
 have c4:=I.out.2
 have c3:=aD.out.2
 go_wp2_with fail
 clear c3 c4
 go_loopw [6] (fun i wr=>∃ k:Nat,k≤m∧i=.int .i64 k∧Aside (Below G G wr)) (fun i _=>m - (intOf i).toNat)
 case atStart=>exact ⟨0,Q8 _,rfl,Qz _ _⟩
 obtain ⟨k,M,rfl,O⟩:=hrel
 have D:=Qq (show Below G G wr from O)
 have c4:=(D.out.cell (p:=⟨w,4,none⟩) I.out.1).trans I.out.2
 clear O
 by_cases hlt:k<m
 ·have aJ:(0:Int)≤(k:Int):=Qqj
  have aK:(k:Int)<(m:Int):=Qqj
  obtain ⟨y,hy⟩:∃ y,ks[k]?=some y:=⟨_,Qx (by rw [HM.out];exact hlt)⟩
  obtain ⟨b,aL,q3,l3,q4,l4,rfl,aI,Y,d0,d1,d2,d3,d4⟩:=(aB.out.below (N.out.thn D.out)).val hy
  have aC:=Qq Y;have aA:=Qq (HI.out y (Qy hy))
  clear Y hy
  go_wp2_with (go_at_call 92;refine (aA.out _ _ _ aC.out).mono ?_;rintro e w5 ⟨rfl,U⟩;have Z:=Qq U;clear U)
  go_roundw
  case measure=>simp [intOf];omega
  case rel=>exact ⟨k+1,Qqj,by go_num,D.out.thn Z.out⟩
 have aE:k=m:=Qqj
 subst aE
 go_wp2_with fail
 go_ret
 exact ⟨rfl,N.out.thn D.out⟩
theorem Oo (sx:Bs) (hsx:B0 sx) (ks:List Val) (hl:ks.length≤1) (ih:∀ x ∈ ks,Xh x):Xh (.mk 3 0 sx [] ks):=by
 intro S cs w h
 obtain ⟨p3,k3,p4,k4,V,hn,M,_⟩:=Z9.cells h
 simp only [vcs,Val.kind,Val.n,Val.s,Val.names,Val.kids,List.length_nil] at V hn M
 subst V
 obtain ⟨_,_,_,aI⟩:=M.len
 have HI:=Qq ih
 obtain ⟨m,hm⟩:=eX (ks.length)
 rw [hm] at M aI ⊢
 have aC:=Qq M;have HM:=Qq hm
 have mixed:prog.follows .mixedOrders=true:=Qqy
 have aN:m≤1:=Qqj
 have aO:decide (1<m)=false:=by simp;omega
 have HF:=Qq (fun W=>Cn sx hsx W)
 unfold sv at HF
 clear hm hn hsx hl
 clear h M ih
 go_enter func92,ntmps92
 go_wp2_with fail
 refine (HF.out _).mono ?_
 rintro e D ⟨rfl,J⟩
 have A:D.heap[w.heap.size]?=some (.cells #[.int .i64 3,Qqd,sx,.slice p3 0 k3,.slice p4 m k4] 36 (0,0)):=kE J Qqk (Qw _ _)
 have T:=(Zg w _).thn J
 clear J
 obtain ⟨c0,c1,c2,c3,Z⟩:=row5 A
 go_wp2_with fail
 clear c0 c1 c2 c3 Z
 have I:Hid (w<D.heap.size∧Qqa D w 4 (.slice p4 m k4)):=Qq ⟨Z8 A,Qk _ _ 4 _ _ _ A⟩
 have aE:Hid (w<D.heap.size∧Qqa D w 3 (.slice p3 0 k3)):=Qq ⟨Z8 A,Qk _ _ 3 _ _ _ A⟩
 have N:=Qq T
 clear A T
 go_loopw [5] (fun i wr=>i=.int .i64 0∧D=wr) (fun _ _=>0)
 case atStart=>exact ⟨rfl,rfl⟩
 obtain ⟨rfl,rfl⟩:=hrel
 have Z:=I.out.2
 have c3:=aE.out.2
 go_wp2_with fail
 clear c3 Z
 go_loopw [6] (fun i wr=>∃ k:Nat,k≤m∧i=.int .i64 k∧Aside (Below D D wr)) (fun i _=>m - (intOf i).toNat)
 case atStart=>exact ⟨0,Q8 _,rfl,Qz _ _⟩
 obtain ⟨k,M,rfl,O⟩:=hrel
 have G:=Qq (show Below D D wr from O)
 have Z:=(G.out.cell (p:=⟨w,4,none⟩) I.out.1).trans I.out.2
 clear O
 by_cases hlt:k<m
 ·have aL:(0:Int)≤(k:Int):=Qqj
  have aM:(k:Int)<(m:Int):=Qqj
  obtain ⟨y,hy⟩:∃ y,ks[k]?=some y:=⟨_,Qx (by rw [HM.out];exact hlt)⟩
  obtain ⟨b,aP,q3,l3,q4,l4,rfl,aK,Y,d0,d1,d2,d3,d4⟩:=(aC.out.below (N.out.thn G.out)).val hy
  have aD:=Qq Y;have aB:=Qq (HI.out y (Qy hy))
  clear Y hy
  go_wp2_with (go_at_call 92;refine (aB.out _ _ _ aD.out).mono ?_;rintro e w5 ⟨rfl,U⟩;have aA:=Qq U;clear U)
  go_roundw
  case measure=>simp [intOf];omega
  case rel=>exact ⟨k+1,Qqj,by go_num,G.out.thn aA.out⟩
 have aG:k=m:=Qqj
 subst aG
 go_wp2_with fail
 go_ret
 exact ⟨rfl,N.out.thn G.out⟩
end Go.Proofs.YtdpibdpbgokmoaaGreatDoor
