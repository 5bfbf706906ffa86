import Derived.Test.YtcljcblceodciaaGreatDoorU17
set_option maxRecDepth 100000
set_option maxHeartbeats 400000000
namespace Go.Proofs.YtcljcblceodciaaGreatDoor
open Go.RowKit Go.Shelf Go.Lib Tryz
def Ym:Rd Rel where
 k:=2
 R S w cs x:=∃ v,cs=[sv x.table,v]/\x.table.length<=1000000/\Sl Zd S w v x.rows/\CapV v x.rows.length
 len h:=by obtain ⟨v,rfl,_⟩:=h;rfl
 frame h hA:=by obtain ⟨v,rfl,A,D,G⟩:=h;exact ⟨v,rfl,A,D.frame hA,G⟩
 mono h hS:=by obtain ⟨v,rfl,A,D,G⟩:=h;exact ⟨v,rfl,A,D.mono hS,G⟩
theorem E6 {S:Nat->Prop} {w:World} {cs:List Value} {x:Rel} (h:Ym.R S w cs x):Y6.R S w cs x:=by obtain ⟨v,rfl,h1,h2,_⟩:=h;exact ⟨v,rfl,h1,h2⟩
theorem Sl.rel {S:Nat->Prop} {w:World} {v:Value} {l:List Rel} (h:Sl Ym S w v l):Sl Y6 S w v l:=by
 obtain ⟨p,cap,h1,h2,h3⟩:=h
 refine ⟨p,cap,h1,h2,fun D=>?_⟩
 obtain ⟨b,G,e,hS,hb,hc⟩:=h3 D
 refine ⟨b,G,e,hS,hb,fun i x hx=>?_⟩
 obtain ⟨cs,A,hr⟩:=hc i x hx
 exact ⟨cs,A,E6 hr⟩
theorem Cs.rel {S:Nat->Prop} {w:World} {css:List (List Value)} {l:List Rel} (h:Cs Ym S w css l):Cs Y6 S w css l:=⟨h.len,fun i c x hc hx=>E6 (h.R i c x hc hx)⟩
theorem Own.rel {E:TypeId} {S:Nat->Prop} {B:Nat} {w:World} {v:Value} {l:List Rel} {css:List (List Value)} (h:Own Ym E S B w v l css):Own Y6 E S B w v l css:=⟨h.row,h.cs.rel⟩
theorem relc_one:∀ S w cs x,Ym.R S w cs x->∀ u ∈ cs,u.oneCell'=true:=fun S w cs x h=>Sb S w cs x (E6 h)
theorem Mu {S:Nat->Prop} {E:TypeId} {B:Nat} {w:World} {g n cap:Nat} {l:List Rel} {css:List (List Value)} {i:Nat} {x:Rel} {rv':Value} {zs:List Val} (hn:l.length=n) (h:Own Ym E S B w (.slice (some ⟨g,0,none⟩) n cap) l css) (hi:l[i]?=some x)
  (hs:Sl Zd (But S (.slice (some ⟨g,0,none⟩) n cap)) w rv' zs) (hc':CapV rv' zs.length):
  ∃ css',Own Ym E S B (w.setCell ⟨g,i*2+1,none⟩ rv') (.slice (some ⟨g,0,none⟩) n cap) (l.set i ⟨x.table,zs⟩) css':=by
 subst hn
 have A:=(Qj hi).1
 obtain ⟨c,hc⟩:∃ c,css[i]?=some c:=⟨_,Qx (by rw [h.cs.len];exact A)⟩
 obtain ⟨rv,rfl,I,_⟩:=h.cs.R i c x hc hi
 have hA:Uf (But S (.slice (some ⟨g,0,none⟩) l.length cap)) w (w.setCell ⟨g,i*2+1,none⟩ rv'):=fun b hS _=>Za (fun e=>hS.2 (by rw [e];rfl))
 refine ⟨css.set i [sv x.table,rv'],⟨?_,⟨by rw [List.length_set,List.length_set];exact h.cs.len,fun j d y D G=>?_⟩⟩⟩
 ·rw [List.length_set,<- L2 css i _ rv rv' h.cs.all hc]
  exact (h.row.stored (i*2+1) rv').1
 by_cases e:j=i
 ·subst e
  rw [List.getElem?_set_self A] at G
  rw [List.getElem?_set_self (by rw [h.cs.len];exact A)] at D
  cases D;cases G
  exact ⟨rv',rfl,I,hs.frame hA,hc'⟩
 rw [List.getElem?_set_ne (Ne.symm e)] at D G
 exact Ym.frame (h.cs.R j d y D G) hA
theorem Own.weak {T:Type} {r:Rd T} {E:TypeId} {S S':Nat->Prop} {B B':Nat} {w:World} {v:Value} {xs:List T} {css:List (List Value)} (h:Own r E S B w v xs css) (hB:B'<=B) (hS:∀ b,b<w.heap.size->S b->S' b):Own r E S' B' w v xs css:=by
 refine ⟨⟨h.row.1,?_⟩,h.cs.move (.refl _ _) (fun b hb hs=>⟨hS b hb hs.1,hs.2⟩)⟩
 rcases h.row.2 with hn | ⟨g,cap,cur,rfl,hg,rest⟩
 ·exact .inl hn
 exact .inr ⟨g,cap,cur,rfl,C7,rest⟩
def Tn (S:Nat->Prop) (w:World) (l:List Rel) (e:Ending) (w':World):Prop:=∃ p cap css,e=.returned (.slice p l.length cap)/\Own Ym 80 (fun b=>S b\/w<=b) w w' (.slice p l.length cap) l css/\Below w w w'
theorem Nw (S:Nat->Prop) (lv:Value) (l:List Rel) (w:World) (hl0:Sl Ym S w lv l) (hl1:l.length<=1000):
  Calls prog 85 #[lv] w fun e w'=>∃ p cap css,e=.returned (.slice p l.length cap)/\Own Ym 80 (fun b=>S b/\b<w) w w' (.slice p l.length cap) l css/\Below w w w':=by
 have V:Sl Ym (But (fun b=>S b/\b<w) (.slice none 0 0)) w lv l:=hl0.mono (fun b hb h=>⟨⟨h,hb⟩,fun e=>by cases e⟩)
 have HL:=Qq V
 obtain ⟨p,cap,rfl,_⟩:=V.len
 clear hl0 V
 obtain ⟨i0,j1,j2,j3,j4⟩:=Y7 (P:=prog) (t:=80) (z:=.agg #[Cl,Cm]) (n:=2) (b:=40) Cd
 obtain ⟨HJ,J,M,N⟩:=Qjz j1 j2 j3 j4
 clear j1 j2 j3 j4
 obtain ⟨n,Y⟩:=eX (l.length)
 rw [Y] at HL hl1 |-
 have I:([]:List Rel).length+l.length=n:=by rw [Y];simp
 have T:=Qq I
 clear Y I
 go_enter func85,ntmps85
 go_wp2_with (at_builtin;refine Yr (r:=Ym) Cc relc_one rfl (.tmp 4) (.tmp 5) _ rfl 80 i0 (.agg #[Cl,Cm]) 40 underlying28 HJ.out J.out M.out N.out rfl C7 (fun b=>S b/\b<w) w w (.slice none 0 0) [] [] rfl (Own.nil _ _ _ _ _) (.slice p n cap) l rfl HL.out n T.out C7 C7 ?_;intro p4 c4 A w4 G D;have U:=Qq G;have O:=Qq D;clear G D)
 go_ret
 exact ⟨p4,c4,A,rfl,U.out,O.out.below⟩
theorem G9 {l:List Rel} {x:Bs} {v:Val} (h:Vu l x=none):Kl l x v=l:=by unfold Kl;rw [h]
theorem Fu {l:List Rel} {x:Bs} {v:Val} {i:Nat} {r:Rel} (h:Vu l x=some i) (hr:l[i]?=some r):Kl l x v=l.set i ⟨r.table,Jd r.rows v⟩:=by unfold Kl;rw [h];simp [hr]
theorem Kt (l:List Rel) (x:Bs) (v:Val):(Kl l x v).length=l.length:=by unfold Kl;split <;> simp
theorem Gm (S:Nat->Prop) (lv:Value) (l:List Rel) (x:Bs) (v:Val) (cv:List Value) (w:World) (hl0:Sl Ym S w lv l) (hv0:Z9 S w cv v) (hl1:l.length<=1000) (hr1:∀ r ∈ l,r.rows.length<=1000):
  Calls prog 29 #[lv,sv x,cv] w (Tn S w (Kl l x v)):=by
 have hl:=hl0.up
 have hv:Z9 (fun b=>S b/\b<w) w cv v:=hv0.move (.refl _ _) (fun b hb h=>⟨h,hb⟩)
 have aB:=Qq (fun W (hb:Below w w W)=>Nw _ lv l W (hl.below hb) hl1)
 obtain ⟨p0,bA,rfl,_⟩:=hl.len
 obtain ⟨p3,k3,p4,k4,aJ,_⟩:=Z9.cells hv
 have HV:=Qq hv
 simp only [vcs] at aJ
 subst aJ
 clear hl0 hv0 hl hv
 unfold sv
 go_enter func29,ntmps29
 go_wp2_with fail
 refine (aB.out _ (Zg _ _)).mono ?_
 rintro e V ⟨p,cap,css,rfl,hO,T⟩
 have O:=(T.block w Ca).trans (Qw _ _)
 have N:Own Ym 80 (fun b=>S b/\b<w) (w+1) V (.slice p l.length cap) l css:=hO.weak Ca (fun b _ h=>h.1)
 obtain ⟨J,aS,A⟩:=Qjq ((Zg w _).thn T) O N
 have bB:w.heap.size<V.heap.size:=Z8 O
 have HF:=Qq (Dk (fun b=>S b\/w<=b) (.slice p l.length cap) l x V (N.rel.sl (S':=fun b=>S b\/w<=b) C7 (fun b hb=>.inr C7) (fun b _ h=>.inl h.1)))
 unfold sv at HF
 clear T O hO N aB
 rcases Jz l x with ⟨hr,hi⟩ | ⟨i,r,hr,hi,Y⟩
 ·have hR:=G9 (v:=v) hr
  rw [hi] at HF
  have M:=Qq hR
  clear hr hi hR
  go_wp2_with (go_at_call 31;refine HF.out.mono ?_;rintro e w' ⟨rfl,rfl⟩)
  go_ret
  unfold Tn
  rw [M.out]
  exact ⟨p,cap,css,rfl,A.out.weak C7 (fun b _ h=>.inl h.1),J.out⟩
 have hR:=Fu (v:=v) hr Y
 rw [hi] at HF
 have I:(Kl l x v).length=l.length:=Kt l x v
 have M:=Qq hR;have aD:=Qq I
 have aV:=(Qj Y).1
 have aX:=hr1 r (Qy Y)
 obtain ⟨g,aZ,aM,bC,aK⟩:=A.out.row.form C7
 simp only [Qr] at aM
 obtain ⟨rfl,-,rfl⟩:=aM
 obtain ⟨c,hc⟩:∃ c,css[i]?=some c:=⟨_,Qx (by rw [A.out.cs.len];exact aV)⟩
 obtain ⟨rv,rfl,bG,U,G⟩:=A.out.cs.R i c r hc Y
 have l1:=A.out.row.cellAt (i*2+1) (by show _<l.length*2;omega)
 rw [show css.flatten[i*2+1]?=some rv from Vv (k:=2) A.out.cs.all hc (j:=1) rfl] at l1
 have f1:=A.out.row.frozenAt (i*2+1)
 obtain ⟨q,qc,rfl,_⟩:=U.len
 have bD:(0:Int)<=(i:Int):=C7
 have bE:(i:Int)<(l.length:Int):=C7
 have bF:decide (0<=(i:Int))=true:=Ca
 obtain ⟨x0,x1,x2,x3,x4⟩:=row5 aS.out
 obtain ⟨aQ,aA,HX⟩:=Qjq (U.mono (S':=fun b=>S b/\b<w) (fun b _ h=>h.1)) G Y
 have aE:=Qq (fun W (hb:Below V V W)=>put_any (fun b=>S b/\b<w) (.slice q r.rows.length qc) r.rows v (Cn v p3 k3 p4 k4) W ((aQ.out).below hb) aA.out (HV.out.move (.of_below (J.out.thn hb)) Qje) aX)
 clear hr hi hR I Y hc U G
 go_upto_region 4 with (go_at_call 31;refine HF.out.mono ?_;rintro e w' ⟨rfl,rfl⟩)
 go_region_with (go_at_call 86;refine (aE.out _ (Qz _ _).drew).mono ?_;rintro e w5 ⟨p5,c5,rfl,aI,aO,aH⟩;have D:=((Qz _ V).drew).thn aH;obtain ⟨aR,aP,Z⟩:=Qjq aO aI D;have f5:=Qjf D aK f1;have l5:=kD D aK l1;clear aO aI aH D)
 all_goals
  go_wp2_with fail
  go_ret
  obtain ⟨aF,aT⟩:=Mu (zs:=Jd r.rows v) rfl ((A.out.weak (S':=fun b=>S b\/w<=b) (B':=w.heap.size) C7 (fun b _ h=>.inl h.1)).below Z.out) HX.out (rv':=.slice p5 (Jd r.rows v).length c5) (aR.out.mono (S':=But (fun b=>S b\/w<=b) (.slice (some ⟨g,0,none⟩) l.length cap)) (fun b _ h=>by
   rcases h with h | h
   ·exact ⟨.inl h.1,fun e=>by have e':b=g:=Qb e;have:=h.2;omega⟩
   have h':V.heap.size<=b:=by simpa using h
   exact ⟨.inr C7,fun e=>by have e':b=g:=Qb e;omega⟩)) ⟨_,_,rfl,aP.out⟩
  unfold Tn
  rw [aD.out,M.out]
  exact ⟨_,_,aF,rfl,aT,(J.out.thn Z.out).setCell (p:=⟨g,i*2+1,none⟩) (by show w<=g;omega) _⟩
theorem eqL_drop {A B:Type} (p:A->B->Bool) {a:List A} {b:List B} {k:Nat} {x:A} {y:B} (hx:a[k]?=some x) (hy:b[k]?=some y):eqL p (a.drop k) (b.drop k)=(p x y&&eqL p (a.drop (k+1)) (b.drop (k+1))):=by
 obtain ⟨hk,rfl⟩:=Qj hx
 obtain ⟨D,rfl⟩:=Qj hy
 rw [Qp hk,Qp D];rfl
theorem G7 (S S':Nat->Prop) (av bv:Value) (a b:List Val) (w:World) (ha:Sl Zd S w av a) (hb:Sl Zd S' w bv b):
  Calls prog 21 #[av,bv] w fun e w'=>e=.returned (.bool (eqL eqv a b))/\Gr w w':=by
 obtain ⟨pa,ca,rfl,aC⟩:=ha.len
 obtain ⟨pb,cb,rfl,aD⟩:=hb.len
 have HA:=Qq ha;have HB:=Qq hb
 have mixed:prog.follows .mixedOrders=true:=Cd
 obtain ⟨r,hr⟩:=eX (eqL eqv a b)
 rw [hr]
 have HR:=Qq hr
 clear ha hb hr
 by_cases hlen:a.length=b.length
 ·obtain ⟨n,hn⟩:=eX (a.length)
  have hm:b.length=n:=C7
  have HN:=Qq hn;have HM:=Qq hm
  rw [hn] at HA aC |-
  rw [hm] at HB aD |-
  have J:((n:Int) != (n:Int))=false:=Ca
  clear hn hm hlen
  go_enter func21,ntmps21
  go_wp2_with fail
  go_loopw [5] (fun i wr=>∃ k:Nat,k<=n/\i=.int .i64 k/\Aside (eqL eqv (a.drop k) (b.drop k)=r)/\Aside (Gr w wr)) (fun i _=>n - (intOf i).toNat)
  case atStart=>exact ⟨0,Q8 _,rfl,HR.out,Gr.refl _⟩
  obtain ⟨k,hk,rfl,A,hG⟩:=hrel
  have V:=Qq (show Gr w wr from hG);have HE:=Qq (show eqL eqv (a.drop k) (b.drop k)=r from A)
  clear hG A
  by_cases hlt:k<n
  ·have aL:(0:Int)<=(k:Int):=C7
   have aM:(k:Int)<(n:Int):=C7
   obtain ⟨x,hx⟩:∃ x,a[k]?=some x:=⟨_,Qx (by rw [HN.out];exact hlt)⟩
   obtain ⟨y,hy⟩:∃ y,b[k]?=some y:=⟨_,Qx (by rw [HM.out];exact hlt)⟩
   obtain ⟨ga,oa,p3,k3,p4,k4,rfl,D,aA,d0,d1,d2,d3,d4⟩:=(HA.out.below V.out.bl).val hx
   obtain ⟨gb,ob,q3,l3,q4,l4,rfl,G,aB,e0,e1,e2,e3,e4⟩:=(HB.out.below V.out.bl).val hy
   have O:=J1 aA aB
   have D0:=Zs D d0;have D1:=Zs D d1;have D2:=Zs D d2;have D3:=Zs D d3;have D4:=Zs D d4
   have E0:=Zs G e0;have E1:=Zs G e1;have E2:=Zs G e2;have E3:=Zs G e3;have E4:=Zs G e4
   have N:=Md x y
   have T:=eqL_drop eqv hx hy
   rw [HE.out] at T
   generalize Yv x y=c at O N
   have U:=Qq N;have Y:=Qq T
   clear hx hy aA aB d0 d1 d2 d3 d4 e0 e1 e2 e3 e4 N T
   by_cases J:(c==0)=true
   ·have aG:(c != 0)=false:=by simpa using J
    have M:eqL eqv (a.drop (k+1)) (b.drop (k+1))=r:=by rw [Y.out,<- U.out,J,Bool.true_and]
    have Z:=Qq M
    clear M J
    go_wp2_with fail
    go_quiet_grown (first | (go_at_call 32;refine Calls.grown_of (O _ _)))
    go_wp2_with fail
    go_roundw
    case measure=>simp [intOf];omega
    case rel=>exact ⟨k+1,C7,by go_num,Z.out,V.out.thn (Yb _ _ _)⟩
   have aG:(c != 0)=true:=by simpa using J
   have I:r=false:=by rw [Y.out,<- U.out,Qt _ |>.mp J,Bool.false_and]
   subst I
   clear J
   go_wp2_with fail
   go_quiet_grown (first | (go_at_call 32;refine Calls.grown_of (O _ _)))
   go_wp2_with fail
   go_ret
   exact ⟨rfl,V.out.thn (Yb _ _ _)⟩
  have aK:¬ (k:Int)<(n:Int):=C7
  have:k=n:=C7
  subst this
  have I:r=true:=by
   rw [<- HE.out,Qu (by rw [HN.out];exact Q9 _),Qu (by rw [HM.out];exact Q9 _)];rfl
  subst I
  go_wp2_with fail
  go_ret
  exact ⟨rfl,V.out⟩
 have I:r=false:=by rw [<- HR.out];exact Ke eqv a b hlen
 subst I
 have J:((a.length:Int) != (b.length:Int))=true:=by rw [bne_iff_ne];omega
 clear hlen
 go_enter func21,ntmps21
 go_wp2_with fail
 go_ret
 exact ⟨rfl,Gr.refl _⟩
theorem O2 {s:Sc} {k:Nat} {x:Tbl} (hx:s.tables[k]?=some x):(Xu s).take (k+1)=(Xu s).take k++[⟨x.name,[]⟩]:=by
 unfold Xu
 rw [<- List.map_take,<- List.map_take]
 obtain ⟨hk,rfl⟩:=Qj hx
 rw [Zz hk,List.map_append];rfl
theorem R9 (S:Nat->Prop) (s:Sc) (cs:List Value) (w:World) (hs:Xt S w cs s) (hl0:s.tables.length<=1000):
  Calls prog 28 #[cs] w (Tn (fun _=>False) w (Xu s)):=by
 obtain ⟨uv,tv,rfl,hu,aH⟩:=hs
 have ht:Sl Zm (fun b=>b<w) w tv s.tables:=aH.mono (fun b hb _=>hb)
 obtain ⟨up,uc,rfl,_⟩:=hu.len
 obtain ⟨tp,tc,rfl,_⟩:=ht.len
 have HT:=Qq ht
 clear hu ht aH
 obtain ⟨i0,j1,j2,j3,j4⟩:=Y7 (P:=prog) (t:=80) (z:=.agg #[Cl,Cm]) (n:=2) (b:=40) Cd
 obtain ⟨HJ,aK,aL,aM⟩:=Qjz j1 j2 j3 j4
 clear j1 j2 j3 j4
 unfold Tn
 have I:(Xu s).length=s.tables.length:=by unfold Xu;simp
 rw [I]
 obtain ⟨n,hn⟩:=eX (s.tables.length)
 rw [hn] at HT hl0 |-
 have HN:=Qq hn;have M:=Qq I
 clear hn I
 go_enter func28,ntmps28
 go_wp2_with fail
 generalize G:w.alloc _=W1
 have aC:=eqB G (Zg _ _)
 have aA:=eqH (b:=w.heap.size) G (Qw _ _)
 have aI:=Qq aC;have N:=Qq aA
 clear G aC aA
 go_loopw [3,4] (fun o i wr=>∃ (k:Nat) (p:Option Addr) (cap:Nat),k<=n/\i=.int .i64 k/\o=.slice p k cap/\Below (w+1) W1 wr/\(∃ css,Own Ym 80 (fun _=>False) (w+1) wr (.slice p k cap) ((Xu s).take k) css)) (fun _ i _=>n - (intOf i).toNat)
 case atStart=>exact ⟨0,none,0,Q8 _,rfl,rfl,Qz _ _,[],Own.nil _ _ _ _ _⟩
 obtain ⟨k,p,cap,bF,rfl,rfl,A,css,hO⟩:=hrel
 have bH:=Z8 N.out
 have aB:=kE A C7 N.out
 have aD:Below w w wr:=aI.out.trans (A.mono C7)
 have bG:=A.size
 obtain ⟨aJ,J,HO⟩:=Qjq A aD hO
 obtain ⟨c0,c1⟩:=row2 aB
 clear aB A aD hO
 have aG:((Xu s).take k).length=k:=by rw [Qm,M.out,HN.out];omega
 have aO:=Qq aG
 clear aG
 by_cases hlt:k<n
 ·have bD:(0:Int)<=(k:Int):=C7
  have bE:(k:Int)<(n:Int):=C7
  obtain ⟨x,hx⟩:∃ x,s.tables[k]?=some x:=⟨_,Qx (by rw [HN.out];exact hlt)⟩
  obtain ⟨b,bN,cs,rfl,bC,_,_,hR,hc⟩:=(HT.out.below J.out).elem hx
  obtain ⟨bB,bA,bJ,bI,bS,bR,k9,bT,n9,bU,bO,bK,aX,bP,bL,aY,bQ,bM,aZ,a9,z9,aE,aW,_⟩:=Zt hR
  simp only [tcs] at aE
  subst aE
  have d0:=hc 0 _ rfl
  rw [show Zm.k=13 from rfl,Nat.add_zero] at d0
  have Z:Ym.R (But (fun _=>False) (.slice p k cap)) wr [x.name,Cm] ⟨x.name,[]⟩:=⟨_,rfl,aW,Sl.nil _ _ _,⟨_,_,rfl,Q9 _⟩⟩
  have aR:=Qq Z
  have D:=O2 hx
  have aS:=Qq D
  clear hx hc hR Z D
  go_wp2_with (at_builtin;refine Yg (r:=Ym) Cc rfl (.tmp 12) (.tmp 20) _ rfl 80 i0 (.agg #[Cl,Cm]) 40 underlying28 HJ.out aK.out aL.out aM.out rfl C7 (fun _=>False) (w+1) wr (.slice p k cap) ((Xu s).take k) css [x.name,Cm] ⟨x.name,[]⟩ rfl HO.out rfl aR.out (by simp [Value.oneCell']) k aO.out C7 C7 ?_;intro p7 O T w7 Y U;have aQ:=Qq Y;have aN:=Qq U;clear Y U)
  go_roundw
  case measure=>simp [intOf];omega
  case rel=>
   refine ⟨k+1,p7,O,C7,by go_num,rfl,aJ.out.trans aN.out.below,T,?_⟩
   rw [aS.out];exact aQ.out
 have aF:k=n:=C7
 subst aF
 go_wp2_with fail
 go_ret
 have D:(Xu s).take k=Xu s:=Zj (by rw [M.out,HN.out];exact Q9 _)
 have V:=HO.out
 rw [D] at V
 exact ⟨p,cap,css,rfl,V.weak C7 (fun b _ h=>h.elim),J.out⟩
def Ph (w:World) (e:Ending) (w':World):Prop:=(∃ b:Bool,e=.returned (.bool b))/\Below w w w'
theorem Hc (S0 S1:Nat->Prop) (s:Sc) (cs:List Value) (lv:Value) (l:List Rel) (w:World) (hs:Xt S0 w cs s) (hl0:Sl Y6 S1 w lv l) (hlen:l.length=s.tables.length):
  Calls prog 45 #[cs,lv] w (Ph w):=by
 obtain ⟨uv,tv,rfl,hu,ht⟩:=hs
 obtain ⟨up,uc,rfl,_⟩:=hu.len
 obtain ⟨tp,tc,rfl,bG⟩:=ht.len
 obtain ⟨lp,lc,rfl,_⟩:=hl0.len
 have HT:=Qq ht;have HL:=Qq hl0
 have mixed:prog.follows .mixedOrders=true:=Cd
 obtain ⟨n,hn⟩:=eX (s.tables.length)
 rw [hn] at HT bG |-
 have hm:l.length=n:=C7
 rw [hm] at HL |-
 have HN:=Qq hn;have HM:=Qq hm
 clear hu ht hl0 hn hm hlen
 have bJ:((n:Int) != (n:Int))=false:=Ca
 go_enter func45,ntmps45
 go_wp2_with fail
 clear bJ
 generalize O:w.alloc _=W1
 have aL:=eqB O (Zg _ _)
 have aK:=eqH (b:=w.heap.size) O (Qw _ _)
 have bC:=Qq aL;have bE:=Qq aK
 clear O aL aK
 go_loopw [5,6] (fun i _ wr=>∃ k:Nat,k<=n/\i=.int .i64 k/\Aside (Below W1 W1 wr)) (fun i _ _=>n - (intOf i).toNat)
 case atStart=>exact ⟨0,Q8 _,rfl,Qz _ _⟩
 obtain ⟨k,hk,rfl,aJ⟩:=hrel
 have N:=Qq (show Below W1 W1 wr from aJ)
 have G:=Qq (bC.out.thn N.out)
 have T:=kB N.out bE.out
 have bX:=Z8 T
 obtain ⟨c0,c1⟩:=row2 T
 clear aJ T c0
 by_cases hlt:k<n
 ·have bY:(0:Int)<=(k:Int):=C7
  have bZ:(k:Int)<(n:Int):=C7
  obtain ⟨r,hr⟩:∃ r,l[k]?=some r:=⟨_,Qx (by rw [HM.out];exact hlt)⟩
  obtain ⟨t,ht⟩:∃ t,s.tables[k]?=some t:=⟨_,Qx (by rw [HN.out];exact hlt)⟩
  obtain ⟨rb,bN,cO,rfl,bK,_,_,⟨rv,rfl,_,M⟩,Z⟩:=(HL.out.below G.out).elem hr
  obtain ⟨tb,bP,bO,rfl,cE,_,_,hR,aU⟩:=(HT.out.below G.out).elem ht
  obtain ⟨bW,bV,cG,cF,cP,cN,k9,cQ,n9,cR,cK,cH,bS,cL,cI,bT,cM,cJ,bU,a9,z9,aM,_⟩:=Zt hR
  simp only [tcs] at aM
  subst aM
  have d0:=aU 0 _ rfl
  have e0:=Z 0 _ rfl;have e1:=Z 1 _ rfl
  rw [show Zm.k=13 from rfl,Nat.add_zero] at d0
  rw [show Y6.k=2 from rfl] at e0 e1
  rw [Nat.add_zero] at e0
  unfold sv at e0
  obtain ⟨q,m,qc,aT,aO⟩:∃ q m qc,rv=.slice q m qc/\r.rows.length=m:=by obtain ⟨q,qc,h,_⟩:=M.len;exact ⟨q,_,qc,h,rfl⟩
  subst aT
  have bD:=Qq M;have aF:=Qq aO
  have bM:m<=1000000:=by obtain ⟨_,_,_,h⟩:=M.len;omega
  clear hr ht hR aU Z M aO
  by_cases J:r.table=t.name
  ·have aP:(r.table==t.name)=true:=by rw [J];simp
   have aQ:(r.table != t.name)=false:=by rw [J];simp
   clear J
   go_wp2_with fail
   go_quiet (fail)
   go_wp2_with fail
   obtain ⟨wo,aA⟩:=eX (wr.drewN nq)
   have I:Below wr wr wo:=by rw [<- aA];exact Yz _ _
   rw [aA]
   have aE:=Qq I
   have E1:=Qq (kD I bK e1)
   have aG:=Qq (bD.out.below I)
   have aS:rb<wo.heap.size:=C8 I.size
   clear aA I e0 e1 d0 c1 aP aQ
   go_loopw [6] (fun i wi=>∃ j:Nat,j<=m/\i=.int .i64 ((j:Int)+1)/\Aside (Below wo wo wi)) (fun i _=>m - (intOf i).toNat)
   case atStart=>exact ⟨0,Q8 _,Ca,Qz _ _⟩
   obtain ⟨j,hj,rfl,aI⟩:=hrel
   have D:=Qq (show Below wo wo wr from aI)
   have e1:=kD D.out aS E1.out
   clear aI
   by_cases hlt2:j+1<m
   ·obtain ⟨x,hx⟩:∃ x,r.rows[j]?=some x:=⟨_,Qx (by rw [aF.out];omega)⟩
    obtain ⟨y,hy⟩:∃ y,r.rows[j+1]?=some y:=⟨_,Qx (by rw [aF.out];omega)⟩
    obtain ⟨xb,aX,p3,k3,p4,k4,rfl,A,aV,d0,d1,d2,d3,d4⟩:=(aG.out.below D.out).val hx
    obtain ⟨yb,aY,q3,l3,q4,l4,J,bL,aW,f0,f1,f2,f3,f4⟩:=(aG.out.below D.out).val hy
    obtain ⟨rfl,rfl,-⟩:xb=yb/\aX=aY/\True:=by simpa using J
    have U:=J1 aV aW
    have aR:rb<wr.heap.size:=Qv _ _ e1
    have D0:=Zs A d0;have D1:=Zs A d1;have D2:=Zs A d2;have D3:=Zs A d3;have D4:=Zs A d4
    have F0:=Zs A f0;have F1:=Zs A f1;have F2:=Zs A f2;have F3:=Zs A f3;have F4:=Zs A f4
    have E2:=Zs aR e1
    have V:IntKind.i64.wrap (j:Int)=(j:Int):=by rw [IntKind.wrap_i64];omega
    have cA:(j:Int)<(m:Int):=C7
    have cB:(0:Int)<(j:Int)+1:=C7
    have cC:(0:Int)<=(j:Int)+1:=C7
    have bF:(j:Int)+1<(m:Int):=C7
    have cD:(0:Int)<=(j:Int):=C7
    have Y:((j:Int)+1).toNat=j+1:=C7
    generalize Yv x y=c at U
    have bQ:=Qq V;have bR:=Qq Y
    clear hx hy J aV aW bL d0 d1 d2 d3 d4 f0 f1 f2 f3 f4
    by_cases hneg:c<0
    ·have hq:decide (0<=c)=false:=by simpa using hneg
     go_wp2_with fail
     go_quiet_grown (first | (go_at_call 32;refine Calls.grown_of (U _ _)))
     clear V Y
     go_wp2_with fail
     go_roundw
     case measure=>simp [intOf];omega
     case rel=>exact ⟨j+1,C7,by go_num,D.out.thn (Yb _ _ _).bl⟩
    have hq:decide (0<=c)=true:=by simp;omega
    go_wp2_with fail
    go_quiet_grown (first | (go_at_call 32;refine Calls.grown_of (U _ _)))
    clear V Y
    go_wp2_with fail
    go_ret
    exact ⟨⟨_,rfl⟩,((G.out.thn aE.out).thn D.out).thn (Yb _ _ _).bl⟩
   have bF:¬ (j:Int)+1<(m:Int):=C7
   go_wp2_with fail
   go_roundw
   case measure=>simp [intOf];omega
   case rel=>exact ⟨k+1,C7,by go_num,(N.out.thn aE.out).thn D.out⟩
  have aP:(r.table==t.name)=false:=by rw [<- Qt,beq_iff_eq];exact J
  have aQ:(r.table != t.name)=true:=by rw [bne_iff_ne];exact J
  clear J
  go_wp2_with fail
  go_quiet (fail)
  go_wp2_with fail
  go_ret
  exact ⟨⟨_,rfl⟩,G.out.thn (Yz _ _)⟩
 have aN:k=n:=C7
 subst aN
 go_wp2_with fail
 go_ret
 exact ⟨⟨_,rfl⟩,G.out⟩
inductive Y0:Val->Prop
 | mk (k n:Int) (s:Bs) (names:List Bs) (kids:List Val) (hb:k=2->n=0\/n=1) (hk:∀ x ∈ kids,Y0 x):Y0 (.mk k n s names kids)
theorem Y0.kids {v:Val} (h:Y0 v):∀ x ∈ v.kids,Y0 x:=by cases h;assumption
theorem Y0.bool {v:Val} (h:Y0 v) (hk:v.kind=2):v.n=0\/v.n=1:=by cases h with | mk k n s names kids hb _=>exact hb hk
theorem Y0.zero:Y0 Val.zero:=.mk 0 0 [] [] [] (fun h=>by cases h) (fun x h=>by simp at h)
theorem Y4.boolOk {v:Val} (h:Y4 v):Y0 v:=by
 induction h with
 | int n=>exact .mk _ _ _ _ _ (fun h=>by cases h) (fun x h=>by simp at h)
 | text s=>exact .mk _ _ _ _ _ (fun h=>by cases h) (fun x h=>by simp at h)
 | bool n hn=>exact .mk _ _ _ _ _ (fun _=>hn) (fun x h=>by simp at h)
 | make s kids _ _ _ ih=>exact .mk _ _ _ _ _ (fun h=>by cases h) ih
 | record names kids _ _ _ _ ih=>exact .mk _ _ _ _ _ (fun h=>by cases h) ih
 | list kids _ ih=>exact .mk _ _ _ _ _ (fun h=>by cases h) ih
def Vj (S:Nat->Prop) (w:World) (e:Ending) (w':World):Prop:=∃ (k n:Int) (s:ByteArray) (p3:Option Addr) (n3 k3:Nat) (p4:Option Addr) (n4 k4:Nat) (b:Bool),
 e=.returned (.tuple #[.agg #[k,n,.string s,.slice p3 n3 k3,.slice p4 n4 k4],.bool b])/\(b=true->∃ v,Z9 (fun c=>S c\/w<=c) w' [k,n,.string s,.slice p3 n3 k3,.slice p4 n4 k4] v/\Y0 v)/\Below w w w'
theorem Vj.weak {S S':Nat->Prop} {w w1 w2:World} {e:Ending} (h:Vj S' w1 e w2) (hb:Below w w w1) (hS:∀ c,S' c->S c\/w.heap.size<=c):Vj S w e w2:=by
 obtain ⟨k,n,s,p3,n3,k3,p4,n4,k4,b,he,hv,D⟩:=h
 refine ⟨k,n,s,p3,n3,k3,p4,n4,k4,b,he,fun G=>?_,hb.thn D⟩
 obtain ⟨v,h1,h2⟩:=hv G
 refine ⟨v,h1.move (.refl _ _) (fun c _ A=>?_),h2⟩
 rcases A with A | A
 ·exact hS c A
 exact .inr (C8 hb.size)
theorem Rr (b:Bool) (w:World):Calls prog 151 #[.bool b] w fun e w'=>e=.returned (.tuple #[.agg #[.int .i64 2,.int .i64 (if b then 1 else 0),Cl,Cm,Cm],.bool true])/\Below w w w':=by
 cases b with
 | true=>
  go_enter func151,ntmps151
  go_wp2_with fail
  exact Q7 (v:=.tuple #[.agg #[.int .i64 2,.int .i64 1,Cl,Cm,Cm],.bool true]) (by simp [results,results151,go_sem]) rfl ⟨rfl,Zg _ _⟩
 | false=>
  go_enter func151,ntmps151
  go_wp2_with fail
  exact Q7 (v:=.tuple #[.agg #[.int .i64 2,Ci,Cl,Cm,Cm],.bool true]) (by simp [results,results151,go_sem]) rfl ⟨rfl,Zg _ _⟩
theorem Gu (n:Int) (w:World):Calls prog 150 #[n] w fun e w'=>e=.returned (.tuple #[.agg #[Ci,n,Cl,Cm,Cm],.bool true])/\Below w w w':=by
 go_enter func150,ntmps150
 go_wp2_with fail
 exact Q7 (v:=.tuple #[.agg #[Ci,n,Cl,Cm,Cm],.bool true]) (by simp [results,results150,go_sem]) rfl ⟨rfl,Zg _ _⟩
theorem Ro (S:Nat->Prop) (w:World) (n:Int):Z9 S w [.int .i64 2,n,Cl,Cm,Cm] (.mk 2 n [] [] []):=Y5 (s:=[]) Ca (Sl.nil _ _ _) (Sl.nil _ _ _)
theorem Ei (n:Int):Y0 (.mk 0 n [] [] []):=.mk _ _ _ _ _ (fun h=>by cases h) (fun x h=>by simp at h)
theorem Sl.ex {S:Nat->Prop} {w:World} {p:Option Addr} {n cap:Nat} {xs:List Ex} (h:Sl Xp S w (.slice p n cap) xs) {i:Nat} {x:Ex} (hx:xs[i]?=some x):
  ∃ b off ek es1 en es2 ep1 en1 ec1 ep2 en2 ec2 ep3 en3 ec3 ea ez,p=some ⟨b,off,none⟩/\b<w.heap.size/\Yx S w (Cp ek es1 en es2 ep1 en1 ec1 ep2 en2 ec2 ep3 en3 ec3 ea ez) x/\Cf w b (off+i*9) (.int .i64 ek)/\Cf w b (off+i*9+1) (.string es1)/\Cf w b (off+i*9+2) (.int .i64 en)/\Cf w b (off+i*9+3) (.string es2)/\Cf w b (off+i*9+4) (.slice ep1 en1 ec1)/\Cf w b (off+i*9+5) (.slice ep2 en2 ec2)/\Cf w b (off+i*9+6) (.slice ep3 en3 ec3)/\Cf w b (off+i*9+7) (.int .i64 ea)/\Cf w b (off+i*9+8) (.int .i64 ez):=by
 obtain ⟨b,off,cs,rfl,hb,_,_,hr,A⟩:=h.elem hx
 obtain ⟨ek,es1,en,es2,ep1,en1,ec1,ep2,en2,ec2,ep3,en3,ec3,ea,ez,D⟩:=Yx.cells (show Yx S w cs x from hr)
 subst D
 simp only [show Xp.k=9 from rfl] at A
 exact ⟨b,off,ek,es1,en,es2,ep1,en1,ec1,ep2,en2,ec2,ep3,en3,ec3,ea,ez,rfl,hb,hr,A 0 _ rfl,A 1 _ rfl,A 2 _ rfl,A 3 _ rfl,A 4 _ rfl,A 5 _ rfl,A 6 _ rfl,A 7 _ rfl,A 8 _ rfl⟩
def Gd (x:Ex):Prop:=∀ (S:Nat->Prop) (ce:List Value) (w:World),Yx S w ce x->Calls prog 108 #[ce] w (Ph w)
theorem Ot (k:Int) (nm:Bs) (n:Int) (s:Bs) (names binds:List Bs) (kids:List Ex) (a z:Int) (ih:∀ x ∈ kids,Gd x):Gd (.mk k nm n s names binds kids a z):=by
 intro S ce w h
 obtain ⟨nv,bv,kv,rfl,_,_,hn,hb,hk⟩:=Yy.1 h
 obtain ⟨p1,c1,rfl,_⟩:=hn.len
 obtain ⟨p2,c2,rfl,_⟩:=hb.len
 obtain ⟨p3,c3,rfl,aE⟩:=hk.len
 have HK:=Qq hk;have HI:=Qq ih
 clear h hn hb hk ih
 obtain ⟨m,hm⟩:=eX (kids.length)
 rw [hm] at HK aE |-
 have HM:=Qq hm
 clear hm
 unfold sv
 by_cases hbad:k=4\/k=10\/k=15\/k=16
 ·rcases hbad with rfl | rfl | rfl | rfl
  all_goals
   go_enter func108,ntmps108
   go_wp2_with fail
   go_ret
   exact ⟨⟨_,rfl⟩,Zg _ _⟩
 have q4:(k==4)=false:=by rw [<- Qt,beq_iff_eq];omega
 have aG:(k==10)=false:=by rw [<- Qt,beq_iff_eq];omega
 have aH:(k==15)=false:=by rw [<- Qt,beq_iff_eq];omega
 have aI:(k==16)=false:=by rw [<- Qt,beq_iff_eq];omega
 clear hbad
 go_enter func108,ntmps108
 go_wp2_with fail
 generalize G:w.alloc _=V
 have O:=eqB G (Zg _ _)
 have M:=eqH (b:=w.heap.size) G (Qw _ _)
 have D:=Qq O;have aA:=Qq M
 clear G O M q4 aG aH aI
 go_loopw [3,4] (fun i _ wr=>∃ k:Nat,k<=m/\i=.int .i64 k/\Aside (Below V V wr)) (fun i _ _=>m - (intOf i).toNat)
 case atStart=>exact ⟨0,Q8 _,rfl,Qz _ _⟩
 obtain ⟨j,hj,rfl,J⟩:=hrel
 have A:=Qq (show Below V V wr from J)
 have N:=kB A.out aA.out
 have c6:=rA6 N
 clear J N
 by_cases hlt:j<m
 ·have aV:(0:Int)<=(j:Int):=C7
  have aW:(j:Int)<(m:Int):=C7
  obtain ⟨x,hx⟩:∃ x,kids[j]?=some x:=⟨_,Qx (by rw [HM.out];exact hlt)⟩
  obtain ⟨b,aX,ek,aS,en,aT,aP,aM,aJ,aQ,aN,aK,aR,aO,aL,ea,ez,rfl,aU,U,d0,d1,d2,d3,d4,d5,d6,d7,d8⟩:=(HK.out.below (D.out.thn A.out)).ex hx
  have Z:=Qq U;have Y:=Qq (HI.out x (Qy hx))
  clear U hx
  go_wp2_with (go_at_call 108;refine (Y.out _ _ _ Z.out).mono ?_;rintro e w5 ⟨⟨bb,rfl⟩,T⟩;have I:=Qq T;clear T)
  ·go_ret
   exact ⟨⟨_,rfl⟩,(D.out.thn A.out).thn I.out⟩
  go_roundw
  case measure=>simp [intOf];omega
  case rel=>exact ⟨j+1,C7,by go_num,A.out.thn I.out⟩
 have aB:j=m:=C7
 subst aB
 go_wp2_with fail
 go_ret
 exact ⟨⟨_,rfl⟩,D.out.thn A.out⟩
theorem Bq:∀ x:Ex,Gd x
 | .mk k nm n s names binds kids a z=>Ot k nm n s names binds kids a z fun x _=>Bq x
termination_by x=>SizeOf.sizeOf x
decreasing_by
 have:=List.sizeOf_lt_of_mem ‹_ ∈ kids›
 simp only [Ex.mk.sizeOf_spec]
 omega
structure Ov (us:List Sm) (t:Tbl) (rows:List Val) (p2 p5:Val->Bool) (K:Val->List Int):Prop where
 srt:Srt Kq t.columns
 few:t.columns.length<=19
 some:t.columns≠[]
 typed:∀ x ∈ rows,Y4 x/\Kf us x (Fa t) (p2 x)
 keys:(∀ x ∈ rows,p2 x=true)->B6 t rows K
 many:rows.length<=100000
 key:t.key.length<=1000
 check:(∀ x ∈ rows,p2 x=true)->∀ x ∈ rows,Dq t x (p5 x)
def Aj (s:Sc) (l:List Rel) (p2 p5:Nat->Val->Bool) (K:Nat->Val->List Int) (c i:Nat):Ft:=
 let rows:=(l.getD i ⟨[],[]⟩).rows
 match c with
 | 0=>Na rows
 | 1=>Vi 9 (p2 i) rows
 | 2=>Uk rows (ust rows.length (rows.map fun r=>kb (K i r)) rows.length)
 | 3=>Xg s l rows (s.tables.getD i Tbl.zero).refs
 | _=>Vi 13 (p5 i) rows
theorem Er {code:Int} (hc:code≠0) {p:Val->Bool} {rows:List Val} (h:(Vi code p rows).code=0):∀ x ∈ rows,p x=true:=by
 unfold Vi at h
 intro x hx
 cases hf:rows.findIdx? (fun r=>!p r) with
 | none=>
  have:=List.findIdx?_eq_none_iff.1 hf x hx
  simpa using this
 | some i=>
  rw [hf] at h
  exact absurd h hc
theorem conOk_of (w:World) (S0 S1:Nat->Prop) (s:Sc) (cs:List Value) (lv:Value) (l:List Rel) (p2 p5:Nat->Val->Bool) (K:Nat->Val->List Int) (hs:Xt S0 w cs s) (hl:Sl Y6 S1 w lv l) (hkw:Xh w)
  (hkey:∀ t ∈ s.tables,t.key.length<=1000) (hok:∀ (i:Nat) (t:Tbl) (r:Rel),s.tables[i]?=some t->l[i]?=some r->Ov s.sums t r.rows (p2 i) (p5 i) (K i)):ConOk w s cs lv l (Aj s l p2 p5 K):=by
 intro c hc i t r T hr J B C W G rv hb hB hC A D
 have I:=hok i t r T hr
 have M:(l.getD i ⟨[],[]⟩).rows=r.rows:=by rw [Qs,hr];rfl
 have h2:s.tables.getD i Tbl.zero=t:=by rw [Qs,T];rfl
 have Y:=hs.below hb
 have O:(Aj s l p2 p5 K 1 i).code=0->∀ x ∈ r.rows,p2 i x=true:=fun h x hx=>by
  have h':(Vi 9 (p2 i) (l.getD i ⟨[],[]⟩).rows).code=0:=h
  rw [M] at h'
  exact Er Cc h' x hx
 obtain ⟨uv,tv,rfl,hu,Z⟩:=hs
 have N:W.cell? ⟨B,0,none⟩=some uv:=by rw [Qk _ _ _ _ _ _ hB];rfl
 have V:W.cell? ⟨B,1,none⟩=some tv:=by rw [Qk _ _ _ _ _ _ hB];rfl
 match c,hc with
 | 0,_=>
  show Calls _ _ #[G,rv] W (Dg _ W (Na (l.getD i ⟨[],[]⟩).rows))
  rw [M]
  exact con1_any _ _ _ t G rv r.rows W A D
 | 1,_=>
  show Calls _ _ #[G,rv,Ch B] W (Dg _ W (Vi 9 (p2 i) (l.getD i ⟨[],[]⟩).rows))
  rw [M]
  obtain ⟨ps,U,rfl,_⟩:=hu.len
  exact con2_any s.sums B _ _ ps _ U t G rv r.rows (p2 i) W N A D ((hu.below hb).mono (fun b hb _=>hb)) I.srt I.few I.some I.typed (hkw.below hb)
 | 2,_=>
  show Calls _ _ #[G,rv] W (Dg _ W (Uk (l.getD i ⟨[],[]⟩).rows (ust (l.getD i ⟨[],[]⟩).rows.length ((l.getD i ⟨[],[]⟩).rows.map fun r=>kb (K i r)) (l.getD i ⟨[],[]⟩).rows.length)))
  rw [M]
  exact con3_any _ _ t G rv r.rows (K i) W A D (I.keys (O (J 1 i Cc (Qj T).1))) I.many I.key
 | 3,_=>
  show Calls _ _ #[G,rv,Ch B,Ch C] W (Dg _ W (Xg s l (l.getD i ⟨[],[]⟩).rows (s.tables.getD i Tbl.zero).refs))
  rw [M,h2]
  exact con4_any B C S0 S1 _ _ s uv tv lv l t G rv r.rows W N V hC Y (hl.below hb) A D hkey
 | 4,_=>
  show Calls _ _ #[G,rv] W (Dg _ W (Vi 13 (p5 i) (l.getD i ⟨[],[]⟩).rows))
  rw [M]
  exact con5_any _ _ t G rv r.rows (p5 i) W A D (hkw.below hb) (I.check (O (J 1 i Cc (Qj T).1)))
theorem T3 (S0 S1:Nat->Prop) (s:Sc) (cs:List Value) (lv:Value) (l:List Rel) (p2 p5:Nat->Val->Bool) (K:Nat->Val->List Int) (w:World) (hs:Xt S0 w cs s) (hl:Sl Y6 S1 w lv l) (hkw:Xh w)
  (hkey:∀ t ∈ s.tables,t.key.length<=1000) (hok:∀ (i:Nat) (t:Tbl) (r:Rel),s.tables[i]?=some t->l[i]?=some r->Ov s.sums t r.rows (p2 i) (p5 i) (K i)):
  Calls prog 10 #[cs,lv] w (T1 w s l (Aj s l p2 p5 K)):=
 Wp S0 S1 s cs lv l w hs hl _ (conOk_of w S0 S1 s cs lv l p2 p5 K hs hl hkw hkey hok)
theorem Jf {code:Int} {p:Val->Bool} {rows:List Val} (h:∀ x ∈ rows,p x=true):Vi code p rows=Ft.zero:=by
 unfold Vi
 rw [List.findIdx?_eq_none_iff.2 (fun x hx=>by simp [h x hx])]
theorem Lj {rows:List Val} (h:rows.length<=256):Na rows=Ft.zero:=by unfold Na;rw [if_neg C7]
theorem N8 (n:Nat) (ks:List Bs) (hd:∀ (i j:Nat) (a b:Bs),i<j->ks[i]?=some a->ks[j]?=some b->a≠b):∀ i,i<=ks.length->ust n ks i=(n,0)
 | 0,_=>rfl
 | i+1,hi=>by
  show Ub (ks.take i) (ust n ks i) (ks.getD i [])=(n,0)
  rw [N8 n ks hd i C7]
  unfold Ub
  have hk:ks[i]?=some ks[i]:=Qx C7
  have:Xq (ks.take i) (ks.getD i [])=none:=by
   unfold Xq
   rw [List.findIdx?_eq_none_iff]
   intro x hx
   obtain ⟨j,A⟩:=Zk hx
   have D:=(Qj A).1
   rw [Qm] at D
   rw [List.getElem?_take_of_lt C7] at A
   have:=hd j i x ks[i] C7 A hk
   rw [Qs,hk]
   simpa using this
  rw [this]
theorem Ld {rows:List Val} {ks:List Bs} (hl:ks.length=rows.length) (hd:∀ (i j:Nat) (a b:Bs),i<j->ks[i]?=some a->ks[j]?=some b->a≠b):Uk rows (ust rows.length ks rows.length)=Ft.zero:=by
 rw [N8 _ _ hd _ C7]
 unfold Uk
 rw [if_pos rfl]
end Go.Proofs.YtcljcblceodciaaGreatDoor
