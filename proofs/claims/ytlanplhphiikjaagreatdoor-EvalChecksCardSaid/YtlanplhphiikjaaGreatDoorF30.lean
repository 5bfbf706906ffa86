import Derived.Test.YtlanplhphiikjaaGreatDoorF29
set_option maxRecDepth 100000
set_option maxHeartbeats 400000000
namespace Go.Proofs.YtlanplhphiikjaaGreatDoor
open Go.RowKit Go.Shelf Go.Lib Tryz
theorem Own.set5 {E:TypeId} {S:Nat->Prop} {B:Nat} {w:World} {g n cap:Nat} {xs:List Val} {css:List (List Value)} (hn:xs.length=n) (h:Own Zc E S B w (.slice (some ⟨g,0,none⟩) n cap) xs css) {i:Nat} (hi:i<n) {a b c d e:Value} {x:Val} (hx:Z5 (But S (.slice (some ⟨g,0,none⟩) n cap)) w [a,b,c,d,e] x):
  Own Zc E S B (((((w.setCell ⟨g,i*5,none⟩ a).setCell ⟨g,i*5+1,none⟩ b).setCell ⟨g,i*5+2,none⟩ c).setCell ⟨g,i*5+3,none⟩ d).setCell ⟨g,i*5+4,none⟩ e) (.slice (some ⟨g,0,none⟩) n cap) (xs.set i x) (css.set i [a,b,c,d,e]):=by
 subst hn
 have L:=h.cs.len
 have hA:∀ D,D≠g->(((((w.setCell ⟨g,i*5,none⟩ a).setCell ⟨g,i*5+1,none⟩ b).setCell ⟨g,i*5+2,none⟩ c).setCell ⟨g,i*5+3,none⟩ d).setCell ⟨g,i*5+4,none⟩ e).heap[D]?=w.heap[D]?:=fun D hb=>Y1 hb
 refine ⟨by rw [List.length_set];exact store5 h.row L h.cs.all i hi a b c d e,⟨by rw [List.length_set,List.length_set];exact L,fun j cs y G I=>?_⟩⟩
 by_cases hj:j=i
 ·subst hj
  rw [List.getElem?_set_self (by rw [L];exact hi)] at G
  rw [List.getElem?_set_self hi] at I
  cases G;cases I
  exact hx.move (fun D J _=>hA D (fun e=>J.2 (by rw [e];rfl))) P8
 rw [List.getElem?_set_ne (Ne.symm hj)] at G I
 exact Z5.move (h.cs.R j cs y G I) (fun D J _=>hA D (fun e=>J.2 (by rw [e];rfl))) P8
def I64 (n:Int):Prop:=-9223372036854775808<=n/\n<=9223372036854775807
theorem Ox (l:List Int) (k:Nat) (x:Int) (hx:l[k]?=some x):(l.take (k+1)).flatMap wI=(l.take k).flatMap wI++wI x:=by
 rw [List.take_add_one,hx];simp
theorem ints_any (g:Nat) (w:World) (v:Value) (bs:Bs) (l:List Int) (n b:Nat) (hn:l.length=n) (h2:n<=2) (hA:WAt g w v bs) (hr:∀ x ∈ l,I64 x) (hl:bs.length<=60000)
  (hb:∀ j x,l[j]?=some x->w.cell? ⟨b,j,none⟩=some (.int .i64 x)) (hlt:b<w) (hbg:b≠g) (hbv:v.ownBlock≠some b):
  Calls prog 91 #[Om g,Ol b 0 n n] w (Kf g w v (bs++l.flatMap wI)):=by
 obtain ⟨HA,HB,HV,HR,HN,Y⟩:=P0 hA hb hbv hr hn hlt
 clear hA hb hbv hr hn hlt
 go_enter func91,ntmps91
 go_wp2_with fail
 go_loopw [8] (fun i wr=>∃ (k:Nat) (cs:Bs) (u:Value),k<=n/\i=.int .i64 k/\Aside (cs=bs++(l.take k).flatMap wI)/\cs.length<=bs.length+10*k/\WAt g wr u cs/\Yg g w v wr u) (fun i _=>n - (intOf i).toNat)
 case atStart=>exact ⟨0,bs,v,Q3 _,rfl,by rw [List.take_zero];exact (List.append_nil _).symm,Oa,HA.out,Yg.refl _ _ _⟩
 obtain ⟨k,cs,u,hk,rfl,M,aC,hA,I⟩:=hrel
 by_cases hlt:k<n
 ·obtain ⟨x,N⟩:∃ x,l[k]?=some x:=⟨_,Qx (by rw [HN.out];exact hlt)⟩
  have c0:wr.cell? ⟨b,k,none⟩=some (.int .i64 x):=(World.cell?_of_block (I.keep b Y.out hbg (fun e=>HV.out e.symm))).trans (HB.out k x N)
  have D:=HR.out x (Qy N)
  have HI:=Qq (int_full g wr u cs x hA D.1 D.2 Oa)
  have aB:=B6 D.1 D.2
  have HE:=Qq (show cs++wI x=bs++(l.take (k+1)).flatMap wI by rw [M.out,Ox l k x N,List.append_assoc])
  have Z:=Qq I
  have aD:(0:Int)<=(k:Int):=Oa
  have aE:(k:Int)<(n:Int):=Oa
  have U:=Qq (show (cs++wI x).length<=bs.length+10*(k+1) by rw [Qe];omega)
  clear M hA I N D aB
  go_wp2_with (go_at_call 33;refine HI.out.mono ?_;rintro e w' ⟨rfl,v',G,J⟩;have O:=Qq G;have aA:=Qq J;clear G J)
  go_roundw
  case measure=>simp [intOf];omega
  case rel=>exact ⟨k+1,cs++wI x,v',Oa,by go_num,HE.out,U.out,O.out,Z.out.trans aA.out⟩
 obtain rfl:n=k:=Oa
 have L:cs=bs++l.flatMap wI:=by rw [M.out,Qp (by rw [HN.out];exact Q4 _)]
 have V:=Qq L
 have T:=Qq hA;have Z:=Qq I
 clear M hA I L
 go_wp2_with fail
 go_end0
 exact ⟨rfl,u,by rw [<- V.out];exact T.out,Z.out⟩
inductive WOk:Val->Prop
 | mk (k n:Int) (s:Bs) (names:List Bs) (kids:List Val) (hk:I64 k) (hn:I64 n) (hf:k=4->kids.length<=names.length) (hz:k=0\/k=1\/k=2->kids=[]) (hs:∀ x ∈ kids,WOk x):WOk (.mk k n s names kids)
def Xe (v:Val):Prop:=∀ (S:Nat->Prop) (cs:List Value) (g:Nat) (w:World) (u:Value) (bs:Bs),Z5 S w cs v->(∀ b,S b->b<w.heap.size->b≠g/\some b≠u.ownBlock)->WAt g w u bs->bs.length+(Y0 v).length<=50000 ->
 Calls prog 45 #[Om g,cs] w (Kf g w u (bs++Y0 v))
theorem K8 (b:Bool) (names:List Bs) (kids:List Val) (j:Nat) (x:Val) (hx:kids[j]?=some x):Xg b (names.drop j) (kids.drop j)=(if b then wT ((names.drop j).headD []) else [])++(Y0 x++Xg b (names.drop (j+1)) (kids.drop (j+1))):=by
 obtain ⟨h,rfl⟩:=Qj hx
 rw [Qi h]
 show (if b then wT ((names.drop j).headD []) else [])++(Y0 kids[j]++Xg b (names.drop j).tail (kids.drop (j+1)))=_
 rw [List.tail_drop]
theorem Dr (b:Bool) (names:List Bs) (kids:List Val) (j:Nat) (hj:kids.length<=j):Xg b (names.drop j) (kids.drop j)=[]:=by
 rw [Qo hj];cases b <;> rfl
theorem WAt.own_lt {g:Nat} {w:World} {v:Value} {bs:Bs} (h:WAt g w v bs):∀ b,v.ownBlock=some b->g<b/\b<w.heap.size:=fun b hb=>by
 obtain ⟨_,ho⟩:=h.own
 have:=ho.row.lt b hb
 exact ⟨this.1,this.2⟩
theorem V8 (g:Nat) (w:World) (v:Value) (bs:Bs) (l:List Int) (n:Nat) (hn:l.length=n) (h2:n<=2) (hA:WAt g w v bs) (hr:∀ x ∈ l,I64 x) (hl:bs.length<=60000):
  Calls prog 91 #[Om g,Ol w 0 n n] (w.alloc (.cells (l.map (Value.int .i64)).toArray 3)) (Kf g w v (bs++l.flatMap wI)):=by
 have hb:=Zb w (.cells (l.map (Value.int .i64)).toArray 3)
 have hg:=Z3 hA.cell
 refine (ints_any g _ v bs l n w hn h2 (hA.below hb) hr hl (fun j x hx=>?_) (Z3 (Qw w _)) Oa (fun e=>by have:=(hA.own_lt _ e).2;omega)).mono ?_
 ·rw [Qk _ _ j _ _ _ (Qw w _)]
  simp [hx]
 rintro e w' ⟨h1,v',h2,h3⟩
 exact ⟨h1,v',h2,(Yg.of_below (v:=v) hb (Nat.le_of_lt hg)).trans h3⟩
theorem Dt (n:Int) (s:Bs) (names:List Bs) (kids:List Val) (k:Int) (h02:k=0\/k=2) (hk:I64 k) (hn:I64 n) (hf:k=4->kids.length<=names.length) (hz:k=0\/k=1\/k=2->kids=[]) (ih:∀ x ∈ kids,Xe x):Xe (.mk k n s names kids):=by
 intro S cs g w u bs aO aM V hl
 have hv:Z5 (fun b=>S b/\b<w) w cs (.mk k n s names kids):=aO.move (.refl _ _) (fun b hb h=>⟨h,hb⟩)
 obtain ⟨p3,k3,p4,k4,aN,aH,Y,_⟩:=Z5.cells hv
 simp only [vcs,Val.kind,Val.n,Val.s,Val.names,Val.kids] at aN aH Y
 subst aN
 have hg:=Z3 V.cell
 have Z:=Qq V.own_lt
 obtain ⟨aJ,aK,aX,aL,aY⟩:=Pw hk hn hf hz ih
 have aZ:=Qq aH;have aU:=Qq Y
 have bA:=Qq (fun b (h:S b/\b<w)=>aM b h.1 h.2)
 obtain ⟨m,hm⟩:=eX (kids.length)
 have bC:m<=1000000:=by obtain ⟨_,_,_,h⟩:=Y.len;omega
 rw [hm] at aU |-
 have HM:=Qq hm
 obtain ⟨T,hT⟩:=eX (bs++Y0 (.mk k n s names kids))
 have bB:T.length<=50000:=by rw [<- hT,Qe];exact hl
 rw [hT]
 have N:bs++Y0 (.mk k n s names kids)=T:=hT
 rw [show Y0 (.mk k n s names kids)=wI k++((if k=0\/k=2 then wI n else if k=1 then wT s else if k=3 then wT s++wI kids.length else wI kids.length)++Xg (k==4) names kids) from rfl,hm] at N
 have aI:=Qq V
 clear aO aM hv aH Y hk hn hf hm hT hl hz ih V
 rcases h02 with rfl | rfl
 ·obtain rfl:kids=[]:=aL.out Od
  obtain rfl:m=0:=HM.out.symm
  have J:bs++(wI 0++wI n)=T:=by rw [<- N];simp [Xg]
  have HI:=Qq (fun W v9 (hA:WAt g W v9 bs)=>V8 g W v9 bs [0,n] 2 rfl Oa hA (by intro x hx;simp at hx;rcases hx with rfl | rfl;exact ⟨Oa,Oa⟩;exact aK.out) (by have:=congrArg List.length J;rw [Qe] at this;omega))
  have aF:=Qq J
  clear N J aJ
  go_enter func45,ntmps45
  go_upto_region 1 with fail
  generalize L:World.alloc w _=W1
  have G:=eqB L (Zb _ _)
  have D:=eqH (b:=w.heap.size) L (Qw _ _)
  obtain ⟨aS,aG,aB⟩:=Px G D (aI.out.below G)
  have U:w.heap.size<W1.heap.size:=Z3 D
  have aD:=Qq (Yg.of_below (v:=u) G (Nat.le_of_lt hg))
  obtain ⟨x0,x1,x2,x3,x4⟩:=row5 D
  clear G D L
  go_wp2_with (go_at_call 91;refine (HI.out _ _ aB.out).mono ?_;rintro e w2 ⟨rfl,v2,M,I⟩;have aC:=Qq M;have aE:=Qq I;have O:=(I.keep w U Oa (fun e=>by have:=(Z.out _ e.symm).2;omega)).trans aG.out;have z4:=rA4 O;clear M I O)
  go_loop [57] (fun i=>i=.int .i64 0) (fun _=>0)
  case atStart=>exact rfl
  subst hrel
  go_wp2_with fail
  go_end0
  exact ⟨rfl,v2,(by rw [<- aF.out];have:=aC.out;simpa using this),aD.out.trans aE.out⟩
 obtain rfl:kids=[]:=aL.out Od
 obtain rfl:m=0:=HM.out.symm
 have J:bs++(wI 2++wI n)=T:=by rw [<- N];simp [Xg]
 have HI:=Qq (fun W v9 (hA:WAt g W v9 bs)=>V8 g W v9 bs [2,n] 2 rfl Oa hA (by intro x hx;simp at hx;rcases hx with rfl | rfl;exact ⟨Oa,Oa⟩;exact aK.out) (by have:=congrArg List.length J;rw [Qe] at this;omega))
 have aF:=Qq J
 clear N J aJ
 go_enter func45,ntmps45
 go_upto_region 1 with fail
 generalize L:World.alloc w _=W1
 have G:=eqB L (Zb _ _)
 have D:=eqH (b:=w.heap.size) L (Qw _ _)
 obtain ⟨aS,aG,aB⟩:=Px G D (aI.out.below G)
 have U:w.heap.size<W1.heap.size:=Z3 D
 have aD:=Qq (Yg.of_below (v:=u) G (Nat.le_of_lt hg))
 obtain ⟨x0,x1,x2,x3,x4⟩:=row5 D
 clear G D L
 go_wp2_with (go_at_call 91;refine (HI.out _ _ aB.out).mono ?_;rintro e w2 ⟨rfl,v2,M,I⟩;have aC:=Qq M;have aE:=Qq I;have O:=(I.keep w U Oa (fun e=>by have:=(Z.out _ e.symm).2;omega)).trans aG.out;have z4:=rA4 O;clear M I O)
 go_loop [57] (fun i=>i=.int .i64 0) (fun _=>0)
 case atStart=>exact rfl
 subst hrel
 go_wp2_with fail
 go_end0
 exact ⟨rfl,v2,(by rw [<- aF.out];have:=aC.out;simpa using this),aD.out.trans aE.out⟩
theorem L6 (n:Int) (s:Bs) (names:List Bs) (kids:List Val) (k:Int) (h1:k=1) (hk:I64 k) (hn:I64 n) (hf:k=4->kids.length<=names.length) (hz:k=0\/k=1\/k=2->kids=[]) (ih:∀ x ∈ kids,Xe x):Xe (.mk k n s names kids):=by
 intro S cs g w u O aM aI D hl
 have hv:Z5 (fun b=>S b/\b<w) w cs (.mk k n s names kids):=aM.move (.refl _ _) (fun b hb h=>⟨h,hb⟩)
 obtain ⟨p3,k3,p4,k4,aL,aC,M,_⟩:=Z5.cells hv
 simp only [vcs,Val.kind,Val.n,Val.s,Val.names,Val.kids] at aL aC M
 subst aL
 have hg:=Z3 D.cell
 have N:=Qq D.own_lt
 obtain ⟨aT,bC,bB,aU,bD⟩:=Pw hk hn hf hz ih
 have bE:=Qq aC;have aV:=Qq M
 have bF:=Qq (fun b (h:S b/\b<w)=>aI b h.1 h.2)
 obtain ⟨m,hm⟩:=eX (kids.length)
 have bH:m<=1000000:=by obtain ⟨_,_,_,h⟩:=M.len;omega
 rw [hm] at aV |-
 have HM:=Qq hm
 obtain ⟨T,hT⟩:=eX (O++Y0 (.mk k n s names kids))
 have bG:T.length<=50000:=by rw [<- hT,Qe];exact hl
 rw [hT]
 have Y:O++Y0 (.mk k n s names kids)=T:=hT
 rw [show Y0 (.mk k n s names kids)=wI k++((if k=0\/k=2 then wI n else if k=1 then wT s else if k=3 then wT s++wI kids.length else wI kids.length)++Xg (k==4) names kids) from rfl,hm] at Y
 have aP:=Qq D
 clear aM aI hv aC M hk hn hf hm hT hl hz ih D
 subst h1
 obtain rfl:kids=[]:=aU.out Od
 obtain rfl:m=0:=HM.out.symm
 have Z:O++wI 1++wT s=T:=by rw [<- Y];simp [Xg]
 have aB:O.length+(wI 1).length+(wT s).length<=50000:=by have:=congrArg List.length Z;simp only [Qe] at this;omega
 have U:(O++[(1:Int)].flatMap wI).length+s.length<=90000:=by unfold wT at aB;simp only [Qe,List.flatMap_cons,List.flatMap_nil,List.append_nil] at aB |-;omega
 have HI:=Qq (fun W v9 (hA:WAt g W v9 O)=>V8 g W v9 O [1] 1 rfl Oa hA (by intro x hx;obtain rfl:=Z0.1 hx;exact ⟨Oa,Oa⟩) Oa)
 have HX:=Qq (fun W v9 (hA:WAt g W v9 (O++[(1:Int)].flatMap wI))=>F7 g W v9 _ s hA U)
 have aZ:=Qq Z
 clear Y Z aB U aT
 go_enter func45,ntmps45
 go_upto_region 1 with fail
 generalize aA:World.alloc w _=W1
 have L:=eqB aA (Zb _ _)
 have G:=eqH (b:=w.heap.size) aA (Qw _ _)
 obtain ⟨bA,aF,aQ⟩:=Px L G (aP.out.below L)
 have V:w.heap.size<W1.heap.size:=Z3 G
 have aW:=Qq (Yg.of_below (v:=u) L (Nat.le_of_lt hg))
 obtain ⟨x0,x1,x2,x3,x4⟩:=row5 G
 clear L G aA
 go_wp2_with (first | (go_at_call 91;refine (HI.out _ _ aQ.out).mono ?_;rintro e w2 ⟨rfl,v2,aG,aJ⟩;have aR:=Qq aG;have aD:=aJ;have aX:=Qq aD;have I:=(aD.keep w V Oa (fun e=>by have:=(N.out _ e.symm).2;omega)).trans aF.out;have bI:=rA0 I;have z22:=rA2 I;have bJ:=rA4 I;clear aG aJ aD I) | (go_at_call 34;refine (HX.out _ _ aR.out).mono ?_;rintro e w3 ⟨rfl,v3,aH,aK⟩;have aS:=Qq aH;have aE:=aX.out.trans aK;have aY:=Qq aE;have J:=(aE.keep w V Oa (fun e=>by have:=(N.out _ e.symm).2;omega)).trans aF.out;have bK:=rA0 J;have bL:=rA2 J;have bM:=rA4 J;clear aH aK aE J))
 go_loop [57] (fun i=>i=.int .i64 0) (fun _=>0)
 case atStart=>exact rfl
 subst hrel
 go_wp2_with fail
 go_end0
 exact ⟨rfl,v3,(by rw [<- aZ.out];have:=aS.out;simpa using this),aW.out.trans aY.out⟩
theorem M4 (n:Int) (s:Bs) (names:List Bs) (kids:List Val) (k:Int) (h3:k=3) (hk:I64 k) (hn:I64 n) (hf:k=4->kids.length<=names.length) (hz:k=0\/k=1\/k=2->kids=[]) (ih:∀ x ∈ kids,Xe x):Xe (.mk k n s names kids):=by
 intro S cs g w u J bJ bE Z hl
 have hv:Z5 (fun b=>S b/\b<w) w cs (.mk k n s names kids):=bJ.move (.refl _ _) (fun b hb h=>⟨h,hb⟩)
 obtain ⟨p3,k3,p4,k4,N,aS,aG,_⟩:=Z5.cells hv
 simp only [vcs,Val.kind,Val.n,Val.s,Val.names,Val.kids] at N aS aG
 subst N
 have hg:=Z3 Z.cell
 have D:=Qq Z.own_lt
 obtain ⟨bZ,cQ,cP,cR,cB⟩:=Pw hk hn hf hz ih
 have cS:=Qq aS;have aX:=Qq aG
 have I:=Qq (fun b (h:S b/\b<w)=>bE b h.1 h.2)
 obtain ⟨m,hm⟩:=eX (kids.length)
 have dA:m<=1000000:=by obtain ⟨_,_,_,h⟩:=aG.len;omega
 rw [hm] at aX |-
 have HM:=Qq hm
 obtain ⟨T,hT⟩:=eX (J++Y0 (.mk k n s names kids))
 have cU:T.length<=50000:=by rw [<- hT,Qe];exact hl
 rw [hT]
 have aO:J++Y0 (.mk k n s names kids)=T:=hT
 rw [show Y0 (.mk k n s names kids)=wI k++((if k=0\/k=2 then wI n else if k=1 then wT s else if k=3 then wT s++wI kids.length else wI kids.length)++Xg (k==4) names kids) from rfl,hm] at aO
 have bP:=Qq Z
 clear bJ bE hv aS aG hk hn hf hm hT hl hz ih Z
 subst h3
 have aP:J++wI 3++wT s++wI m++Xg false names kids=T:=by rw [<- aO];simp
 have aH:J.length+(wI 3).length+(wT s).length+(wI m).length<=50000:=by have:=congrArg List.length aP;simp only [Qe] at this;omega
 have aK:(J++[(3:Int)].flatMap wI).length+s.length<=90000:=by unfold wT at aH;simp only [Qe,List.flatMap_cons,List.flatMap_nil,List.append_nil] at aH |-;omega
 have aL:(J++[(3:Int)].flatMap wI++wT s).length<=60000:=by simp only [Qe,List.flatMap_cons,List.flatMap_nil,List.append_nil] at aH |-;omega
 have HI:=Qq (fun W v9 (Y:WAt g W v9 J)=>V8 g W v9 J [3] 1 rfl Oa Y (by intro x hx;obtain rfl:=Z0.1 hx;exact ⟨Oa,Oa⟩) Oa)
 have HX:=Qq (fun W v9 (Y:WAt g W v9 (J++[(3:Int)].flatMap wI))=>F7 g W v9 _ s Y aK)
 have cA:=Qq (fun W v9 (Y:WAt g W v9 (J++[(3:Int)].flatMap wI++wT s))=>V8 g W v9 _ [(m:Int)] 1 rfl Oa Y (by intro x hx;obtain rfl:=Z0.1 hx;exact ⟨Oa,Oa⟩) aL)
 have cL:=Qq aP
 clear aO aP aH aK aL bZ
 go_enter func45,ntmps45
 go_upto_region 1 with fail
 generalize aQ:World.alloc w _=W1
 have aF:=eqB aQ (Zb _ _)
 have aB:=eqH (b:=w.heap.size) aQ (Qw _ _)
 obtain ⟨bW,V,bQ⟩:=Px aF aB (bP.out.below aF)
 have G:w.heap.size<W1.heap.size:=Z3 aB
 have cF:=Qq (Yg.of_below (v:=u) aF (Nat.le_of_lt hg))
 obtain ⟨x0,x1,x2,x3,x4⟩:=row5 aB
 clear aF aB aQ
 go_upto_region 13 with (first | (go_at_call 91;refine (cA.out _ _ bS.out).mono ?_;rintro e w4 ⟨rfl,v4,bB,bG⟩;have bT:=Qq bB;have aV:=cH.out.trans bG;have cI:=Qq aV;have aE:=(aV.keep w G Oa (fun e=>by have:=(D.out _ e.symm).2;omega)).trans V.out;have dG:=rA0 aE;have dH:=rA2 aE;have dI:=rA4 aE;clear bB bG aV aE) | (go_at_call 34;refine (HX.out _ _ bR.out).mono ?_;rintro e w3 ⟨rfl,v3,bA,bF⟩;have bS:=Qq bA;have aU:=cG.out.trans bF;have cH:=Qq aU;have aD:=(aU.keep w G Oa (fun e=>by have:=(D.out _ e.symm).2;omega)).trans V.out;have dD:=rA0 aD;have dE:=rA2 aD;have dF:=rA4 aD;clear bA bF aU aD) | (go_at_call 91;refine (HI.out _ _ bQ.out).mono ?_;rintro e w2 ⟨rfl,v2,aA,L⟩;have bR:=Qq aA;have aT:=L;have cG:=Qq aT;have aC:=(aT.keep w G Oa (fun e=>by have:=(D.out _ e.symm).2;omega)).trans V.out;have dB:=rA0 aC;have z22:=rA2 aC;have dC:=rA4 aC;clear aA L aT aC))
 have cK:=Qq (show J++[(3:Int)].flatMap wI++wT s++[(m:Int)].flatMap wI++Xg ((3:Int)==4) (names.drop 0) (kids.drop 0)=T by rw [<- cL.out];simp)
 have bV:=Qq bT.out;have cJ:=Qq cI.out
 go_wp2_with fail
 go_loopw [57] (fun i wr=>∃ (j:Nat) (cs:Bs) (u':Value),j<=m/\i=.int .i64 j/\Aside (cs++Xg ((3:Int)==4) (names.drop j) (kids.drop j)=T)/\WAt g wr u' cs/\Yg g W1 u wr u') (fun i _=>m - (intOf i).toNat)
 case atStart=>exact ⟨0,_,_,Q3 _,rfl,cK.out,bV.out,cJ.out⟩
 obtain ⟨j,cs,u',hj,rfl,hE,Y,hS⟩:=hrel
 have M:=(hS.keep w G Oa (fun e=>by have:=(D.out _ e.symm).2;omega)).trans V.out
 have bC:Ys (fun b=>S b/\b<w) w wr:=fun b hb O=>(hS.keep b Oa (I.out b hb).1 (I.out b hb).2).trans (bW.out.block b O)
 have bH:=Z3 Y.cell
 have cZ:=Z3 M
 obtain ⟨HE,HA,HS,cT,bU⟩:=Pw hE.out Y hS M bC
 have cV:cs.length<=50000:=by have:=congrArg List.length hE.out;rw [Qe] at this;omega
 have y0:=rA0 M;have y3:=rA3 M
 clear hE Y hS M bC
 by_cases O:j<m
 ·have cW:(0:Int)<=(j:Int):=Oa
  have cX:(j:Int)<(m:Int):=Oa
  obtain ⟨x,hx⟩:∃ x,kids[j]?=some x:=⟨_,Qx (by rw [HM.out];exact O)⟩
  have cC:=Qq (cB.out x (Qy hx))
  have aR:=K8 ((3:Int)==4) names kids j x hx
  obtain ⟨kb,cO,q3,l3,q4,l4,rfl,cY,bK,d0,d1,d2,d3,d4⟩:=(aX.out.frame bU.out).val hx
  have cM:=Qq bK;have HX:=Qq hx
  generalize U:Xg ((3:Int)==4) (names.drop (j+1)) (kids.drop (j+1))=rest at aR
  have aM:=Qq U
  clear bK hx U
  have aN:cs++Y0 x++rest=T:=by rw [<- HE.out,aR,List.append_assoc];simp
  have bI:cs.length+(Y0 x).length<=50000:=by have:=congrArg List.length aN;rw [Qe,Qe] at this;omega
  have bY:=Qq aN;have cD:=Qq bI
  clear aN bI aR
  have aJ:=Qq (fun W u2 cs2 (aA:WAt g W u2 cs2) (L:Yg g wr u' W u2) (h2:cs2.length+(Y0 x).length<=50000)=>cC.out (fun b=>S b/\b<w) (vcs x q3 l3 q4 l4) g W u2 cs2 (cM.out.move (fun b hb O=>L.keep b O (I.out b hb).1 (fun e=>by
    rcases HS.out.at' with h | ⟨q,h,hq⟩
    ·exact (I.out b hb).2 (e.trans h)
    ·rw [h] at e;have:=Q6 e;have:=hb.2;omega)) P8) (fun b hb _=>⟨(I.out b hb).1,fun e=>by
    rcases L.at' with h | ⟨q,h,hq⟩
    ·rcases HS.out.at' with h' | ⟨q',h',hq'⟩
     ·exact (I.out b hb).2 (e.trans (h.trans h'))
     rw [h,h'] at e;have:=Q6 e;have:=hb.2;omega
    rw [h] at e;have:=Q6 e;have:=hb.2;have:=HS.out.size;omega⟩) aA h2)
  unfold vcs at aJ
  go_wp2_with (go_at_call 45;refine (aJ.out _ u' cs (HA.out.below (Zb _ _)) (Yg.of_below (Zb _ _) (Nat.le_of_lt bH)) cD.out).mono ?_;rintro e w' ⟨rfl,v',aZ,bD⟩;have bO:=Qq aZ;have cE:=Qq ((Yg.of_below (v:=u') (Zb wr _) (Nat.le_of_lt bH)).trans bD);clear aZ bD)
  go_roundw
  case measure=>simp [intOf];omega
  case rel=>exact ⟨j+1,cs++Y0 x,v',Oa,by go_num,(by rw [aM.out];exact bY.out),bO.out,HS.out.trans cE.out⟩
 obtain rfl:m=j:=Oa
 have N:cs=T:=by
  have h:=HE.out
  rw [Dr _ _ _ _ (Nat.le_of_eq HM.out),List.append_nil] at h
  exact h
 have bX:=Qq N
 clear N
 go_wp2_with fail
 go_end0
 exact ⟨rfl,u',by rw [<- bX.out];exact HA.out,cF.out.trans HS.out⟩
theorem N7 (n:Int) (s:Bs) (names:List Bs) (kids:List Val) (k:Int) (h4:k=4) (hk:I64 k) (hn:I64 n) (hf:k=4->kids.length<=names.length) (hz:k=0\/k=1\/k=2->kids=[]) (ih:∀ x ∈ kids,Xe x):Xe (.mk k n s names kids):=by
 intro S cs g w u bs bH bC O hl
 have hv:Z5 (fun b=>S b/\b<w) w cs (.mk k n s names kids):=bH.move (.refl _ _) (fun b hb h=>⟨h,hb⟩)
 obtain ⟨p3,k3,p4,k4,J,aN,aA,_⟩:=Z5.cells hv
 simp only [vcs,Val.kind,Val.n,Val.s,Val.names,Val.kids] at J aN aA
 subst J
 have hg:=Z3 O.cell
 have aD:=Qq O.own_lt
 obtain ⟨bX,cQ,bW,cR,bY⟩:=Pw hk hn hf hz ih
 have cC:=Qq aN;have aR:=Qq aA
 have D:=Qq (fun b (h:S b/\b<w)=>bC b h.1 h.2)
 obtain ⟨m,hm⟩:=eX (kids.length)
 have dA:m<=1000000:=by obtain ⟨_,_,_,h⟩:=aA.len;omega
 rw [hm] at aR |-
 have HM:=Qq hm
 obtain ⟨T,hT⟩:=eX (bs++Y0 (.mk k n s names kids))
 have cT:T.length<=50000:=by rw [<- hT,Qe];exact hl
 rw [hT]
 have aJ:bs++Y0 (.mk k n s names kids)=T:=hT
 rw [show Y0 (.mk k n s names kids)=wI k++((if k=0\/k=2 then wI n else if k=1 then wT s else if k=3 then wT s++wI kids.length else wI kids.length)++Xg (k==4) names kids) from rfl,hm] at aJ
 have bO:=Qq O
 clear bH bC hv aN aA hk hn hf hm hT hl hz ih O
 subst h4
 have aK:bs++(wI 4++wI m)++Xg true names kids=T:=by rw [<- aJ];simp
 have cM:bs.length+(wI 4).length+(wI m).length<=50000:=by have:=congrArg List.length aK;simp only [Qe] at this;omega
 have HI:=Qq (fun W v9 (hA:WAt g W v9 bs)=>V8 g W v9 bs [4,(m:Int)] 2 rfl Oa hA (by intro x hx;simp at hx;rcases hx with rfl | rfl;exact bX.out;exact ⟨Oa,Oa⟩) Oa)
 have cI:=Qq aK
 clear aJ aK cM
 go_enter func45,ntmps45
 go_upto_region 1 with fail
 generalize aL:World.alloc w _=W1
 have Z:=eqB aL (Zb _ _)
 have V:=eqH (b:=w.heap.size) aL (Qw _ _)
 obtain ⟨bT,aV,bP⟩:=Px Z V (bO.out.below Z)
 have aE:w.heap.size<W1.heap.size:=Z3 V
 have cE:=Qq (Yg.of_below (v:=u) Z (Nat.le_of_lt hg))
 obtain ⟨x0,x1,x2,x3,x4⟩:=row5 V
 clear Z V aL
 go_upto_region 13 with (go_at_call 91;refine (HI.out _ _ bP.out).mono ?_;rintro e w4 ⟨rfl,v4,aY,bD⟩;have bR:=Qq aY;have aO:=bD;have cF:=Qq aO;have Y:=(aO.keep w aE Oa (fun e=>by have:=(aD.out _ e.symm).2;omega)).trans aV.out;have dC:=rA0 Y;have dD:=rA2 Y;have dE:=rA4 Y;clear aY bD aO Y)
 have cH:=Qq (show bs++[4,(m:Int)].flatMap wI++Xg ((4:Int)==4) (names.drop 0) (kids.drop 0)=T by rw [<- cI.out];simp)
 have bS:=Qq bR.out;have cG:=Qq cF.out
 go_wp2_with fail
 go_loopw [57] (fun i wr=>∃ (j:Nat) (cs:Bs) (u':Value),j<=m/\i=.int .i64 j/\Aside (cs++Xg ((4:Int)==4) (names.drop j) (kids.drop j)=T)/\WAt g wr u' cs/\Yg g W1 u wr u') (fun i _=>m - (intOf i).toNat)
 case atStart=>exact ⟨0,_,_,Q3 _,rfl,cH.out,bS.out,cG.out⟩
 obtain ⟨j,cs,u',hj,rfl,hE,hA,hS⟩:=hrel
 have I:=(hS.keep w aE Oa (fun e=>by have:=(aD.out _ e.symm).2;omega)).trans aV.out
 have aZ:Ys (fun b=>S b/\b<w) w wr:=fun b hb L=>(hS.keep b Oa (D.out b hb).1 (D.out b hb).2).trans (bT.out.block b L)
 have cL:=Z3 hA.cell
 have cZ:=Z3 I
 obtain ⟨HE,HA,HS,cS,aQ⟩:=Pw hE.out hA hS I aZ
 have cU:cs.length<=50000:=by have:=congrArg List.length hE.out;rw [Qe] at this;omega
 have y0:=rA0 I;have y3:=rA3 I
 clear hE hA hS I aZ
 by_cases L:j<m
 ·have cV:(0:Int)<=(j:Int):=Oa
  have cW:(j:Int)<(m:Int):=Oa
  obtain ⟨x,hx⟩:∃ x,kids[j]?=some x:=⟨_,Qx (by rw [HM.out];exact L)⟩
  have bZ:=Qq (bY.out x (Qy hx))
  have aM:=K8 ((4:Int)==4) names kids j x hx
  obtain ⟨kb,cO,q3,l3,q4,l4,rfl,cY,bI,d0,d1,d2,d3,d4⟩:=(aR.out.frame aQ.out).val hx
  have cJ:=Qq bI;have HX:=Qq hx
  generalize N:Xg ((4:Int)==4) (names.drop (j+1)) (kids.drop (j+1))=rest at aM
  have aG:=Qq N
  clear bI hx N
  obtain ⟨nm,M⟩:∃ nm,names[j]?=some nm:=⟨_,Qx (by have:=bW.out Od;have:=HM.out;omega)⟩
  have bF:j<names.length:=(Qj M).1
  have cX:(j:Int)<(names.length:Int):=Oa
  obtain ⟨nb,cP,rfl,cN,_⟩:=(cC.out.frame aQ.out).str M
  have dB:=Qv _ _ cN
  have bE:(names.drop j).headD []=nm:=by rw [Qi bF];rw [Qx bF] at M;exact Q6 M
  have aI:cs++wT nm++Y0 x++rest=T:=by rw [<- HE.out,aM,bE];simp
  have aB:cs.length+(wT nm).length+(Y0 x).length<=50000:=by have:=congrArg List.length aI;simp only [Qe] at this;omega
  have bG:cs.length+nm.length<=90000:=by unfold wT at aB;rw [Qe] at aB;omega
  have bV:=Qq aI;have cA:=Qq (show (cs++wT nm).length+(Y0 x).length<=50000 by rw [Qe];exact aB)
  have aU:=Qq (fun W (hW:Below wr wr W)=>F7 g W u' cs nm (HA.out.below hW) bG)
  clear aI aB bG bE aM M
  have aC:=Qq (fun W u2 cs2 (U:WAt g W u2 cs2) (G:Yg g wr u' W u2) (h2:cs2.length+(Y0 x).length<=50000)=>bZ.out (fun b=>S b/\b<w) (vcs x q3 l3 q4 l4) g W u2 cs2 (cJ.out.move (fun b hb L=>G.keep b L (D.out b hb).1 (fun e=>by
    rcases HS.out.at' with h | ⟨q,h,hq⟩
    ·exact (D.out b hb).2 (e.trans h)
    ·rw [h] at e;have:=Q6 e;have:=hb.2;omega)) P8) (fun b hb _=>⟨(D.out b hb).1,fun e=>by
    rcases G.at' with h | ⟨q,h,hq⟩
    ·rcases HS.out.at' with h' | ⟨q',h',hq'⟩
     ·exact (D.out b hb).2 (e.trans (h.trans h'))
     rw [h,h'] at e;have:=Q6 e;have:=hb.2;omega
    rw [h] at e;have:=Q6 e;have:=hb.2;have:=HS.out.size;omega⟩) U h2)
  unfold vcs at aC
  go_wp2_with (first | (go_at_call 34;refine (aU.out _ (Zb _ _)).mono ?_;rintro e w2 ⟨rfl,v2,U,G⟩;have bQ:=Qq U;have aT:=Qq ((Yg.of_below (v:=u') (Zb wr _) (Nat.le_of_lt cL)).trans G);have bA:=(G.keep wr (Z3 (Qw wr _)) Oa (fun e=>by have:=(HA.out.own_lt _ e.symm).2;omega)).trans (Qw wr _);obtain ⟨n0,n1,n2,n3,n4⟩:=row5 bA;clear U G bA aU) | (go_at_call 45;refine (aC.out _ v2 _ bQ.out aT.out cA.out).mono ?_;rintro e w' ⟨rfl,v',aX,bB⟩;have bN:=Qq aX;have cD:=Qq (aT.out.trans bB);clear aX bB))
  go_roundw
  case measure=>simp [intOf];omega
  case rel=>exact ⟨j+1,cs++wT nm++Y0 x,v',Oa,by go_num,(by rw [aG.out];exact bV.out),bN.out,HS.out.trans cD.out⟩
 obtain rfl:m=j:=Oa
 have J:cs=T:=by
  have h:=HE.out
  rw [Dr _ _ _ _ (Nat.le_of_eq HM.out),List.append_nil] at h
  exact h
 have bU:=Qq J
 clear J
 go_wp2_with fail
 go_end0
 exact ⟨rfl,u',by rw [<- bU.out];exact HA.out,cE.out.trans HS.out⟩
theorem Lu (n:Int) (s:Bs) (names:List Bs) (kids:List Val) (k:Int) (hk0:k≠0) (hk1:k≠1) (hk2:k≠2) (hk3:k≠3) (hk4:k≠4) (hk:I64 k) (hn:I64 n) (hf:k=4->kids.length<=names.length) (hz:k=0\/k=1\/k=2->kids=[]) (ih:∀ x ∈ kids,Xe x):Xe (.mk k n s names kids):=by
 intro S cs g w u bs aY aU M hl
 have hv:Z5 (fun b=>S b/\b<w) w cs (.mk k n s names kids):=aY.move (.refl _ _) (fun b hb h=>⟨h,hb⟩)
 obtain ⟨p3,k3,p4,k4,I,aJ,V,_⟩:=Z5.cells hv
 simp only [vcs,Val.kind,Val.n,Val.s,Val.names,Val.kids] at I aJ V
 subst I
 have hg:=Z3 M.cell
 have Z:=Qq M.own_lt
 obtain ⟨bM,cC,cB,cD,bN⟩:=Pw hk hn hf hz ih
 have cE:=Qq aJ;have aM:=Qq V
 have D:=Qq (fun b (h:S b/\b<w)=>aU b h.1 h.2)
 obtain ⟨m,hm⟩:=eX (kids.length)
 have cM:m<=1000000:=by obtain ⟨_,_,_,h⟩:=V.len;omega
 rw [hm] at aM |-
 have HM:=Qq hm
 obtain ⟨T,hT⟩:=eX (bs++Y0 (.mk k n s names kids))
 have cG:T.length<=50000:=by rw [<- hT,Qe];exact hl
 rw [hT]
 have aF:bs++Y0 (.mk k n s names kids)=T:=hT
 rw [show Y0 (.mk k n s names kids)=wI k++((if k=0\/k=2 then wI n else if k=1 then wT s else if k=3 then wT s++wI kids.length else wI kids.length)++Xg (k==4) names kids) from rfl,hm] at aF
 have bE:=Qq M
 clear aY aU hv aJ V hk hn hf hm hT hl hz ih M
 have cN:(k==(0:Int))=false:=by simpa using hk0
 have cO:(k==(1:Int))=false:=by simpa using hk1
 have cP:(k==(2:Int))=false:=by simpa using hk2
 have cQ:(k==(3:Int))=false:=by simpa using hk3
 have aG:bs++(wI k++wI m)++Xg (k==4) names kids=T:=by rw [<- aF,if_neg Oa,if_neg hk1,if_neg hk3];simp
 have bY:bs.length+(wI k).length+(wI m).length<=50000:=by have:=congrArg List.length aG;simp only [Qe] at this;omega
 have HI:=Qq (fun W v9 (hA:WAt g W v9 bs)=>V8 g W v9 bs [k,(m:Int)] 2 rfl Oa hA (by intro x hx;simp at hx;rcases hx with rfl | rfl;exact bM.out;exact ⟨Oa,Oa⟩) Oa)
 have bV:=Qq aG
 clear aF aG bY hk0 hk1 hk2 hk3
 have bZ:(k==(4:Int))=false:=by simpa using hk4
 go_enter func45,ntmps45
 go_upto_region 1 with fail
 generalize aH:World.alloc w _=W1
 have U:=eqB aH (Zb _ _)
 have N:=eqH (b:=w.heap.size) aH (Qw _ _)
 obtain ⟨bJ,aO,bF⟩:=Px U N (bE.out.below U)
 have aA:w.heap.size<W1.heap.size:=Z3 N
 have bR:=Qq (Yg.of_below (v:=u) U (Nat.le_of_lt hg))
 obtain ⟨x0,x1,x2,x3,x4⟩:=row5 N
 clear U N aH
 go_upto_region 13 with (go_at_call 91;refine (HI.out _ _ bF.out).mono ?_;rintro e w4 ⟨rfl,v4,aR,aV⟩;have bG:=Qq aR;have aK:=aV;have bS:=Qq aK;have O:=(aK.keep w aA Oa (fun e=>by have:=(Z.out _ e.symm).2;omega)).trans aO.out;have cR:=rA0 O;have cS:=rA2 O;have cT:=rA4 O;clear aR aV aK O)
 have bU:=Qq (show bs++[k,(m:Int)].flatMap wI++Xg (k==4) (names.drop 0) (kids.drop 0)=T by rw [<- bV.out];simp)
 have bI:=Qq bG.out;have bT:=Qq bS.out
 go_wp2_with fail
 go_loopw [57] (fun i wr=>∃ (j:Nat) (cs:Bs) (u':Value),j<=m/\i=.int .i64 j/\Aside (cs++Xg (k==4) (names.drop j) (kids.drop j)=T)/\WAt g wr u' cs/\Yg g W1 u wr u') (fun i _=>m - (intOf i).toNat)
 case atStart=>exact ⟨0,_,_,Q3 _,rfl,bU.out,bI.out,bT.out⟩
 obtain ⟨j,cs,u',hj,rfl,hE,hA,hS⟩:=hrel
 have G:=(hS.keep w aA Oa (fun e=>by have:=(Z.out _ e.symm).2;omega)).trans aO.out
 have aS:Ys (fun b=>S b/\b<w) w wr:=fun b hb J=>(hS.keep b Oa (D.out b hb).1 (D.out b hb).2).trans (bJ.out.block b J)
 have aW:=Z3 hA.cell
 have cL:=Z3 G
 obtain ⟨HE,HA,HS,cF,bH⟩:=Pw hE.out hA hS G aS
 have cH:cs.length<=50000:=by have:=congrArg List.length hE.out;rw [Qe] at this;omega
 have y0:=rA0 G;have y3:=rA3 G
 clear hE hA hS G aS
 by_cases J:j<m
 ·have cI:(0:Int)<=(j:Int):=Oa
  have cJ:(j:Int)<(m:Int):=Oa
  obtain ⟨x,hx⟩:∃ x,kids[j]?=some x:=⟨_,Qx (by rw [HM.out];exact J)⟩
  have bO:=Qq (bN.out x (Qy hx))
  have aI:=K8 (k==4) names kids j x hx
  obtain ⟨kb,cA,q3,l3,q4,l4,rfl,cK,aZ,d0,d1,d2,d3,d4⟩:=(aM.out.frame bH.out).val hx
  have bW:=Qq aZ;have HX:=Qq hx
  generalize L:Xg (k==4) (names.drop (j+1)) (kids.drop (j+1))=rest at aI
  have aC:=Qq L
  clear aZ hx L
  have aE:cs++Y0 x++rest=T:=by rw [<- HE.out,aI,List.append_assoc];simp [bZ]
  have aX:cs.length+(Y0 x).length<=50000:=by have:=congrArg List.length aE;rw [Qe,Qe] at this;omega
  have bL:=Qq aE;have bP:=Qq aX
  clear aE aX aI
  have Y:=Qq (fun W u2 cs2 (hA2:WAt g W u2 cs2) (hS2:Yg g wr u' W u2) (h2:cs2.length+(Y0 x).length<=50000)=>bO.out (fun b=>S b/\b<w) (vcs x q3 l3 q4 l4) g W u2 cs2 (bW.out.move (fun b hb J=>hS2.keep b J (D.out b hb).1 (fun e=>by
    rcases HS.out.at' with h | ⟨q,h,hq⟩
    ·exact (D.out b hb).2 (e.trans h)
    ·rw [h] at e;have:=Q6 e;have:=hb.2;omega)) P8) (fun b hb _=>⟨(D.out b hb).1,fun e=>by
    rcases hS2.at' with h | ⟨q,h,hq⟩
    ·rcases HS.out.at' with h' | ⟨q',h',hq'⟩
     ·exact (D.out b hb).2 (e.trans (h.trans h'))
     rw [h,h'] at e;have:=Q6 e;have:=hb.2;omega
    rw [h] at e;have:=Q6 e;have:=hb.2;have:=HS.out.size;omega⟩) hA2 h2)
  unfold vcs at Y
  go_wp2_with (go_at_call 45;refine (Y.out _ u' cs (HA.out.below (Zb _ _)) (Yg.of_below (Zb _ _) (Nat.le_of_lt aW)) bP.out).mono ?_;rintro e w' ⟨rfl,v',aQ,aT⟩;have bD:=Qq aQ;have bQ:=Qq ((Yg.of_below (v:=u') (Zb wr _) (Nat.le_of_lt aW)).trans aT);clear aQ aT)
  go_roundw
  case measure=>simp [intOf];omega
  case rel=>exact ⟨j+1,cs++Y0 x,v',Oa,by go_num,(by rw [aC.out];exact bL.out),bD.out,HS.out.trans bQ.out⟩
 obtain rfl:m=j:=Oa
 have I:cs=T:=by
  have h:=HE.out
  rw [Dr _ _ _ _ (Nat.le_of_eq HM.out),List.append_nil] at h
  exact h
 have bK:=Qq I
 clear I
 go_wp2_with fail
 go_end0
 exact ⟨rfl,u',by rw [<- bK.out];exact HA.out,bR.out.trans HS.out⟩
theorem Ok {v:Val} (h:WOk v):Xe v:=by
 induction h with
 | mk k n s names kids hk hn hf hz hs ih=>
  by_cases h0:k=0
  ·exact Dt n s names kids k (.inl h0) hk hn hf hz ih
  by_cases h1:k=1
  ·exact L6 n s names kids k h1 hk hn hf hz ih
  by_cases h2:k=2
  ·exact Dt n s names kids k (.inr h2) hk hn hf hz ih
  by_cases h3:k=3
  ·exact M4 n s names kids k h3 hk hn hf hz ih
  by_cases h4:k=4
  ·exact N7 n s names kids k h4 hk hn hf hz ih
  exact Lu n s names kids k h0 h1 h2 h3 h4 hk hn hf hz ih
theorem My (S:Nat->Prop) (v:Val) (cs:List Value) (w:World) (hw:WOk v) (h:Z5 S w cs v) (hl:(Y0 v).length<=50000):
  Calls prog 15 #[cs] w (U4 Yl 5 (fun _=>True) w (Y0 v)):=by
 have hv:Z5 (fun b=>S b/\b<w) w cs v:=h.move (.refl _ _) (fun b hb h=>⟨h,hb⟩)
 have HV:=Qq hv
 obtain ⟨p3,k3,p4,k4,T,_⟩:=Z5.cells hv
 simp only [vcs] at T
 subst T
 have HW:=Qq hw;have HL:=Qq hl
 clear h hw hv hl
 go_enter func15,ntmps15
 go_upto_region 2 with fail
 generalize D:(w.alloc _).alloc _=W1
 have G:=eqB D (Zl _ _ _)
 have N:=eqH (b:=w.heap.size) D (Q0 _ _ _)
 have hA:WAt (w+1) W1 (.slice none 0 0) []:=⟨by rw [<- D];exact Q1 _ _ _,[],Own.nil _ _ _ _ _⟩
 obtain ⟨x0,x1,x2,x3,x4⟩:=row5 N
 have aA:=Qq (Ok HW.out _ _ (w+1) W1 _ _ (HV.out.move (.of_below G) P8) (fun b hb _=>⟨by have:=hb.2;omega,fun e=>by simp [Value.ownBlock] at e⟩) hA (by simpa using HL.out))
 have V:=Qq G
 clear D G N hA
 go_wp2_with (first | (go_at_call 45;refine aA.out.mono ?_;rintro e w2 ⟨rfl,v2,J,M⟩;have U:=Qq J;have I:=Qq (V.out.trans (M.below.mono (Nat.le_succ _)));clear J M) | (go_at_call 36;refine (done_any _ _ _ _ U.out (by have:=HL.out;simpa using (by omega:(Y0 v).length<=1000000))).mono ?_;rintro e w' ⟨q,qc,qs,rfl,L,O⟩;have Z:=Qq L;have Y:=Qq O;clear L O))
 go_ret
 exact ⟨q,qc,qs,rfl,by have:=Z.out.move I.out.size (fun _ _ _=>rfl);simpa using this,I.out.thn Y.out⟩
end Go.Proofs.YtlanplhphiikjaaGreatDoor
