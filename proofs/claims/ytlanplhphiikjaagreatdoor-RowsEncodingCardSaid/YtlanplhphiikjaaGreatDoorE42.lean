import Derived.Test.YtlanplhphiikjaaGreatDoorE41
set_option maxRecDepth 100000
set_option maxHeartbeats 400000000
namespace Go.Proofs.YtlanplhphiikjaaGreatDoor
open Go.RowKit Go.Shelf Go.Lib Tryz
def P0 (w:World) (l:List Rel) (e:Ending) (w':World):Prop:=∃ p cap,e=.returned (.slice p l.length cap)/\Sl Yx (fun _=>True) w' (.slice p l.length cap) l/\Below w w w'
theorem G8 (S0 S1:Nat->Prop) (lv:Value) (l:List Rel) (tn:Bs) (x:Val) (cx:List Value) (w:World) (i:Nat) (o:Rel) (hl0:Sl Yx S0 w lv l) (hx0:Za S1 w cx x) (hf:l.findIdx? (fun r=>decide (r.table=tn))=some i) (ho:l[i]?=some o)
  (hne:∀ y ∈ o.rows,eqv y x=false) (hgr:∀ y ∈ o.rows,decide (0<Yk y x)=false) (hrl:∀ r ∈ l,r.rows.length<=10000):
  Calls prog 46 #[lv,sv tn,cx] w (P0 w (l.set i ⟨o.table,o.rows++[x]⟩)):=by
 have hx:Za (fun b=>b<w) w cx x:=hx0.move (.refl _ _) (fun b hb _=>hb)
 have aH:=Qq (fun W (hb:Below w w W)=>Aw S0 lv l W (hl0.below hb))
 have cH:Vi (fun r=>decide (r.table=tn)) l=i:=by unfold Vi;rw [hf]
 have aI:=Qq (fun v W (hs:Sl Yx (fun _=>True) W v l)=>N5 _ v l tn W hs)
 rw [cH] at aI
 have cG:i<l.length:=(Qj ho).1
 have cI:l.length<=1000000:=by obtain ⟨_,_,_,h⟩:=hl0.len;exact h
 obtain ⟨lp,lc,rfl,_⟩:=hl0.len
 obtain ⟨HX,HO,bR⟩:=Qxn hx ho hrl
 have dR:=hrl o (Qy ho)
 have aZ:o.rows.any (fun v=>eqv v x)=false:=by rw [List.any_eq_false];intro y hy;rw [hne y hy];decide
 have bA:Vi (fun v=>decide (0<Yk v x)) o.rows=-1:=Ue (fun j y hy=>hgr y (Qy hy))
 obtain ⟨x3,aT,x4,aU,cE,_⟩:=Za.cells hx
 simp only [vcs] at cE
 have HB:=Qq (fun v W (hb:Below w w W) (hs:Sl Zc (fun _=>True) W v o.rows) (hc:∀ j u,cx[j]?=some u->W.cell? ⟨w,j,none⟩=some u) (hR:w<W.heap.size)=>Co Tryz.cfVal Zc isAgg48 sizeOf48 95 #[Qxb w] (enters_of func95 Qxx rfl) (fun _=>True) v o.rows W _ hs
  (ins1_any w (fun _=>True) x cx o.rows W hc hR (hx.move (.of_below hb) (fun _ _ _=>trivial))))
 have HI:=Qq (fun v W (hb:Below w w W) (hs:Sl Zc (fun _=>True) W v o.rows) (hc:∀ j u,cx[j]?=some u->W.cell? ⟨w,j,none⟩=some u) (hR:w<W.heap.size)=>Rz Tryz.ixVal Zc isAgg48 sizeOf48 98 #[Qxb w] (enters_of func98 Qxx rfl) (fun _=>True) v o.rows W _ hs
  (ins2_any w (fun _=>True) x cx o.rows W hc hR (hx.move (.of_below hb) (fun _ _ _=>trivial))))
 rw [aZ] at HB
 rw [bA] at HI
 subst cE
 clear hx hx0 hl0 hf cH hne hgr hrl aZ bA ho
 unfold sv at aI |-
 obtain ⟨n,hn⟩:=eX (l.length)
 unfold Sb at aH
 rw [hn] at aH cG cI |-
 have HN:=Qq hn
 clear hn
 have dO:(0:Int)<=(i:Int):=Qvu
 have dP:(i:Int)<(n:Int):=Qvu
 have dQ:decide ((i:Int)<0)=false:=Qxz
 go_enter func46,ntmps46
 go_wp2_with fail
 obtain ⟨W1,aK⟩:=eX (w.alloc (.cells (Qxf x x3 aT x4 aU) 48))
 have bD:=eqB aK (Ze _ _)
 have bY:=eqH (b:=w.heap.size) aK (Qw _ _)
 have aG:=Qq bD;have bV:=Qq bY
 rw [aK]
 have cD:=aH.out W1 bD
 clear aK bD bY
 refine cD.mono ?_
 rintro e w2 ⟨p,cap,rvs,rfl,J,cB⟩
 obtain ⟨g,dF,hv,dM,dN⟩:=J.row.form (by rw [HN.out];omega)
 simp only [Qr] at hv
 obtain ⟨rfl,-,rfl⟩:=hv
 obtain ⟨bI,aC⟩:∃ bI,rvs[i]?=some bI:=⟨_,Qx (by rw [J.len,HN.out];exact cG)⟩
 obtain ⟨css,A⟩:=J.rows i o bI HO.out aC
 obtain ⟨aE,aD,rfl⟩:=A.form
 obtain ⟨bS,bK,I⟩:=Qxn J cB aC
 have bP:=Qq (aI.out _ w2 (J.sl (by rw [HN.out];omega) (fun r hr=>by have:=bR.out r hr;omega) _ (fun _ _=>trivial) (fun _ _ _=>trivial)))
 clear J cB A aC cD aH aI
 go_wp2_with fail
 refine bP.out.mono ?_
 rintro e w3 ⟨rfl,aO⟩
 have V:=bS.out.below aO
 have aM:=kB aO (kE bK.out (Z8 bV.out) bV.out)
 obtain ⟨aJ,D,-,M⟩:=V.at HO.out I.out
 have c1:=Qk _ _ (i*2+1) _ _ _ D
 rw [M] at c1
 obtain ⟨css,A⟩:=V.rows i o _ HO.out I.out
 have aV:=Qq (aG.out.trans ((bK.out.thn aO).mono aG.out.size))
 have cR:=Qq (HB.out _ w3 aV.out (A.sl Qvu (fun _ _=>trivial) (fun _ _ _=>trivial)) (fun j u hu=>by rw [Qk _ _ j _ _ _ aM];simpa using hu) (Z8 aM))
 have bT:=Qq V;have cX:=Qq aM
 clear V aM D M A aO aJ HB
 go_wp2_with fail
 refine cR.out.mono ?_
 rintro e w4 ⟨rfl,aP⟩
 have Y:=bT.out.below aP
 have aN:=kB aP cX.out
 obtain ⟨aJ,D,-,M⟩:=Y.at HO.out I.out
 have c4:=Qk _ _ (i*2+1) _ _ _ D
 rw [M] at c4
 obtain ⟨css,A⟩:=Y.rows i o _ HO.out I.out
 have aW:=Qq (aV.out.thn aP)
 have cV:=Qq (HI.out _ w4 aW.out (A.sl Qvu (fun _ _=>trivial) (fun _ _ _=>trivial)) (fun j u hu=>by rw [Qk _ _ j _ _ _ aN];simpa using hu) (Z8 aN))
 have bU:=Qq Y;have cY:=Qq aN
 clear Y aN D M A aP aJ HI c1
 go_wp2_with fail
 refine cV.out.mono ?_
 rintro e w5 ⟨rfl,aQ⟩
 have O:=bU.out.below aQ
 have T:=kB aQ cY.out
 obtain ⟨aJ,D,-,M⟩:=O.at HO.out I.out
 have c5:=Qk _ _ (i*2+1) _ _ _ D
 rw [M] at c5
 have x0:=rA0 T;have x1:=rA1 T;have x2:=rA2 T;have dS:=rA3 T;have dT:=rA4 T
 obtain ⟨css,A⟩:=O.rows i o _ HO.out I.out
 have aX:=Qq (aW.out.thn aQ)
 have cF:=Z8 D
 have dK:=Z8 T
 have cJ:g≠w5.heap.size:=Qvu
 have dG:w.heap.size≠w5.heap.size:=Qvu
 have cK:some g≠(Value.slice aE o.rows.length aD).ownBlock:=fun e=>Yp O.row A.row Qxv rfl e.symm
 obtain ⟨N,U,bM,cS⟩:=Qxo O A D M
 have cM:Za (But (Sw (.slice (some ⟨g,0,none⟩) n cap) rvs) (.slice aE o.rows.length aD)) w5 (Qxf x x3 aT x4 aU) x:=by
  refine HX.out.move (.of_below aX.out) (fun b _ hb=>?_)
  have dL:b<w.heap.size:=hb
  have dI:=aG.out.size
  refine ⟨⟨fun e=>?_,fun u hu e=>?_⟩,fun e=>?_⟩
  ·have:g=b:=Qb e
   omega
  ·obtain ⟨j,hj⟩:=Zk hu
   obtain ⟨y,hy⟩:∃ y,l[j]?=some y:=⟨_,Qx (by rw [<- N.out.len];exact (Qj hj).1)⟩
   obtain ⟨_,bG⟩:=N.out.rows j y u hy hj
   have:=(bG.row.lt b e).1
   omega
  have:=(U.out.row.lt b e.symm).1
  omega
 have cZ:=Qq cM
 clear O T D M A aQ cM c4
 obtain ⟨W8,aL⟩:=eX ((w5.alloc (.cells (Qxf x x3 aT x4 aU) 48)).drew)
 have Z:Below w5 w5 W8:=by rw [<- aL];exact (Ze _ _).drew
 have bC:W8.heap[w5.heap.size]?=some (.cells (Qxf x x3 aT x4 aU) 48 (0,0)):=by rw [<- aL,heap_drew];exact Qw _ _
 have bB:W8=w5.heap.size+1:=by rw [<- aL];simp
 have bZ:Sl Zc (But (Sw (.slice (some ⟨g,0,none⟩) n cap) rvs) (.slice aE o.rows.length aD)) W8 (.slice (some ⟨w5,0,none⟩) 1 1) [x]:=by
  refine ⟨_,1,rfl,Qxz,fun _=>⟨w5.heap.size,0,rfl,?_,Z8 bC,fun j u hj=>?_⟩⟩
  ·refine ⟨⟨fun e=>?_,fun u hu e=>?_⟩,fun e=>?_⟩
   ·exact cJ (Qb e)
   ·obtain ⟨j,hj⟩:=Zk hu
    obtain ⟨y,hy⟩:∃ y,l[j]?=some y:=⟨_,Qx (by rw [<- N.out.len];exact (Qj hj).1)⟩
    obtain ⟨_,bG⟩:=N.out.rows j y u hy hj
    have:=(bG.row.lt _ e).2
    omega
   have:=(U.out.row.lt _ e.symm).2
   omega
  have h0:=(Qj hj).1
  simp at h0
  subst h0
  simp at hj
  subst hj
  refine ⟨_,fun j u hu=>?_,cZ.out.move (.of_below Z) Qyv⟩
  rw [Nat.zero_mul,Nat.zero_add,Qk _ _ j _ _ _ bC]
  simpa using hu
 have bO:=Qq (insEnd _ W1 W8 (.slice aE o.rows.length aD) o.rows css x (some ⟨w5,0,none⟩) 1 (U.out.below Z) bZ Qvu Qvu)
 have cT:=Qq (fun (w6:World) (hg:W8.grownBy w6 (Value.slice aE o.rows.length aD).ownBlock)=>(hg.block g Qvu cK).trans ((Z.block g cF).trans bM.out))
 have c8:=kD Z cF c5
 have bL:=Qq Z;have dE:=Qq bB
 have dH:=Qq aL
 clear bZ bC Z bB
 go_wp2_with fail
 go_region_with (first | (go_at_call 100;refine bO.out.mono ?_;rintro e w6 ⟨p6,c6,bW,rfl,aA,bF,cA⟩;have bE:=cT.out w6 bF;have f6:=Qn _ _ (i*2+1) _ _ bE;have k6:=Qk _ _ (i*2+1) _ _ _ bE;rw [cS.out] at k6;obtain ⟨cW,bN,cP⟩:=Qxn aA bF cA;clear bE aA bF cA))
 all_goals
  go_wp2_with fail
  go_ret
  have aA:=cW.out;have bX:=cP.out
  simp only [Ql,List.length_cons,List.length_nil,Nat.zero_add] at aA bX
  have hP:=(N.out.below bL.out).put' HN.out HO.out I.out ⟨bW,aA⟩ bN.out (by
   rcases bX with h | h
   ·exact .inl h
   exact .inr fun g' e=>by rw [h] at e;exact Nat.le_of_eq (Qb e))
  have aB:(l.set i ⟨o.table,o.rows++[x]⟩).length=n:=by rw [List.length_set];exact HN.out
  have dC:∀ r ∈ l.set i ⟨o.table,o.rows++[x]⟩,r.rows.length<=1000000:=by
   intro r hr
   rcases List.mem_or_eq_of_mem_set hr with h | rfl
   ·have:=bR.out r h;omega
   simp;omega
  refine ⟨some ⟨g,0,none⟩,cap,by rw [aB];rfl,by rw [aB];exact hP.sl (by rw [aB];exact cI) dC _ (fun _ _=>trivial) (fun _ _ _=>trivial),?_⟩
  have cC:=aX.out.thn bL.out
  have dJ:=aG.out.size
  refine (cC.grown bN.out cC.size (fun b hb=>?_)).setCell (p:=⟨g,i*2+1,none⟩) (by show w<=g;omega) _
  have:=(U.out.row.lt b hb).1
  omega
theorem few_any (S:Nat->Prop) (p:Option Addr) (n cap:Nat) (bs:Bs) (w:World) (hc:n<=cap) (hn:(if n<=40 then n else 40)=bs.length) (hs:Sl Zt S w (.slice p bs.length cap) bs):
  Calls prog 18 #[.slice p n cap,.int .i64 40] w (Uv Zt 5 (fun _=>True) w bs):=by
 obtain ⟨i5,j1,j2,j3,j4⟩:=Y4 (P:=prog) (t:=5) (z:=.int .u8 0) (n:=1) (b:=1) Qxx
 obtain ⟨HJ,M,N,O⟩:=Qxo j1 j2 j3 j4
 have HS:=Qq (hs.mono (S':=But (fun _=>True) (.slice none 0 0)) (fun b _ h=>⟨trivial,fun e=>by cases e⟩))
 obtain ⟨k,J⟩:=eX (bs.length)
 rw [J] at HS hn
 have hb:k<=40:=by split at hn <;> omega
 have V:k<=cap:=by split at hn <;> omega
 have hm:min (n:Int) 40=(k:Int):=by split at hn <;> omega
 have HK:=Qq J
 have HN:=Qq (show ([]:Bs).length+bs.length=k by rw [J];simp)
 clear j1 j2 j3 j4 hs hn J hc
 go_enter func18,ntmps18
 go_wp2_with (at_builtin;refine Yn (r:=Zt) Qxv Bz rfl (.tmp 6) (.tmp 12) _ rfl 5 i5 (.int .u8 0) 1 underlying23 HJ.out M.out N.out O.out rfl Qvu (fun _=>True) w w (.slice none 0 0) [] [] rfl (Own.nil _ _ _ _ _) (.slice p k cap) bs rfl HS.out k HN.out Qvu (Q9 _) ?_;intro p4 c4 A w4 I D;have U:=Qq I;have T:=Qq D;clear I D)
 go_ret
 have h1:=U.out
 simp only [List.nil_append] at h1
 exact ⟨p4,c4,A,by rw [HK.out];rfl,by rw [HK.out];exact h1,T.out.below⟩
theorem Su (S:Nat->Prop) (v:Value) (l:List Int) (w:World) (hs:Xa S w v l) (hi:Uh l):
  Calls prog 27 #[v,Qxc] w (J8 w (Gen.check (Yo l 0 13).toNat)):=by
 obtain ⟨h1,h2⟩:=Dc l 0 13 Qvu
 obtain ⟨z,A⟩:=eX (Yo l 0 13)
 rw [A] at h1 h2
 have h:z=0\/z=1\/z=2\/z=3\/z=4\/z=5\/z=6\/z=7\/z=8\/z=9\/z=10\/z=11\/z=12:=Qvu
 rcases h with h | h | h | h | h | h | h | h | h | h | h | h | h
 ·rw [A,h];exact Py S v l w hs hi (by rw [A,h])
 ·rw [A,h];exact Oi S v l w hs hi (by rw [A,h])
 ·rw [A,h];exact Ol S v l w hs hi (by rw [A,h])
 ·rw [A,h];exact Qkc S v l w hs hi (by rw [A,h])
 ·rw [A,h];exact Qjg S v l w hs hi (by rw [A,h])
 ·rw [A,h];exact Qvf S v l w hs hi (by rw [A,h])
 ·rw [A,h];exact Qzm S v l w hs hi (by rw [A,h])
 ·rw [A,h];exact Qvt S v l w hs hi (by rw [A,h])
 ·rw [A,h];exact Qqe S v l w hs hi (by rw [A,h])
 ·rw [A,h];exact Qzk S v l w hs hi (by rw [A,h])
 ·rw [A,h];exact As S v l w hs hi (by rw [A,h])
 ·rw [A,h];exact Wf S v l w hs hi (by rw [A,h])
 rw [A,h];exact Aq S v l w hs hi (by rw [A,h])
theorem J6.none {n:Nat} {cf:Nat->Nat->Ft} {nm:Nat->Bs} {f:Ft} (h:J6 n cf nm f) (hz:∀ c i,c<5->i<n->(cf c i).code=0):f=Ft.zero:=by
 rcases h with ⟨h,_⟩ | ⟨c,i,hc,hi,A,_⟩
 ·exact h
 exact absurd (hz c i hc hi) A
theorem J6.at {n:Nat} {cf:Nat->Nat->Ft} {nm:Nat->Bs} {f:Ft} (h:J6 n cf nm f) (c0 i0:Nat) (hc0:c0<5) (hi0:i0<n) (hne0:(cf c0 i0).code≠0) (hb0:∀ c i,i<n->(c<c0\/c=c0/\i<i0)->(cf c i).code=0):
  f.code=(cf c0 i0).code/\f.table=nm i0:=by
 rcases h with ⟨_,h⟩ | ⟨c,i,hc,hi,A,rfl,hb⟩
 ·exact absurd (h c0 i0 hc0 hi0) hne0
 have h1:¬ (c<c0\/c=c0/\i<i0):=fun h=>A (hb0 c i hi h)
 have h2:¬ (c0<c\/c0=c/\i0<i):=fun h=>hne0 (hb c0 i0 hi0 h)
 have e1:c=c0:=Qvu
 have e2:i=i0:=Qvu
 subst e1;subst e2
 exact ⟨rfl,rfl⟩
theorem srt_pw {T:Type} {cf:T->T->Int} {xs:List T} (h:xs.Pairwise fun x y=>0<=cf y x):Srt cf xs:=by
 intro i j x y A hx hy
 obtain ⟨hi,rfl⟩:=Qj hx
 obtain ⟨hj,rfl⟩:=Qj hy
 exact List.pairwise_iff_getElem.1 h i j hi hj A
def K1 (v:Val):List Int:=match v.kids with
 | x::_=>[x.n]
 | []=>[]
def tyK:Ty->Int | .mk k _ _ _ _=>k
theorem Nf (us:List Sm) (x:Val) (y:Ty) (h:tyK y=0\/tyK y=1\/tyK y=2):Bb us x y (x.kind==tyK y):=by
 obtain ⟨k,s,n,names,kids⟩:=y
 exact hasLeaf us x k h s n names kids
namespace Law
def tT:Tbl:=⟨[116],[⟨[97],Gen.whole⟩,⟨[98],Gen.whole⟩],[[97]],[⟨[98],[117]⟩],Gen.op [60] [Gen.a,Gen.b]⟩
def uT:Tbl:=⟨[117],[⟨[107],Gen.whole⟩],[[107]],[],Gen.yes⟩
def sc:Sc:=⟨[],[tT,uT]⟩
def rT (x y:Int):Val:=Jj [[97],[98]] [Vr x,Vr y]
def rU (x:Int):Val:=Jj [[107]] [Vr x]
def st (l:List (Int × Int)):List Rel:=[⟨[116],l.map fun p=>rT p.1 p.2⟩,⟨[117],[rU 3]⟩]
theorem wordA:V8 [97]:=⟨Qxv,Qxv,by intro c hc;simp at hc;subst hc;decide,Qxv,Qxv⟩
theorem wordB:V8 [98]:=⟨Qxv,Qxv,by intro c hc;simp at hc;subst hc;decide,Qxv,Qxv⟩
theorem wordK:V8 [107]:=⟨Qxv,Qxv,by intro c hc;simp at hc;subst hc;decide,Qxv,Qxv⟩
def Qzc (v:Val):Bool:=match v.kids with
 | x::y::_=>decide (Yk x y<0)
 | _=>true
theorem tT_ok (l:List (Int × Int)) (hl:l.length<=1000) (hb:∀ p ∈ l,(-1000<=p.1/\p.1<=1000)/\-1000<=p.2/\p.2<=1000):Rc [] tT (l.map fun p=>rT p.1 p.2) (fun _=>true) Qzc K1 where
 srt:=srt_pw Qxv
 few:=Qxv
 some:=Qxv
 typed:=by
  intro x D
  obtain ⟨p,A,rfl⟩:=List.mem_map.1 D
  refine ⟨.record _ _ rfl ?_ ?_ ?_,?_⟩
  ·intro y M
   simp at M
   rcases M with rfl | rfl
   ·exact wordA
   exact wordB
  ·intro i a b I hb
   match i,I,hb with
   | 0,I,hb=>simp at I hb;subst I;subst hb;decide
   | i+1,I,hb=>simp at hb
  ·intro k hk
   simp at hk
   have hq:=hb p A
   rcases hk with rfl | rfl <;> exact .int _ ⟨Qvu,Qvu⟩
  have:=hasRec [] (rT p.1 p.2) [] [[97],[98]] [Gen.whole,Gen.whole] (fun x y=>x.kind==tyK y) (fun x _ y M=>Nf [] x y (by
   simp at M;subst M;exact .inl rfl))
  exact this
 keys:=fun _=>⟨fun r J=>by obtain ⟨p,A,rfl⟩:=List.mem_map.1 J;rfl,fun r J x D=>by
  obtain ⟨p,A,rfl⟩:=List.mem_map.1 J
  have:=hb p A
  simp [K1,rT,Jj,Val.kids,Vr,Val.n] at D
  subst D;omega,fun r J=>by obtain ⟨p,A,rfl⟩:=List.mem_map.1 J;exact (by decide:1<=3)⟩
 many:=by rw [Z7];omega
 key:=Qxv
 check:=by
  intro _ x D
  obtain ⟨p,A,rfl⟩:=List.mem_map.1 D
  refine R0 Qxv ?_ (Q9 2)
  exact ev_less 0 [] [] [] Gen.a Gen.b 0 0 _ (Vr p.1) (Vr p.2) (ev_var [97] 0 [] [] [] [] 0 0 _ _ rfl) (ev_var [98] 0 [] [] [] [] 0 0 _ _ rfl)
theorem uT_ok:Rc [] uT [rU 3] (fun _=>true) (fun _=>true) K1 where
 srt:=srt_pw Qxv
 few:=Qxv
 some:=Qxv
 typed:=by
  intro x D
  simp at D
  subst D
  refine ⟨.record _ _ rfl ?_ ?_ ?_,?_⟩
  ·intro y I
   simp at I
   subst I
   exact wordK
  ·intro i a b ha hb
   simp at hb
  ·intro k hk
   simp at hk
   subst hk;exact .int _ Qxv
  have:=hasRec [] (rU 3) [] [[107]] [Gen.whole] (fun x y=>x.kind==tyK y) (fun x _ y I=>Nf [] x y (by
   simp at I;subst I;exact .inl rfl))
  exact this
 keys:=fun _=>⟨fun r A=>by simp at A;subst A;rfl,fun r A x D=>by
  simp at A;subst A
  simp [K1,rU,Jj,Val.kids,Vr,Val.n] at D
  subst D;omega,fun r A=>by simp at A;subst A;decide⟩
 many:=Qxv
 key:=Qxv
 check:=by
  intro _ x D
  simp at D
  subst D
  refine R0 Qxv ?_ Qxv
  exact ev_bool [] 1 [] [] [] [] 0 0 _
def cf (l:List (Int × Int)):Nat->Nat->Ft:=cfOf sc (st l) (fun _ _=>true) (fun i=>if i=0 then Qzc else fun _=>true) (fun _=>K1)
theorem st_ok (l:List (Int × Int)) (hl:l.length<=1000) (hb:∀ p ∈ l,(-1000<=p.1/\p.1<=1000)/\-1000<=p.2/\p.2<=1000) (i:Nat) (t:Tbl) (r:Rel) (ht:sc.tables[i]?=some t) (hr:(st l)[i]?=some r):
  Rc sc.sums t r.rows ((fun _ _=>true:Nat->Val->Bool) i) ((fun i=>if i=0 then Qzc else fun _=>true:Nat->Val->Bool) i) ((fun _=>K1:Nat->Val->List Int) i):=by
 match i,ht,hr with
 | 0,ht,hr=>
  cases ht;cases hr
  exact tT_ok l hl hb
 | 1,ht,hr=>
  cases ht;cases hr
  exact uT_ok
 | i+2,ht,hr=>simp [sc] at ht
theorem cf_u (l:List (Int × Int)) (c:Nat) (hc:c<5):(cf l c 1).code=0:=by
 match c,hc with
 | 0,_=>show (H9 [rU 3]).code=0;rw [Nu Qxv];rfl
 | 1,_=>show (Xp 9 (fun _=>true) [rU 3]).code=0;rw [Je (fun _ _=>rfl)];rfl
 | 2,_=>
  show (Kj [rU 3] (ust [rU 3].length ([rU 3].map fun r=>kb (K1 r)) [rU 3].length)).code=0
  rw [No rfl (fun i j a b A ha hb=>by
   have h1:=(Qj hb).1
   simp at h1
   omega)]
  rfl
 | 3,_=>rfl
 | 4,_=>show (Xp 13 (fun _=>true) [rU 3]).code=0;rw [Je (fun _ _=>rfl)];rfl
theorem Ca (l:List (Int × Int)) (hl:l.length<=256):(cf l 0 0).code=0:=by
 show (H9 (l.map fun p=>rT p.1 p.2)).code=0
 rw [Nu (by rw [Z7];exact hl)];rfl
theorem Cr (l:List (Int × Int)):(cf l 1 0).code=0:=by
 show (Xp 9 (fun _=>true) (l.map fun p=>rT p.1 p.2)).code=0
 rw [Je (fun _ _=>rfl)];rfl
theorem kb1_inj {a b:Int} (h:kb [a]=kb [b]):a=b:=by
 unfold kb at h
 simp at h
 exact encI_inj h
theorem cf_t2 (l:List (Int × Int)) (hd:(l.map Prod.fst).Pairwise (·≠·)):(cf l 2 0).code=0:=by
 show (Kj (l.map fun p=>rT p.1 p.2) (ust (l.map fun p=>rT p.1 p.2).length ((l.map fun p=>rT p.1 p.2).map fun r=>kb (K1 r)) (l.map fun p=>rT p.1 p.2).length)).code=0
 rw [No (by rw [Z7]) (fun i j a b D A hb=>?_)]
 ·rfl
 rw [List.map_map,List.getElem?_map] at A hb
 cases hx:l[i]? with
 | none=>rw [hx] at A;cases A
 | some x=>
  cases hy:l[j]? with
  | none=>rw [hy] at hb;cases hb
  | some y=>
   rw [hx] at A;rw [hy] at hb
   cases A;cases hb
   intro e
   have e1:x.1=y.1:=kb1_inj e
   obtain ⟨hi,I⟩:=Qj hx
   obtain ⟨hj,J⟩:=Qj hy
   have:=List.pairwise_iff_getElem.1 hd i j (by simpa using hi) (by simpa using hj) D
   simp only [List.getElem_map] at this
   rw [I,J] at this
   exact this e1
theorem cf_t2d (a x y:Int):(cf [(a,x),(a,y)] 2 0).code=11:=by
 show (Kj [rT a x,rT a y] (ust 2 [kb [a],kb [a]] 2)).code=11
 generalize kb [a]=k
 have:ust 2 [k,k] 2=(0,1):=by
  show Km [k] (Km [] (2,0) k) k=(0,1)
  have h1:X9 [] k=none:=rfl
  have h2:X9 [k] k=some 0:=by unfold X9;simp
  unfold Km
  rw [h1]
  simp only [h2]
  rfl
 rw [this]
 rfl
theorem refT (l:List (Int × Int)) (a y:Int):Dw sc (st l) ⟨[98],[117]⟩ (rT a y)=decide (y=3):=by
 show (J1 sc (st l) [117] [Vr y]).isSome=_
 have h1:J1 sc (st l) [117] [Vr y]=atP (lkP [[107]] [Vr y]) [rU 3]:=rfl
 rw [h1]
 have h2:lkP [[107]] [Vr y] (rU 3)=decide (y=3):=by
  show eqL eqv [Vr 3] [Vr y]=_
  simp only [eqL,Bool.and_true]
  unfold eqv
  rw [decide_eq_decide]
  simp [key,Vr]
  exact eq_comm
 unfold atP
 by_cases h:y=3
 ·subst h;simp [h2]
 simp [h2,h]
theorem cf_t3 (l:List (Int × Int)) (h:∀ p ∈ l,p.2=3):(cf l 3 0).code=0:=by
 show (Yl sc (st l) (l.map fun p=>rT p.1 p.2) [⟨[98],[117]⟩]).code=0
 have:Xp 12 (Dw sc (st l) ⟨[98],[117]⟩) (l.map fun p=>rT p.1 p.2)=Ft.zero:=Je (fun x hx=>by
  obtain ⟨p,hp,rfl⟩:=List.mem_map.1 hx
  rw [refT,h p hp];rfl)
 unfold Yl
 rw [this]
 rfl
theorem cf_t3d (a b y:Int) (hy:y≠3):(cf [(a,3),(b,y)] 3 0).code=12:=by
 show (Yl sc (st [(a,3),(b,y)]) [rT a 3,rT b y] [⟨[98],[117]⟩]).code=12
 have:(Xp 12 (Dw sc (st [(a,3),(b,y)]) ⟨[98],[117]⟩) [rT a 3,rT b y]).code=12:=by
  unfold Xp
  simp [List.findIdx?_cons,refT,hy]
 unfold Yl
 rw [this,if_neg Qxv]
 exact this
theorem C7 (x y:Int):Qzc (rT x y)=decide (x<y):=by
 show decide (Yk (Vr x) (Vr y)<0)=_
 rw [decide_eq_decide]
 simp [Yk,Vr]
 exact Pe
theorem cf_t4 (l:List (Int × Int)) (h:∀ p ∈ l,p.1<p.2):(cf l 4 0).code=0:=by
 show (Xp 13 Qzc (l.map fun p=>rT p.1 p.2)).code=0
 rw [Je (fun x hx=>by
  obtain ⟨p,hp,rfl⟩:=List.mem_map.1 hx
  rw [C7];exact decide_eq_true (h p hp))]
 rfl
theorem cf_t4d (a b x y:Int) (h1:a<x) (h2:¬ b<y):(cf [(a,x),(b,y)] 4 0).code=13:=by
 show (Xp 13 Qzc [rT a x,rT b y]).code=13
 unfold Xp
 simp [List.findIdx?_cons,C7,h1,h2]
theorem st_norm (l:List (Int × Int)) (h:Ul (l.map fun p=>rT p.1 p.2)=true):Uc sc (st l)=true:=by
 show (Ul (l.map fun p=>rT p.1 p.2)&&decide (([116]:Bs)=[116])&&((Ul [rU 3]&&decide (([117]:Bs)=[117]))&&true))=true
 rw [h];rfl
theorem inc1 (a b:Int):Ul ([(a,b)].map fun p=>rT p.1 p.2)=true:=rfl
theorem cmp_rT (a b c d:Int):Yk (rT a b) (rT c d)=thn (ord a c) (thn (ord b d) 0):=by
 simp [rT,Jj,Vr,Yk,Xu,Kl,Yg,Jv,thn]
theorem inc2 (a b c d:Int) (h:a<c\/a=c/\b<d):Ul ([(a,b),(c,d)].map fun p=>rT p.1 p.2)=true:=by
 show (decide (Yk (rT a b) (rT c d)<0)&&true)=true
 rw [Bool.and_true,decide_eq_true_eq,cmp_rT]
 rcases h with h | ⟨rfl,h⟩
 ·have:ord a c=-1:=by unfold ord;rw [if_pos h]
  rw [this];show (-1:Int)<0;omega
 rw [Jv,Jk]
 have:ord b d=-1:=by unfold ord;rw [if_pos h]
 rw [this];decide
theorem code0 {f:Ft} (h:J6 sc.tables.length (cf [(1,3)]) (fun i=>((sc.tables[i]?).getD Tbl.zero).name) f):f.code=0:=by
 rw [h.none (fun c i hc hi=>?_)]
 ·rfl
 have A:i<2:=hi
 match i,A with
 | 1,_=>exact cf_u _ c hc
 | 0,_=>
  match c,hc with
  | 0,_=>exact Ca _ Qxv
  | 1,_=>exact Cr _
  | 2,_=>exact cf_t2 _ Qxv
  | 3,_=>exact cf_t3 _ Qxv
  | 4,_=>exact cf_t4 _ Qxv
theorem code1 {f:Ft} (h:J6 sc.tables.length (cf [(1,3),(1,4)]) (fun i=>((sc.tables[i]?).getD Tbl.zero).name) f):f.code=11:=by
 have h2:=cf_t2d 1 3 4
 rw [(h.at 2 0 Qxv Qxv (by rw [h2];decide) (fun c i hi hb=>?_)).1,h2]
 have A:i<2:=hi
 match i,A with
 | 1,_=>exact cf_u _ c Qvu
 | 0,_=>
  match c,hb with
  | 0,_=>exact Ca _ Qxv
  | 1,_=>exact Cr _
  | c+2,hb=>omega
theorem code2 {f:Ft} (h:J6 sc.tables.length (cf [(1,3),(2,4)]) (fun i=>((sc.tables[i]?).getD Tbl.zero).name) f):f.code=12:=by
 have h2:=cf_t3d 1 2 4 Qxv
 rw [(h.at 3 0 Qxv Qxv (by rw [h2];decide) (fun c i hi hb=>?_)).1,h2]
 have A:i<2:=hi
 match i,A with
 | 1,_=>exact cf_u _ c Qvu
 | 0,_=>
  match c,hb with
  | 0,_=>exact Ca _ Qxv
  | 1,_=>exact Cr _
  | 2,_=>exact cf_t2 _ Qxv
  | c+3,hb=>omega
theorem code3 {f:Ft} (h:J6 sc.tables.length (cf [(1,3),(5,3)]) (fun i=>((sc.tables[i]?).getD Tbl.zero).name) f):f.code=13:=by
 have h2:=cf_t4d 1 5 3 3 Qxv Qxv
 rw [(h.at 4 0 Qxv Qxv (by rw [h2];decide) (fun c i hi hb=>?_)).1,h2]
 have A:i<2:=hi
 match i,A with
 | 1,_=>exact cf_u _ c Qvu
 | 0,_=>
  match c,hb with
  | 0,_=>exact Ca _ Qxv
  | 1,_=>exact Cr _
  | 2,_=>exact cf_t2 _ Qxv
  | 3,_=>exact cf_t3 _ Qxv
  | c+4,hb=>omega
end Law
theorem Wr (l:List Rel):eqL Fs l l=true:=Oo rfl (fun i x y D A=>by
 rw [D] at A
 cases A
 unfold Fs
 rw [Oo rfl (fun i x y D A=>by rw [D] at A;cases A;simp [eqv])]
 simp)
theorem UpSt.len {T:List Bs} {c:Nat} {l:List Rel} (h:UpSt T c l):l.length=T.length:=by have:=congrArg List.length h.tabs;simpa using this
end Go.Proofs.YtlanplhphiikjaaGreatDoor
