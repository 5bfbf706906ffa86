import Derived.Test.YtlanplhphiikjaaGreatDoorF19
import Derived.Test.YtlanplhphiikjaaGreatDoorF27
set_option maxRecDepth 100000
set_option maxHeartbeats 400000000
namespace Go.Proofs.YtlanplhphiikjaaGreatDoor
open Go.RowKit Go.Shelf Go.Lib Tryz
theorem ev_less (n:Int) (s:Bs) (names binds:List Bs) (x y:Ex) (a z:Int) (env:List (Bs × Val)) (u v:Val) (hx:EvV x env u) (hy:EvV y env v):EvV (.mk 14 [60] n s names binds [x,y] a z) env (Yb (decide (Zt u v<0))):=by
 intro V S' cs p w U T
 have he:Vq (fun b=>V b/\b<w) w p env:=T.move (.refl _ _) (fun b hb h=>⟨h,hb⟩)
 obtain ⟨nv,bv,kv,rfl,_,_,hn,hb,hk⟩:=Yz.1 U
 obtain ⟨np,nc,rfl,_⟩:=hn.len
 obtain ⟨bp,bc,rfl,_⟩:=hb.len
 obtain ⟨kp,kc,rfl,_⟩:=hk.len
 obtain ⟨q,rfl⟩:=he.ptr
 obtain ⟨HE,HK,HX,HY⟩:=Py he hk hx hy
 clear U he T hn hb hk hx hy
 unfold sv
 obtain ⟨r,hr⟩:=eX (Yb (decide (Zt u v<0)))
 rw [hr]
 have J:=Qq hr
 clear hr
 rw [show [x,y].length=2 from rfl]
 show Calls prog 125 #[.agg #[.int .i64 14,.string ⟨#[60]⟩,n,s,.slice np names.length nc,.slice bp binds.length bc,.slice kp 2 kc,a,z],.pointer q] w (J5 V w r)
 go_enter func125,ntmps125
 go_upto_region 3 with fail
 generalize G:((w.alloc _).alloc _).alloc _=Z
 have I:=eqB G (Yr _ _ _ _)
 have N:=eqH (b:=w.heap.size) G (Ze _ _ _ _)
 have h1:=eqH (b:=w.heap.size+1) G (Zf _ _ _ _)
 have h2:=eqH (b:=w.heap.size+1+1) G (Z9 _ _ _ _)
 have aH:w.heap.size+1+1<Z.heap.size:=Z3 h2
 have D:=Qq (fun (k:Nat) e t (hke:[x,y][k]?=some e) (hev:EvV e env t) W (hbw:Below Z Z W)=>kid_any w (w+1) k (fun b=>V b/\b<w) S' kp kc [x,y] e (.pointer q) env t W
  ((Qk _ _ 6 _ _ _ (kB hbw N)).trans rfl) ((HK.out.below I).below hbw) ((Qk _ _ 0 _ _ _ (kB hbw h1)).trans rfl) ((HE.out.move (.of_below I) P8).move (.of_below hbw) P8) hke hev)
 have HL:=Qq (less_any 189 #[Om w,Om (w+1)] (enters_of func189 Og rfl) (fun b=>V b/\b<w) u v Z (fun b hb=>by have:=hb.2;omega)
  (D.out 0 x u rfl HX.out) (D.out 1 y v rfl HY.out))
 rw [J.out] at HL
 have c0:=rA0 N;have c1:=rA1 N;have c6:=rA6 N
 have H2:=Qq h2;have aA:=Qq I
 clear N h1 h2 I G HE HK HX HY D J
 go_wp2_with fail
 refine HL.out.mono ?_
 rintro e w4 ⟨cr,rfl,M,L⟩
 obtain ⟨q3,l3,q4,l4,O,_⟩:=Z5.cells M
 simp only [vcs] at O
 subst O
 have Y:=kB L H2.out
 obtain ⟨aB,aC,HR⟩:=Px (aA.out.thn L) M Y
 have fz:=fun j=>Qg _ _ j _ _ Y
 obtain ⟨f0,f1,f2,f3,f4⟩:=P3 fz
 have rr:=fun j=>Qk _ _ j _ _ _ Y
 obtain ⟨r0,r1,r2,r3,r4⟩:=P3 rr
 simp only [Qa,Qb,Qc] at r0 r1 r2 r3 r4
 clear fz rr M L Y
 go_wp2_with fail
 show bodyPost _ _ _ _ _ (Pk w4 (w+1+1) r q3 l3 q4 l4)
 refine Q2 (v:=.agg (Ou r q3 l3 q4 l4)) (by simp [results,results125,go_sem,Z8 HR.out]) rfl ⟨_,rfl,?_,Z7 aB.out Oa⟩
 exact Z5.move aC.out (fun b hb _=>Za (by have:=hb.2;omega)) (fun _ _ h=>h.1)
def Xt (row:Val) (l:List Col):List (Bs × Val):=l.filterMap fun c=>(Yn row c.name).map fun v=>(c.name,v)
theorem Jy (row:Val) (l:List Col) (c:Col):Xt row (l++[c])=Xt row l++((Yn row c.name).map fun v=>(c.name,v)).toList:=by
 unfold Xt
 rw [List.filterMap_append]
 cases h:Yn row c.name <;> simp [h]
def Em (r:Except Int (Val × Nat)):Bool:=(Kc r==0)&&((Uo r).kind==2)&&((Uo r).n==1)
theorem Lz (S0 S1:Nat->Prop) (t:Tbl) (row:Val) (ct cr:List Value) (r:Except Int (Val × Nat)) (w:World) (ht0:Zg.R S0 w ct t) (hr0:Z5 S1 w cr row) (hev:Vx t.check (Xt row t.columns) 1048576 r):
  Calls prog 23 #[ct,cr] w fun e w'=>e=.returned (.bool (Em r))/\Below w w w':=by
 obtain ⟨i0,j1,j2,j3,j4⟩:=Y3 (P:=prog) (t:=116) (z:=.agg #[Oo,On,On,Oo,Ot,Ot]) (n:=6) (b:=96) Og
 obtain ⟨HJ,cM,cN,cO⟩:=Py j1 j2 j3 j4
 clear j1 j2 j3 j4
 have ht:Zg.R (fun b=>b<w) w ct t:=Zg.mono ht0 (fun b hb _=>hb)
 have hr:Z5 (fun b=>b<w) w cr row:=hr0.move (.refl _ _) (fun b hb _=>hb)
 obtain ⟨dR,dQ,eD,eC,eL,eK,k9,eM,n9,eN,eH,eE,dN,eI,eF,dO,eJ,eG,dP,a9,z9,D,_,Y,_,_,bK⟩:=Zr ht
 simp only [tcs] at D
 subst D
 have HG:=Qq (fun x W (hb:Below w w W)=>B7 _ row cr x W (hr.move (.of_below hb) P8))
 obtain ⟨p3,k3,p4,k4,D,_⟩:=Z5.cells hr
 simp only [vcs] at D
 subst D
 obtain ⟨n,hn⟩:=eX (t.columns.length)
 have dW:n<=1000000:=by rw [<- hn];obtain ⟨_,_,_,h⟩:=Y.len;exact h
 obtain ⟨HC,cL,cK⟩:=Px Y bK hev
 rw [hn] at HC |-
 have HN:=Qq hn
 obtain ⟨b,aQ⟩:=eX (Em r)
 rw [aQ]
 have cT:=Qq aQ
 unfold sv at HG
 clear ht ht0 hr hr0 Y bK hev hn aQ
 go_enter func23,ntmps23
 go_upto_region 1 with fail
 generalize aE:(w.alloc _).alloc _=w2
 have aR:=eqB aE (Zl _ _ _)
 have h0:=eqH (b:=w.heap.size) aE (Q0 _ _ _)
 have h1:=eqH (b:=w.heap.size+1) aE (Q1 _ _ _)
 obtain ⟨cH,H0,H1⟩:=Px aR h0 h1
 have bN:=Z3 h0;have Z:=Z3 h1
 have c1:=rA1 h0
 have dY:=aR.size
 clear aR h0 h1 aE
 go_wp2_with fail
 clear c1
 go_loopw [5,16] (fun o i wr=>∃ (k m:Nat) (ap:Option Addr) (ac:Nat),k<=n/\i=.int .i64 k/\o=.slice ap m ac/\(Xt row (t.columns.take k)).length=m/\m<=k/\Below w2 w2 wr/\(∃ css,Own Zs 116 (fun b=>w2<=b) w2 wr (.slice ap m ac) (Xt row (t.columns.take k)) css)) (fun _ i _=>n - (intOf i).toNat)
 case atStart=>exact ⟨0,0,none,0,Q3 _,rfl,rfl,rfl,Q4 _,Qz _ _,[],Own.nil _ _ _ _ _⟩
 obtain ⟨k,m,ap,ac,dU,rfl,rfl,bO,dV,N,css,hO⟩:=hrel
 obtain ⟨aI,HO,V⟩:=Px N hO bO
 have dG:=N.size
 have bD:=kE N bN H0.out
 have bE:=kE N Z H1.out
 obtain ⟨v0,v1,v2,v3,v4⟩:=row5 bE
 have aC:=Qq (cH.out.thn N)
 clear N hO bO bE
 by_cases hlt:k<n
 ·have dS:(0:Int)<=(k:Int):=Oa
  have dT:(k:Int)<(n:Int):=Oa
  have aF:k<t.columns.length:=by rw [HN.out];exact hlt
  obtain ⟨x,hx⟩:∃ x,t.columns[k]?=some x:=⟨_,Qx aF⟩
  have bR:t.columns.take (k+1)=t.columns.take k++[x]:=by rw [Qs aF];rw [Qx aF] at hx;cases hx;rfl
  obtain ⟨xb,dM,cs,dD,dX,_,_,hr,hc⟩:=HC.out.elem hx
  subst dD
  obtain ⟨aG,rfl,dF,aA⟩:=hr
  obtain ⟨tk,ts,tn,cA,bZ,bY,bX,bW,bV,bQ⟩:∃ (tk:Int) (ts:ByteArray) (tn:Int) (cA:Option Addr) (bZ bY:Nat) (bX:Option Addr) (bW bV:Nat),aG=[.int .i64 tk,.string ts,.int .i64 tn,.slice cA bZ bY,.slice bX bW bV]:=by
   have aA:Y6 _ w aG x.type:=aA
   generalize x.type=ty at aA
   cases aA with
   | mk k n s names kids nv p cap b off cs hs hn hl hp hc hr=>
    obtain ⟨np,nc,rfl,_⟩:=hn.len
    exact ⟨k,_,n,np,_,nc,p,_,cap,rfl⟩
  subst bQ
  have hh:∀ {b j:Nat} {u:Value},w.cell? ⟨b,j,none⟩=some u->wr.cell? ⟨b,j,none⟩=some u:=fun hc=>kC aC.out hc
  have d0:=hh (hc 0 _ rfl);have d1:=hh (hc 1 _ rfl);have d2:=hh (hc 2 _ rfl);have d3:=hh (hc 3 _ rfl);have d4:=hh (hc 4 _ rfl);have d5:=hh (hc 5 _ rfl)
  simp only [show Yy.k=6 from rfl,Nat.add_zero,sv] at d0 d1 d2 d3 d4 d5
  have aZ:=Qq bR
  clear hx bR aF hc hh aA
  go_upto_region 5 with fail
  generalize aN:World.alloc wr _=w3
  have O:=eqB aN (Zb _ _)
  have aU:=eqH (b:=wr.heap.size) aN (Qw _ _)
  have bL:=kE O (Q5 Z dG) ((aI.out.block _ Z).trans H1.out)
  clear v0 v1 v2 v3 v4 d0 d1 d2 d3 d4 d5
  obtain ⟨v0,v1,v2,v3,v4⟩:=row5 bL
  have e0:=rA0 aU
  have bA:=Qq aU;have aY:=Qq O
  have I:=Qq (HG.out x.name w3 (aC.out.thn O))
  have dZ:=O.size
  have aJ:=Qq (HO.out.below O)
  clear O aU bL aN
  cases hg:Yn row x.name with
  | none=>
   unfold GetIs at I
   rw [hg] at I
   have J:Xt row (t.columns.take (k+1))=Xt row (t.columns.take k):=by rw [aZ.out,Jy,hg];simp
   have G:=Qq J
   simp only [Option.isSome_none,Option.getD_none] at I
   clear hg J
   go_wp2_with (go_at_call 53;refine I.out.mono ?_;rintro e w4 ⟨bC,rfl,U,M⟩;obtain ⟨q3,l3,q4,l4,D,_⟩:=Z5.cells U;simp only [vcs] at D;subst D;have L:=Qq M;have aK:=Qq (aJ.out.below M);clear U M)
   go_roundw
   case measure=>simp [intOf];omega
   case rel=>
    refine ⟨k+1,m,ap,ac,Oa,by go_num,rfl,by rw [G.out];exact V.out,Oa,(aI.out.thn (aY.out.thn L.out)).alloc (Ob L.out.size) _,css,?_⟩
    rw [G.out]
    exact aK.out.below (Zb _ _)
  | some u=>
   unfold GetIs at I
   rw [hg] at I
   have J:Xt row (t.columns.take (k+1))=Xt row (t.columns.take k)++[(x.name,u)]:=by rw [aZ.out,Jy,hg];simp
   have G:=Qq J
   simp only [Option.isSome_some,Option.getD_some] at I
   clear hg J
   go_upto_region 7 with (go_at_call 53;refine I.out.mono ?_;rintro e w4 ⟨bC,rfl,U,M⟩;obtain ⟨q3,l3,q4,l4,D,_⟩:=Z5.cells U;simp only [vcs] at D;subst D;obtain ⟨L,aK,cU⟩:=Px M (aJ.out.below M) U;clear U M)
   generalize aO:World.alloc w4 _=w5
   have T:=eqB aO (Zb _ _)
   have bT:=eqH (b:=w4.heap.size) aO (Qw _ _)
   have bJ:=kE T (Q5 (Z3 bA.out) L.out.size) (kB L.out bA.out)
   have e0:=rA0 bJ
   obtain ⟨u0,u1,u2,u3,u4⟩:=row5 bT
   have cR:=Qq (aK.out.below T)
   have eA:=L.out.size;have eB:=T.size
   have HU:=Qq (show Zs.R (But (fun b=>w2<=b) (.slice ap m ac)) w5 [x.name,u.kind,u.n,u.s,.slice q3 u.names.length l3,.slice q4 u.kids.length l4] (x.name,u) from
    ⟨_,rfl,dF,cU.out.move (.of_below T) (fun b _ h=>⟨by have h':w3.heap.size<=b:=h;omega,fun e=>by have h':w3.heap.size<=b:=h;have:=(aJ.out.row.lt b e.symm).2;omega⟩)⟩)
   have cI:=Qq (aI.out.thn (aY.out.thn (L.out.thn T)))
   clear T bT bJ aO
   go_wp2_with (at_builtin;refine Yc (r:=Zs) Of rfl (.tmp 28) (.tmp 33) _ rfl 116 i0 (.agg #[Oo,On,On,Oo,Ot,Ot]) 96 underlying112 HJ.out cM.out cN.out cO.out rfl Oa (fun b=>w2<=b) w2 w5 (.slice ap m ac) _ css [x.name,u.kind,u.n,u.s,.slice q3 u.names.length l3,.slice q4 u.kids.length l4] (x.name,u) rfl cR.out rfl HU.out (by simp [Value.oneCell']) m V.out Oa Oa ?_;intro p7 bB css7 w7 bG bF;have cS:=Qq bG;have cP:=Qq bF;clear bG bF)
   go_roundw
   case measure=>simp [intOf];omega
   case rel=>exact ⟨k+1,m+1,p7,bB,Oa,by go_num,rfl,by rw [G.out,Qe,V.out];rfl,Oa,cI.out.trans cP.out.below,css7,by rw [G.out];exact cS.out⟩
 have bM:k=n:=Oa
 subst bM
 have dB:Xt row (t.columns.take k)=Xt row t.columns:=by rw [Qp (by rw [HN.out];exact Q4 _)]
 rw [dB] at HO V
 have aD:=Qq (Jz (fun b=>b<w) (fun b=>w2<=b) ⟨#[]⟩ (.slice ap m ac) _ t.check (Xt row t.columns) 1048576 r wr Oa (cL.out.move (.of_below aC.out) P8) (by have h:=HO.out.sl (S':=fun b=>w2<=b) (by rw [V.out];omega) (fun _ h=>h) P8;exact h) cK.out.at)
 rw [show ((1048576:Nat):Int)=1048576 from rfl] at aD
 obtain ⟨ru,bP⟩:=eX (Dv 1048576 r)
 obtain ⟨re,aT⟩:=eX (Kc r)
 obtain ⟨v,hv⟩:=eX (Uo r)
 have hb:=cT.out
 unfold Em at hb
 rw [aT,hv] at hb
 unfold ExprIs at aD
 rw [bP,aT,hv] at aD
 obtain ⟨c0,c1,c2,c3,c4,c5,c6,c7,c8,c9,cW,cX,cY⟩:=row13 bD
 clear v0 v1 v2 v3 v4 bD c0 c1 c2 c3 bP aT hv
 go_upto_region 10 with (go_at_call 54;refine aD.out.mono ?_;rintro e w6 ⟨bC,rfl,bS,bH⟩;obtain ⟨q3,l3,q4,l4,D,_⟩:=Z5.cells bS;simp only [vcs] at D;subst D;have cJ:=Qq bH;clear bS bH)
 generalize aP:World.alloc w6 _=w7
 have bI:=eqB aP (Zb _ _)
 have bU:=eqH (b:=w6.heap.size) aP (Qw _ _)
 have aH:=Qq (aC.out.thn (cJ.out.thn bI))
 obtain ⟨y0,y1⟩:=row2 bU
 clear bI bU aP c4 c5 c6 c7 c8 c9 cW cX cY
 by_cases h1:re=0
 ·have g1:(re==0)=true:=by simpa using h1
  by_cases h2:v.kind=2
  ·have g2:(v.kind==2)=true:=by simpa using h2
   obtain ⟨g3,dC⟩:=eX ((v.n==1))
   rw [g1,g2,dC] at hb
   simp only [Bool.true_and] at hb
   subst hb
   go_wp2_with fail
   go_ret
   exact ⟨rfl,aH.out⟩
  have g2:(v.kind==2)=false:=by simpa using h2
  rw [g2,Bool.and_false,Bool.false_and] at hb
  subst hb
  go_wp2_with fail
  go_ret
  exact ⟨rfl,aH.out⟩
 have g1:(re==0)=false:=by simpa using h1
 rw [g1,Bool.false_and,Bool.false_and] at hb
 subst hb
 go_wp2_with fail
 go_ret
 exact ⟨rfl,aH.out⟩
inductive Uf (env:List (Bs × Val)):List Ex->Nat->Except Int (List Val × Nat)->Prop
 | nil (l:Nat):Uf env [] l (.ok ([],l))
 | cons {e:Ex} {es:List Ex} {l k j:Nat} {v:Val} {vs:List Val} (h:Un e env l (.ok (v,k))) (hr:Uf env es k (.ok (vs,j))):Uf env (e::es) l (.ok (v::vs,j))
 | stop {e:Ex} {es:List Ex} {l:Nat} {c:Int} (h:Un e env l (.error c)):Uf env (e::es) l (.error c)
 | late {e:Ex} {es:List Ex} {l k:Nat} {v:Val} {c:Int} (h:Un e env l (.ok (v,k))) (hr:Uf env es k (.error c)):Uf env (e::es) l (.error c)
def RAllIs (S:Nat->Prop) (g:Nat) (w:World):Except Int (List Val × Nat)->Ending->World->Prop
 | .ok (vs,l)=>fun e w'=>∃ p cap css,e=.returned (.slice p vs.length cap)/\Own Zc 48 (fun b=>b≠g/\(S b\/w.heap.size<=b)) w.heap.size w' (.slice p vs.length cap) vs css/\Xw g w' l 0/\Z6 (fun b=>b=g) g w w'
 | .error c=>fun e w'=>∃ p n cap,e=.returned (.slice p n cap)/\(∃ k,Xw g w' k c)/\c≠0/\Z6 (fun b=>b=g) g w w'
theorem Xw.thn {g l:Nat} {c:Int} {w0 w w1:World} (h:Xw g w l c) (hb:Below w0 w w1) (hg:g<w0):Xw g w1 l c:=⟨(hb.block g hg).trans h.1,h.2⟩
theorem Fq (S0 S1:Nat->Prop) (g:Nat) (ms:ByteArray) (ev kv:Value) (kids:List Ex) (env:List (Bs × Val)) (l:Nat) (r:Except Int (List Val × Nat)) (w:World) (hk0:Sl Vv S0 w kv kids) (he0:Sl Zs S1 w ev env) (hS0:∀ b,S0 b->b≠g) (hS1:∀ b,S1 b->b≠g) (hM:Xw g w l 0) (hA:Uf env kids l r):
  Calls prog 223 #[Om g,.string ms,ev,kv] w (RAllIs S1 g w r):=by
 obtain ⟨i0,j1,j2,j3,j4⟩:=Y3 (P:=prog) (t:=48) (z:=.agg zV) (n:=5) (b:=80) Og
 obtain ⟨HJ,aV,aW,aX⟩:=Py j1 j2 j3 j4
 clear j1 j2 j3 j4
 have hk:=hk0.up
 have he:=he0.up
 have cU:=hM.lt
 obtain ⟨kp,kc,rfl,cA⟩:=hk.len
 obtain ⟨p,cap,rfl,_⟩:=he.len
 obtain ⟨n,hn⟩:=eX (kids.length)
 obtain ⟨HK,HE,aG,aN,HM,HA⟩:=P0 hk he hS0 hS1 hM hA
 rw [hn] at cA HK |-
 have HN:=Qq hn
 clear hk he hk0 he0 hS0 hS1 hM hA hn
 go_enter func223,ntmps223
 go_wp2_with fail
 go_loopw [9,10] (fun o i wr=>∃ (k:Nat) (vs:List Val) (ap:Option Addr) (ac:Nat) (css:List (List Value)),k<=n/\i=.int .i64 k/\o=.slice ap k ac/\vs.length=k/\Z6 (fun b=>b=g) g w wr/\Own Zc 48 (fun b=>b≠g/\(S1 b\/w.heap.size<=b)) w wr (.slice ap k ac) vs css /\
  ((∃ (lk:Nat) (rk:Except Int (List Val × Nat)),Xw g wr lk 0/\Aside (Uf env (kids.drop k) lk rk/\r=Ux vs rk))\/(∃ (lk:Nat) (c:Int),Xw g wr lk c/\c≠0/\Aside (r=.error c)))) (fun _ i _=>n - (intOf i).toNat)
 case atStart=>exact ⟨0,[],none,0,[],Q3 _,rfl,rfl,rfl,Z6.refl _ _ _,Own.nil _ _ _ _ _,.inl ⟨l,r,HM.out,⟨HA.out,by cases r <;> rfl⟩⟩⟩
 obtain ⟨k,vs,ap,ac,css,cW,rfl,rfl,bN,hG,hO,cD⟩:=hrel
 obtain ⟨HG,HO,Y⟩:=Px hG hO bN
 have cX:=hG.size
 clear hG hO bN
 rcases cD with ⟨lk,rk,Z,hA⟩ | ⟨lk,c,Z,bD,G⟩
 ·have aT:=Qq hA.out;have U:=Qq Z
  have m4:=rA4 Z.1
  clear hA Z
  by_cases hlt:k<n
  ·have cV:(0:Int)<=(k:Int):=Oa
   have bK:(k:Int)<(n:Int):=Oa
   have aO:k<kids.length:=by rw [HN.out];exact hlt
   obtain ⟨x,hx⟩:∃ x,kids[k]?=some x:=⟨_,Qx aO⟩
   have bJ:kids.drop k=x::kids.drop (k+1):=by rw [Qi aO];rw [Qx aO] at hx;cases hx;rfl
   obtain ⟨xb,cI,cs,cB,cE,bO,_,hr,hc⟩:=HK.out.elem hx
   subst cB
   obtain ⟨ek,cS,en,cT,cP,cM,cJ,cQ,cN,cK,cR,cO,cL,ea,ez,aA⟩:=Yj.cells (show Yj _ w cs x from hr)
   subst aA
   have hh:∀ {j:Nat} {u:Value},w.cell? ⟨xb,j,none⟩=some u->wr.cell? ⟨xb,j,none⟩=some u:=fun hc=>(World.cell?_of_block (HG.out.keep xb cE (aG.out xb bO.1))).trans hc
   have d0:=hh (hc 0 _ rfl);have d1:=hh (hc 1 _ rfl);have d2:=hh (hc 2 _ rfl);have d3:=hh (hc 3 _ rfl);have d4:=hh (hc 4 _ rfl);have d5:=hh (hc 5 _ rfl);have d6:=hh (hc 6 _ rfl);have d7:=hh (hc 7 _ rfl);have d8:=hh (hc 8 _ rfl)
   simp only [show Vv.k=9 from rfl,Nat.add_zero] at d0 d1 d2 d3 d4 d5 d6 d7 d8
   have bA:=Qq (Yj.move (show Yj _ w _ x from hr) (HG.out.agree (fun b h=>aG.out b h.1)) P8)
   have aU:=Qq (HE.out.frame (HG.out.agree (fun b h=>aN.out b h.1)))
   have aK:=aT.out.1
   rw [bJ] at aK
   have bS:=Qq aK
   have aZ:=Qq aT.out.2
   clear hx bJ aO hc hh hr bO aK
   have aK:=bS.out
   cases aK with
   | stop h=>
    rename_i c0
    have HC:=Qq (h _ _ g ms _ _ wr bA.out aU.out (fun b h=>aG.out b h.1) (fun b h=>aN.out b h.1) U.out)
    have G:=aZ.out
    simp only [Ux] at G
    have bG:=Qq G
    clear h G
    go_wp2_with (first
     | (at_builtin;refine Yc (r:=Zc) Of rfl (.tmp 24) (.tmp 33) _ rfl 48 i0 (.agg zV) 80 underlying40 HJ.out aV.out aW.out aX.out rfl Oa (fun b=>b≠g/\(S1 b\/w.heap.size<=b)) w w5 (.slice ap k ac) vs css [On,On,Oo,Ot,Ot] Val.zero rfl aE.out rfl (Yk _ _) (by simp [Value.oneCell']) k Y.out Oa Oa ?_;intro p7 L css7 w7 N M;have aF:=Qq N;have J:=Qq M;clear N M)
     | (refine HC.out.mono ?_;rintro e w5 ⟨rfl,⟨kf,O⟩,bX,D⟩;obtain ⟨aD,aH,aE⟩:=Px O D (HO.out.gstep D Oa (fun b h=>h.1));have aQ:=D.size;clear O D;clear HC))
    go_roundw
    case measure=>simp [intOf];omega
    case rel=>
     have T:Z6 (fun b=>b=g) g w w5:=HG.out.trans aH.out
     exact ⟨k+1,vs++[Val.zero],p7,L,css7,Oa,by go_num,rfl,by have:=Y.out;simp [this],Uw T J.out.below Oa,aF.out,.inr ⟨kf,c0,aD.out.thn J.out.below Oa,bX,bG.out⟩⟩
   | cons h hrest=>
    rename_i k2 j2 v2 vs2
    have HC:=Qq (h _ _ g ms _ _ wr bA.out aU.out (fun b h=>aG.out b h.1) (fun b h=>aN.out b h.1) U.out)
    have V:Hid (∃ I,Uf env (kids.drop (k+1)) k2 I/\r=Ux (vs++[v2]) I):=Qq ⟨_,hrest,by rw [aZ.out];simp [Ux]⟩
    clear h hrest
    go_wp2_with (first
     | (at_builtin;refine Yc (r:=Zc) Of rfl (.tmp 24) (.tmp 33) _ rfl 48 i0 (.agg zV) 80 underlying40 HJ.out aV.out aW.out aX.out rfl Oa (fun b=>b≠g/\(S1 b\/w.heap.size<=b)) w w5 (.slice ap k ac) vs css (Ou v2 a3 bB a4 bC) v2 rfl aE.out rfl HU.out (by simp [Value.oneCell']) k Y.out Oa Oa ?_;intro p7 L css7 w7 N M;have aF:=Qq N;have J:=Qq M;clear N M)
     | (refine HC.out.mono ?_;rintro e w5 ⟨cu,rfl,hu,O,D⟩;obtain ⟨a3,bB,a4,bC,aA,_⟩:=Z5.cells hu;simp only [vcs] at aA;subst aA;obtain ⟨aD,aH,aE⟩:=Px O D (HO.out.gstep D Oa (fun b h=>h.1));have aQ:=D.size;have HU:=Qq (hu.move (.refl _ _) (fun b _ h=>(⟨⟨h.1,h.2.imp And.left (fun h=>Oa)⟩,fun e=>by have h1:=(HO.out.row.lt b e.symm);rcases h.2 with h | h;(have:=h.2;omega);omega⟩:But (fun b=>b≠g/\(S1 b\/w.heap.size<=b)) (.slice ap k ac) b)));clear hu O D;clear HC))
    go_roundw
    case measure=>simp [intOf];omega
    case rel=>
     obtain ⟨I,h1,h2⟩:=V.out
     have T:Z6 (fun b=>b=g) g w w5:=HG.out.trans aH.out
     exact ⟨k+1,vs++[v2],p7,L,css7,Oa,by go_num,rfl,by have:=Y.out;simp [this],Uw T J.out.below Oa,aF.out,.inl ⟨k2,I,aD.out.thn J.out.below Oa,⟨h1,h2⟩⟩⟩
   | late h hrest=>
    rename_i k2 v2 c2
    have HC:=Qq (h _ _ g ms _ _ wr bA.out aU.out (fun b h=>aG.out b h.1) (fun b h=>aN.out b h.1) U.out)
    have V:Hid (∃ I,Uf env (kids.drop (k+1)) k2 I/\r=Ux (vs++[v2]) I):=Qq ⟨_,hrest,by rw [aZ.out];simp [Ux]⟩
    clear h hrest
    go_wp2_with (first
     | (at_builtin;refine Yc (r:=Zc) Of rfl (.tmp 24) (.tmp 33) _ rfl 48 i0 (.agg zV) 80 underlying40 HJ.out aV.out aW.out aX.out rfl Oa (fun b=>b≠g/\(S1 b\/w.heap.size<=b)) w w5 (.slice ap k ac) vs css (Ou v2 a3 bB a4 bC) v2 rfl aE.out rfl HU.out (by simp [Value.oneCell']) k Y.out Oa Oa ?_;intro p7 L css7 w7 N M;have aF:=Qq N;have J:=Qq M;clear N M)
     | (refine HC.out.mono ?_;rintro e w5 ⟨cu,rfl,hu,O,D⟩;obtain ⟨a3,bB,a4,bC,aA,_⟩:=Z5.cells hu;simp only [vcs] at aA;subst aA;obtain ⟨aD,aH,aE⟩:=Px O D (HO.out.gstep D Oa (fun b h=>h.1));have aQ:=D.size;have HU:=Qq (hu.move (.refl _ _) (fun b _ h=>(⟨⟨h.1,h.2.imp And.left (fun h=>Oa)⟩,fun e=>by have h1:=(HO.out.row.lt b e.symm);rcases h.2 with h | h;(have:=h.2;omega);omega⟩:But (fun b=>b≠g/\(S1 b\/w.heap.size<=b)) (.slice ap k ac) b)));clear hu O D;clear HC))
    go_roundw
    case measure=>simp [intOf];omega
    case rel=>
     obtain ⟨I,h1,h2⟩:=V.out
     have T:Z6 (fun b=>b=g) g w w5:=HG.out.trans aH.out
     exact ⟨k+1,vs++[v2],p7,L,css7,Oa,by go_num,rfl,by have:=Y.out;simp [this],Uw T J.out.below Oa,aF.out,.inl ⟨k2,I,aD.out.thn J.out.below Oa,⟨h1,h2⟩⟩⟩
  have bL:k=n:=Oa
  subst bL
  have bI:=aT.out
  rw [List.drop_of_length_le (by rw [HN.out];exact Q4 _)] at bI
  obtain ⟨bW,G⟩:=bI
  cases bW
  simp only [Ux,List.append_nil] at G
  subst G
  go_wp2_with fail
  go_ret
  rw [<- Y.out] at HO |-
  exact ⟨ap,ac,css,rfl,HO.out,U.out,HG.out⟩
 have U:=Qq Z
 have m4:=rA4 Z.1
 have hr:=G.out
 subst hr
 have hq:(c==0)=false:=by simpa using bD
 have bF:=Qq bD
 clear Z bD G
 by_cases hlt:k<n
 ·have bK:(k:Int)<(n:Int):=Oa
  go_wp2_with fail
  go_ret
  exact ⟨ap,k,ac,rfl,⟨lk,U.out⟩,bF.out,HG.out⟩
 have bK:¬ (k:Int)<(n:Int):=Oa
 go_wp2_with fail
 go_ret
 exact ⟨ap,k,ac,rfl,⟨lk,U.out⟩,bF.out,HG.out⟩
end Go.Proofs.YtlanplhphiikjaaGreatDoor
