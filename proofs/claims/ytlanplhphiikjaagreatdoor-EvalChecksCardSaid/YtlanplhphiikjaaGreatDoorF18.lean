import Derived.Test.YtlanplhphiikjaaGreatDoorF16
set_option maxRecDepth 100000
set_option maxHeartbeats 400000000
namespace Go.Proofs.YtlanplhphiikjaaGreatDoor
open Go.RowKit Go.Shelf Go.Lib Tryz
inductive Jp (env:List (Bs × Val)):List Ex->Nat->Except Int (List Val × Nat)->Prop
 | nil (l:Nat):Jp env [] l (.ok ([],l))
 | cons {e:Ex} {es:List Ex} {l k j:Nat} {v:Val} {vs:List Val} (h:Vx e env l (.ok (v,k))) (hr:Jp env es k (.ok (vs,j))):Jp env (e::es) l (.ok (v::vs,j))
 | stop {e:Ex} {es:List Ex} {l:Nat} {c:Int} (h:Vx e env l (.error c)):Jp env (e::es) l (.error c)
 | late {e:Ex} {es:List Ex} {l k:Nat} {v:Val} {c:Int} (h:Vx e env l (.ok (v,k))) (hr:Jp env es k (.error c)):Jp env (e::es) l (.error c)
def AllIs (S:Nat->Prop) (g m:Nat) (w:World):Except Int (List Val × Nat)->Ending->World->Prop
 | .ok (vs,l)=>fun e w'=>∃ p cap css,e=.returned (.slice p vs.length cap)/\Own Zc 48 (fun b=>b≠g/\(S b\/w.heap.size<=b)) w.heap.size w' (.slice p vs.length cap) vs css/\MAt g m w' l/\Z6 (fun b=>b=g) g w w'
 | .error c=>fun e w'=>e=.panicked (Gf c)/\Z6 (fun b=>b=g) g w w'
def Ux (vs:List Val):Except Int (List Val × Nat)->Except Int (List Val × Nat)
 | .ok (us,l)=>.ok (vs++us,l)
 | .error c=>.error c
theorem Own.gstep {T:Type} {r:Rd T} {E:TypeId} {S:Nat->Prop} {B B' g:Nat} {w w':World} {v:Value} {xs:List T} {css:List (List Value)} (h:Own r E S B w v xs css) (hs:Z6 (fun b=>b=g) B' w w') (hg:g<B) (hS:∀ b,S b->b≠g):Own r E S B w' v xs css:=by
 refine ⟨⟨h.row.1,?_⟩,h.cs.move (hs.agree (fun b hb=>hS b hb.1)) P8⟩
 rcases h.row.2 with hn | ⟨q,cap,cur,rfl,hB,hq,rest⟩
 ·exact .inl hn
 refine .inr ⟨q,cap,cur,rfl,hB,?_,rest⟩
 rw [hs.keep q (Array.getElem?_eq_some_iff.1 hq).1 (by show q≠g;omega)];exact hq
theorem Uw {g:Nat} {w0 w w1:World} (h:Z6 (fun b=>b=g) g w0 w) (hb:Below w0 w w1) (hg:g<=w0):Z6 (fun b=>b=g) g w0 w1:=
 ⟨h.below.trans (hb.mono hg),fun b D hn=>(hb.block b D).trans (h.keep b D hn)⟩
theorem MAt.thn {g m l:Nat} {w0 w w1:World} (h:MAt g m w l) (hb:Below w0 w w1) (hg:g<w0) (hm:m<w0):MAt g m w1 l:=
 ⟨(hb.block g hg).trans h.1,(hb.block m hm).trans h.2.1,h.2.2⟩
theorem Ji (S0 S1:Nat->Prop) (g m:Nat) (ms:ByteArray) (ev kv:Value) (kids:List Ex) (env:List (Bs × Val)) (l:Nat) (r:Except Int (List Val × Nat)) (w:World) (hk0:Sl Vv S0 w kv kids) (he0:Sl Zs S1 w ev env) (hS0:∀ b,S0 b->b≠g) (hS1:∀ b,S1 b->b≠g) (hM:MAt g m w l) (hA:Jp env kids l r):
  Calls prog 213 #[Om g,.agg #[.string ms,ev],kv] w (AllIs S1 g m w r):=by
 obtain ⟨i0,j1,j2,j3,j4⟩:=Y3 (P:=prog) (t:=48) (z:=.agg zV) (n:=5) (b:=80) Og
 obtain ⟨HJ,bJ,bK,bL⟩:=Py j1 j2 j3 j4
 clear j1 j2 j3 j4
 have hk:=hk0.up
 have he:=he0.up
 have dL:=hM.lt
 have dP:=Z3 hM.2.1
 obtain ⟨kp,kc,rfl,cL⟩:=hk.len
 obtain ⟨p,cap,rfl,_⟩:=he.len
 obtain ⟨n,hn⟩:=eX (kids.length)
 obtain ⟨HK,HE,O,aI,HM,HA⟩:=P0 hk he hS0 hS1 hM hA
 rw [hn] at cL HK |-
 have HN:=Qq hn
 clear hk he hk0 he0 hS0 hS1 hM hA hn
 go_enter func213,ntmps213
 go_upto_region 2 with fail
 generalize bD:World.alloc w _=w1
 have bG:=eqB bD (Zb _ _)
 have bC:=eqH (b:=w.heap.size) bD (Qw _ _)
 have cC:=Qq bC;have bN:=Qq bG;have cQ:=bG.size
 have bV:=Z3 bC
 clear bD bC bG
 go_wp2_with fail
 go_loopw [7,12] (fun o i wr=>∃ (k lk:Nat) (vs:List Val) (ap:Option Addr) (ac:Nat) (rk:Except Int (List Val × Nat)),k<=n/\i=.int .i64 k/\o=.slice ap k ac/\vs.length=k/\Aside (Jp env (kids.drop k) lk rk/\r=Ux vs rk)/\Z6 (fun b=>b=g) g w1 wr/\MAt g m wr lk/\(∃ css,Own Zc 48 (fun b=>b≠g/\(S1 b\/w.heap.size<=b)) w1 wr (.slice ap k ac) vs css)) (fun _ i _=>n - (intOf i).toNat)
 case atStart=>exact ⟨0,l,[],none,0,r,Q3 _,rfl,rfl,rfl,⟨HA.out,by cases r <;> rfl⟩,Z6.refl _ _ _,HM.out.below bN.out,[],Own.nil _ _ _ _ _⟩
 obtain ⟨k,lk,vs,ap,ac,rk,dO,rfl,rfl,bX,hA,hG,bR,css,hO⟩:=hrel
 obtain ⟨HG,HO,aO,T,bM⟩:=Pw hG hO hA.out bX bR
 have bQ:Z6 (fun b=>b=g) g w wr:=(Z6.of_below bN.out Oa).trans hG
 have aR:=Qq bQ
 have bF:=(hG.keep _ bV (by show w≠g;omega)).trans cC.out
 obtain ⟨e0,e1⟩:=row2 bF
 have aC:=Z3 bF
 have dQ:=hG.size
 clear hG hO hA bX bR bQ bF
 by_cases hlt:k<n
 ·have dM:(0:Int)<=(k:Int):=Oa
  have dN:(k:Int)<(n:Int):=Oa
  have aJ:k<kids.length:=by rw [HN.out];exact hlt
  obtain ⟨x,hx⟩:∃ x,kids[k]?=some x:=⟨_,Qx aJ⟩
  have bT:kids.drop k=x::kids.drop (k+1):=by rw [Qi aJ];rw [Qx aJ] at hx;cases hx;rfl
  obtain ⟨xb,cZ,cs,cM,cR,bY,_,hr,N⟩:=HK.out.elem hx
  subst cM
  obtain ⟨ek,dJ,en,dK,dG,dD,dA,dH,dE,dB,dI,dF,dC,ea,ez,M⟩:=Yj.cells (show Yj _ w cs x from hr)
  subst M
  have hh:∀ {j:Nat} {u:Value},w.cell? ⟨xb,j,none⟩=some u->wr.cell? ⟨xb,j,none⟩=some u:=fun N=>(World.cell?_of_block (aR.out.keep xb cR (O.out xb bY.1))).trans N
  have d0:=hh (N 0 _ rfl);have d1:=hh (N 1 _ rfl);have d2:=hh (N 2 _ rfl);have d3:=hh (N 3 _ rfl);have d4:=hh (N 4 _ rfl);have d5:=hh (N 5 _ rfl);have d6:=hh (N 6 _ rfl);have d7:=hh (N 7 _ rfl);have d8:=hh (N 8 _ rfl)
  simp only [show Vv.k=9 from rfl,Nat.add_zero] at d0 d1 d2 d3 d4 d5 d6 d7 d8
  have cD:=Qq hr
  have V:=aO.out.1
  rw [bT] at V
  have cB:=Qq V
  clear hx bT aJ N hh hr bY V
  go_upto_region 5 with fail
  generalize bE:World.alloc wr _=w2
  have D:=eqB bE (Zb _ _)
  have bS:=eqH (b:=wr.heap.size) bE (Qw _ _)
  obtain ⟨z0,z1,z2,z3,z4,z5,z6,z7,z8⟩:=row9 bS
  have u0:=kD D aC e0
  have u1:=kD D aC e1
  have bI:=Qq D
  have Y:Z6 (fun b=>b=g) g w w2:=aR.out.trans (Z6.of_below D Oa)
  have cE:=Qq Y
  have aH:=Qq (HO.out.below D)
  have aT:=Qq (bM.out.below D)
  have aZ:=Qq (Yj.move cD.out (Y.agree (fun b h=>O.out b h.1)) P8)
  have aQ:=Qq (HE.out.frame (Y.agree (fun b h=>aI.out b h.1)))
  have cY:=Y.size
  have cX:=D.size
  have cN:w.heap.size<w2.heap.size:=Q5 aC D.size
  clear bE bS D Y d0 d1 d2 d3 d4 d5 d6 d7 d8 e0 e1
  obtain ⟨-,J⟩:=aO.out
  have aX:=Qq J
  clear J
  have V:=cB.out
  cases V with
  | stop h=>
   have HC:=Qq (h _ _ g m ms _ _ w2 aZ.out aQ.out (fun b h=>O.out b h.1) (fun b h=>aI.out b h.1) aT.out)
   have J:=aX.out
   simp only [Ux] at J
   subst J
   clear h
   go_wp2_with fail
   refine HC.out.mono ?_
   rintro e w5 ⟨rfl,hs⟩
   exact ⟨rfl,rfl,cE.out.trans hs⟩
  | cons h hrest=>
   rename_i k2 j2 v2 vs2
   have HC:=Qq (h _ _ g m ms _ _ w2 aZ.out aQ.out (fun b h=>O.out b h.1) (fun b h=>aI.out b h.1) aT.out)
   have L:Hid (∃ I,Jp env (kids.drop (k+1)) k2 I/\r=Ux (vs++[v2]) I):=Qq ⟨_,hrest,by rw [aX.out];simp [Ux]⟩
   clear h hrest
   go_wp2_with (first
    | (at_builtin;refine Yc (r:=Zc) Of rfl (.tmp 16) (.tmp 21) _ rfl 48 i0 (.agg zV) 80 underlying40 HJ.out bJ.out bK.out bL.out rfl Oa (fun b=>b≠g/\(S1 b\/w.heap.size<=b)) w1 w5 (.slice ap k ac) vs css (Ou v2 a3 bA a4 bB) v2 rfl aV.out rfl HU.out (by simp [Value.oneCell']) k T.out Oa Oa ?_;intro p7 U css7 w7 aA Z;have aW:=Qq aA;have aS:=Qq Z;clear aA Z)
    | (refine HC.out.mono ?_;rintro e w5 ⟨cu,rfl,hu,aD,G⟩;obtain ⟨a3,bA,a4,bB,M,_⟩:=Z5.cells hu;simp only [vcs] at M;subst M;obtain ⟨aU,aY,aV⟩:=Px aD G (aH.out.gstep G Oa (fun b h=>h.1));have bW:=G.size;have HU:=Qq (hu.move (.refl _ _) (fun b _ h=>(⟨⟨h.1,h.2.imp And.left (fun h=>Oa)⟩,fun e=>by have h1:=(aH.out.row.lt b e.symm);rcases h.2 with h | h;(have:=h.2;omega);omega⟩:But (fun b=>b≠g/\(S1 b\/w.heap.size<=b)) (.slice ap k ac) b)));clear hu aD G;clear HC))
   go_roundw
   case measure=>simp [intOf];omega
   case rel=>
    obtain ⟨I,h1,h2⟩:=L.out
    have aB:Below w1 w5 w7:=aS.out.below
    have aE:Z6 (fun b=>b=g) g w1 w5:=(HG.out.trans (Z6.of_below bI.out Oa)).trans aY.out
    exact ⟨k+1,k2,vs++[v2],p7,U,I,Oa,by go_num,rfl,by have:=T.out;simp [this],⟨h1,h2⟩,Uw aE aB Oa,aU.out.thn aB Oa Oa,css7,aW.out⟩
  | late h hrest=>
   rename_i k2 v2 c2
   have HC:=Qq (h _ _ g m ms _ _ w2 aZ.out aQ.out (fun b h=>O.out b h.1) (fun b h=>aI.out b h.1) aT.out)
   have L:Hid (∃ I,Jp env (kids.drop (k+1)) k2 I/\r=Ux (vs++[v2]) I):=Qq ⟨_,hrest,by rw [aX.out];simp [Ux]⟩
   clear h hrest
   go_wp2_with (first
    | (at_builtin;refine Yc (r:=Zc) Of rfl (.tmp 16) (.tmp 21) _ rfl 48 i0 (.agg zV) 80 underlying40 HJ.out bJ.out bK.out bL.out rfl Oa (fun b=>b≠g/\(S1 b\/w.heap.size<=b)) w1 w5 (.slice ap k ac) vs css (Ou v2 a3 bA a4 bB) v2 rfl aV.out rfl HU.out (by simp [Value.oneCell']) k T.out Oa Oa ?_;intro p7 U css7 w7 aA Z;have aW:=Qq aA;have aS:=Qq Z;clear aA Z)
    | (refine HC.out.mono ?_;rintro e w5 ⟨cu,rfl,hu,aD,G⟩;obtain ⟨a3,bA,a4,bB,M,_⟩:=Z5.cells hu;simp only [vcs] at M;subst M;obtain ⟨aU,aY,aV⟩:=Px aD G (aH.out.gstep G Oa (fun b h=>h.1));have bW:=G.size;have HU:=Qq (hu.move (.refl _ _) (fun b _ h=>(⟨⟨h.1,h.2.imp And.left (fun h=>Oa)⟩,fun e=>by have h1:=(aH.out.row.lt b e.symm);rcases h.2 with h | h;(have:=h.2;omega);omega⟩:But (fun b=>b≠g/\(S1 b\/w.heap.size<=b)) (.slice ap k ac) b)));clear hu aD G;clear HC))
   go_roundw
   case measure=>simp [intOf];omega
   case rel=>
    obtain ⟨I,h1,h2⟩:=L.out
    have aB:Below w1 w5 w7:=aS.out.below
    have aE:Z6 (fun b=>b=g) g w1 w5:=(HG.out.trans (Z6.of_below bI.out Oa)).trans aY.out
    exact ⟨k+1,k2,vs++[v2],p7,U,I,Oa,by go_num,rfl,by have:=T.out;simp [this],⟨h1,h2⟩,Uw aE aB Oa,aU.out.thn aB Oa Oa,css7,aW.out⟩
 have bU:k=n:=Oa
 subst bU
 have bP:=aO.out
 rw [List.drop_of_length_le (by rw [HN.out];exact Q4 _)] at bP
 obtain ⟨cI,J⟩:=bP
 cases cI
 simp only [Ux,List.append_nil] at J
 subst J
 go_wp2_with fail
 go_ret
 rw [<- T.out] at HO |-
 exact ⟨ap,ac,css,rfl,HO.out.move cQ (fun _ _ _=>rfl),bM.out,aR.out⟩
theorem M7 {T:Type} {r:Rd T} {E:TypeId} {S:Nat->Prop} {B b n:Nat} {w:World} {cells:Array Value} {xs:List T} {css:List (List Value)} (hb:w.heap[b]?=some (.cells cells E (0,0))) (hB:B<=b) (hcs:Cs r (fun x=>S x/\x≠b) w css xs) (hc:css.flatten=cells.toList) (hn:n=xs.length) (hl:xs.length<=1000000):Own r E S B w (.slice (some ⟨b,0,none⟩) n n) xs css:=by
 subst hn
 refine ⟨⟨hcs.flat,.inr ⟨b,xs.length,cells,rfl,hB,hb,Q4 _,by unfold maxLen;omega,?_,?_⟩⟩,hcs.move (.refl _ _) (fun c _ h=>⟨h.1,fun e=>h.2 (Q6 e)⟩)⟩
 ·have:=hcs.flat
  rw [hc] at this
  simpa using this
 rw [<- hc,Qp (by rw [hcs.flat];exact Q4 _)]
theorem Ki {g:Nat} {W W':World} {c:Nat} {o:Obj} (h:Below g W W') (hc:c<g) (hg:W.heap[c]?=some o):W'.heap[c]?=some o:=(h.block c hc).trans hg
theorem Zp {X W:World} {o:Obj} (h:World.alloc X o=W):Below X X W:=by rw [<- h];exact Zb _ _
theorem Y5 {X W:World} {o:Obj} (h:World.alloc X o=W):W.heap[X.heap.size]?=some o:=by rw [<- h];exact Qw _ _
inductive V9:Val->Prop
 | mk (k n:Int) (s:Bs) (names:List Bs) (kids:List Val) (hb:k=2->n=0\/n=1) (hk:∀ x ∈ kids,V9 x):V9 (.mk k n s names kids)
theorem V9.kids {v:Val} (h:V9 v):∀ x ∈ v.kids,V9 x:=by cases h;assumption
theorem V9.bool {v:Val} (h:V9 v) (hk:v.kind=2):v.n=0\/v.n=1:=by cases h with | mk k n s names kids hb _=>exact hb hk
theorem V9.zero:V9 Val.zero:=.mk 0 0 [] [] [] (fun h=>by cases h) (fun x h=>by simp at h)
theorem Z5.head {S:Nat->Prop} {w:World} {k n:Int} {s:ByteArray} {p3:Option Addr} {n3 k3:Nat} {p4:Option Addr} {n4 k4:Nat} {v:Val} (h:Z5 S w [k,n,.string s,.slice p3 n3 k3,.slice p4 n4 k4] v):v.kind=k/\v.n=n/\v.kids.length=n4:=by
 obtain ⟨a,b,c,d,e,_⟩:=Z5.cells h
 simp only [vcs,List.cons.injEq,Value.int.injEq,Ql,true_and,and_true] at e
 obtain ⟨h1,h2,_,_,h5⟩:=e
 exact ⟨h1.symm,h2.symm,h5.2.1.symm⟩
def EvS (S:Nat->Prop) (w:World) (cs:List Value) (r:Option Val) (b:Bool):Prop:=(b=true->∃ v,Z5 S w cs v/\V9 v/\r=some v)/\(b=false->r=none)
theorem EvS.yes {S:Nat->Prop} {w:World} {cs:List Value} {r:Option Val} {v:Val} (h:Z5 S w cs v) (hb:V9 v) (hr:r=some v):EvS S w cs r true:=⟨fun _=>⟨v,h,hb,hr⟩,fun h=>by cases h⟩
theorem EvS.no {S:Nat->Prop} {w:World} {cs:List Value} {r:Option Val} (hr:r=none):EvS S w cs r false:=⟨(fun h=>by cases h),fun _=>hr⟩
theorem EvS.map {S S':Nat->Prop} {w w':World} {cs:List Value} {r:Option Val} {b:Bool} (h:EvS S w cs r b) (hm:∀ v,Z5 S w cs v->Z5 S' w' cs v):EvS S' w' cs r b:=⟨fun hb=>by
 obtain ⟨v,h1,h2,h3⟩:=h.1 hb
 exact ⟨v,hm v h1,h2,h3⟩,h.2⟩
def EvIs (S:Nat->Prop) (w:World) (r:Option Val) (e:Ending) (w':World):Prop:=∃ (k n:Int) (s:ByteArray) (p3:Option Addr) (n3 k3:Nat) (p4:Option Addr) (n4 k4:Nat) (b:Bool),
 e=.returned (.tuple #[.agg #[k,n,.string s,.slice p3 n3 k3,.slice p4 n4 k4],.bool b])/\EvS (fun c=>S c\/w<=c) w' [k,n,.string s,.slice p3 n3 k3,.slice p4 n4 k4] r b/\Below w w w'
end Go.Proofs.YtlanplhphiikjaaGreatDoor
