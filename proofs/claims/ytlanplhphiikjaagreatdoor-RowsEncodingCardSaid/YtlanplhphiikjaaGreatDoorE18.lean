import Derived.Test.YtlanplhphiikjaaGreatDoorE17
import Derived.Test.YtlanplhphiikjaaGreatDoorE15
set_option maxRecDepth 100000
set_option maxHeartbeats 400000000
namespace Go.Proofs.YtlanplhphiikjaaGreatDoor
open Go.RowKit Go.Shelf Go.Lib Tryz
theorem Ar (o:Option Bs):(rdU o).1<18446744073709551616:=by
 cases o with
 | none=>decide
 | some b=>
  cases hq:D8 0 b with
  | none=>simp [rdU,hq]
  | some p=>
   have h:rdU (some b)=(p.1,some p.2):=by simp [rdU,hq]
   have:=(Hf h).2
   rw [h];simpa using this
theorem rdU_zero {o:Option Bs} (h:(rdU o).2=none):(rdU o).1=0:=by
 cases o with
 | none=>rfl
 | some b=>
  cases hq:D8 0 b with
  | none=>simp [rdU,hq]
  | some p=>simp [rdU,hq] at h
theorem RAt.mono {S S':Nat->Prop} {g:Nat} {w:World} {o:Option Bs} (h:RAt S g w o) (hS:∀ b,b<w.heap.size->S b->S' b):RAt S' g w o:=by
 obtain ⟨p,b,cap,e,h1,h2,h3,h4⟩:=h
 exact ⟨p,b,cap,e,h1,h2,h3.mono hS,h4⟩
theorem Zr.own {G:Nat->Prop} {B:Nat} {w wr w5:World} {v v1:Value} (h:Zr G B w wr) (k:Fg w wr w5 v v1) (hv:∀ b,v.ownBlock=some b->w.heap.size<=b) (hB:B<=w):Zr G B w w5:=
 ⟨h.below.trans (k.below.mono hB),fun b hb hg=>(k.other b (Qa hb h.size) (fun e=>by have:=hv b e.symm;omega)).trans (h.keep b hb hg)⟩
theorem U0 (S:Nat->Prop) (g:Nat) (w:World) (o:Option Bs) (hS:∀ b,S b->b≠g) (h:RAt S g w o):
  Calls prog 11 #[Qxb g] w (Ei S g w (.int .i64 (rdI o).1) (rdI o).2):=by
 have HU:=Qq (O0 S g w o hS h)
 have A:=Ar o
 unfold rdI
 generalize rdU o=r at HU A |-
 obtain ⟨z,o'⟩:=r
 have HZ:=Qq (fun W=>unzz_any z A W)
 clear h hS A
 go_enter func11,ntmps11
 go_wp2_with (first | (go_at_call 42;refine HU.out.mono ?_;rintro e w2 ⟨rfl,hR,hG⟩;have HR:=Qq hR;have HG:=Qq hG;clear hR hG) | (go_at_call 41;refine (HZ.out _).mono ?_;rintro e w3 ⟨rfl,rfl⟩))
 go_ret
 exact ⟨rfl,HR.out,HG.out⟩
def Fz (S:Nat->Prop) (g:Nat) (w:World) (bs:Bs) (o:Option Bs) (e:Ending) (w':World):Prop:=
 ∃ p cap css,e=.returned (.slice p bs.length cap)/\Own Zt 5 (fun _=>False) w w' (.slice p bs.length cap) bs css/\RAt S g w' o/\Zr (fun b=>b=g) g w w'
theorem Er {S:Nat->Prop} {g:Nat} {w w':World} (hR:RAt S g w' none) (hG:Zr (fun b=>b=g) g w w'):Fz S g w [] none (.returned (.slice none 0 0)) w':=
 ⟨none,0,[],rfl,Own.nil _ _ _ _ _,hR,hG⟩
theorem Qqk (S:Nat->Prop) (g:Nat) (w:World) (o:Option Bs) (hS0:∀ b,S b->b≠g) (h0:RAt S g w o):
  Calls prog 43 #[Qxb g,.func (.func 44) #[Qxb g] #[]] w (Fz S g w (rdT o).1 (rdT o).2):=by
 have h:RAt (fun b=>S b/\b<w.heap.size) g w o:=h0.mono (fun b hb h=>⟨h,hb⟩)
 have bU:=h.lt
 have HS:=Qq (fun b (h:S b/\b<w.heap.size)=>hS0 b h.1)
 have HU:=Qq (O0 _ g w o HS.out h)
 have aH:=Ar o
 have hz:=rdU_zero (o:=o)
 have hT:rdT o=(match rdU o with | (_,none)=>([],none) | (n,some r)=>if r.length<n then ([],none) else (r.take n,some (r.drop n))):=rfl
 rw [hT]
 clear hT h0 h hS0
 generalize rdU o=r at HU aH hz |-
 obtain ⟨n,o1⟩:=r
 simp only at aH hz
 obtain ⟨i5,j1,j2,j3,j4⟩:=Y4 (P:=prog) (t:=5) (z:=.int .u8 0) (n:=1) (b:=1) Qxx
 obtain ⟨HJ,bI,bJ,bK⟩:=Qxo j1 j2 j3 j4
 clear j1 j2 j3 j4
 cases o1 with
 | none=>
  obtain rfl:n=0:=hz rfl
  show Calls _ _ _ _ (Fz S g w [] none)
  clear hz aH
  rw [show (((0:Nat):Nat):Int)=0 from rfl] at HU
  go_enter func43,ntmps43
  go_wp2_with (go_at_call 42;refine HU.out.mono ?_;rintro e w2 ⟨rfl,D,M⟩;obtain ⟨p2,b2,aA,e2,I,T,J,A⟩:=id D;obtain ⟨d0,d1⟩:=row2 I;have Z:(e2==(0:Int))=false:=(by rcases Classical.em (e2=0) with h | h;rw [if_pos h] at A;cases A;simpa using h);have bB:b2.length<=1000000:=(by obtain ⟨_,_,_,h⟩:=J.len;exact h);have O:=Qq D;have N:=Qq M;clear I T J A M D)
  go_loop [7] (fun i=>i=.int .u64 0) (fun _=>0)
  case atStart=>exact rfl
  subst hrel
  go_wp2_with fail
  go_ret
  exact Er (O.out.mono (fun b _ h=>h.1)) N.out
 | some b=>
  by_cases hbn:b.length<n
  ·show Calls _ _ _ _ (fun e w'=>Fz S g w (if b.length<n then (([]:Bs),(none:Option Bs)) else (b.take n,some (b.drop n))).1 (if b.length<n then (([]:Bs),(none:Option Bs)) else (b.take n,some (b.drop n))).2 e w')
   rw [if_pos hbn]
   show Calls _ _ _ _ (Fz S g w [] none)
   have HF:=Qq (fun W (h:RAt (fun b=>S b/\b<w.heap.size) g W (some b))=>F9 _ g W (some b) 3 HS.out h Qvu)
   clear hz
   go_enter func43,ntmps43
   go_wp2_with (first | (go_at_call 90;refine (HF.out _ O.out).mono ?_;rintro e9 w3 ⟨rfl,aF,aW⟩;obtain ⟨p3,b3,bX,e3,aT,bS,bT,aI⟩:=id aF;have x1:=rA1 aT;have cB:(e3==(0:Int))=false:=(by rcases Classical.em (e3=0) with h | h;rw [if_pos h] at aI;cases aI;simpa using h);have bN:=Qq aF;have bH:=Qq (N.out.trans aW);clear aT bS bT aI aW aF) | (go_at_call 42;refine HU.out.mono ?_;rintro e w2 ⟨rfl,D,M⟩;obtain ⟨p2,b2,aA,e2,I,T,J,A⟩:=id D;have Z:e2=0:=(by rcases Classical.em (e2=0) with h | h;exact h;rw [if_neg h] at A;cases A);subst Z;obtain rfl:b=b2:=(by rw [if_pos rfl] at A;exact Qb A);obtain ⟨d0,d1⟩:=row2 I;have bB:b.length<=1000000:=(by obtain ⟨_,_,_,h⟩:=J.len;exact h);have O:=Qq D;have N:=Qq M;clear I T J A M D))
   go_loop [7] (fun i=>i=.int .u64 0) (fun _=>0)
   case atStart=>exact rfl
   subst hrel
   go_wp2_with fail
   go_ret
   exact Er (bN.out.mono (fun b _ h=>h.1)) bH.out
  show Calls _ _ _ _ (fun e w'=>Fz S g w (if b.length<n then (([]:Bs),(none:Option Bs)) else (b.take n,some (b.drop n))).1 (if b.length<n then (([]:Bs),(none:Option Bs)) else (b.take n,some (b.drop n))).2 e w')
  rw [if_neg hbn]
  show Calls _ _ _ _ (Fz S g w (b.take n) (some (b.drop n)))
  clear hz
  go_enter func43,ntmps43
  go_wp2_with (go_at_call 42;refine HU.out.mono ?_;rintro e w2 ⟨rfl,D,M⟩;obtain ⟨p2,b2,aA,e2,I,T,J,A⟩:=id D;have Z:e2=0:=(by rcases Classical.em (e2=0) with h | h;exact h;rw [if_neg h] at A;cases A);subst Z;obtain rfl:b=b2:=(by rw [if_pos rfl] at A;exact Qb A);obtain ⟨d0,d1⟩:=row2 I;have bB:b.length<=1000000:=(by obtain ⟨_,_,_,h⟩:=J.len;exact h);have O:=Qq D;have N:=Qq M;clear I T J A M D)
  go_loopw [6,7] (fun a i wr=>∃ (k:Nat) (p:Option Addr) (cap:Nat),k<=n/\a=.slice p k cap/\i=.int .u64 k/\Aside (RAt (fun b=>S b/\b<w.heap.size) g wr (some (b.drop k)))/\Aside (Zr (fun b=>b=g) g w wr)/\Aside (∃ css,Own Zt 5 (fun _=>False) w wr (.slice p k cap) (b.take k) css)) (fun _ i _=>n - (intOf i).toNat)
  case atStart=>exact ⟨0,none,0,Q8 _,rfl,rfl,O.out,N.out,[],Own.nil _ _ _ _ _⟩
  obtain ⟨k,p,cap,hk,rfl,rfl,hA,hG,hO⟩:=hrel
  have HA:=Qq (show RAt (fun b=>S b/\b<w.heap.size) g wr (some (b.drop k)) from hA);have HG:=Qq (show Zr (fun b=>b=g) g w wr from hG)
  obtain ⟨css,aY⟩:=hO
  have HO:=Qq aY
  obtain ⟨cC,bY,bR,aS,aC,aU,aV,V⟩:=hA
  have y1:=rA1 aC
  have bD:aS=0:=by
   rcases Classical.em (aS=0) with h | h
   ·exact h
   rw [if_neg h] at V;cases V
  subst bD
  clear aC aU aV V hG aY
  by_cases hlt2:k<n
  ·have aG:k<b.length:=Qvu
   obtain ⟨c,hc⟩:∃ c,b[k]?=some c:=⟨_,Qx aG⟩
   have bC:b.drop k=c::b.drop (k+1):=by
    rw [Qp aG];rw [Qx aG] at hc;rw [Qb hc]
   have bE:b.take (k+1)=b.take k++[c]:=by rw [List.take_add_one,hc];rfl
   have HN:=Qq (Sp _ g wr (some (b.drop k)) HS.out HA.out)
   rw [bC,show Tz (some (c::b.drop (k+1)))=(c,some (b.drop (k+1))) from rfl] at HN
   have bV:k<1000000:=Qvu
   have U:(b.take k).length=k:=by rw [Qm];omega
   have bQ:=Qq bE;have Y:=Qq U
   clear hc bC bE U
   have cA:(k:Int)<(n:Int):=Qvu
   have bZ:w.heap.size<=wr.heap.size:=HG.out.size
   go_wp2_with (first | (go_at_call 44;refine HN.out.mono ?_;rintro e4 w4 ⟨rfl,bA,aE⟩;have bO:=Qq bA;have aM:=Qq (HG.out.trans aE);have aN:=Qq (HO.out.move (Q9 _) (fun b hb h=>aE.keep b hb (fun e=>by rcases h with h | h;exact h;have:=(HO.out.row.lt b h).1;omega)));have bW:w.heap.size<=w4.heap.size:=aM.out.size;clear bA aE) | (at_builtin;refine Yf (r:=Zt) Qxv rfl (.tmp 32) (.tmp 35) _ rfl 5 i5 (.int .u8 0) 1 underlying23 HJ.out bI.out bJ.out bK.out rfl Qvu (fun _=>False) w w4 (.slice p k cap) (b.take k) css [.int .u8 c.toNat] c rfl aN.out rfl rfl (by simp [Value.oneCell']) k Y.out bV bW ?_;intro p5 aQ aR w5 aZ aX;have bM:=Qq aZ;have aD:=Qq aX;clear aZ aX))
   go_roundw
   case measure=>simp [intOf];omega
   case rel=>
    have aJ:∀ b',(Value.slice p k cap).ownBlock=some b'->w.heap.size<=b':=fun b' e=>(aN.out.row.lt b' e).1
    refine ⟨k+1,p5,aQ,Qvu,rfl,by go_num,bO.out.step (G:=fun b=>some b=(Value.slice p k cap).ownBlock) (B:=w.heap.size) ⟨aD.out.below,aD.out.other⟩ (fun b' hb e=>by have:=aJ b' e.symm;have:=hb.2;omega) (fun e=>by have:=aJ g e.symm;omega),aM.out.own aD.out aJ (Nat.le_of_lt bU),aR,?_⟩
    rw [bQ.out];exact bM.out
  obtain rfl:n=k:=Qvu
  have U:(b.take n).length=n:=by rw [Qm];omega
  have Y:=Qq U
  clear U
  go_wp2_with fail
  go_ret
  exact ⟨p,cap,css,by rw [Y.out];rfl,by rw [Y.out];exact HO.out,HA.out.mono (fun b _ h=>h.1),HG.out⟩
theorem Rq {T:Type} {r:Rd T} {E:TypeId} {S:Nat->Prop} {B n cap:Nat} {w:World} {p:Option Addr} {xs:List T} {css:List (List Value)} (h:Own r E S B w (.slice p n cap) xs css):xs.length<=cap:=by
 rcases h.row.2 with ⟨h1,h0⟩ | ⟨g,A,D,h1,_,_,hc,_⟩
 ·omega
 cases h1;exact hc
theorem Kr {E:TypeId} {S S':Nat->Prop} {B:Nat} {w:World} {v:Value} {xs:Bs} {css:List (List Value)} (h:Own Zt E S B w v xs css):Own Zt E S' B w v xs css:=⟨h.row,⟨h.cs.len,fun i c x hc hx=>h.cs.R i c x hc hx⟩⟩
theorem Lx (S:Nat->Prop) (g:Nat) (w:World) (o:Option Bs) (hS:∀ b,S b->b≠g) (h:RAt S g w o):
  Calls prog 14 #[Qxb g] w (Fz S g w (rdT o).1 (rdT o).2):=by
 have A:∀ (fn:Fn) (first cap:Array Value) (w:World),(Instr.makeFunc fn first cap).run prog w=.ok (.func fn first cap) w:=fun _ _ _ _=>rfl
 have HL:=Qq (Qqk S g w o hS h)
 generalize rdT o=r at HL |-
 obtain ⟨bs,o'⟩:=r
 clear h hS
 go_enter func14,ntmps14
 go_wp2_with (go_at_call 43;refine HL.out.mono ?_;rintro e w2 ⟨p,cap,css,rfl,hO,hR,hG⟩;obtain ⟨HO,HR,HG⟩:=Qxn hO hR hG;clear hO hR hG)
 go_ret
 exact ⟨p,cap,css,rfl,HO.out,HR.out,HG.out⟩
theorem Ki (S:Nat->Prop) (g:Nat) (w:World) (o:Option Bs) (hS:∀ b,S b->b≠g) (h:RAt S g w o):
  Calls prog 12 #[Qxb g] w (Ei S g w (.string ⟨(rdT o).1.toArray⟩) (rdT o).2):=by
 have HL:=Qq (Lx S g w o hS h)
 generalize rdT o=r at HL |-
 obtain ⟨bs,o'⟩:=r
 clear h hS
 go_enter func12,ntmps12
 go_wp2_with (go_at_call 14;refine HL.out.mono ?_;rintro e w2 ⟨p,cap,css,rfl,hO,hR,hG⟩;have A:=Mj hO;have HR:=Qq hR;have HG:=Qq hG;clear hO hR hG)
 go_ret
 exact ⟨rfl,HR.out,HG.out⟩
theorem L6 (S:Nat->Prop) (v:Value) (bs:Bs) (w:World) (hs:Sl Zt S w v bs):
  Calls prog 9 #[v] w fun e w'=>∃ g,e=.returned (.pointer (some ⟨g,0,none⟩))/\RAt (fun b=>w<=b/\b<g) g w' (some bs)/\w.heap.size<=g/\Below w w w':=by
 have HC:=Qq (Ng S v bs w hs)
 obtain ⟨p,cap,rfl,hl⟩:=hs.len
 clear hs
 go_enter func9,ntmps9
 go_wp2_with (go_at_call 39;refine HC.out.mono ?_;rintro e w1 ⟨q,qc,qs,rfl,hO,hB⟩;have HO:=Qq hO;have HB:=Qq hB;clear hO hB)
 go_ret
 have hb:=Ze w1 (.cells #[.slice q bs.length qc,Qxc] 96)
 refine ⟨w1.heap.size,rfl,⟨q,bs,qc,0,Qw _ _,Rq HO.out,(((Kr (S':=fun _=>False) HO.out).sl (S':=fun b=>w<=b) hl (fun _ h=>h) (fun b hb h=>h.elim)).mono (fun b hb h=>⟨h,hb⟩)).below hb,rfl⟩,HB.out.size,HB.out.thn hb⟩
theorem Tw {w w':World} {B:Nat} {e:TypeId} {sz n:Nat} {v:Value} {xs:List Value} (h:w.ownsRow B e sz v n xs) (hA:∀ b,b<w.heap.size->v.ownBlock=some b->w'.heap[b]?=w.heap[b]?):w'.ownsRow B e sz v n xs:=by
 refine ⟨h.1,?_⟩
 rcases h.2 with hn | ⟨g,cap,cur,rfl,hB,hg,rest⟩
 ·exact .inl hn
 exact .inr ⟨g,cap,cur,rfl,hB,(hA g (Array.getElem?_eq_some_iff.1 hg).1 rfl).trans hg,rest⟩
theorem F6 {E:TypeId} {S:Nat->Prop} {B:Nat} {w w':World} {v:Value} {xs:List Bs} {css:List (List Value)} (h:Own Zg E S B w v xs css) (hA:∀ b,b<w.heap.size->v.ownBlock=some b->w'.heap[b]?=w.heap[b]?):Own Zg E S B w' v xs css:=
 ⟨Tw h.row hA,⟨h.cs.len,fun i c x hc hx=>h.cs.R i c x hc hx⟩⟩
def Hh (S:Nat->Prop) (g q:Nat) (w:World) (L:Int) (o:Option Bs) (e:Ending) (w':World):Prop:=
 ∃ v cs o' L',e=.returned (.agg cs.toArray)/\RdV L o v o' L'/\Za (fun b=>w<=b) w' cs v/\RAt S g w' o'/\w'.heap[q]?=some (.cells #[.int .i64 L'] 3 (0,0))/\Zr (fun b=>b=g\/b=q) (min g q) w w'
structure RSt (S:Nat->Prop) (g q bx B:Nat) (w wr:World) (kind n0:Int) (s:Bs) (o:Option Bs) (L:Int) (nv kv:Value) (ns:List Bs) (ks:List Val):Prop where
 rd:RAt S g wr o
 left:wr.heap[q]?=some (.cells #[L] 3 (0,0))
 box:wr.heap[bx]?=some (.cells #[kind,n0,s,nv,kv] 48 (0,0))
 names:∃ css,Own Zg 9 (fun _=>True) B wr nv ns css
 vals:∃ css,Own Zc 48 (fun b=>B<=b/\some b≠nv.ownBlock) B wr kv ks css
 step:Zr (fun b=>b=g\/b=q) (min g q) w wr
 res:wr.heap[w.heap.size]?=some (.cells zV 48 (0,0))
 size:w<bx/\bx<B
 apart:g<w/\q<w
 base:B<=wr
theorem RSt.lt {S:Nat->Prop} {g q bx B:Nat} {w wr:World} {kind n0:Int} {s:Bs} {o:Option Bs} {L:Int} {nv kv:Value} {ns:List Bs} {ks:List Val} (h:RSt S g q bx B w wr kind n0 s o L nv kv ns ks):
  (∀ b,nv.ownBlock=some b->B<=b/\b<wr.heap.size)/\∀ b,kv.ownBlock=some b->B<=b/\b<wr.heap.size:=by
 obtain ⟨_,h1⟩:=h.names;obtain ⟨_,h2⟩:=h.vals
 exact ⟨fun b e=>h1.row.lt b e,fun b e=>h2.row.lt b e⟩
theorem RSt.read {S:Nat->Prop} {g q bx B:Nat} {w wr w2:World} {kind n0:Int} {s:Bs} {o o':Option Bs} {L L':Int} {nv kv:Value} {ns:List Bs} {ks:List Val} (h:RSt S g q bx B w wr kind n0 s o L nv kv ns ks)
  (hR:RAt S g w2 o') (hq:w2.heap[q]?=some (.cells #[L'] 3 (0,0))) (hG:Zr (fun b=>b=g\/b=q) (min g q) wr w2):RSt S g q bx B w w2 kind n0 s o' L' nv kv ns ks:=by
 have J:=h.size;have D:=h.apart;have I:=h.step.size
 obtain ⟨c1,h1⟩:=h.names;obtain ⟨c2,h2⟩:=h.vals
 exact ⟨hR,hq,(hG.keep bx (Z8 h.box) Qvu).trans h.box,⟨c1,F6 h1 (fun b hb A=>hG.keep b hb (by have:=(h1.row.lt b A).1;omega))⟩,
  ⟨c2,h2.move (Q9 _) (fun b hb A=>hG.keep b hb (by rcases A with A | A;have:=A.1;omega;have:=(h2.row.lt b A).1;omega))⟩,h.step.trans hG,(hG.keep w (Z8 h.res) Qvu).trans h.res,h.size,h.apart,Qc h.base hG.size⟩
theorem RSt.put {S:Nat->Prop} {g q bx B:Nat} {w wr:World} {kind n0 n0':Int} {s s':Bs} {o:Option Bs} {L:Int} {nv kv:Value} {ns:List Bs} {ks:List Val} (h:RSt S g q bx B w wr kind n0 s o L nv kv ns ks) (hS:∀ b,S b->b≠bx) (j:Nat) (u:Value)
  (hj:((#[.int .i64 kind,.int .i64 n0,.string ⟨s.toArray⟩,nv,kv]:Array Value).setIfInBounds j u)=#[.int .i64 kind,.int .i64 n0',.string ⟨s'.toArray⟩,nv,kv]):RSt S g q bx B w (wr.setCell ⟨bx,j,none⟩ u) kind n0' s' o L nv kv ns ks:=by
 have D:=h.size;have I:=h.apart;have J:=h.step.size
 have hG:Zr (fun b=>b=bx) bx wr (wr.setCell ⟨bx,j,none⟩ u):=(Zr.refl _ _ _).set bx j _ (.inl rfl) (Q9 _)
 obtain ⟨c1,h1⟩:=h.names;obtain ⟨c2,h2⟩:=h.vals
 refine ⟨h.rd.step hG (fun b hb e=>hS b hb e) Qvu,(hG.keep q (Z8 h.left) Qvu).trans h.left,by rw [Qi _ _ _ _ _ _ h.box];rw [hj],⟨c1,F6 h1 (fun b hb A=>hG.keep b hb (by have:=(h1.row.lt b A).1;omega))⟩,
  ⟨c2,h2.move (Q9 _) (fun b hb A=>hG.keep b hb (by rcases A with A | A;have:=A.1;omega;have:=(h2.row.lt b A).1;omega))⟩,h.step.set bx j u (.inr (Nat.le_of_lt D.1)) Qvu,(hG.keep w (Z8 h.res) Qvu).trans h.res,h.size,h.apart,Qc h.base hG.size⟩
theorem RSt.addName {S:Nat->Prop} {g q bx B:Nat} {w wr w1:World} {kind n0:Int} {s:Bs} {o:Option Bs} {L:Int} {nv kv nv':Value} {ns ns':List Bs} {ks:List Val} {css:List (List Value)} (h:RSt S g q bx B w wr kind n0 s o L nv kv ns ks) (hS:∀ b,S b->b<w.heap.size)
  (hO:Own Zg 9 (fun _=>True) B w1 nv' ns' css) (hL:Fg B wr w1 nv nv'):RSt S g q bx B w (w1.setCell ⟨bx,3,none⟩ nv') kind n0 s o L nv' kv ns' ks:=by
 have Y:=h.size;have V:=h.apart;have O:=h.step.size
 have D:=h.lt.1
 have N:=(hL.other bx (Z8 h.box) (fun e=>by have:=(D bx e.symm).1;omega)).trans h.box
 obtain ⟨c1,h1⟩:=h.names;obtain ⟨c2,M⟩:=h.vals
 have J:∀ b,b<wr.heap.size->b≠bx->some b≠nv.ownBlock->(w1.setCell ⟨bx,3,none⟩ nv').heap[b]?=wr.heap[b]?:=fun b hb U A=>by rw [Z9 U];exact hL.other b hb A
 have hG:Zr (fun b=>b=bx\/some b=nv.ownBlock) 0 wr (w1.setCell ⟨bx,3,none⟩ nv'):=⟨(hL.below.mono (Q8 _)).setCell (p:=⟨bx,3,none⟩) (Q8 _) _,fun b hb I=>J b hb (fun e=>I (.inl e)) (fun e=>I (.inr e))⟩
 refine ⟨h.rd.step hG (fun b hb e=>?_) (fun e=>?_),(J q (Z8 h.left) Qvu (fun e=>by have:=(D q e.symm).1;omega)).trans h.left,by rw [Qi _ _ _ _ _ _ N];rfl,⟨css,F6 hO (fun b hb A=>Z9 (show b≠bx by have:=(hO.row.lt b A).1;omega))⟩,⟨c2,?_⟩,
  ⟨h.step.below.trans ((hL.below.mono Qvu).setCell (p:=⟨bx,3,none⟩) (by show min g q<=bx;omega) _),fun b hb I=>(J b (Qa hb O) Qvu (fun e=>by have:=(D b e.symm).1;omega)).trans (h.step.keep b hb I)⟩,(J w (Z8 h.res) Qvu (fun e=>by have:=(D _ e.symm).1;omega)).trans h.res,h.size,h.apart,Qc h.base hG.size⟩
 ·have:=hS b hb
  rcases e with e | e
  ·omega
  have:=(D b e.symm).1;omega
 ·rcases e with e | e
  ·omega
  have:=(D g e.symm).1;omega
 have h3:Own Zc 48 (fun b=>B<=b/\some b≠nv'.ownBlock) B w1 kv ks c2:=by
  refine ⟨Tw M.row (fun b hb A=>hL.other b hb (fun e=>Yp M.row h1.row Qxv A e.symm)),?_⟩
  refine M.cs.move (fun b hb T=>hL.other b T hb.1.2) (fun b hb h=>⟨⟨h.1.1,fun e=>?_⟩,h.2⟩)
  rcases hL.at' with e' | ⟨g',e',hg'⟩
  ·exact h.1.2 (by rw [e,e'])
  rw [e'] at e;have:=Qb e;omega
 exact h3.move (Q9 _) (fun b hb A=>Z9 (show b≠bx by rcases A with A | A;have:=A.1;omega;have:=(h3.row.lt b A).1;omega))
theorem RSt.addKid {S:Nat->Prop} {g q bx B:Nat} {w wr w1:World} {kind n0:Int} {s:Bs} {o:Option Bs} {L:Int} {nv kv kv':Value} {ns:List Bs} {ks ks':List Val} {css:List (List Value)} (h:RSt S g q bx B w wr kind n0 s o L nv kv ns ks) (hS:∀ b,S b->b<w.heap.size)
  (hO:Own Zc 48 (fun b=>B<=b/\some b≠nv.ownBlock) B w1 kv' ks' css) (hL:Fg B wr w1 kv kv'):RSt S g q bx B w (w1.setCell ⟨bx,4,none⟩ kv') kind n0 s o L nv kv' ns ks':=by
 have V:=h.size;have U:=h.apart;have O:=h.step.size
 have D:=h.lt.2
 have N:=(hL.other bx (Z8 h.box) (fun e=>by have:=(D bx e.symm).1;omega)).trans h.box
 obtain ⟨c1,M⟩:=h.names;obtain ⟨c2,h2⟩:=h.vals
 have J:∀ b,b<wr.heap.size->b≠bx->some b≠kv.ownBlock->(w1.setCell ⟨bx,4,none⟩ kv').heap[b]?=wr.heap[b]?:=fun b hb T A=>by rw [Z9 T];exact hL.other b hb A
 have hG:Zr (fun b=>b=bx\/some b=kv.ownBlock) 0 wr (w1.setCell ⟨bx,4,none⟩ kv'):=⟨(hL.below.mono (Q8 _)).setCell (p:=⟨bx,4,none⟩) (Q8 _) _,fun b hb I=>J b hb (fun e=>I (.inl e)) (fun e=>I (.inr e))⟩
 refine ⟨h.rd.step hG (fun b hb e=>?_) (fun e=>?_),(J q (Z8 h.left) Qvu (fun e=>by have:=(D q e.symm).1;omega)).trans h.left,by rw [Qi _ _ _ _ _ _ N];rfl,
  ⟨c1,(F6 (F6 M (fun b hb A=>hL.other b hb (fun e=>Yp M.row h2.row Qxv A e.symm))) (fun b hb A=>Z9 (show b≠bx by have:=(M.row.lt b A).1;omega)))⟩,⟨css,hO.move (Q9 _) (fun b hb A=>Z9 (show b≠bx by rcases A with A | A;have:=A.1;omega;have:=(hO.row.lt b A).1;omega))⟩,
  ⟨h.step.below.trans ((hL.below.mono Qvu).setCell (p:=⟨bx,4,none⟩) (by show min g q<=bx;omega) _),fun b hb I=>(J b (Qa hb O) Qvu (fun e=>by have:=(D b e.symm).1;omega)).trans (h.step.keep b hb I)⟩,(J w (Z8 h.res) Qvu (fun e=>by have:=(D _ e.symm).1;omega)).trans h.res,h.size,h.apart,Qc h.base hG.size⟩
 ·have:=hS b hb
  rcases e with e | e
  ·omega
  have:=(D b e.symm).1;omega
 rcases e with e | e
 ·omega
 have:=(D g e.symm).1;omega
theorem RSt.grow {S:Nat->Prop} {g q bx B:Nat} {w wr w2:World} {kind n0:Int} {s:Bs} {o:Option Bs} {L:Int} {nv kv:Value} {ns:List Bs} {ks:List Val} (h:RSt S g q bx B w wr kind n0 s o L nv kv ns ks) (hb:Below wr wr w2):RSt S g q bx B w w2 kind n0 s o L nv kv ns ks:=
 h.read (h.rd.below hb) ((hb.block q (Z8 h.left)).trans h.left) (.of_below hb (Qxj h.rd.lt))
section
variable {P:Program} {T:Type}
theorem Kc {r:Rd T} (hk:0<r.k) {ops:Array Oper} {o:Oper} {a:Act} {K:Act->World->Prop} {Q:Exit->Act->World->Prop} {X:Prop} (hgd:o.guard=none) (s x:Operand) (t:TypeId)
  (ho:o.op=.call { callee:=.builtin .append,args:=#[s,x],argTypes:=#[t,t] }) (E:TypeId) (i:TypeInfo) (z:Value) (bytes:Nat) (ht:P.underlying t=some (.slice E)) (hi:P.info? E=some i) (hz:i.zero=some z)
  (hsize:i.size=r.k) (hby:i.bytes=bytes) (hzs:z.cells.size=r.k) (hb1:bytes<=1000) (S:Nat->Prop) (B:Nat) (w:World) (v:Value) (xs:List T) (css:List (List Value)) (cs:List Value) (y:T) (hs:a.eval s=v)
  (hO:Own r E S B w v xs css) (hx:a.eval x=.slice (some ⟨w,0,none⟩) 1 1) (hR:r.R (But S v) w cs y) (h1:∀ S w cs x,r.R S w cs x->∀ u ∈ cs,u.oneCell'=true) (hSn:S w) (n:Nat) (hn:xs.length=n) (hl:n<1000000) (hB:B<=w)
  (h:∀ p cap A I,Own r E S B I (.slice p (n+1) cap) (xs++[y]) A->Fg B w I v (.slice p (n+1) cap)->K (a.put o.dst (.slice p (n+1) cap)) I):
  if Region.wanted o (yielded ops a.tmps)=true then Oper.wp P o a (w.alloc (.cells cs.toArray E)) K Q else X:=by
 subst hn
 have D:Below w w (w.alloc (.cells cs.toArray E)):=(Qz _ _).alloc (Q9 _) _
 have hv:∀ g,v.ownBlock=some g->B<=g:=fun g hg=>(hO.row.lt g hg).1
 refine Re hk hgd s x t ho E i z bytes ht hi hz hsize hby hzs hb1 S B (w.alloc (.cells cs.toArray E)) v xs css [y] _ 1 1 hs (hO.below D) hx ⟨_,1,rfl,Qxz,fun _=>⟨w.heap.size,0,rfl,⟨hSn,fun e=>by have:=(hO.row.lt _ e.symm).2;omega⟩,Z8 (Qw w _),fun j u hj=>?_⟩⟩ h1 (by simp;omega) (by simp;omega) (fun p cap A I h2 h3 h4=>h p cap A I h2 (Ov h3 hv hB h4))
 have J:j=0:=by have:=(Qj hj).1;simp at this;omega
 subst J
 obtain rfl:y=u:=by simpa using hj
 refine ⟨cs,fun m c hc=>?_,r.mono (r.frame hR (.of_below D)) Qyv⟩
 rw [show 0+0*r.k+m=m by omega,Qk _ _ _ _ _ _ (Qw w _)]
 simpa using hc
end
theorem unzz_rng {z:Nat} (h:z<18446744073709551616):I64 (Hc z):=by unfold Hc I64;split <;> omega
theorem D9 (o:Option Bs):I64 (rdI o).1:=unzz_rng (Ar o)
theorem Dr {n:Int} {b:Bool} {L:Int} {o:Option Bs} {ns:List Bs} {ks:List Val} {oF:Option Bs} {LF:Int} (h:RdK n b L o ns ks oF LF) (hn:n<=0):ns=[]/\ks=[]/\oF=o/\LF=L:=by
 cases h with
 | stop _=>exact ⟨rfl,rfl,rfl,rfl⟩
 | kid h0 _ _ _=>omega
 | field h0 _ _ _ _=>omega
theorem own_strS {E:TypeId} {S S':Nat->Prop} {B:Nat} {w:World} {v:Value} {xs:List Bs} {css:List (List Value)} (h:Own Zg E S B w v xs css):Own Zg E S' B w v xs css:=⟨h.row,⟨h.cs.len,fun i c x hc hx=>h.cs.R i c x hc hx⟩⟩
theorem RdV.dec {L:Int} {o:Option Bs} {v:Val} {o':Option Bs} {L':Int} (h:RdV L o v o' L'):L'<=L - 1/\(0<L->0<=L'):=by
 refine RdV.rec (motive_1:=fun L _ _ _ L' _=>L'<=L - 1/\(0<L->0<=L')) (motive_2:=fun _ _ L _ _ _ _ L' _=>L'<=L/\(0<=L->0<=L')) ?_ ?_ ?_ ?_ ?_ ?_ ?_ ?_ h
 ·intros;omega
 ·intros;omega
 ·rintro L o M N o3 o4 s n J I L' _ _ _ _ ⟨A,D⟩;omega
 ·rintro L o M N o3 k n J I L' _ _ _ _ ⟨A,D⟩;omega
 ·intros;omega
 ·intros;omega
 ·rintro n L o M N v J I L1 L2 h0 hL _ _ ⟨A,D⟩ ⟨h3,h4⟩;omega
 rintro n L o o0 M N s v J I L1 L2 h0 hL _ _ _ ⟨A,D⟩ ⟨h3,h4⟩;omega
theorem Qjt {W:World} {R:Nat} {a0 a1 a2 a3 a4:Value}:Zr (fun b=>b=R) R W (Zp W R a0 a1 a2 a3 a4):=⟨Zf (Qz _ _) (Q9 _),fun _ _ hn=>Zi hn⟩
def SwIs (S:Nat->Prop) (g q bx B:Nat) (w:World) (L:Int) (o:Option Bs) (kind:Int) (t6:Value) (wx:World):Prop:=
 ∃ n n0 s o1,t6=.int .i64 n/\I64 n/\s.length<=1000000/\RSt S g q bx B w wx kind n0 s o1 (L - 1) (.slice none 0 0) (.slice none 0 0) [] [] /\
  ∀ ns ks oF LF,RdK n (kind==4) (L - 1) o1 ns ks oF LF->RdV L o (.mk kind n0 s ns ks) oF LF
theorem Pw {S:Nat->Prop} {g:Nat} {w:World} {o:Option Bs} (h:RAt S g w o):(rdT o).1.length<=1000000:=by
 obtain ⟨p,b,cap,e,_,_,h3,A⟩:=h
 obtain ⟨_,_,_,hl⟩:=h3.len
 by_cases he:e=0
 ·rw [if_pos he] at A
  subst A
  unfold rdT
  cases hq:D8 0 b with
  | none=>simp [rdU,hq]
  | some p=>
   have D:=(Qjw b 0 p.1 p.2 Qvu hq).1
   simp only [rdU,hq]
   split
   ·simp
   show (p.2.take p.1).length<=1000000
   rw [Qm]
   have:=congrArg List.length D
   rw [Ql] at this
   omega
 rw [if_neg he] at A;subst A;exact Q8 _
theorem RSt.reader {S:Nat->Prop} {g q bx B:Nat} {w wr w2:World} {kind n0:Int} {s:Bs} {o o':Option Bs} {L:Int} {nv kv:Value} {ns:List Bs} {ks:List Val} (h:RSt S g q bx B w wr kind n0 s o L nv kv ns ks) (hgq:g≠q) (hR:RAt S g w2 o') (hG:Zr (fun b=>b=g) g wr w2):RSt S g q bx B w w2 kind n0 s o' L nv kv ns ks:=
 h.read hR ((hG.keep q (Z8 h.left) (fun e=>hgq e.symm)).trans h.left) (hG.mono (fun b e=>.inl e) Qvu)
theorem N0 (K:Nat) (ih:∀ (L:Int) (S:Nat->Prop) (g q:Nat) (w:World) (o:Option Bs),L.toNat<K->0<L->L<=1000000->(∀ b,S b->b≠g/\b≠q/\b<w.heap.size)->g≠q->RAt S g w o->w.heap[q]?=some (.cells #[L] 3 (0,0)) ->
   Calls prog 87 #[Qxb g,Qxb q] w (Hh S g q w L o))
  (L:Int) (S:Nat->Prop) (g q:Nat) (w:World) (o:Option Bs) (hLK:L.toNat<=K) (hL0:-1000<=L) (hL1:L<=1000000) (hS:∀ b,S b->b≠g/\b≠q/\b<w.heap.size) (hgq:g≠q) (hR:RAt S g w o) (hq:w.heap[q]?=some (.cells #[L] 3 (0,0))):
  Calls prog 87 #[Qxb g,Qxb q] w (Hh S g q w L o):=by
 have dS:∀ b,S b->b≠g:=fun b h=>(hS b h).1
 have gF:=hR.lt
 have eV:=Z8 hq
 have dW:=Ze w (.cells zV 48)
 have eB:=Qq (U0 S g _ o dS (hR.below dW))
 obtain ⟨kind,hk⟩:=eX ((rdI o).1)
 obtain ⟨o0,ho⟩:=eX ((rdI o).2)
 rw [hk,ho] at eB
 have bS:=Qq (show rdI o=(kind,o0) from Prod.ext hk ho)
 have gO:=Qq (show I64 kind from hk ▸ D9 o)
 obtain ⟨HQ,HS,bI,eH,fS⟩:=Qxp hq hS dS dW ih
 clear hR hq hS dS hk ho dW ih
 go_enter func87,ntmps87
 go_upto_region 3 with (go_at_call 11;refine eB.out.mono ?_;rintro e w2 ⟨rfl,eM,dA⟩;have cD:=(dA.keep q (by simp;omega) (fun e=>hgq e.symm)).trans ((eH.out.block q eV).trans HQ.out);have dU:=Qk _ _ 0 _ _ _ cD;have gI:=fA 0 cD;simp only [Qf,Qg] at dU;have gJ:=Z8 cD;obtain ⟨fU,fV,eA⟩:=Qxn cD eM dA;have eY:w.heap.size<w2.heap.size:=(by have:=dA.size;simp at this;omega);clear cD eM dA)
 generalize hW:World.alloc _ _=W1
 have cC:Zr (fun b=>b=q) q w2 W1:=by
  rw [<- hW]
  have h1:Zr (fun b=>b=q) q w2 (w2.setCell ⟨q,0,none⟩ (.int .i64 (L - 1))):=(Zr.refl _ _ _).set q 0 _ (.inl rfl) (Q9 _)
  exact h1.trans (.of_below (Ze _ _) (by simp [World.setCell];omega))
 have eU:W1.heap[q]?=some (.cells #[.int .i64 (L - 1)] 3 (0,0)):=by
  rw [<- hW]
  refine ((Ze _ _).block q (by simp [World.setCell];omega)).trans ?_
  rw [Qi _ _ _ _ _ _ fU.out];rfl
 have dB:W1.heap[w2.heap.size]?=some (.cells #[kind,Qxc,Qxd,Qxe,Qxe] 48 (0,0)):=by
  rw [<- hW]
  have h1:=Qw (w2.setCell ⟨q,0,none⟩ (.int .i64 (L - 1))) (.cells #[kind,Qxc,Qxd,Qxe,Qxe] 48)
  have h2:(w2.setCell ⟨q,0,none⟩ (.int .i64 (L - 1))).heap.size=w2.heap.size:=by simp [World.setCell]
  rw [h2] at h1;exact h1
 have eK:Zr (fun b=>b=g\/b=q) (min g q) w W1:=((Zr.of_below eH.out Qvu).trans (eA.out.mono (fun b h=>.inl h) Qvu)).trans (cC.mono (fun b h=>.inr h) Qvu)
 have gE:=Z8 dB
 have dI:=(cC.keep w eY Qvu).trans ((eA.out.keep w Qxz Qvu).trans (Qw w (.cells zV 48)))
 have fY:=Qq (show RSt S g q w2 W1.heap.size w W1 kind 0 [] o0 (L - 1) (.slice none 0 0) (.slice none 0 0) [] [] from
  ⟨fV.out.step cC (fun b hb e=>(HS.out b hb).2.1 e) (fun e=>hgq e),eU,dB,⟨[],Own.nil _ _ _ _ _⟩,⟨[],Own.nil _ _ _ _ _⟩,eK,dI,⟨eY,gE⟩,⟨gF,eV⟩,Q9 _⟩)
 have fR:=Qq dB
 clear hW cC eU dB eK dU gI gJ dI
 go_cut [6] (fun t6 wx=>t6=.int .i64 0/\wx=W1)
 case first=>
  go_wp2_with fail
  go_meet
  exact ⟨rfl,rfl⟩
 obtain ⟨rfl,dX⟩:=hcut
 have dX:=dX.symm
 subst dX
 rename_i K0 hK0
 apply hK0
 apply wp_seq_k
 intro K1 gP
 go_cut [6] from 7 (fun t6 wx=>SwIs S g q w2 W1.heap.size w L o kind t6 wx)
 case first=>
  have gT:=rA0 fR.out
  have dG:∀ b,S b->b≠w2.heap.size:=fun b hb=>by have:=(HS.out b hb).2.2;omega
  have bA:=Qq dG
  have aD:=fY
  clear dG
  by_cases h0:kind=0
  ·subst h0
   obtain ⟨⟨n,o2⟩,hn⟩:∃ r,rdI o0=r:=⟨_,rfl⟩
   have HN:=Qq hn
   have T:=D9 o0
   rw [hn] at T
   have bB:=Qq T
   clear T hn
   go_wp2_with (go_at_call 11;refine (U0 S g _ _ bI.out aD.out.rd).mono ?_;rintro e w3 ⟨rfl,aB,Y⟩;have M:=Qq (aD.out.reader hgq aB Y);have J:=M.out.box;have dY:=rA1 J;have cJ:=fA 1 J;have cM:=Z8 J;clear aB Y J)
   go_meet
   rw [HN.out] at M |-
   exact ⟨0,n,[],o2,rfl,⟨Qvu,Qvu⟩,Qxz,M.out.put bA.out 1 _ rfl,fun ns ks oF LF h=>by
    obtain ⟨rfl,rfl,rfl,rfl⟩:=Dr h Qvu
    exact RdV.int Qvu bS.out HN.out⟩
  by_cases h1:kind=1
  ·subst h1
   obtain ⟨⟨x,o2⟩,hn⟩:∃ r,rdT o0=r:=⟨_,rfl⟩
   have HN:=Qq hn
   have aW:=Pw aD.out.rd
   rw [hn] at aW
   have bV:=Qq aW
   clear aW hn
   go_wp2_with (go_at_call 12;refine (Ki S g _ _ bI.out aD.out.rd).mono ?_;rintro e w3 ⟨rfl,aB,Y⟩;have M:=Qq (aD.out.reader hgq aB Y);have J:=M.out.box;have gM:=rA2 J;have eI:=fA 2 J;have cM:=Z8 J;clear aB Y J)
   go_meet
   rw [HN.out] at M |-
   exact ⟨0,0,x,o2,rfl,⟨Qvu,Qvu⟩,bV.out,M.out.put bA.out 2 _ rfl,fun ns ks oF LF h=>by
    obtain ⟨rfl,rfl,rfl,rfl⟩:=Dr h Qvu
    exact RdV.text bS.out HN.out⟩
  by_cases h2:kind=2
  ·subst h2
   obtain ⟨⟨n,o2⟩,hn⟩:∃ r,rdI o0=r:=⟨_,rfl⟩
   have HN:=Qq hn
   have T:=D9 o0
   rw [hn] at T
   have bB:=Qq T
   clear T hn
   go_wp2_with (go_at_call 11;refine (U0 S g _ _ bI.out aD.out.rd).mono ?_;rintro e w3 ⟨rfl,aB,Y⟩;have M:=Qq (aD.out.reader hgq aB Y);have J:=M.out.box;have dY:=rA1 J;have cJ:=fA 1 J;have cM:=Z8 J;clear aB Y J)
   go_meet
   rw [HN.out] at M |-
   exact ⟨0,n,[],o2,rfl,⟨Qvu,Qvu⟩,Qxz,M.out.put bA.out 1 _ rfl,fun ns ks oF LF h=>by
    obtain ⟨rfl,rfl,rfl,rfl⟩:=Dr h Qvu
    exact RdV.int Qvu bS.out HN.out⟩
  by_cases h3:kind=3
  ·subst h3
   obtain ⟨⟨x,o2⟩,hn⟩:∃ r,rdT o0=r:=⟨_,rfl⟩
   have HN:=Qq hn
   have aW:=Pw aD.out.rd
   rw [hn] at aW
   have bV:=Qq aW
   obtain ⟨⟨n,o3⟩,hm⟩:∃ r,rdI o2=r:=⟨_,rfl⟩
   have HM:=Qq hm
   have T:=D9 o2
   rw [hm] at T
   have bB:=Qq T
   clear aW hn T hm
   go_wp2_with (first | (go_at_call 11;refine (U0 S g _ _ bI.out (M.out.put bA.out 2 _ rfl).rd).mono ?_;rintro e w5 ⟨rfl,eN,eL⟩;have aT:=Qq ((M.out.put bA.out 2 _ rfl).reader hgq eN eL);clear eN eL) | (go_at_call 12;refine (Ki S g _ _ bI.out aD.out.rd).mono ?_;rintro e w3 ⟨rfl,aB,Y⟩;have M:=Qq (aD.out.reader hgq aB Y);have J:=M.out.box;have gM:=rA2 J;have eI:=fA 2 J;have cM:=Z8 J;clear aB Y J))
   go_meet
   simp only [HN.out,HM.out] at aT |-
   exact ⟨n,0,x,o3,rfl,bB.out,bV.out,aT.out,fun ns ks oF LF h=>RdV.make bS.out HN.out HM.out h⟩
  by_cases h4:kind=4
  ·subst h4
   obtain ⟨⟨n,o2⟩,hn⟩:∃ r,rdI o0=r:=⟨_,rfl⟩
   have HN:=Qq hn
   have T:=D9 o0
   rw [hn] at T
   have bB:=Qq T
   clear T hn
   go_wp2_with (go_at_call 11;refine (U0 S g _ _ bI.out aD.out.rd).mono ?_;rintro e w3 ⟨rfl,aB,Y⟩;have M:=Qq (aD.out.reader hgq aB Y);have J:=M.out.box;have dY:=rA1 J;have cJ:=fA 1 J;have cM:=Z8 J;clear aB Y J)
   go_meet
   rw [HN.out] at M |-
   exact ⟨n,0,[],o2,rfl,bB.out,Qxz,M.out,fun ns ks oF LF h=>RdV.kids Qvu bS.out HN.out h⟩
  by_cases h5:kind=5
  ·subst h5
   obtain ⟨⟨n,o2⟩,hn⟩:∃ r,rdI o0=r:=⟨_,rfl⟩
   have HN:=Qq hn
   have T:=D9 o0
   rw [hn] at T
   have bB:=Qq T
   clear T hn
   go_wp2_with (go_at_call 11;refine (U0 S g _ _ bI.out aD.out.rd).mono ?_;rintro e w3 ⟨rfl,aB,Y⟩;have M:=Qq (aD.out.reader hgq aB Y);have J:=M.out.box;have dY:=rA1 J;have cJ:=fA 1 J;have cM:=Z8 J;clear aB Y J)
   go_meet
   rw [HN.out] at M |-
   exact ⟨n,0,[],o2,rfl,bB.out,Qxz,M.out,fun ns ks oF LF h=>RdV.kids Qvu bS.out HN.out h⟩
  have dU:(kind==(0:Int))=false:=by simpa using h0
  have gW:(kind==(1:Int))=false:=by simpa using h1
  have cD:(kind==(2:Int))=false:=by simpa using h2
  have gX:(kind==(3:Int))=false:=by simpa using h3
  have eT:(kind==(4:Int))=false:=by simpa using h4
  have gY:(kind==(5:Int))=false:=by simpa using h5
  have HO:=Qq (show kind<0\/5<kind by omega)
  clear h0 h1 h2 h3 h4 h5
  go_wp2_with fail
  go_meet
  exact ⟨0,0,[],o0,rfl,⟨Qvu,Qvu⟩,Qxz,aD.out,fun ns ks oF LF h=>by
   obtain ⟨rfl,rfl,rfl,rfl⟩:=Dr h Qvu
   exact RdV.other HO.out bS.out⟩
 obtain ⟨n,n0,s,o1,rfl,hn,eZ,cL,bO⟩:=hcut
 obtain ⟨w4,rfl⟩:∃ w4,w4=wc:=⟨_,rfl⟩
 have fX:=Qq eZ
 have bA:=Qq (fun b (hb:S b)=>show b≠w2.heap.size by have:=(HS.out b hb).2.2;omega)
 have bU:=Qq (fun b (hb:S b)=>(HS.out b hb).2.2)
 obtain ⟨eF,dZ,bB⟩:=Qxn cL bO hn
 obtain ⟨i9,j1,j2,j3,j4⟩:=Y4 (P:=prog) (t:=9) (z:=.string ⟨#[]⟩) (n:=1) (b:=16) Qxx
 obtain ⟨HJ,dK,dL,dM⟩:=Qxo j1 j2 j3 j4
 clear j1 j2 j3 j4
 obtain ⟨i0,j1,j2,j3,j4⟩:=Y4 (P:=prog) (t:=48) (z:=.agg zV) (n:=5) (b:=80) Qxx
 obtain ⟨dO,dP,dQ,dR⟩:=Qxo j1 j2 j3 j4
 clear j1 j2 j3 j4 eZ cL bO hn
 go_wp2_with fail
 go_loopg [6] (L - 1).toNat (fun gk t6 wr=>∃ (n':Int) (k m:Nat) (Lj:Int) (oj:Option Bs) (p3 p4:Option Addr) (c3 c4:Nat) (ns:List Bs) (ks:List Val),t6=.int .i64 n'/\Aside (I64 n')/\Aside (gk=Lj.toNat/\ks.length=k/\ns.length=m/\m<=k/\(k:Int)+Lj<=L - 1/\-1001<=Lj/\k<=1000000)/\Aside (RSt S g q w2 W1.heap.size w wr kind n0 s oj Lj (.slice p3 m c3) (.slice p4 k c4) ns ks) /\
  Aside (∀ V U oF LF,RdK n' (kind==4) Lj oj V U oF LF->RdV L o (.mk kind n0 s (ns++V) (ks++U)) oF LF))
 case atStart=>exact ⟨n,0,0,L - 1,o1,none,none,0,0,[],[],rfl,bB.out,⟨rfl,rfl,rfl,Q9 _,Qvu,Qvu,Qvu⟩,eF.out,dZ.out⟩
 obtain ⟨n',k,m,Lj,oj,p3,p4,c3,c4,ns,ks,rfl,T,eS,cL,bO⟩:=hrel
 have aF:=Qq (show I64 n' from T)
 obtain ⟨eQ,dC,dD,gV,gS,gQ,gR⟩:=eS
 have HT:=Qq (show RSt S g q w2 W1.heap.size w wr kind n0 s oj Lj (.slice p3 m c3) (.slice p4 k c4) ns ks from cL)
 have aQ:=Qq (show ∀ V U oF LF,RdK n' (kind==4) Lj oj V U oF LF->RdV L o (.mk kind n0 s (ns++V) (ks++U)) oF LF from bO)
 have fC:=HT.out.left
 have q0:=rA0 fC
 have fB:=HT.out.box
 obtain ⟨b0,b1,b2,b3,b4⟩:=row5 fB
 have eD:=Qq HT.out.base
 obtain ⟨bT,bG,dJ⟩:=Qxn dC dD eQ
 clear cL bO fC fB T dC dD eQ
 by_cases hend:n'<=0\/Lj<=0
 ·have fW:=Qq (aQ.out [] [] oj Lj (.stop hend))
  have dF:=HT.out.res
  obtain ⟨r0,r1,r2,r3,r4⟩:=row5 dF
  obtain ⟨f0,f1,f2,f3,f4⟩:=frz5 dF
  have gA:=Qq dF
  clear dF
  go_wp2_with fail
  all_goals
   show bodyPost _ _ _ _ _ (Zp wr w kind n0 s (.slice p3 m c3) (.slice p4 k c4))
   have dC:=bT.out;have dD:=bG.out
   subst dC;subst dD
   have gZ:=HT.out.size
   have eW:=fW.out
   rw [List.append_nil,List.append_nil] at eW
   have eE:=Qq eW
   have hG:Zr (fun b=>b=w.heap.size) w wr (Zp wr w kind n0 s (.slice p3 ns.length c3) (.slice p4 ks.length c4)):=Qjt
   obtain ⟨d1,gC⟩:=HT.out.names
   obtain ⟨d2,gD⟩:=HT.out.vals
   have eO:Vz (fun b=>w.heap.size<b) wr (Zp wr w kind n0 s (.slice p3 ns.length c3) (.slice p4 ks.length c4)):=fun b hb gU=>Zi Qvu
   refine Q7 (v:=.agg #[kind,n0,s,.slice p3 ns.length c3,.slice p4 ks.length c4]) (by simp [results,results87,go_sem,Zd gA.out]) rfl ⟨.mk kind n0 s ns ks,_,oj,Lj,rfl,eE.out,Yi fX.out ((((own_strS (S':=fun _=>False) gC).sl (S':=fun b=>w.heap.size<b) Qvu (fun b hb=>Qvu) (fun b _ h=>h.elim)).frame eO).mono (fun b _ h=>Nat.le_of_lt h)) (((gD.sl (S':=fun b=>w.heap.size<b) Qvu (fun b hb=>Qvu) (fun b _ h=>by have:=h.1;omega)).frame eO).mono (fun b _ h=>Nat.le_of_lt h)),
    HT.out.rd.step hG (fun b hb e=>by have:=bU.out b hb;omega) Qvu,(Zi Qvu).trans HT.out.left,⟨Zf HT.out.step.below Qvu,fun b hb hg=>(Zi Qvu).trans (HT.out.step.keep b hb hg)⟩⟩
 have dE:0<n':=Qvu
 have aK:0<Lj:=Qvu
 have gN:=Qq hend
 clear hend
 go_upto_if 52 with fail
 go_cut [] from 40 to 67 (fun wx=>∃ (o2:Option Bs) (bP:Option Addr) (bL m':Nat) (bZ:List Bs),bZ.length=m'/\m'<=k+1/\RSt S g q w2 W1.heap.size w wx kind n0 s o2 Lj (.slice bP m' bL) (.slice p4 k c4) bZ ks /\
  ∀ v o3 L3 V U oF LF,RdV Lj o2 v o3 L3->RdK (n' - 1) (kind==4) L3 o3 V U oF LF->RdV L o (.mk kind n0 s (bZ++V) (ks++v::U)) oF LF)
 case first=>
  by_cases hk4:kind=4
  ·subst hk4
   obtain ⟨⟨x,o2⟩,hx⟩:∃ r,rdT oj=r:=⟨_,rfl⟩
   have aW:=Pw HT.out.rd
   rw [hx] at aW
   have HX:=Qq hx;have bV:=Qq aW
   have bJ:=Qq (fun W (hb:Below wr wr W)=>HT.out.grow hb)
   have dT:m<1000000:=Qvu
   have eG:=Qq (show ∀ W,Below wr wr W->Calls prog 12 #[Qxb g] W (Ei S g W (.string ⟨x.toArray⟩) o2) from fun W hb=>by
    have:=Ki S g W oj bI.out (bJ.out W hb).rd
    rw [hx] at this;exact this)
   clear hx aW
   go_upto_region 19 with fail
   refine wp_region_held_drew (S:=fun _=>True) Qxx trivial (fun A=>?_)
   refine tkD (v:=?_) 0 (fun w0 aZ=>?_) ?_;rotate_left
   ·(go_simp;try with_reducible rfl)
   refine tkD (v:=?_) 2 (fun w0 aZ=>?_) ?_;rotate_left
   ·(go_simp;try with_reducible rfl)
   refine rsD [1,3] ?_
   refine rcD (fun K D=>?_) (AllReadyH.cons (o:=⟨_,_,_,_,_,_⟩) rfl (fun K D=>?_) Qo)
   ·go_simp
    refine D.out _ _ trivial (fun A=>?_)
    clear D K
    try simp only [Act.put,List.setIfInBounds_toArray,List.set_cons_zero,List.set_cons_succ]
    refine rdD 3 (fun K D=>?_) Qo
    go_simp
    try dsimp only
    refine (eG.out _ (Qz _ _).drew).mono ?_
    rintro e w6 ⟨rfl,aV,Z⟩
    have I:=Qq ((bJ.out _ (Qz _ _).drew).reader hgq aV Z)
    have aE:=I.out.box
    have y3:=rA3 aE
    obtain ⟨aH,aU⟩:=I.out.names
    have aC:=Qq aU
    have aM:W1.heap.size<=w6.heap.size:=Qc eD.out Z.size
    have aI:w2.heap.size<w6.heap.size:=Z8 aE
    clear aV Z aE aU
    refine D.out _ _ trivial (fun A=>?_)
    clear D K
    try simp only [Act.put,List.setIfInBounds_toArray,List.set_cons_zero,List.set_cons_succ]
    refine rdD 4 (fun K D=>?_) Qo
    go_simp
    refine D.out _ _ trivial (fun A=>?_)
    clear D K
    try simp only [Act.put,List.setIfInBounds_toArray,List.set_cons_zero,List.set_cons_succ]
    refine rdD 5 (fun K D=>?_) Qo
    refine Kc (r:=Zg) Qxv Qxk (.tmp 54) (.tmp 57) 46 Qxk 9 i9 (.string ⟨#[]⟩) 16 underlying46 HJ.out dK.out dL.out dM.out rfl Qvu (fun _=>True) W1 w6 (.slice p3 m c3) ns aH [x] x Qxk aC.out Qxk ⟨rfl,bV.out⟩ Vq trivial m bG.out dT aM ?_
    intro p7 c7 bM w7 aA N
    have aS:=Qq aA;have aR:=Qq N
    have O:=(N.other w2 aI (fun e=>by have:=(aC.out.row.lt _ e.symm).1;have:=I.out.size;omega)).trans I.out.box
    have x3:=Qk _ _ 3 _ _ _ O;have f3:=fA 3 O
    simp only [Qf,Qg,Qh] at x3
    clear aA N O
    refine D.out _ _ trivial (fun A=>?_)
    clear D K
    try simp only [Act.put,List.setIfInBounds_toArray,List.set_cons_zero,List.set_cons_succ]
    refine tkD (v:=?_) 6 (fun w0 aZ=>?_) ?_;rotate_left
    ·(go_simp;try with_reducible rfl)
    refine rdD 7 (fun K D=>?_) Qo
    go_simp
    refine D.out _ _ trivial (fun A=>?_)
    clear D K
    try simp only [Act.put,List.setIfInBounds_toArray,List.set_cons_zero,List.set_cons_succ]
    refine wpAnyH_done Qxx ?_ _
    clear A
    go_wp2_with fail
    go_meet
    exact ⟨o2,p7,c7,m+1,ns++[x],by simp [bG.out],Qvu,I.out.addName bU.out aS.out aR.out,fun v o3 L3 V U oF LF hv hk=>by
     have:=aQ.out (x::V) (v::U) oF LF (.field dE aK HX.out hv hk)
     rw [List.append_assoc];exact this⟩
   go_simp
   try dsimp only
   refine (eG.out _ (Qz _ _).drew).mono ?_
   rintro e w6 ⟨rfl,aV,Z⟩
   have I:=Qq ((bJ.out _ (Qz _ _).drew).reader hgq aV Z)
   have aE:=I.out.box
   have y3:=rA3 aE
   obtain ⟨aH,aU⟩:=I.out.names
   have aC:=Qq aU
   have aM:W1.heap.size<=w6.heap.size:=Qc eD.out Z.size
   have aI:w2.heap.size<w6.heap.size:=Z8 aE
   clear aV Z aE aU
   refine D.out _ _ trivial (fun A=>?_)
   clear D K
   try simp only [Act.put,List.setIfInBounds_toArray,List.set_cons_zero,List.set_cons_succ]
   refine rsD [1,4] ?_
   refine rcD (fun K D=>?_) (AllReadyH.cons (o:=⟨_,_,_,_,_,_⟩) rfl (fun K D=>?_) Qo)
   ·go_simp
    refine D.out _ _ trivial (fun A=>?_)
    clear D K
    try simp only [Act.put,List.setIfInBounds_toArray,List.set_cons_zero,List.set_cons_succ]
    refine rdD 4 (fun K D=>?_) Qo
    go_simp
    refine D.out _ _ trivial (fun A=>?_)
    clear D K
    try simp only [Act.put,List.setIfInBounds_toArray,List.set_cons_zero,List.set_cons_succ]
    refine rdD 5 (fun K D=>?_) Qo
    refine Kc (r:=Zg) Qxv Qxk (.tmp 54) (.tmp 57) 46 Qxk 9 i9 (.string ⟨#[]⟩) 16 underlying46 HJ.out dK.out dL.out dM.out rfl Qvu (fun _=>True) W1 w6 (.slice p3 m c3) ns aH [x] x Qxk aC.out Qxk ⟨rfl,bV.out⟩ Vq trivial m bG.out dT aM ?_
    intro p7 c7 bM w7 aA N
    have aS:=Qq aA;have aR:=Qq N
    have O:=(N.other w2 aI (fun e=>by have:=(aC.out.row.lt _ e.symm).1;have:=I.out.size;omega)).trans I.out.box
    have x3:=Qk _ _ 3 _ _ _ O;have f3:=fA 3 O
    simp only [Qf,Qg,Qh] at x3
    clear aA N O
    refine D.out _ _ trivial (fun A=>?_)
    clear D K
    try simp only [Act.put,List.setIfInBounds_toArray,List.set_cons_zero,List.set_cons_succ]
    refine tkD (v:=?_) 6 (fun w0 aZ=>?_) ?_;rotate_left
    ·(go_simp;try with_reducible rfl)
    refine rdD 7 (fun K D=>?_) Qo
    go_simp
    refine D.out _ _ trivial (fun A=>?_)
    clear D K
    try simp only [Act.put,List.setIfInBounds_toArray,List.set_cons_zero,List.set_cons_succ]
    refine wpAnyH_done Qxx ?_ _
    clear A
    go_wp2_with fail
    go_meet
    exact ⟨o2,p7,c7,m+1,ns++[x],by simp [bG.out],Qvu,I.out.addName bU.out aS.out aR.out,fun v o3 L3 V U oF LF hv hk=>by
     have:=aQ.out (x::V) (v::U) oF LF (.field dE aK HX.out hv hk)
     rw [List.append_assoc];exact this⟩
   go_simp
   refine D.out _ _ trivial (fun A=>?_)
   clear D K
   try simp only [Act.put,List.setIfInBounds_toArray,List.set_cons_zero,List.set_cons_succ]
   refine rdD 1 (fun K D=>?_) Qo
   go_simp
   refine D.out _ _ trivial (fun A=>?_)
   clear D K
   try simp only [Act.put,List.setIfInBounds_toArray,List.set_cons_zero,List.set_cons_succ]
   refine rdD 5 (fun K D=>?_) Qo
   refine Kc (r:=Zg) Qxv Qxk (.tmp 54) (.tmp 57) 46 Qxk 9 i9 (.string ⟨#[]⟩) 16 underlying46 HJ.out dK.out dL.out dM.out rfl Qvu (fun _=>True) W1 w6 (.slice p3 m c3) ns aH [x] x Qxk aC.out Qxk ⟨rfl,bV.out⟩ Vq trivial m bG.out dT aM ?_
   intro p7 c7 bM w7 aA N
   have aS:=Qq aA;have aR:=Qq N
   have O:=(N.other w2 aI (fun e=>by have:=(aC.out.row.lt _ e.symm).1;have:=I.out.size;omega)).trans I.out.box
   have x3:=Qk _ _ 3 _ _ _ O;have f3:=fA 3 O
   simp only [Qf,Qg,Qh] at x3
   clear aA N O
   refine D.out _ _ trivial (fun A=>?_)
   clear D K
   try simp only [Act.put,List.setIfInBounds_toArray,List.set_cons_zero,List.set_cons_succ]
   refine tkD (v:=?_) 6 (fun w0 aZ=>?_) ?_;rotate_left
   ·(go_simp;try with_reducible rfl)
   refine rdD 7 (fun K D=>?_) Qo
   go_simp
   refine D.out _ _ trivial (fun A=>?_)
   clear D K
   try simp only [Act.put,List.setIfInBounds_toArray,List.set_cons_zero,List.set_cons_succ]
   refine wpAnyH_done Qxx ?_ _
   clear A
   go_wp2_with fail
   go_meet
   exact ⟨o2,p7,c7,m+1,ns++[x],by simp [bG.out],Qvu,I.out.addName bU.out aS.out aR.out,fun v o3 L3 V U oF LF hv hk=>by
    have:=aQ.out (x::V) (v::U) oF LF (.field dE aK HX.out hv hk)
    rw [List.append_assoc];exact this⟩
  have eT:(kind==(4:Int))=false:=by simpa using hk4
  go_wp2_with fail
  go_meet
  exact ⟨oj,p3,c3,m,ns,bG.out,Qvu,HT.out,fun v o3 L3 V U oF LF hv hk=>aQ.out V (v::U) oF LF (by rw [eT] at hk |-;exact .kid dE aK hv hk)⟩
 obtain ⟨o2,bP,bL,m',bZ,dH,cO,cB,cK⟩:=hcut
 obtain ⟨w5,rfl⟩:∃ w5,w5=wc:=⟨_,rfl⟩
 obtain ⟨aT,bR,cF⟩:=Qxn cB cK dH
 have bF:=Qq cB.base
 have bJ:=Qq (fun W (hb:Below w5 w5 W)=>aT.out.grow hb)
 have eC:=Qq (fun W (hb:Below w5 w5 W)=>fS.out Lj S g q W o2 Qvu aK Qvu (fun b h=>⟨(HS.out b h).1,(HS.out b h).2.1,by have:=(HS.out b h).2.2;have:=aT.out.step.size;have:=hb.size;omega⟩) hgq (bJ.out W hb).rd (bJ.out W hb).left)
 have cR:=cB.box
 have b0:=rA0 cR;have b4:=rA4 cR
 clear cB cK dH cR b1 b2 b3 q0
 go_upto_region 20 with fail
 refine wp_region_held_drew (S:=fun _=>True) Qxx trivial (fun A=>?_)
 refine tkD (v:=?_) 0 (fun w0 aZ=>?_) ?_;rotate_left
 ·(go_simp;try with_reducible rfl)
 refine tkD (v:=?_) 2 (fun w0 aZ=>?_) ?_;rotate_left
 ·(go_simp;try with_reducible rfl)
 refine tkD (v:=?_) 3 (fun w0 aZ=>?_) ?_;rotate_left
 ·(go_simp;try with_reducible rfl)
 refine rsD [1,4] ?_
 refine rcD (fun K D=>?_) (AllReadyH.cons (o:=⟨_,_,_,_,_,_⟩) rfl (fun K D=>?_) Qo)
 ·go_simp
  refine D.out _ _ trivial (fun A=>?_)
  clear D K
  try simp only [Act.put,List.setIfInBounds_toArray,List.set_cons_zero,List.set_cons_succ]
  refine rdD 4 (fun K D=>?_) Qo
  go_simp
  try dsimp only
  refine (eC.out _ (Qz _ _).drew).mono ?_
  rintro e w6 ⟨v,cv,o3,L3,rfl,cQ,bX,aV,cP,Z⟩
  obtain ⟨a3,l3,a4,l4,cN,_⟩:=Za.cells bX
  simp only [vcs] at cN
  subst cN
  have I:=Qq ((bJ.out _ (Qz _ _).drew).read aV cP Z)
  have aE:=I.out.box
  have y4:=rA4 aE
  obtain ⟨aH,aU⟩:=I.out.vals
  obtain ⟨aC,aY,cZ⟩:=Qxn aU cQ bX
  have aM:W1.heap.size<=w6.heap.size:=Qc bF.out Z.size
  have aI:w2.heap.size<w6.heap.size:=Z8 aE
  have eP:w5.heap.size<=w6.heap.size:=Z.size
  clear aV cP Z aE aU cQ bX
  refine D.out _ _ trivial (fun A=>?_)
  clear D K
  try simp only [Act.put,List.setIfInBounds_toArray,List.set_cons_zero,List.set_cons_succ]
  refine rdD 5 (fun K D=>?_) Qo
  go_simp
  refine D.out _ _ trivial (fun A=>?_)
  clear D K
  try simp only [Act.put,List.setIfInBounds_toArray,List.set_cons_zero,List.set_cons_succ]
  refine rdD 6 (fun K D=>?_) Qo
  refine Kc (r:=Zc) Qxv Qxk (.tmp 61) (.tmp 65) 40 Qxk 48 i0 (.agg zV) 80 underlying40 dO.out dP.out dQ.out dR.out rfl Qvu (fun b=>W1.heap.size<=b/\some b≠(Value.slice bP m' bL).ownBlock) W1 w6 (.slice p4 k c4) ks aH (Qxf v a3 l3 a4 l4) v Qxk aC.out Qxk (cZ.out.move (.refl _ _) (fun b _ hb=>⟨⟨by have:w5.heap.size<=b:=hb;have:=bF.out;omega,fun e=>by have h1:=(aT.out.lt.1 b e.symm).2;have:w5.heap.size<=b:=hb;omega⟩,fun e=>by have h1:=(aT.out.lt.2 b e.symm).2;have:w5.heap.size<=b:=hb;omega⟩)) Xg ⟨aM,fun e=>by have h1:=(I.out.lt.1 _ e.symm).2;omega⟩ k bT.out Qvu aM ?_
  intro p7 c7 bM w7 aA N
  have aS:=Qq aA;have aR:=Qq N
  have O:=(N.other w2 aI (fun e=>by have:=(aC.out.row.lt _ e.symm).1;have:=I.out.size;omega)).trans I.out.box
  have x4:=Qk _ _ 4 _ _ _ O;have f4:=fA 4 O
  simp only [Qf,Qg,Qh] at x4
  clear aA N O
  refine D.out _ _ trivial (fun A=>?_)
  clear D K
  try simp only [Act.put,List.setIfInBounds_toArray,List.set_cons_zero,List.set_cons_succ]
  refine tkD (v:=?_) 7 (fun w0 aZ=>?_) ?_;rotate_left
  ·(go_simp;try with_reducible rfl)
  refine rdD 8 (fun K D=>?_) Qo
  go_simp
  refine D.out _ _ trivial (fun A=>?_)
  clear D K
  try simp only [Act.put,List.setIfInBounds_toArray,List.set_cons_zero,List.set_cons_succ]
  refine wpAnyH_done Qxx ?_ _
  clear A
  have eR:n'<=9223372036854775807:=aF.out.2
  go_wp2_with fail
  go_roundg L3.toNat
  case measure=>
   have h:=aY.out.dec;have:=dJ.out;omega
  case rel=>
   have h:=aY.out.dec
   exact ⟨n' - 1,k+1,m',L3,o3,bP,p7,bL,c7,bZ,ks++[v],by go_num,⟨by have:=aF.out.1;omega,by have:=aF.out.2;omega⟩,⟨rfl,by simp [bT.out],cF.out,cO,Qvu,by have:=h.2 aK;omega,Qvu⟩,I.out.addKid bU.out aS.out aR.out,fun V U oF LF hk=>by
    have:=bR.out v o3 L3 V U oF LF aY.out hk
    rw [List.append_assoc];exact this⟩
 go_simp
 try dsimp only
 refine (eC.out _ (Qz _ _).drew).mono ?_
 rintro e w6 ⟨v,cv,o3,L3,rfl,cQ,bX,aV,cP,Z⟩
 obtain ⟨a3,l3,a4,l4,cN,_⟩:=Za.cells bX
 simp only [vcs] at cN
 subst cN
 have I:=Qq ((bJ.out _ (Qz _ _).drew).read aV cP Z)
 have aE:=I.out.box
 have y4:=rA4 aE
 obtain ⟨aH,aU⟩:=I.out.vals
 obtain ⟨aC,aY,cZ⟩:=Qxn aU cQ bX
 have aM:W1.heap.size<=w6.heap.size:=Qc bF.out Z.size
 have aI:w2.heap.size<w6.heap.size:=Z8 aE
 have eP:w5.heap.size<=w6.heap.size:=Z.size
 clear aV cP Z aE aU cQ bX
 refine D.out _ _ trivial (fun A=>?_)
 clear D K
 try simp only [Act.put,List.setIfInBounds_toArray,List.set_cons_zero,List.set_cons_succ]
 refine rsD [1,5] ?_
 refine rcD (fun K D=>?_) (AllReadyH.cons (o:=⟨_,_,_,_,_,_⟩) rfl (fun K D=>?_) Qo)
 ·go_simp
  refine D.out _ _ trivial (fun A=>?_)
  clear D K
  try simp only [Act.put,List.setIfInBounds_toArray,List.set_cons_zero,List.set_cons_succ]
  refine rdD 5 (fun K D=>?_) Qo
  go_simp
  refine D.out _ _ trivial (fun A=>?_)
  clear D K
  try simp only [Act.put,List.setIfInBounds_toArray,List.set_cons_zero,List.set_cons_succ]
  refine rdD 6 (fun K D=>?_) Qo
  refine Kc (r:=Zc) Qxv Qxk (.tmp 61) (.tmp 65) 40 Qxk 48 i0 (.agg zV) 80 underlying40 dO.out dP.out dQ.out dR.out rfl Qvu (fun b=>W1.heap.size<=b/\some b≠(Value.slice bP m' bL).ownBlock) W1 w6 (.slice p4 k c4) ks aH (Qxf v a3 l3 a4 l4) v Qxk aC.out Qxk (cZ.out.move (.refl _ _) (fun b _ hb=>⟨⟨by have:w5.heap.size<=b:=hb;have:=bF.out;omega,fun e=>by have h1:=(aT.out.lt.1 b e.symm).2;have:w5.heap.size<=b:=hb;omega⟩,fun e=>by have h1:=(aT.out.lt.2 b e.symm).2;have:w5.heap.size<=b:=hb;omega⟩)) Xg ⟨aM,fun e=>by have h1:=(I.out.lt.1 _ e.symm).2;omega⟩ k bT.out Qvu aM ?_
  intro p7 c7 bM w7 aA N
  have aS:=Qq aA;have aR:=Qq N
  have O:=(N.other w2 aI (fun e=>by have:=(aC.out.row.lt _ e.symm).1;have:=I.out.size;omega)).trans I.out.box
  have x4:=Qk _ _ 4 _ _ _ O;have f4:=fA 4 O
  simp only [Qf,Qg,Qh] at x4
  clear aA N O
  refine D.out _ _ trivial (fun A=>?_)
  clear D K
  try simp only [Act.put,List.setIfInBounds_toArray,List.set_cons_zero,List.set_cons_succ]
  refine tkD (v:=?_) 7 (fun w0 aZ=>?_) ?_;rotate_left
  ·(go_simp;try with_reducible rfl)
  refine rdD 8 (fun K D=>?_) Qo
  go_simp
  refine D.out _ _ trivial (fun A=>?_)
  clear D K
  try simp only [Act.put,List.setIfInBounds_toArray,List.set_cons_zero,List.set_cons_succ]
  refine wpAnyH_done Qxx ?_ _
  clear A
  have eR:n'<=9223372036854775807:=aF.out.2
  go_wp2_with fail
  go_roundg L3.toNat
  case measure=>
   have h:=aY.out.dec;have:=dJ.out;omega
  case rel=>
   have h:=aY.out.dec
   exact ⟨n' - 1,k+1,m',L3,o3,bP,p7,bL,c7,bZ,ks++[v],by go_num,⟨by have:=aF.out.1;omega,by have:=aF.out.2;omega⟩,⟨rfl,by simp [bT.out],cF.out,cO,Qvu,by have:=h.2 aK;omega,Qvu⟩,I.out.addKid bU.out aS.out aR.out,fun V U oF LF hk=>by
    have:=bR.out v o3 L3 V U oF LF aY.out hk
    rw [List.append_assoc];exact this⟩
 go_simp
 refine D.out _ _ trivial (fun A=>?_)
 clear D K
 try simp only [Act.put,List.setIfInBounds_toArray,List.set_cons_zero,List.set_cons_succ]
 refine rdD 1 (fun K D=>?_) Qo
 go_simp
 refine D.out _ _ trivial (fun A=>?_)
 clear D K
 try simp only [Act.put,List.setIfInBounds_toArray,List.set_cons_zero,List.set_cons_succ]
 refine rdD 6 (fun K D=>?_) Qo
 refine Kc (r:=Zc) Qxv Qxk (.tmp 61) (.tmp 65) 40 Qxk 48 i0 (.agg zV) 80 underlying40 dO.out dP.out dQ.out dR.out rfl Qvu (fun b=>W1.heap.size<=b/\some b≠(Value.slice bP m' bL).ownBlock) W1 w6 (.slice p4 k c4) ks aH (Qxf v a3 l3 a4 l4) v Qxk aC.out Qxk (cZ.out.move (.refl _ _) (fun b _ hb=>⟨⟨by have:w5.heap.size<=b:=hb;have:=bF.out;omega,fun e=>by have h1:=(aT.out.lt.1 b e.symm).2;have:w5.heap.size<=b:=hb;omega⟩,fun e=>by have h1:=(aT.out.lt.2 b e.symm).2;have:w5.heap.size<=b:=hb;omega⟩)) Xg ⟨aM,fun e=>by have h1:=(I.out.lt.1 _ e.symm).2;omega⟩ k bT.out Qvu aM ?_
 intro p7 c7 bM w7 aA N
 have aS:=Qq aA;have aR:=Qq N
 have O:=(N.other w2 aI (fun e=>by have:=(aC.out.row.lt _ e.symm).1;have:=I.out.size;omega)).trans I.out.box
 have x4:=Qk _ _ 4 _ _ _ O;have f4:=fA 4 O
 simp only [Qf,Qg,Qh] at x4
 clear aA N O
 refine D.out _ _ trivial (fun A=>?_)
 clear D K
 try simp only [Act.put,List.setIfInBounds_toArray,List.set_cons_zero,List.set_cons_succ]
 refine tkD (v:=?_) 7 (fun w0 aZ=>?_) ?_;rotate_left
 ·(go_simp;try with_reducible rfl)
 refine rdD 8 (fun K D=>?_) Qo
 go_simp
 refine D.out _ _ trivial (fun A=>?_)
 clear D K
 try simp only [Act.put,List.setIfInBounds_toArray,List.set_cons_zero,List.set_cons_succ]
 refine wpAnyH_done Qxx ?_ _
 clear A
 have eR:n'<=9223372036854775807:=aF.out.2
 go_wp2_with fail
 go_roundg L3.toNat
 case measure=>
  have h:=aY.out.dec;have:=dJ.out;omega
 case rel=>
  have h:=aY.out.dec
  exact ⟨n' - 1,k+1,m',L3,o3,bP,p7,bL,c7,bZ,ks++[v],by go_num,⟨by have:=aF.out.1;omega,by have:=aF.out.2;omega⟩,⟨rfl,by simp [bT.out],cF.out,cO,Qvu,by have:=h.2 aK;omega,Qvu⟩,I.out.addKid bU.out aS.out aR.out,fun V U oF LF hk=>by
   have:=bR.out v o3 L3 V U oF LF aY.out hk
   rw [List.append_assoc];exact this⟩
def U6 (bl:Nat) (k:Int):Bool:=decide (k<0)||decide ((bl:Int)<k)
def C0 (S:Nat->Prop) (g c6 bl:Nat) (w:World) (o:Option Bs) (f:Bool) (e:Ending) (w':World):Prop:=
 ∃ (k:Int) (o':Option Bs),rdI o=(k,o')/\e=.returned (.int .i64 (if U6 bl k then 0 else k))/\RAt S g w' o'/\w'.heap[c6]?=some (.cells #[.bool (f&&!(U6 bl k))] 4 (0,0))/\Zr (fun b=>b=g\/b=c6) (min g c6) w w'
theorem Qzg (S:Nat->Prop) (g c4 c1 c6 bl cap:Nat) (pb:Option Addr) (f:Bool) (w:World) (o:Option Bs) (hS:∀ b,S b->b≠g/\b≠c6) (h6g:c6≠g) (h1g:c1≠g) (hR:RAt S g w o)
  (h4:w.cell? ⟨c4,0,none⟩=some (.pointer (some ⟨g,0,none⟩))) (h1:w.cell? ⟨c1,0,none⟩=some (.slice pb bl cap)) (h6:w.heap[c6]?=some (.cells #[.bool f] 4 (0,0))):
  Calls prog 37 #[Qxb c4,Qxb c1,Qxb c6] w (C0 S g c6 bl w o f):=by
 have HI:=Qq (U0 S g w o (fun b h=>(hS b h).1) hR)
 obtain ⟨⟨k,o'⟩,hk⟩:∃ r,rdI o=r:=⟨_,rfl⟩
 rw [hk] at HI
 simp only at HI
 have aI:=Qv _ _ h1
 have aJ:=Z8 h6
 obtain ⟨HK,H1,H6,HS⟩:=Qxo hk h1 h6 (fun b h=>(hS b h).2)
 clear hk hR h1 h6 hS
 go_enter func37,ntmps37
 go_wp2_with fail
 refine HI.out.mono ?_
 rintro e w2 ⟨rfl,Z,M⟩
 have N:∀ b,b<w.heap.size->b≠g->w2.heap[b]?=w.heap[b]?:=M.keep
 have x1:w2.cell? ⟨c1,0,none⟩=some (.slice pb bl cap):=(World.cell?_of_block (N c1 aI h1g)).trans H1.out
 have A:=(N c6 aJ h6g).trans H6.out
 have f6:=fA 0 A
 have x6:=rA0 A
 obtain ⟨T,O,Y⟩:=Qxn Z M A
 clear Z M N A
 have J:Zr (fun b=>b=g\/b=c6) (min g c6) w (w2.setCell ⟨c6,0,none⟩ (.bool false)):=(O.out.mono (fun b h=>.inl h) Qvu).set c6 0 _ (.inl (.inr rfl)) Qvu
 have aA:(w2.setCell ⟨c6,0,none⟩ (.bool false)).heap[c6]?=some (.cells #[.bool false] 4 (0,0)):=by rw [Qi _ _ _ _ _ _ Y.out];rfl
 have aB:RAt S g (w2.setCell ⟨c6,0,none⟩ (.bool false)) o':=T.out.step ((Zr.refl (fun b=>b=c6) c6 w2).set c6 0 _ (.inl rfl) (Q9 _)) (fun b hb e=>HS.out b hb e) (fun e=>h6g e.symm)
 obtain ⟨D,U,V⟩:=Qxn J aA aB
 clear J aA aB
 by_cases h0:k<0
 ·have d0:decide (k<0)=true:=by simpa using h0
  have I:U6 bl k=true:=by unfold U6;rw [d0];rfl
  go_wp2_with fail
  go_ret
  exact ⟨k,o',HK.out,by rw [I];rfl,V.out,by rw [I,Bool.not_true,Bool.and_false];exact U.out,D.out⟩
 have d0:decide (k<0)=false:=by simpa using h0
 by_cases h2:(bl:Int)<k
 ·have d2:decide ((bl:Int)<k)=true:=by simpa using h2
  have I:U6 bl k=true:=by unfold U6;rw [d0,d2];rfl
  go_wp2_with fail
  go_ret
  exact ⟨k,o',HK.out,by rw [I];rfl,V.out,by rw [I,Bool.not_true,Bool.and_false];exact U.out,D.out⟩
 have d2:decide ((bl:Int)<k)=false:=by simpa using h2
 have I:U6 bl k=false:=by unfold U6;rw [d0,d2];rfl
 go_wp2_with fail
 go_ret
 exact ⟨k,o',HK.out,by rw [I];rfl,T.out,by rw [I,Bool.not_false,Bool.and_true];exact Y.out,O.out.mono (fun b h=>.inl h) Qvu⟩
end Go.Proofs.YtlanplhphiikjaaGreatDoor
