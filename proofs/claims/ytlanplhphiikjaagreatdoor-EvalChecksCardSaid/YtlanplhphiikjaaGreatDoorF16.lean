import Derived.Test.YtlanplhphiikjaaGreatDoorF09
import Derived.Test.YtlanplhphiikjaaGreatDoorF14
import Derived.Test.YtlanplhphiikjaaGreatDoorF11
set_option maxRecDepth 100000
set_option maxHeartbeats 400000000
namespace Go.Proofs.YtlanplhphiikjaaGreatDoor
open Go.RowKit Go.Shelf Go.Lib Tryz
def MAt (g m:Nat) (w:World) (l:Nat):Prop:=
 w.heap[g]?=some (.cells #[Ot,Ot,.map (some m),(l:Int),On] 201 (0,0))/\w.heap[m]?=some (.map #[] 0)/\l<=1048576
theorem MAt.lt {g m:Nat} {w:World} {l:Nat} (h:MAt g m w l):g<w.heap.size:=Z3 h.1
theorem MAt.ne {g m:Nat} {w:World} {l:Nat} (h:MAt g m w l):m≠g:=by
 rintro rfl
 have:=h.1.symm.trans h.2.1
 simp at this
theorem MAt.step {g m:Nat} {w w':World} {l:Nat} {G:Nat->Prop} {B:Nat} (h:MAt g m w l) (hs:Z6 G B w w') (hg:¬ G g) (hm:¬ G m):MAt g m w' l:=
 ⟨(hs.keep g h.lt hg).trans h.1,(hs.keep m (Z3 h.2.1) hm).trans h.2.1,h.2.2⟩
theorem MAt.below {g m:Nat} {w w':World} {l:Nat} (h:MAt g m w l) (hb:Below w w w'):MAt g m w' l:=
 ⟨(hb.block g h.lt).trans h.1,(hb.block m (Z3 h.2.1)).trans h.2.1,h.2.2⟩
def Gf (c:Int):List PanicEntry:=[{ v:=.iface 210 (.agg #[c]),recovered:=false }]
def Fz (S:Nat->Prop) (g m:Nat) (w:World):Except Int (Val × Nat)->Ending->World->Prop
 | .ok (v,l)=>fun e w'=>∃ cs,e=.returned (.agg cs.toArray)/\Z5 (fun b=>b≠g/\(S b\/w.heap.size<=b)) w' cs v/\MAt g m w' l/\Z6 (fun b=>b=g) g w w'
 | .error c=>fun e w'=>e=.panicked (Gf c)/\Z6 (fun b=>b=g) g w w'
theorem Vn {S S':Nat->Prop} {g m R l:Nat} {w wc w1:World} {v:Val} {p3 p4:Option Addr} {k3 k4:Nat} {x0 x1 x2 x3 x4:Value} {t:TypeId} (hR:w<=R) (hRc:R<wc) (hwc:Z6 (fun b=>b=g) g w wc) (hS:∀ b,S' b->S b/\b<w.heap.size)
  (hv:Z5 (fun b=>b≠g/\(S' b\/wc.heap.size<=b)) w1 (vcs v p3 k3 p4 k4) v) (hM:MAt g m w1 l) (hs:Z6 (fun b=>b=g) g wc w1) (hr:w1.heap[R]?=some (.cells #[x0,x1,x2,x3,x4] t (0,0))) (hg:g<w):
  Z5 (fun b=>b≠g/\(S b\/w.heap.size<=b)) (Pk w1 R v p3 k3 p4 k4) (vcs v p3 k3 p4 k4) v /\
   MAt g m (Pk w1 R v p3 k3 p4 k4) l /\
   Z6 (fun b=>b=g) g w (Pk w1 R v p3 k3 p4 k4):=by
 have D:=hwc.size
 refine ⟨hv.move (fun b hb _=>Za ?_) (fun b _ h=>⟨h.1,?_⟩),⟨(Za Oa).trans hM.1,(Za ?_).trans hM.2.1,hM.2.2⟩,?_⟩
 ·rintro rfl
  rcases hb.2 with h | h
  ·have:=(hS _ h).2;omega
  omega
 ·rcases h.2 with h | h
  ·exact .inl (hS _ h).1
  exact .inr Oa
 ·rintro rfl
  have:=hr.symm.trans hM.2.1
  simp at this
 have h1:Z6 (fun b=>b=g) g w w1:=hwc.trans hs
 refine ⟨Z7 h1.below Oa,fun b hb hn=>(Za Oa).trans (h1.keep b hb hn)⟩
theorem Gd (c:Int) (w:World):Calls prog 208 #[c] w fun e w'=>e=.panicked (Gf c)/\w=w':=by
 go_enter func208,ntmps208
 go_wp2_with fail
 exact ⟨rfl,rfl,rfl⟩
theorem U2 (w:World):Calls prog 155 #[.bool true] w fun e w'=>e=.returned (.tuple #[])/\w=w':=by
 go_enter func155,ntmps155
 go_wp2_with fail
 go_end0
 exact ⟨rfl,rfl⟩
theorem eneed_no (w:World):Calls prog 155 #[.bool false] w fun e w'=>e=.panicked (Gf 9)/\w=w':=by
 have HF:=Qq (Gd 9)
 go_enter func155,ntmps155
 go_wp2_with (go_at_call 208;refine (HF.out _).mono ?_;rintro e w' ⟨rfl,rfl⟩)
 exact ⟨rfl,rfl,rfl⟩
theorem Kk (b:Bool) (S:Nat->Prop) (w:World):Calls prog 216 #[.bool b] w (J5 S w (Yb b)):=by
 cases b
 ·go_enter func216,ntmps216
  go_wp2_with fail
  generalize D:w.alloc _=W
  have hb:=eqB D (Zb _ _)
  have G:=eqH (b:=w.heap.size) D (Qw _ _)
  refine Q2 (v:=.agg #[.int .i64 2,On,Oo,Ot,Ot]) (by simp [results,results216,go_sem,Qk _ _ _ _ _ _ G]) rfl ⟨_,rfl,Xn _ _ false,hb⟩
 go_enter func216,ntmps216
 go_wp2_with fail
 generalize D:w.alloc _=W
 have hb:=eqB D (Zb _ _)
 have G:=eqH (b:=w.heap.size) D (Qw _ _)
 refine Q2 (v:=.agg #[.int .i64 2,.int .i64 1,Oo,Ot,Ot]) (by simp [results,results216,go_sem,Qk _ _ _ _ _ _ G]) rfl ⟨_,rfl,Xn _ _ true,hb⟩
theorem Jt (g m:Nat) (w:World) (l:Nat) (h:MAt g m w (l+1)):
  Calls prog 152 #[Om g] w fun e w'=>e=.returned (.tuple #[])/\MAt g m w' l/\Z6 (fun b=>b=g) g w w':=by
 have hn:=h.ne
 obtain ⟨G,h2,h3⟩:=h
 have c3:=Qk _ _ 3 _ _ _ G;have f3:=fA 3 G
 simp only [Qa,Qb,Qc] at c3
 obtain ⟨n,D⟩:∃ n:Int,((l+1:Nat):Int)=n:=⟨_,rfl⟩
 have hl:(l:Int)=n - 1:=Oa
 have hp:0<n:=Oa
 have hq:n<=1048576:=Oa
 have hd:decide (n<=0)=false:=by simpa using hp
 obtain ⟨H1,H2,HL,HN,I⟩:=Pw G h2 hl hn D
 rw [D] at c3
 clear G h2 hl hn D
 go_enter func152,ntmps152
 go_wp2_with fail
 go_end0
 refine ⟨rfl,⟨?_,(Z4 HN.out).trans H2.out,Oa⟩,(Z6.refl _ _ _).set g 3 _ (.inl rfl) (Q4 _)⟩
 rw [Qd _ _ _ _ _ _ H1.out,HL.out]
 rfl
theorem eburn_no (g m:Nat) (w:World) (h:MAt g m w 0):
  Calls prog 152 #[Om g] w fun e w'=>e=.panicked (Gf 19)/\w=w':=by
 have HF:=Qq (Gd 19)
 obtain ⟨h1,h2,h3⟩:=h
 have c3:=rA3 h1
 rw [show ((0:Nat):Int)=0 from rfl] at c3
 clear h1 h2
 go_enter func152,ntmps152
 go_wp2_with (go_at_call 208;refine (HF.out _).mono ?_;rintro e w' ⟨rfl,rfl⟩)
 exact ⟨rfl,rfl,rfl⟩
def Zs:Rd (Bs × Val) where
 k:=6
 R S w cs x:=∃ D,cs=sv x.1::D/\x.1.length<=1000000/\Z5 S w D x.2
 len:=by rintro S w cs x ⟨D,rfl,_,h⟩;simp [h.length]
 frame:=by rintro S w w' cs x ⟨D,rfl,G,I⟩ hA;exact ⟨D,rfl,G,I.move hA P8⟩
 mono:=by rintro S S' w cs x ⟨D,rfl,G,I⟩ hS;exact ⟨D,rfl,G,I.move (.refl _ _) hS⟩
theorem Sl.bnd {S:Nat->Prop} {w:World} {p:Option Addr} {n cap:Nat} {xs:List (Bs × Val)} (h:Sl Zs S w (.slice p n cap) xs) {i:Nat} {x:Bs × Val} (hx:xs[i]?=some x):
  ∃ b off p3 k3 p4 k4,p=some ⟨b,off,none⟩/\b<w.heap.size/\Z5 S w (vcs x.2 p3 k3 p4 k4) x.2/\Oi w b (off+i*6) (.string ⟨x.1.toArray⟩)/\Oi w b (off+i*6+1) (.int .i64 x.2.kind)/\Oi w b (off+i*6+2) (.int .i64 x.2.n) /\
   Oi w b (off+i*6+3) (.string ⟨x.2.s.toArray⟩)/\Oi w b (off+i*6+4) (.slice p3 x.2.names.length k3)/\Oi w b (off+i*6+5) (.slice p4 x.2.kids.length k4):=by
 obtain ⟨p',c',h1,_,h3⟩:=h
 simp only [Ql] at h1
 obtain ⟨rfl,_,_⟩:=h1
 obtain ⟨b,off,e,_,hb,hc⟩:=h3 (by intro e;subst e;simp at hx)
 obtain ⟨cs,D,vs,rfl,_,h5⟩:=hc i x hx
 obtain ⟨p3,k3,p4,k4,rfl,_⟩:=Z5.cells h5
 exact ⟨b,off,p3,k3,p4,k4,e,hb,h5,D 0 _ rfl,D 1 _ rfl,D 2 _ rfl,D 3 _ rfl,D 4 _ rfl,D 5 _ rfl⟩
theorem zeroB (w:World):(zeroValue 4).run prog w=.ok (.bool false) w:=Og
theorem Dk (m:Nat) (s:ByteArray) (w:World) (h:w.heap[m]?=some (.map #[] 0)):(Instr.lookup 199 (.map (some m)) (.string s) false).run prog w=.ok (.bool false) w:=by
 have hc:(Instr.checkKey true 10000 9 (.string s)).run prog w=.ok () w:=MapKept.run_checkKey (P:=prog) (w:=w) (k:=.string s) underlying9 (by simp [MapKept.IsKey]) true 9999
 have hf:Instr.findNow .string (.string s) ([]:List MapEntry) 0=some none:=rfl
 have hz:=zeroB w
 have hg:(getObj m).run prog w=.ok (.map #[] 0) w:=by simp [getObj,Sem.run,h]
 simp [Instr.lookup,Instr.findKey,go_sem,hg,hc,hf]
def Kq (nm:Bs) (env:List (Bs × Val)) (l:Nat):Except Int (Val × Nat):=match Xq nm env.reverse with
 | some v=>.ok (v,l)
 | none=>.error 9
theorem evar_any (S0:Nat->Prop) (g m:Nat) (ms:ByteArray) (ev:Value) (nm:Bs) (env:List (Bs × Val)) (l:Nat) (w:World) (he0:Sl Zs S0 w ev env) (hS0:∀ b,S0 b->b≠g) (hM:MAt g m w l):
  Calls prog 218 #[Om g,.agg #[.string ms,ev],nm] w (Fz S0 g m w (Kq nm env l)):=by
 have he:=he0.up
 have HN:=Qq eneed_no
 obtain ⟨p,cap,rfl,hl⟩:=he.len
 have aN:=hM.lt
 have T:∀ W,Below w w W->(Instr.lookup 199 (.map (some m)) (.string ⟨nm.toArray⟩) false).run prog W=.ok (.bool false) W:=fun W hb=>Dk m _ W (hM.below hb).2.1
 obtain ⟨o,ho⟩:=eX (Xq nm env.reverse)
 unfold Kq
 rw [ho]
 obtain ⟨HE,HM,HO,HS,aD⟩:=Pw he hM ho hS0 T
 obtain ⟨n,hn⟩:=eX (env.length)
 rw [hn] at HE hl |-
 have L:=Qq hn
 clear he he0 hM ho hS0 T hn
 go_enter func218,ntmps218
 go_upto_region 1 with fail
 generalize G:(w.alloc _).alloc _=w2
 have I:=eqB G (Zl _ _ _)
 have h0:=eqH (b:=w.heap.size) G (Q0 _ _ _)
 have h1:=eqH (b:=w.heap.size+1) G (Q1 _ _ _)
 have N:=HE.out.below I
 have O:=HM.out.below I
 have s1:=rA1 h0
 obtain ⟨U,HB,aC,D⟩:=Py h1 I N O
 clear h0 h1 I N O G HE HM
 go_wp2_with fail
 go_loop [7] (fun i=>∃ k:Nat,k<=n/\i=.int .i64 ((k:Int) - 1)/\Aside (Xq nm (env.take k).reverse=o)) (fun i=>(intOf i+1).toNat)
 case atStart=>exact ⟨n,Q4 _,by go_num,by rw [show env.take n=env from by rw [<- L.out];exact List.take_length];exact HO.out⟩
 obtain ⟨k,hk,rfl,A⟩:=hrel
 cases k with
 | zero=>
  have J:o=none:=by rw [<- A.out];rfl
  subst J
  have c2:=rA2 D.out.1
  have aQ:=aD.out w2 HB.out
  rw [show (((0:Nat):Int) - 1)=-1 from rfl]
  go_wp2_with (go_at_call 155;refine (HN.out _).mono ?_;rintro e w' ⟨rfl,rfl⟩)
  exact ⟨rfl,rfl,Z6.of_below HB.out Oa⟩
 | succ j=>
  rw [show (((j+1:Nat):Int) - 1)=(j:Int) from by omega]
  have aO:(0:Int)<=(j:Int):=Oa
  have aP:(j:Int)<(n:Int):=Oa
  obtain ⟨x,Y⟩:∃ x,env[j]?=some x:=⟨_,Qx (by rw [L.out];omega)⟩
  obtain ⟨b,aR,p3,k3,p4,k4,rfl,hb,hv,x0,x1,x2,x3,x4,x5⟩:=aC.out.bnd Y
  have V:Xq nm (x::(env.take j).reverse)=o:=by
   have:=A.out
   rw [List.take_add_one,Y,List.reverse_append] at this
   exact this
  have HV:=Qq hv
  by_cases hxn:x.1=nm
  ·have J:o=some x.2:=by
    have h:(if x.1=nm then some x.2 else Xq nm (env.take j).reverse)=o:=V
    rw [if_pos hxn] at h;exact h.symm
   subst J
   have hq:(x.1==nm)=true:=by simpa using hxn
   have fz:=fun j=>Qg _ _ j _ _ U.out
   obtain ⟨f0,f1,f2,f3,f4⟩:=P3 fz
   have rr:=fun j=>Qk _ _ j _ _ _ U.out
   obtain ⟨r0,r1,r2,r3,r4⟩:=P3 rr
   simp only [Qa,Qb,Qc] at r0 r1 r2 r3 r4
   clear V Y hv hxn fz rr
   go_wp2_with fail
   show bodyPost _ _ _ _ _ (Zn w2 (w+1) (.int .i64 x.2.kind) (.int .i64 x.2.n) (.string ⟨x.2.s.toArray⟩) (.slice p3 x.2.names.length k3) (.slice p4 x.2.kids.length k4))
   have aH:Below w w (Zn w2 (w+1) (.int .i64 x.2.kind) (.int .i64 x.2.n) (.string ⟨x.2.s.toArray⟩) (.slice p3 x.2.names.length k3) (.slice p4 x.2.kids.length k4)):=Z7 HB.out Oa
   refine Q2 (v:=.agg #[.int .i64 x.2.kind,.int .i64 x.2.n,.string ⟨x.2.s.toArray⟩,.slice p3 x.2.names.length k3,.slice p4 x.2.kids.length k4]) (by simp [results,results218,go_sem,Z8 U.out]) rfl ⟨_,rfl,?_,⟨(Za Oa).trans D.out.1,(Za (by have:=(D.out.2.1);intro e;subst e;rw [U.out] at this;cases this)).trans D.out.2.1,D.out.2.2⟩,Z6.of_below aH Oa⟩
   exact Z5.move HV.out (fun b hb _=>Za (by have:=hb.2;omega)) (fun b _ h=>⟨HS.out b h.1,.inl h.1⟩)
  have M:Xq nm (env.take j).reverse=o:=by
   have h:(if x.1=nm then some x.2 else Xq nm (env.take j).reverse)=o:=V
   rw [if_neg hxn] at h;exact h
  have hq:(x.1==nm)=false:=by simpa using hxn
  have Z:=Qq M
  clear V M Y hv hxn
  go_wp2_with fail
  go_round
  case measure=>simp [intOf]
  case rel=>exact ⟨j,Oa,rfl,Z.out⟩
def SimO (e:Ex) (env:List (Bs × Val)) (l:Nat) (r:Except Int (Val × Nat)):Prop:=∀ (S0 S1:Nat->Prop) (g m:Nat) (ms:ByteArray) (ev:Value) (cs:List Value) (w:World),Yj S0 w cs e->Sl Zs S1 w ev env->(∀ b,S0 b->b≠g)->(∀ b,S1 b->b≠g)->MAt g m w l ->
 Calls prog 162 #[Om g,.agg #[.string ms,ev],cs] w (Fz S1 g m w r)
def Vx (e:Ex) (env:List (Bs × Val)) (l:Nat) (r:Except Int (Val × Nat)):Prop:=∀ (S0 S1:Nat->Prop) (g m:Nat) (ms:ByteArray) (ev:Value) (cs:List Value) (w:World),Yj S0 w cs e->Sl Zs S1 w ev env->(∀ b,S0 b->b≠g)->(∀ b,S1 b->b≠g)->MAt g m w l ->
 Calls prog 107 #[Om g,.agg #[.string ms,ev],cs] w (Fz S1 g m w r)
def No (ev:Value) (e:Ex) (env:List (Bs × Val)) (l:Nat) (r:Except Int (Val × Nat)):Prop:=∀ (S0 S1:Nat->Prop) (g m:Nat) (ms:ByteArray) (cs:List Value) (w:World),Yj S0 w cs e->Sl Zs S1 w ev env->(∀ b,S0 b->b≠g)->(∀ b,S1 b->b≠g)->MAt g m w l ->
 Calls prog 107 #[Om g,.agg #[.string ms,ev],cs] w (Fz S1 g m w r)
theorem Vx.at {ev:Value} {e:Ex} {env:List (Bs × Val)} {l:Nat} {r:Except Int (Val × Nat)} (h:Vx e env l r):No ev e env l r:=fun S0 S1 g m ms cs w=>h S0 S1 g m ms ev cs w
theorem Dm {B:Nat} {w w1:World} {v v1:Value} (hg:w.grownBy w1 v.ownBlock) (hv:∀ g,v.ownBlock=some g->B<=g) (hB:B<=w) (hat:v1.ownBlock=v.ownBlock\/v1.ownBlock=some w.heap.size):Gz B w w1 v v1:=by
 have hb:Below B w w1:=(Qz B w).grown hg hB hv
 refine ⟨hb,hb.size,fun b D G=>hg.block b D (fun e=>G e),?_⟩
 rcases hat with h | h
 ·exact .inl h
 exact .inr ⟨_,h,Q4 _⟩
section
variable {P:Program} {T:Type}
theorem J1 (w:World) (base:Nat) (t ty e:TypeId) (i:TypeInfo) (size:Nat) (ht:P.underlying t=some (.slice e)) (hi:P.info? e=some i)
  (v:Value) (n:Nat) (xs:List Value) (hown:w.ownsRow base e size v n xs) (c:Nat):
  (Builtin.append_ #[t,t] ty #[v,.slice none 0 c]).run P w=.ok v w:=by
 rcases hown.2 with ⟨rfl,rfl⟩ | ⟨g,cap,G,rfl,_,_,D,_⟩
 ·simp [Builtin.append_,run_underlying ht,sizeOf,typeInfo,hi,Builtin.lenOf,Builtin.firstCells]
 simp [Builtin.append_,run_underlying ht,sizeOf,typeInfo,hi,Builtin.lenOf,Builtin.firstCells,D,storeCells]
theorem U8 {w:World} {ops:Array Oper} {rest:List Oper} {o:Oper} {a:Act} {Q:Exit->Act->World->Prop} (hgd:o.guard=none) (s x:Operand) (t:TypeId)
  (ho:o.op=.call { callee:=.builtin .append,args:=#[s,x],argTypes:=#[t,t] })
  (base:Nat) (e:TypeId) (i:TypeInfo) (size:Nat) (ht:P.underlying t=some (.slice e)) (hi:P.info? e=some i)
  (v:Value) (n:Nat) (xs:List Value) (hs:a.eval s=v) (hown:w.ownsRow base e size v n xs) (c:Nat) (hx:a.eval x=.slice none 0 c)
  (h:wpList P ops Q rest (a.put o.dst v) w):wpList P ops Q (o::rest) a w:=by
 refine wpList_plain hgd fun K hK=>?_
 have D:=J1 (P:=P) w base t o.type e i size ht hi v n xs hown c
 unfold Oper.wp
 simp [execOp,ho,resolve,invoke,builtin,hs,hx,D,Result.andThen]
 exact hK _ _ h
theorem Ej {r:Rd T} (hk:0<r.k) (h1:∀ S w cs x,r.R S w cs x->∀ u ∈ cs,u.oneCell'=true) {ops:Array Oper} {rest:List Oper} {o:Oper} {a:Act} {Q:Exit->Act->World->Prop} (hgd:o.guard=none) (s x:Operand) (t:TypeId)
  (ho:o.op=.call { callee:=.builtin .append,args:=#[s,x],argTypes:=#[t,t] }) (E:TypeId) (i:TypeInfo) (z:Value) (bytes:Nat) (ht:P.underlying t=some (.slice E)) (V:P.info? E=some i) (hz:i.zero=some z)
  (hsize:i.size=r.k) (hby:i.bytes=bytes) (hzs:z.cells.size=r.k) (hb1:bytes<=1000) (S:Nat->Prop) (B:Nat) (w:World) (v:Value) (xs:List T) (css:List (List Value)) (hs:a.eval s=v)
  (hO:Own r E S B w v xs css) (v2:Value) (ys:List T) (hx:a.eval x=v2) (hys:Sl r (But S v) w v2 ys) (n:Nat) (hn:xs.length+ys.length=n) (hl:n<=1000000) (hB:B<=w)
  (h:∀ p cap css' I,Own r E S B I (.slice p n cap) (xs++ys) css'->Gz B w I v (.slice p n cap)->wpList P ops Q rest (a.put o.dst (.slice p n cap)) I):
  wpList P ops Q (o::rest) a w:=by
 subst hn
 have hv:∀ g,v.ownBlock=some g->B<=g:=fun g hg=>(hO.row.lt g hg).1
 have M:∀ L I dss,Cs r (But S v) w dss ys->I.ownsRow B E r.k L (xs.length+ys.length) (css.flatten++dss.flatten)->w.grownBy I v.ownBlock->(L.ownBlock=v.ownBlock\/L.ownBlock=some w.heap.size)->wpList P ops Q rest (a.put o.dst L) I:=by
  intro L I dss U G D J
  have Y:=hO.append U (v':=L) (w2:=I) G D J
  obtain ⟨p,cap,hf⟩:=Y.form
  rw [Qe] at hf
  subst hf
  exact h p cap _ I Y (Dm D hv hB J)
 by_cases hne:ys=[]
 ·subst hne
  obtain ⟨p,cap,rfl,_⟩:=hys.len
  rcases p with _ | ad
  ·refine U8 hgd s x t ho B E i r.k ht V v xs.length css.flatten hs hO.row cap hx ?_
   refine M v w [] (Cs.nil _ _ _) (by simpa using hO.row) ⟨rfl,rfl,rfl,Q4 _,fun _ _ _=>rfl⟩ (.inl rfl)
  refine wpList_append_own_at (P:=P) (w:=w) hgd s x t ho B E i z r.k bytes ht V hz hsize hby hzs hk v xs.length css.flatten hs hO.row ad 0 cap [] hx Od (fun j u N=>by simp at N) (fun u N=>by simp at N) (by unfold maxLen;simp at hl;omega) (by
    have:=Nat.mul_le_mul (show xs.length+0<=1000000 by simpa using hl) hb1
    omega) hB (fun L I G D _ J=>?_)
  exact M L I [] (Cs.nil _ _ _) (by simpa using G) D J
 obtain ⟨p,cap,dss,rfl,U,hb⟩:=hys.css hk
 obtain ⟨b,O,rfl,hS,aC,hc⟩:=hb hne
 refine wpList_append_own_at (P:=P) (w:=w) hgd s x t ho B E i z r.k bytes ht V hz hsize hby hzs hk v xs.length css.flatten hs hO.row ⟨b,O,none⟩ ys.length cap dss.flatten hx U.flat (fun j u N=>?_) (fun u N=>?_) (by unfold maxLen;omega) (by
   have:=Nat.mul_le_mul hl hb1
   omega) hB (fun L I G D _ J=>?_)
 ·rw [show (⟨b,O,none⟩:Addr).add j=⟨b,O+j,none⟩ by unfold Addr.add;split <;> simp_all]
  exact hc j u N
 ·obtain ⟨c,Z,aB⟩:=List.mem_flatten.1 N
  obtain ⟨i,V⟩:=Qt Z
  have aA:=(Qj V).1
  exact h1 _ w c _ (U.R i c _ V (Qx (by rw [<- U.len];exact aA))) u aB
 exact M L I dss U G D J
end
theorem Bj {P:Program} (t e:TypeId) (size:Nat) (hu:P.underlying t=some (.slice e)) (hz:∀ w,(Go.sizeOf e).run P w=.ok size w) (a:Option Addr) (n cap k:Nat) (hk:k<=cap) (w:World):
  (Instr.slice t (.slice a n cap) none (some (.int .i64 (k:Int))) none).run P w=.ok (.slice (if cap=0 then a else a.map (·.add 0)) k cap) w:=by
 have h0:(0:Int)<=(k:Int):=Oa
 simp [Instr.slice,Instr.sliceBounds,Instr.sliceBound,asIntOf,run_underlying hu,h0,hz,hk,go_sem]
theorem Fd {P:Program} (t e:TypeId) (size:Nat) (hu:P.underlying t=some (.slice e)) (hz:∀ w,(Go.sizeOf e).run P w=.ok size w) (a:Option Addr) (n cap k:Nat) (hk:k<=n) (w:World):
  (Instr.slice t (.slice a n cap) (some (.int .i64 (k:Int))) none none).run P w=.ok (.slice (if cap=k then a else a.map (·.add (k*size))) (n - k) (cap - k)) w:=by
 have h0:(0:Int)<=(k:Int):=Oa
 simp [Instr.slice,Instr.sliceBounds,Instr.sliceBound,asIntOf,run_underlying hu,h0,hz,hk,go_sem]
theorem Eu (b off j:Nat):(⟨b,off,none⟩:Addr).add j=⟨b,off+j,none⟩:=by unfold Addr.add;split <;> simp_all
def CapV (v:Value) (n:Nat):Prop:=∃ p cap,v=.slice p n cap/\n<=cap
theorem Sl.empty {T:Type} (r:Rd T) (S:Nat->Prop) (w:World) (p:Option Addr) (c:Nat):Sl r S w (.slice p 0 c) []:=⟨p,c,rfl,Od,fun h=>absurd rfl h⟩
theorem Kl {P:Program} {T:Type} {r:Rd T} (t e:TypeId) (hu:P.underlying t=some (.slice e)) (hz:∀ w,(Go.sizeOf e).run P w=.ok r.k w) {S:Nat->Prop} {w:World} {v:Value} {l:List T} (h:Sl r S w v l) (hc:CapV v l.length) (k:Nat) (hk:k<=l.length):
  ∃ V1 V2,(∀ W,(Instr.slice t v none (some (.int .i64 (k:Int))) none).run P W=.ok V1 W)/\(∀ W,(Instr.slice t v (some (.int .i64 (k:Int))) none none).run P W=.ok V2 W)/\Sl r S w V1 (l.take k)/\Sl r S w V2 (l.drop k):=by
 obtain ⟨p,cap,rfl,N⟩:=hc
 refine ⟨_,_,fun W=>Bj t e r.k hu hz p l.length cap k Oa W,fun W=>Fd t e r.k hu hz p l.length cap k hk W,?_,?_⟩
 ·by_cases hl:l=[]
  ·subst hl
   obtain rfl:k=0:=by simpa using hk
   exact Sl.empty r S w _ _
  obtain ⟨p',c',G,_,I⟩:=h
  obtain ⟨b,D,J,_,_,_⟩:=I hl
  simp only [Ql] at G
  obtain ⟨rfl,_,rfl⟩:=G
  subst J
  have L:Sl r S w (.slice (some ⟨b,D,none⟩) l.length cap) l:=⟨_,_,rfl,‹_›,I⟩
  have:=L.sub 0 k cap Oa
  rw [List.drop_zero,Nat.zero_mul,Nat.add_zero] at this
  have e3:(if cap=0 then some (⟨b,D,none⟩:Addr) else (some (⟨b,D,none⟩:Addr)).map (·.add 0))=some ⟨b,D,none⟩:=by
   split
   ·rfl
   simp [Eu]
  rw [e3];exact this
 by_cases hl:l=[]
 ·subst hl
  obtain rfl:k=0:=by simpa using hk
  exact Sl.empty r S w _ _
 obtain ⟨p',c',G,_,I⟩:=h
 obtain ⟨b,D,J,_,_,_⟩:=I hl
 simp only [Ql] at G
 obtain ⟨rfl,_,rfl⟩:=G
 subst J
 have L:Sl r S w (.slice (some ⟨b,D,none⟩) l.length cap) l:=⟨_,_,rfl,‹_›,I⟩
 by_cases hkc:cap=k
 ·have M:k=l.length:=Oa
  rw [if_pos hkc,M,Nat.sub_self,List.drop_length]
  exact Sl.empty r S w _ _
 rw [if_neg hkc]
 have:=L.sub k (l.length - k) (cap - k) Oa
 rw [Qp (by rw [Qr];exact Q4 _)] at this
 simp only [Option.map_some,Eu]
 exact this
theorem Own.cap {T:Type} {r:Rd T} {E:TypeId} {S:Nat->Prop} {B:Nat} {w:World} {p:Option Addr} {n cap:Nat} {xs:List T} {css:List (List Value)} (h:Own r E S B w (.slice p n cap) xs css):xs.length=n/\n<=cap:=by
 rcases h.row.2 with ⟨e,h0⟩ | ⟨g,D,G,e,_,_,hc,_⟩
 ·simp only [Ql] at e
  obtain ⟨rfl,rfl,rfl⟩:=e
  exact ⟨h0,Q4 _⟩
 simp only [Ql] at e
 obtain ⟨rfl,rfl,rfl⟩:=e
 exact ⟨rfl,hc⟩
def Yu (n m:Int):Int:=(if n<0 then -(n+1) else n) % m
theorem Uq (n m:Int) (hm:0<m):0<=Yu n m/\Yu n m<m:=by
 unfold Yu;exact ⟨Int.emod_nonneg _ Oa,Int.emod_lt_of_pos _ hm⟩
theorem ret_intE {k:IntKind} {a b:Int} (h:a=b):Ending.returned (.int k a)=.returned (.int k b):=by rw [h]
theorem Jb (n m:Int) (w:World) (hn1:-9223372036854775808<=n) (hn2:n<=9223372036854775807) (hm:1<=m) (hm2:m<=9223372036854775807):
  Calls prog 17 #[n,m] w fun e w'=>e=.returned (.int .i64 (Yu n m))/\w=w':=by
 have hz:(m==0)=false:=by simpa using (by omega:¬ m=0)
 by_cases h:n<0
 ·have D:Yu n m=(-(n+1)) % m:=by unfold Yu;rw [if_pos h]
  rw [D]
  clear D
  have h1:0<=-(n+1):=Oa
  go_enter func17,ntmps17
  go_wp2
  go_ret
  exact ⟨ret_intE (by rw [<- Int.neg_tmod,Int.tmod_eq_emod_of_nonneg h1]),rfl⟩
 have D:Yu n m=n % m:=by unfold Yu;rw [if_neg h]
 rw [D]
 clear D
 go_enter func17,ntmps17
 go_wp2
 go_ret
 exact ⟨rfl,rfl⟩
def Xi (l:List Int) (i:Nat) (m:Int):Int:=match l[i]? with
 | some n=>Yu n m
 | none=>0
def Ke (l:List Int):Prop:=∀ n ∈ l,-9223372036854775808<=n/\n<=9223372036854775807
theorem Y2 {T:Type} {r:Rd T} {S:Nat->Prop} {w:World} {b n:Nat} {E:TypeId} {cells:Array Value} {xs:List T} {css:List (List Value)} (hb:w.heap[b]?=some (.cells cells E (0,0))) (hS:S b) (hcs:Cs r S w css xs) (hc:css.flatten=cells.toList) (hn:n=xs.length) (hl:xs.length<=1000000):Sl r S w (.slice (some ⟨b,0,none⟩) n n) xs:=by
 subst hn
 refine Sl.of_css hl hcs hS (Array.getElem?_eq_some_iff.1 hb).1 (fun j u hu=>?_)
 rw [Nat.zero_add,Qk _ _ _ _ _ _ hb]
 rw [hc] at hu
 simpa using hu
theorem strs2 (S:Nat->Prop) (w:World) (a b:Bs) (ha:a.length<=1000000) (hb:b.length<=1000000):Cs Zi S w [[.string ⟨a.toArray⟩],[b]] [a,b]:=
 (Cs.one (r:=Zi) (x:=a) (show Zi.R S w [a] a from ⟨rfl,ha⟩)).app (Cs.one (r:=Zi) (x:=b) (show Zi.R S w [b] b from ⟨rfl,hb⟩))
theorem Zh {W:World} {b:Nat} {o:Obj} (h:W.heap[b]?=some o) (o':Obj):(W.alloc o').heap[b]?=some o:=((Zb W o').block b (Z3 h)).trans h
theorem Uv {W:World} {n:Nat} (h:W=n) (o:Obj):(W.alloc o).heap[n]?=some o:=by subst h;exact Qw W o
theorem Hu {T:Type} (r:Rd T) (S:Nat->Prop) (w:World) (p:Option Addr) (c:Nat):Sl r S w (.slice p 0 c) []:=⟨p,c,rfl,Od,fun h=>absurd rfl h⟩
theorem Dw (S:Nat->Prop) (w:World) (p1 p2 p3:Option Addr) (c1 c2 c3:Nat):Yj S w [.int .i64 2,Oo,.int .i64 1,Oo,.slice p1 0 c1,.slice p2 0 c2,.slice p3 0 c3,On,On] Gen.yes:=
 Xd (nm:=[]) (s:=[]) Od Od (Hu _ _ _ _ _) (Hu _ _ _ _ _) (Hu _ _ _ _ _)
theorem X5 {S:Nat->Prop} {w:World} (nm:Bs) (k:Int) (tn:Bs) (h1:nm.length<=1000000) (h2:tn.length<=1000000):Yy.R S w [nm,k,tn,On,Ot,Ot] ⟨nm,.mk k tn 0 [] []⟩:=
 ⟨_,rfl,h1,Ub h2 (Sl.nil _ _ _) (Sl.nil _ _ _)⟩
theorem Bf {S:Nat->Prop} {w:World} (nm:Bs) (b:Bool) (k:Int) (h1:nm.length<=1000000):F8.R S w [nm,.bool b,k,Oo,On,Ot,Ot] ⟨nm,b,.mk k [] 0 [] []⟩:=
 ⟨_,rfl,h1,Ub (s:=[]) Od (Sl.nil _ _ _) (Sl.nil _ _ _)⟩
theorem D8 {S:Nat->Prop} {w:World} (a:Bs) (ha:a.length<=1000000):Cs Zi S w [[.string ⟨a.toArray⟩]] [a]:=Cs.one (r:=Zi) (x:=a) (show Zi.R S w [a] a from ⟨rfl,ha⟩)
theorem Kd {w W:World} (h:Below w w W) (o:Obj):Below w w (W.alloc o):=h.alloc h.size o
theorem swoV:Sort.SWO (fun x y:Val=>decide (Zt x y<0)):=by
 refine ⟨fun x=>?_,fun x y z h1 h2=>?_,fun x y z h1 h2=>?_⟩
 ·rw [X9,Hc];rfl
 ·simp only [decide_eq_true_eq] at *
  rw [X9] at *
  exact G7 h1 h2
 simp only [decide_eq_false_iff_not] at *
 have a1:Zt y x<=0:=by rw [X9,Uh,<- X9];omega
 have a2:Zt z y<=0:=by rw [X9,Uh,<- X9];omega
 have a3:=Bt a2 a1
 have:Zt x z=- Zt z x:=by rw [X9,Uh,<- X9]
 omega
instance:Inhabited Val:=⟨Val.zero⟩
end Go.Proofs.YtlanplhphiikjaaGreatDoor
