import Derived.Test.YtdpibdpbgokmoaaGreatDoorA07
set_option maxRecDepth 100000
set_option maxHeartbeats 400000000
namespace Go.Proofs.YtdpibdpbgokmoaaGreatDoor
open Go.RowKit Go.Shelf Go.Lib Tryz
theorem Ln (a:List Bs) (k:Bs) (row:Val):keyOf (a++[k]) row=(match keyOf a row,Yp row k with | some l,some v=>some (l++[v]) | _,_=>none):=by
 induction a with
 | nil=>
  show (match Yp row k,some [] with | some v,some l=>some (v::l) | _,_=>none)=_
  cases Yp row k <;> rfl
 | cons x a ih=>
  show (match Yp row x,keyOf (a++[k]) row with | some v,some l=>some (v::l) | _,_=>none)=(match (match Yp row x,keyOf a row with | some v,some l=>some (v::l) | _,_=>none),Yp row k with | some l,some v=>some (l++[v]) | _,_=>none)
  rw [ih]
  cases Yp row x <;> cases keyOf a row <;> cases Yp row k <;> rfl
theorem Lz {ks:List Bs} {k:Bs} {row:Val} (hk:k ∈ ks) (h:Yp row k=none):keyOf ks row=none:=by
 induction ks with
 | nil=>simp at hk
 | cons x ks ih=>
  show (match Yp row x,keyOf ks row with | some v,some l=>some (v::l) | _,_=>none)=none
  rcases Z3.1 hk with rfl | hk
  ·rw [h]
  rw [ih hk];cases Yp row x <;> rfl
def KeyIs (w:World) (o:Option (List Val)) (e:Ending) (w':World):Prop:=∃ p n cap,e=.returned (.slice p n cap)/\n=(o.getD []).length/\Sl Zc (λb=>w<=b) w' (.slice p n cap) (o.getD [])/\Below w w w'
theorem Ai (S S':Nat->Prop) (t:Tbl) (row:Val) (ct cr:List Value) (w:World) (ht:Zn.R S w ct t) (hr:Z9 S' w cr row) (hkl:t.key.length<=1000):
  Calls prog 83 #[ct,cr] w (KeyIs w (keyOf t.key row)):=by
 have HG:=Qq (λx W (hb:Below w w W)=>F8 S' row cr x W (hr.move (.f hb) Ij))
 obtain ⟨bS,bR,bY,bX,cA,bZ,k0,s1,n0,s2,p1,n1,c1,p2,n2,c2,p3,n3,c3,a0,z0,rfl,_,_,Z,_,_⟩:=Yq ht
 obtain ⟨r3,l3,r4,l4,aP,_⟩:=Z9.cells hr
 simp only [Il] at aP
 subst aP
 unfold AL
 have HK:=Qq Z
 obtain ⟨i0,j1,j2,j3,j4⟩:=Y8 (P:=prog) (t:=36) (z:=.agg zV) (n:=5) (b:=80) Ir
 obtain ⟨HJ,bE,bF,bG⟩:=It j1 j2 j3 j4
 clear ht hr Z j1 j2 j3 j4
 obtain ⟨n,hn⟩:=eX (t.key.length)
 rw [hn] at HK hkl |-
 have HN:=Qq hn
 clear hn
 obtain ⟨r,hr⟩:=eX (keyOf t.key row)
 rw [hr]
 have HR:=Qq hr
 clear hr
 unfold sv at HG
 go_enter func83,ntmps83
 go_wp2_with fail
 generalize aA:(w.alloc (.cells #[t.name,.slice bS t.columns.length bR,.slice bY n bX,.slice cA t.refs.length bZ,k0,.string s1,n0,.string s2,.slice p1 n1 c1,.slice p2 n2 c2,.slice p3 n3 c3,a0,z0] 48)).alloc (.cells (Is row r3 l3 r4 l4) 36)=W1
 have aN:=Iq aA (Zs _ _ _)
 have aL:=Ik (b:=w.heap.size+1) aA (Q6 _ _ _)
 have bA:=Qq aN;have aE:=Qq aL
 clear aA aN aL
 go_loopw [5,13] (λo i wr=>∃ (k:Nat) (l:List Val) (p:Option Addr) (cap:Nat),k<=n/\i=.int .i64 k/\o=.slice p k cap/\l.length=k/\Aside (keyOf (t.key.take k) row=some l)/\Below (w+2) W1 wr /\
  (∃ css,Own Zc 36 (λb=>w+2<=b) (w+2) wr (.slice p k cap) l css)) (λ_ i _=>n - (intOf i).toNat)
 case atStart=>exact ⟨0,[],none,0,Q8 _,rfl,rfl,rfl,rfl,Qz _ _,[],Own.nil _ _ _ _ _⟩
 obtain ⟨k,l,p,cap,cH,rfl,rfl,aR,hE,M,css,hO⟩:=hrel
 have cJ:=Z8 aE.o
 have A:=kE M Ia aE.o
 have c0:=AB A;have bO:=AA A;have bP:=AM A;have bQ:=AH A;have c4:=Iz A
 have aO:Below w w wr:=bA.o.trans (M.mono Ia)
 have cI:=M.size
 obtain ⟨bB,I,HO,HE,U⟩:=AO M aO hO hE.o aR
 clear A M aO hO hE aR
 by_cases hlt:k<n
 ·have cF:(0:Int)<=(k:Int):=Ia
  have cG:(k:Int)<(n:Int):=Ia
  have V:k<t.key.length:=by rw [HN.o];exact hlt
  obtain ⟨x,hx⟩:∃ x,t.key[k]?=some x:=⟨_,Qx V⟩
  have aT:t.key.take (k+1)=t.key.take k++[x]:=by rw [Zz V];rw [Qx V] at hx;cases hx;rfl
  obtain ⟨kb,cE,rfl,bU,-⟩:=(HK.o.below I.o).str hx
  have HX:=Qq hx;have bL:=Qq aT
  clear hx aT V
  cases hg:Yp row x with
  | none=>
   have bW:r=none:=by rw [<- HR.o];exact Lz (Qy HX.o) hg
   subst bW
   have J:=Qq (HG.o x wr I.o)
   rw [hg] at J
   clear hg
   go_wp2_with (go_at_call 86;refine J.o.mono ?_;rintro e w5 ⟨bT,rfl,D,N⟩;obtain ⟨q3,m3,q4,m4,T,_⟩:=Z9.cells D;simp only [Il,Option.getD_none,Val.zero,Val.kind,Val.n,Val.s,Val.names,Val.kids,List.length_nil] at T;subst T;have G:=Qq N;clear D N)
   go_ret
   exact ⟨none,0,0,rfl,rfl,Sl.nil _ _ _,(I.o.n G.o).n (Zg _ _)⟩
  | some u=>
   have J:=Qq (HG.o x wr I.o)
   rw [hg] at J
   have bD:=Qq hg
   clear hg
   go_upto_region 6 with (go_at_call 86;refine J.o.mono ?_;rintro e w5 ⟨bT,rfl,D,N⟩;obtain ⟨q3,m3,q4,m4,T,_⟩:=Z9.cells D;simp only [Il,Option.getD_some] at T;subst T;have G:=Qq N;have bM:=Qq D;clear D N)
   generalize aB:w5.alloc (.cells (Is u q3 m3 q4 m4) 36)=W6
   have O:=Iq aB (Zg _ _)
   have aM:=Ik (b:=w5.heap.size) aB (Qw _ _)
   obtain ⟨d0,d1,d2,d3,d4⟩:=If aM
   have aI:Own Zc 36 (λb=>w+2<=b) (w+2) W6 (.slice p k cap) l css:=(HO.o.below G.o).below O
   have aK:Zc.R (But (λb=>w+2<=b) (.slice p k cap)) W6 (Is u q3 m3 q4 m4) u:=by
    refine Z9.move bM.o (.f O) (λb _ hb=>?_)
    have h1:wr.heap.size<=b:=hb
    refine ⟨Ia,λe=>?_⟩
    have:=(HO.o.row.lt b e.symm).2
    omega
   have Y:Below (w+2) W1 W6:=bB.o.trans ((G.o.n O).mono Ia)
   have cD:=O.size;have cC:=G.o.size
   obtain ⟨bJ,bN,aC⟩:=Im aI aK Y
   clear aB O aM aI aK Y c0 bO bP bQ c4 bU
   go_wp2_with (at_builtin;refine Yo (r:=Zc) Ih rfl (.tmp 25) (.tmp 27) _ rfl 36 i0 (.agg zV) 80 underlying34 HJ.o bE.o bF.o bG.o rfl Ia (λb=>w+2<=b) (w+2) W6 (.slice p k cap) l css (Is u q3 m3 q4 m4) u rfl bJ.o rfl bN.o (by simp [Value.oneCell']) k U.o Ia Ia ?_;intro p7 aF aG w7 aJ aH;have bK:=Qq aJ;have bH:=Qq aH;clear aJ aH)
   go_roundw
   case measure=>simp [intOf];omega
   case rel=>
    refine ⟨k+1,l++[u],p7,aF,Ia,by go_num,rfl,by have:=U.o;simp [this],(show Aside _ from ?_),aC.o.trans bH.o.below,aG,bK.o⟩
    have:keyOf (t.key.take (k+1)) row=some (l++[u]):=by rw [bL.o,Ln,HE.o,bD.o]
    exact this
 have aQ:k=n:=Ia
 subst aQ
 have aS:r=some l:=by
  rw [<- HR.o,<- HE.o,Zj (by rw [HN.o];exact Q9 _)]
 have aD:=Qq aS
 clear aS
 go_wp2_with fail
 go_ret
 refine ⟨p,k,cap,rfl,by rw [aD.o];exact U.o.symm,?_,I.o⟩
 rw [aD.o]
 exact HO.o.sl (Ix U.o) (λb hb=>Ia) (λb _ hb=>Ia)
open Go.RowKit Go.Shelf Go.Lib Go.WideMaps Go.Maps
section
variable {P:Program} {T:Type}
theorem U1 {r:Rd T} (hk:0<r.k) {ops:Array Oper} {rest:List Oper} {o:Oper} {a:Act} {Q:Exit->Act->World->Prop} (hgd:o.guard=none) (s x:Operand) (t:TypeId)
  (ho:o.op=.call { callee:=.builtin .append,args:=#[s,x],argTypes:=#[t,t] }) (E:TypeId) (i:TypeInfo) (z:Value) (bytes:Nat) (ht:P.underlying t=some (.slice E)) (hi:P.info? E=some i) (hz:i.zero=some z)
  (hsize:i.size=r.k) (hby:i.bytes=bytes) (hzs:z.cells.size=r.k) (hb1:bytes<=1000) (S:Nat->Prop) (B:Nat) (w:World) (v:Value) (xs:List T) (css:List (List Value)) (ys:List T) (q:Option Addr) (m c:Nat) (hs:a.eval s=v)
  (hO:Own r E S B w v xs css) (hx:a.eval x=.slice q m c) (hY:Sl r (But S v) w (.slice q m c) ys) (hm:m=ys.length) (hne:ys≠[]) (h1:∀ S w cs x,r.R S w cs x->∀ u ∈ cs,u.oneCell'=true) (hl:xs.length+ys.length<=1000000) (hB:B<=w)
  (h:∀ p cap css' N,Own r E S B N (.slice p (xs.length+m) cap) (xs++ys) css'->w.grownBy N v.ownBlock->((Value.slice p (xs.length+m) cap).ownBlock=v.ownBlock\/(Value.slice p (xs.length+m) cap).ownBlock=some w.heap.size)->wpList P ops Q rest (a.put o.dst (.slice p (xs.length+m) cap)) N):
  wpList P ops Q (o::rest) a w:=by
 subst hm
 obtain ⟨q',c',dss,hv,O,hc⟩:=hY.css hk
 simp only [Qr] at hv
 obtain ⟨rfl,-,rfl⟩:=hv
 obtain ⟨b,I,rfl,_,aB,G⟩:=hc hne
 refine wpList_append_own_at (P:=P) (w:=w) hgd s x t ho B E i z r.k bytes ht hi hz hsize hby hzs hk v xs.length css.flatten hs hO.row ⟨b,I,none⟩ ys.length c dss.flatten hx O.flat (λj u Z=>?_) (λu Z=>?_) (by unfold maxLen;omega) (by
   have:=Nat.mul_le_mul (show xs.length+ys.length<=1000000 by omega) hb1
   omega) hB (λv1 N D A _ J=>?_)
 ·rw [show (⟨b,I,none⟩:Addr).add j=⟨b,I+j,none⟩ by unfold Addr.add;split <;> simp_all]
  exact G j u Z
 ·obtain ⟨cc,V,aA⟩:=List.mem_flatten.1 Z
  obtain ⟨i',M⟩:=Zk V
  have Y:=(Qj M).1
  exact h1 _ w cc _ (O.R i' cc _ M (Qx (by rw [<- O.len];exact Y))) u aA
 have U:=hO.append O (ys:=ys) (dss:=dss) (v':=v1) (w2:=N) D A J
 have aC:0<ys.length:=List.length_pos_iff.2 hne
 rcases D.2 with ⟨_,hn⟩ | ⟨g,cap,aD,rfl,_⟩
 ·omega
 exact h _ _ _ _ U A J
end
theorem Qzk {E:TypeId} {S:Nat->Prop} {B:Nat} {w:World} {v:Value} {bs:Bs} {css:List (List Value)} (h:Own Vp E S B w v bs css):(v=.slice none 0 0/\bs=[])\/∃ g cap,v=.slice (some ⟨g,0,none⟩) bs.length cap/\∀ j (hj:j<bs.length),w.cell? ((⟨g,0,none⟩:Addr).add j)=some (.int .u8 (bs[j].toNat:Int)):=by
 rcases h.row.2 with ⟨A,h0⟩ | ⟨g,cap,D,A,_⟩
 ·exact .inl ⟨A,Zy h0⟩
 refine .inr ⟨g,cap,A,λj hj=>?_⟩
 refine h.row.cells (g:=g) (by rw [A];rfl) j _ ?_
 have hc:css[j]?=some [.int .u8 (bs[j].toNat:Int)]:=by
  have h1:=Qx (l:=css) (i:=j) (by rw [h.cs.len];exact hj)
  have:=h.cs.R j _ _ h1 (Qx hj)
  rw [h1];exact congrArg some this
 have:=Vg (k:=1) h.cs.all hc (j:=0) (u:=.int .u8 (bs[j].toNat:Int)) rfl
 simpa using this
theorem conv_own {E:TypeId} {S:Nat->Prop} {B:Nat} {w:World} {v:Value} {bs:Bs} {css:List (List Value)} (h:Own Vp E S B w v bs css):(convert 116 9 v).run Tryz.prog w=.ok (.string ⟨bs.toArray⟩) w:=by
 rcases Qzk h with ⟨rfl,rfl⟩ | ⟨g,cap,rfl,hc⟩
 ·exact Lib.run_convert_nil_bytes w 116 9 5 0 Tryz.underlying116 Tryz.underlying5 Tryz.underlying9
 exact run_convert_bytes_back w 116 9 5 ⟨g,0,none⟩ cap bs Tryz.underlying116 Tryz.underlying5 Tryz.underlying9 hc
structure Ft where
 code:Int
 table:Bs
 row:Val
 other:Val
def Ft.zero:Ft:=⟨0,[],Val.zero,Val.zero⟩
def L0 (S:Nat->Prop) (w:World) (cs:List Value) (f:Ft):Prop:=∃ c1 c2,cs=.int .i64 f.code::sv f.table::(c1++c2)/\f.table.length<=1000000/\Z9 S w c1 f.row/\Z9 S w c2 f.other
theorem L0.move {S S':Nat->Prop} {w w':World} {cs:List Value} {f:Ft} (h:L0 S w cs f) (hA:Jy S w w') (hS:∀ b,b<w.heap.size->S b->S' b):L0 S' w' cs f:=by
 obtain ⟨c1,c2,rfl,h1,h2,h3⟩:=h
 exact ⟨c1,c2,rfl,h1,h2.move hA hS,h3.move hA hS⟩
def G5 (S:Nat->Prop) (w:World) (f:Ft) (e:Ending) (w':World):Prop:=∃ cs',e=.returned (.agg cs'.toArray)/\L0 S w' cs' f/\Below w w w'
def fcs (c:Int) (t:ByteArray) (r:Val) (o:Val) (p3:Option Addr) (k3:Nat) (p4:Option Addr) (k4:Nat) (q3:Option Addr) (l3:Nat) (q4:Option Addr) (l4:Nat):List Value:=
 (AU c (.string t) r p3 k3 p4 k4 o q3 l3 q4 l4)
theorem Ue {S:Nat->Prop} {w:World} {cs:List Value} {f:Ft} (h:L0 S w cs f):∃ p3 k3 p4 k4 q3 l3 q4 l4,cs=fcs f.code ⟨f.table.toArray⟩ f.row f.other p3 k3 p4 k4 q3 l3 q4 l4/\f.table.length<=1000000/\Z9 S w (Il f.row p3 k3 p4 k4) f.row/\Z9 S w (Il f.other q3 l3 q4 l4) f.other:=by
 obtain ⟨c1,c2,rfl,h1,h2,h3⟩:=h
 obtain ⟨p3,k3,p4,k4,rfl,_⟩:=Z9.cells h2
 obtain ⟨q3,l3,q4,l4,rfl,_⟩:=Z9.cells h3
 exact ⟨p3,k3,p4,k4,q3,l3,q4,l4,rfl,h1,h2,h3⟩
theorem Kt (S:Nat->Prop) (w:World):L0 S w [Ic,Ig,Ic,Ic,Ig,Ie,Ie,Ic,Ic,Ig,Ie,Ie] Ft.zero:=
 ⟨_,_,rfl,by simp [Ft.zero],Y2 S w,Y2 S w⟩
def Y9 (W:World) (R:Nat) (a0 a1 a2 a3 a4 a5 a6 a7 a8 a9 a10 a11:Value):World:=((((((((((((W.setCell ⟨R,0,none⟩ a0).setCell ⟨R,1,none⟩ a1).setCell ⟨R,2,none⟩ a2).setCell ⟨R,3,none⟩ a3).setCell ⟨R,4,none⟩ a4).setCell ⟨R,5,none⟩ a5).setCell ⟨R,6,none⟩ a6).setCell ⟨R,7,none⟩ a7).setCell ⟨R,8,none⟩ a8).setCell ⟨R,9,none⟩ a9).setCell ⟨R,10,none⟩ a10).setCell ⟨R,11,none⟩ a11)
theorem Ls {W:World} {R:Nat} {a0 a1 a2 a3 a4 a5 a6 a7 a8 a9 a10 a11 x0 x1 x2 x3 x4 x5 x6 x7 x8 x9 x10 x11:Value} {t:TypeId} (h:W.heap[R]?=some (.cells #[x0,x1,x2,x3,x4,x5,x6,x7,x8,x9,x10,x11] t (0,0))):(Y9 W R a0 a1 a2 a3 a4 a5 a6 a7 a8 a9 a10 a11).heap[R]?=some (.cells #[a0,a1,a2,a3,a4,a5,a6,a7,a8,a9,a10,a11] t (0,0)):=by
 have A:=Qi _ _ 0 _ _ a0 h;have A:=Qi _ _ 1 _ _ a1 A;have A:=Qi _ _ 2 _ _ a2 A;have A:=Qi _ _ 3 _ _ a3 A;have A:=Qi _ _ 4 _ _ a4 A;have A:=Qi _ _ 5 _ _ a5 A;have A:=Qi _ _ 6 _ _ a6 A;have A:=Qi _ _ 7 _ _ a7 A;have A:=Qi _ _ 8 _ _ a8 A;have A:=Qi _ _ 9 _ _ a9 A;have A:=Qi _ _ 10 _ _ a10 A;have A:=Qi _ _ 11 _ _ a11 A
 simpa [Y9] using A
theorem Ya {W:World} {R:Nat} {a0 a1 a2 a3 a4 a5 a6 a7 a8 a9 a10 a11 x0 x1 x2 x3 x4 x5 x6 x7 x8 x9 x10 x11:Value} {t:TypeId} (h:W.heap[R]?=some (.cells #[x0,x1,x2,x3,x4,x5,x6,x7,x8,x9,x10,x11] t (0,0))) (j:Nat):(Y9 W R a0 a1 a2 a3 a4 a5 a6 a7 a8 a9 a10 a11).cell? ⟨R,j,none⟩=#[a0,a1,a2,a3,a4,a5,a6,a7,a8,a9,a10,a11][j]?:=
 Qk _ _ _ _ _ _ (Ls h)
theorem Xj {W:World} {R k:Nat} {a0 a1 a2 a3 a4 a5 a6 a7 a8 a9 a10 a11:Value} (h:k≠R):(Y9 W R a0 a1 a2 a3 a4 a5 a6 a7 a8 a9 a10 a11).heap[k]?=W.heap[k]?:=by
 unfold Y9
 repeat rw [Za h]
theorem Y1 {B R:Nat} {w W:World} {a0 a1 a2 a3 a4 a5 a6 a7 a8 a9 a10 a11:Value} (h:Below B w W) (hR:B<=R):Below B w (Y9 W R a0 a1 a2 a3 a4 a5 a6 a7 a8 a9 a10 a11):=
 (((((((((((h.setCell (p:=⟨R,0,none⟩) hR _).setCell (p:=⟨R,1,none⟩) hR _).setCell (p:=⟨R,2,none⟩) hR _).setCell (p:=⟨R,3,none⟩) hR _).setCell (p:=⟨R,4,none⟩) hR _).setCell (p:=⟨R,5,none⟩) hR _).setCell (p:=⟨R,6,none⟩) hR _).setCell (p:=⟨R,7,none⟩) hR _).setCell (p:=⟨R,8,none⟩) hR _).setCell (p:=⟨R,9,none⟩) hR _).setCell (p:=⟨R,10,none⟩) hR _).setCell (p:=⟨R,11,none⟩) hR _
def Yn (P:List Bs) (k:Bs):Option Nat:=P.findIdx? (λy=>decide (y=k))
theorem B5 (P:List Bs) (k s:Bs):Yn (P++[k]) s=(match Yn P s with | some a=>some a | none=>if k=s then some P.length else none):=by
 unfold Yn
 rw [List.findIdx?_append]
 cases P.findIdx? (λy=>decide (y=s)) with
 | some a=>rfl
 | none=>by_cases h:k=s <;> simp [h]
def Vs (P:List Bs) (st:Nat × Nat) (k:Bs):Nat × Nat:=match Yn P k with
 | none=>st
 | some a=>if a<st.1 then (a,P.length) else st
def ust (n:Nat) (ks:List Bs):Nat->Nat × Nat
 | 0=>(n,0)
 | i+1=>Vs (ks.take i) (ust n ks i) (ks.getD i [])
theorem Gk {P:List Bs} {k:Bs} {a:Nat} (h:Yn P k=some a):a<P.length:=by
 unfold Yn at h
 rw [List.findIdx?_eq_some_iff_getElem] at h
 exact h.1
theorem ust_bd (n:Nat) (ks:List Bs):∀ i,i<=ks.length->(ust n ks i).1=n\/((ust n ks i).1<i/\(ust n ks i).2<i)
 | 0,_=>.inl rfl
 | i+1,hi=>by
  have ih:=ust_bd n ks i Ia
  have hl:(ks.take i).length=i:=by rw [Qm];omega
  have e:ust n ks (i+1)=Vs (ks.take i) (ust n ks i) (ks.getD i []):=rfl
  rw [e]
  generalize ust n ks i=st at ih |-
  unfold Vs
  cases hf:Yn (ks.take i) (ks.getD i []) with
  | none=>
   rcases ih with h | h
   ·exact .inl h
   exact .inr ⟨by show st.1<i+1;omega,by show st.2<i+1;omega⟩
  | some a=>
   have ha:=Gk hf
   by_cases hlt:a<st.1
   ·simp only [if_pos hlt]
    exact .inr ⟨Ia,Ia⟩
   simp only [if_neg hlt]
   rcases ih with h | h
   ·exact .inl h
   exact .inr ⟨Ia,Ia⟩
def BK (D:DataW Unit) (P:List Bs):Prop:=IsMap D/\∀ s:Bs,Maps.has D (.string s)=(Yn P s).isSome/\∀ a,Yn P s=some a->D.atKey (.string s) (.lit (.int .i64 0))=.lit (.int .i64 (a:Nat))
theorem invD_nil:BK (.map []) []:=⟨isMap_empty,λ_=>⟨rfl,λ_ h=>by cases h⟩⟩
theorem keyLit (s:Bs):WideAt.IsKeyLit (.string s):=by simp [WideAt.IsKeyLit]
theorem invD_new {D:DataW Unit} {P:List Bs} {k:Bs} (h:BK D P) (hk:Yn P k=none):BK (D.put (.string k) (.lit (.int .i64 (P.length:Nat)))) (P++[k]):=by
 refine ⟨h.1.put _ _,λs=>?_⟩
 rw [B5]
 by_cases hs:s=k
 ·subst hs
  rw [hk]
  simp only [if_true]
  refine ⟨has_put_same h.1 (keyLit _) _,λa I=>?_⟩
  cases I
  exact atKey_put_same h.1 (keyLit _) _ _
 have A:(Lit.string s)≠.string k:=λe=>hs (by injection e)
 rw [has_put_other A,atKey_put_other A]
 have G:=(h.2 s)
 cases hf:Yn P s with
 | none=>rw [hf] at G;simp only [if_neg (λe=>hs (Eq.symm e))];exact ⟨G.1,λa I=>by cases I⟩
 | some a=>rw [hf] at G;exact G
theorem Rc {D:DataW Unit} {P:List Bs} {k:Bs} {a:Nat} (h:BK D P) (hk:Yn P k=some a):BK D (P++[k]):=by
 refine ⟨h.1,λs=>?_⟩
 rw [B5]
 have A:=h.2 s
 cases hf:Yn P s with
 | some b=>rw [hf] at A;exact A
 | none=>
  have hs:k≠s:=λe=>by subst e;rw [hf] at hk;cases hk
  rw [hf] at A
  simp only [if_neg hs]
  exact A
theorem Oq {w w':World} {k:TypeId} {R:Value->Option (DataW Unit × List MemPlace)} {b n:Nat} {D:DataW Unit} (h:w.ownsMap Tryz.prog k R b n D) (e:w'.heap[b]?=w.heap[b]?):w'.ownsMap Tryz.prog k R b n D:=by
 obtain ⟨es,c,h1,h2⟩:=h
 exact ⟨es,c,e.trans h1,h2⟩
theorem Mq {w:World} {k:TypeId} {R:Value->Option (DataW Unit × List MemPlace)} {b n:Nat} {D:DataW Unit} (h:w.ownsMap Tryz.prog k R b n D):b<w.heap.size:=by
 obtain ⟨es,c,h1,h2⟩:=h
 exact Z8 h1
def kb (l:List Int):Bs:=(l.map Jc).flatten
structure H9 (t:Tbl) (rows:List Val) (K:Val->List Int):Prop where
 key:∀ row ∈ rows,keyOf t.key row=some ((K row).map Y5)
 bd:∀ row ∈ rows,∀ x ∈ K row,-2305843009213693952<=x/\x<2305843009213693952
 len:∀ row ∈ rows,(K row).length<=3
def Uy (rows:List Val) (st:Nat × Nat):Ft:=if st.1=rows.length then Ft.zero else ⟨11,[],rows.getD st.1 Val.zero,rows.getD st.2 Val.zero⟩
structure UMid (w W1:World) (ks:List Bs) (k:Nat) (wr:World):Prop where
 below:Below w w wr
 keep:∀ b,b<w.heap.size+2->wr.heap[b]?=W1.heap[b]?
 map:∃ D,wr.ownsMap Tryz.prog 9 (plainElem Tryz.prog 3) (w+2) k D/\BK D (ks.take k)
theorem law9:Keyed Tryz.prog 9:=string_keyed Tryz.underlying9
theorem zero3 (w:World):(zeroValue 3).run Tryz.prog w=.ok (.int .i64 0) w:=Ir
theorem Tj (S S':Nat->Prop) (t:Tbl) (rows:List Val) (K:Val->List Int) (ct:List Value) (v:Value) (w:World) (ht:Zn.R S w ct t) (hv0:Sl Zc S' w v rows) (hK:H9 t rows K) (hl:rows.length<=100000) (hkl:t.key.length<=1000):
  Calls Tryz.prog 32 #[ct,v] w (G5 S' w (Uy rows (ust rows.length (rows.map λr=>kb (K r)) rows.length))):=by
 have gT:=@run_makeMap Tryz.prog
 have hv:=hv0.up
 have bA:=Qq (λrow cr (hm:row ∈ rows) W (hb:Below w w W) (hr:Z9 (λb=>S' b/\b<w) W cr row)=>(hK.key row hm) ▸ Ai S (λb=>S' b/\b<w) t row ct cr W (Zn.frame ht (.f hb)) hr hkl)
 have cG:=Qq (λ(n:Int) cs W (h0:-2305843009213693952<=n) (h1:n<2305843009213693952) (h:Z9 (λ_=>True) W cs (Y5 n))=>Ww _ n [] [] cs W h h0 h1)
 obtain ⟨bQ,bP,bX,bW,bZ,bY,k0,s1,n0,s2,p1,n1,c1,p2,n2,c2,p3,n3,c3,a0,z0,rfl,_,_,_,_,_⟩:=Yq ht
 obtain ⟨vp,gP,rfl,_⟩:=hv.len
 unfold AL at bA |-
 have HV:=Qq hv;have cI:=Qq hK
 obtain ⟨i5,j1,j2,j3,j4⟩:=Y8 (P:=Tryz.prog) (t:=5) (z:=.int .u8 0) (n:=1) (b:=1) Ir
 obtain ⟨HJ,eK,eL,eM⟩:=It j1 j2 j3 j4
 clear ht hv hv0 hK j1 j2 j3 j4
 obtain ⟨ks,aZ⟩:=eX ((rows.map λr=>kb (K r)))
 rw [aZ]
 have bT:ks.length=rows.length:=by rw [<- aZ,Z7]
 obtain ⟨n,hn⟩:=eX (rows.length)
 rw [hn] at HV hl bT |-
 obtain ⟨HN,eN,cJ⟩:=Im hn aZ bT
 clear hn aZ bT
 go_enter Tryz.func32,Tryz.ntmps32
 go_wp2_with fail
 generalize aK:((w.alloc (.cells (AR t bQ bP bX bW bZ bY k0 s1 n0 s2 p1 n1 c1 p2 n2 c2 p3 n3 c3 a0 z0) 48)).alloc (.cells zF 38)).alloc (.map #[] 0)=W1
 have cR:UMid w W1 ks 0 W1:=by
  refine ⟨by rw [<- aK];exact Xt _ _ _ _,λ_ _=>rfl,.map [],?_,invD_nil⟩
  rw [<- aK]
  have e:((w.alloc (.cells (AR t bQ bP bX bW bZ bY k0 s1 n0 s2 p1 n1 c1 p2 n2 c2 p3 n3 c3 a0 z0) 48)).alloc (.cells zF 38)).heap.size=w.heap.size+2:=Ib
  rw [<- e]
  exact World.ownsMap_made _ _ _ _
 have cY:W1.heap[w.heap.size]?=some (.cells (AR t bQ bP bX bW bZ bY k0 s1 n0 s2 p1 n1 c1 p2 n2 c2 p3 n3 c3 a0 z0) 48 (0,0)):=by rw [<- aK,Below.heap_alloc _ _ _ (by simp;omega)];exact Q5 _ _ _
 have cW:W1.heap[w.heap.size+1]?=some (.cells zF 38 (0,0)):=by rw [<- aK,Below.heap_alloc _ _ _ Ib];exact Q6 _ _ _
 obtain ⟨eO,eY,eT⟩:=Im cR cY cW
 clear cR cY cW aK
 go_loopw [6,7,21] (λeZ gA i wr=>∃ (k:Nat) (st:Nat × Nat),k<=n/\i=.int .i64 k/\Aside (ust n ks k=st)/\eZ=.int .i64 (st.1:Nat)/\gA=.int .i64 (st.2:Nat)/\UMid w W1 ks k wr) (λ_ _ i _=>n - (intOf i).toNat)
 case atStart=>exact ⟨0,(n,0),Q8 _,rfl,rfl,rfl,rfl,eO.o⟩
 obtain ⟨k,st,hk,rfl,dL,rfl,rfl,hM⟩:=hrel
 have HM:=Qq hM;have aX:=Qq dL.o
 have hX:=(hM.keep _ Ia).trans eY.o
 have hR:=(hM.keep _ Ia).trans eT.o
 have dN:w.heap.size+2<wr.heap.size:=by
  obtain ⟨D,hD,_⟩:=hM.map
  exact Mq hD
 clear dL
 have gW:w.heap.size<wr.heap.size:=Ia
 have gY:w.heap.size≠wr.heap.size:=Ia
 by_cases hlt:k<n
 ·have fM:(0:Int)<=(k:Int):=Ia
  have fN:(k:Int)<(n:Int):=Ia
  obtain ⟨row,aC⟩:∃ row,rows[k]?=some row:=⟨_,Qx (by rw [HN.o];exact hlt)⟩
  obtain ⟨hA,gQ,M,I,N,J,rfl,gV,dQ,d0,d1,d2,d3,d4⟩:=(HV.o.below hM.below).val aC
  obtain ⟨y0,y1,y2,y3,y4,y5,y6,y7,y8,y9,gG,gH,gI⟩:=AP hX
  have aB:=Qy aC
  have aJ:=bA.o row (Il row M I N J) aB (wr.alloc (.cells (Is row M I N J) 36)) (hM.below.n (Zg _ _)) (dQ.move (.f (Zg _ _)) Ij)
  have T:=Qq aJ
  have V:=cI.o.bd row aB
  have bU:=cI.o.len row aB
  have bE:ks[k]?=some (kb (K row)):=by rw [<- eN.o,List.getElem?_map,aC];rfl
  have cF:=Qq V;have aH:=Qq bE
  clear aC dQ aB aJ V bE hM hX hR
  obtain ⟨L,hL⟩:=eX (K row)
  rw [hL] at T cF aH bU
  clear hL
  go_wp2_with fail
  unfold Il at T
  refine T.o.mono ?_
  rintro e w5 ⟨kp,kn,gN,rfl,bF,aO,dD⟩
  rw [Option.getD_some,Z7] at bF
  subst bF
  rw [Option.getD_some] at aO
  have aL:Below wr wr w5:=(Zg _ _).n dD
  have cM:=Qq (aO.mono (S':=λ_=>True) (λ_ _ _=>trivial));have aF:=Qq aL
  have gK:=aL.size
  clear aO dD aL y0 y1 y2 y3 y4 y5 y6 y7 y8 y9 gG gH gI d0 d1 d2 d3 d4
  go_wp2_with fail
  go_loopw [11,31] (λb j wv=>∃ (q:Nat) (A:Bs) (p:Option Addr) (cap:Nat),q<=L.length/\j=.int .i64 q/\b=.slice p A.length cap/\Aside (A=kb (L.take q))/\Below w5 w5 wv/\A.length<=20*q /\
   ∃ css,Own Vp 5 (λ_=>True) w5 wv (.slice p A.length cap) A css) (λ_ j _=>L.length - (intOf j).toNat)
  case atStart=>exact ⟨0,[],none,0,Q8 _,rfl,rfl,rfl,Qz _ _,Ib,[],Own.nil _ _ _ _ _⟩
  obtain ⟨q,A,p,cap,hq,rfl,rfl,hE,bR,gR,css,hO⟩:=hrel
  obtain ⟨aG,HO,HE⟩:=Im bR hO hE.o
  have gM:=bR.size
  clear bR hO hE
  by_cases hql:q<L.length
  ·have fO:(0:Int)<=(q:Int):=Ia
   have fP:(q:Int)<(L.length:Int):=Ia
   obtain ⟨x,hx⟩:∃ x,L[q]?=some x:=⟨_,Qx hql⟩
   have dU:(L.map Y5)[q]?=some (Y5 x):=by rw [List.getElem?_map,hx];rfl
   have dM:=(cM.o.below aG.o).val dU
   simp only [Y5,Val.kind,Val.n,Val.s,Val.names,Val.kids,List.length_nil] at dM
   obtain ⟨ub,gO,q3,l3,q4,l4,rfl,gU,bV,e0,e1,e2,e3,e4⟩:=dM
   simp only [Il,Val.kind,Val.n,Val.s,Val.names,Val.kids,List.length_nil] at bV
   have HX:=Qq hx
   have aM:=cF.o x (Qy hx)
   have cQ:=cG.o x _ (wr.alloc (.cells #[Ic,x,Ig,.slice q3 0 l3,.slice q4 0 l4] 36)) aM.1 aM.2 (Z9.move bV (.f (Zg _ _)) Ij)
   have eI:=Qq cQ
   have gS:=Pi aM.1 aM.2
   have dK:Jc x≠[]:=by
    unfold Jc
    intro e
    have:=congrArg List.length e
    rw [Ql] at this
    have h2:vb (zz 0)=[0]:=by rw [show zz 0=0 from rfl,Eh Ia];rfl
    rw [h2] at this
    simp at this
   have eP:=Qq dK
   clear hx dU bV aM cQ dK
   go_wp2_with fail
   refine eI.o.mono ?_
   rintro e w6 ⟨ep,aI,fC,rfl,aY,dE⟩
   have Y:Below wr wr w6:=(Zg _ _).n dE
   have cU:Own Vp 5 (λ_=>True) w5 w6 (.slice p A.length cap) A css:=HO.o.below Y
   have hY:Sl Vp (But (λ_=>True) (.slice p A.length cap)) w6 (.slice ep (Jc x).length aI) (Jc x):=by
    have cS:Own Vp 5 (λ_=>False) _ w6 (.slice ep (Jc x).length aI) (Jc x) fC:=⟨aY.row,⟨aY.cs.len,λi c y hc hy=>aY.cs.R i c y hc hy⟩⟩
    refine cS.sl Ia (λb hb=>⟨trivial,λe=>?_⟩) (λb hb h=>h.elim)
    have h1:=(HO.o.row.lt b e.symm).2
    have h2:wr.heap.size+1<=b:=by simpa using hb
    omega
   obtain ⟨eH,cL,HY⟩:=Im Y cU hY
   have gL:=Y.size
   clear aY dE Y cU hY e0 e1 e2 e3 e4
   go_wp2_with (at_builtin;refine U1 (r:=Vp) Ih rfl (.tmp 35) (.tmp 37) _ rfl 5 i5 (.int .u8 0) 1 Tryz.underlying116 HJ.o eK.o eL.o eM.o rfl Ia (λ_=>True) w5 w6 (.slice p A.length cap) A css (Jc x) ep (Jc x).length aI rfl cL.o rfl HY.o rfl eP.o Ra Ia Ia ?_;intro p7 cN cO w7 cT dF dA;have eR:=Qq cT;have eJ:=Qq dF;clear cT dF dA)
   go_roundw
   case measure=>simp [intOf];omega
   case rel=>
    refine ⟨q+1,A++Jc x,p7,cN,Ia,by go_num,by rw [Ql],(show Aside _ from ?_),(aG.o.n eH.o).grown eJ.o Ia (λg hg=>(cL.o.row.lt g hg).1),by rw [Ql];omega,cO,by rw [Ql];exact eR.o⟩
    have:A++Jc x=kb (L.take (q+1)):=by
     obtain ⟨fS,rfl⟩:=Qj HX.o
     rw [HE.o,Zz fS]
     unfold kb
     rw [List.map_append,List.flatten_append]
     simp only [List.map_cons,List.map_nil,List.flatten_cons,List.flatten_nil,List.append_nil]
    exact this
  have fT:q=L.length:=Ia
  subst fT
  have bS:A=kb L:=by rw [HE.o,Zj (Q9 _)]
  have fK:=conv_own HO.o
  obtain ⟨D,hD,hI⟩:=HM.o.map
  have cP:wr.ownsMap Tryz.prog 9 (plainElem Tryz.prog 3) (w+2) k D:=Oq hD (by rw [aG.o.block _ Ia,aF.o.block _ dN])
  have dI:Go.keyOf Tryz.prog 9 (.string ⟨A.toArray⟩)=some (.string A):=keyOf_string_mk Tryz.underlying9 (by rw [Vc];unfold maxLen;omega)
  have Zb:∀ b,b<w.heap.size+2->wr.heap[b]?=W1.heap[b]?:=λb hb=>by
   rw [aG.o.block _ Ia,aF.o.block _ Ia]
   exact HM.o.keep b hb
  have Z:Below w w wr:=HM.o.below.n (aF.o.n aG.o)
  have dJ:(ks.take k).length=k:=by rw [Qm,cJ.o];omega
  have dO:ks.take (k+1)=ks.take k++[A]:=by
   obtain ⟨fQ,e⟩:=Qj aH.o
   rw [Zz fQ,e,bS]
  have dP:ust n ks (k+1)=Vs (ks.take k) st A:=by
   show Vs (ks.take k) (ust n ks k) (ks.getD k [])=_
   rw [aX.o,Qs,aH.o,Option.getD_some,bS]
  obtain ⟨HD,HI,aW,O,G,bK,bM,bO⟩:=AV cP hI dI Zb Z dJ dO dP
  have dT:(Lit.int .i64 (k:Int)).wf=true:=WalkArith.wf_i64 Ia
  have eW:=Qq dT
  clear bS hD hI cP dI Zb Z dJ dO dP dT
  cases hf:Yn (ks.take k) A with
  | none=>
   have dG:Maps.has D (.string A)=false:=by rw [(HI.o.2 A).1,hf];rfl
   have HF:=Qq hf
   clear hf
   go_wp2_with (first | (at_lookup;refine wpList_lookup_own_ok_int _ rfl (.tmp 41) (.tmp 43) _ rfl 9 3 .i64 law9 Tryz.underlying115 Tryz.underlying3 (zero3 _) (w+2) k D rfl HD.o (.string ⟨A.toArray⟩) (.string A) rfl aW.o ?_;intro c U aQ;clear U aQ) | (at_mapUpdate;refine wpList_mapUpdate_own _ rfl (.tmp 49) (.tmp 51) (.tmp 52) _ rfl 9 3 law9 Tryz.underlying115 _ (w+2) k D rfl HD.o (by unfold maxLen;omega) (.string ⟨A.toArray⟩) (.int .i64 k) (.string A) rfl rfl aW.o _ [] (plainElem_int Tryz.underlying3 eW.o) ?_;intro w8 aN aA;have eS:=Qq aN;have cH:=Qq aA;clear aN aA))
   go_roundw
   case measure=>simp [intOf];omega
   case rel=>
    have gJ:=Mq HD.o
    refine ⟨k+1,st,Ia,by go_num,(show Aside _ from ?_),rfl,rfl,⟨G.o.grown cH.o G.o.size (λg hg=>by have:=Qb hg;omega),λb hb=>?_,_,eS.o,?_⟩⟩
    ·have:ust n ks (k+1)=st:=by rw [bO.o];unfold Vs;rw [HF.o]
     exact this
    ·rw [cH.o.block b Ia (λe=>by have:=Qb e;omega)];exact O.o b hb
    rw [bM.o]
    have:=invD_new HI.o HF.o
    rwa [bK.o] at this
  | some a=>
   have dG:Maps.has D (.string A)=true:=by rw [(HI.o.2 A).1,hf];rfl
   have cE:=Qq ((HI.o.2 A).2 a hf)
   have fJ:=Gk hf
   rw [bK.o] at fJ
   have HF:=Qq hf
   clear hf
   by_cases hab:a<st.1
   ·have cZ:(a:Int)<(st.1:Int):=Ia
    go_wp2_with (at_lookup;refine wpList_lookup_own_ok_int _ rfl (.tmp 41) (.tmp 43) _ rfl 9 3 .i64 law9 Tryz.underlying115 Tryz.underlying3 (zero3 _) (w+2) k D rfl HD.o (.string ⟨A.toArray⟩) (.string A) rfl aW.o ?_;intro c U aQ;obtain rfl:c=(a:Int):=(by have h1:=U.symm.trans cE.o;simpa using h1);clear U aQ)
    go_roundw
    case measure=>simp [intOf];omega
    case rel=>
     refine ⟨k+1,(a,k),Ia,by go_num,(show Aside _ from ?_),rfl,rfl,⟨G.o,O.o,D,?_,?_⟩⟩
     ·have:ust n ks (k+1)=(a,k):=by rw [bO.o];unfold Vs;rw [HF.o];simp only [if_pos hab,bK.o]
      exact this
     ·obtain ⟨es,cl,h1,h2,h3,h4⟩:=HD.o
      exact ⟨es,cl,h1,h2,Ia,h4⟩
     rw [bM.o];exact Rc HI.o HF.o
   have cZ:¬ ((a:Int)<(st.1:Int)):=Ia
   go_wp2_with (at_lookup;refine wpList_lookup_own_ok_int _ rfl (.tmp 41) (.tmp 43) _ rfl 9 3 .i64 law9 Tryz.underlying115 Tryz.underlying3 (zero3 _) (w+2) k D rfl HD.o (.string ⟨A.toArray⟩) (.string A) rfl aW.o ?_;intro c U aQ;obtain rfl:c=(a:Int):=(by have h1:=U.symm.trans cE.o;simpa using h1);clear U aQ)
   go_roundw
   case measure=>simp [intOf];omega
   case rel=>
    refine ⟨k+1,st,Ia,by go_num,(show Aside _ from ?_),rfl,rfl,⟨G.o,O.o,D,?_,?_⟩⟩
    ·have:ust n ks (k+1)=st:=by rw [bO.o];unfold Vs;rw [HF.o];simp only [if_neg hab]
     exact this
    ·obtain ⟨es,cl,h1,h2,h3,h4⟩:=HD.o
     exact ⟨es,cl,h1,h2,Ia,h4⟩
    rw [bM.o];exact Rc HI.o HF.o
 have dH:k=n:=Ia
 subst dH
 have fz:=λj=>Qn _ _ j _ _ hR
 have rr:=λj=>Qk _ _ j _ _ _ hR
 have r0:=rr 0;have f0:=fz 0;have r1:=rr 1;have f1:=fz 1;have r2:=rr 2;have f2:=fz 2;have r3:=rr 3;have f3:=fz 3;have r4:=rr 4;have f4:=fz 4;have r5:=rr 5;have f5:=fz 5;have r6:=rr 6;have f6:=fz 6;have r7:=rr 7;have f7:=fz 7;have r8:=rr 8;have f8:=fz 8;have r9:=rr 9;have f9:=fz 9;have dY:=rr 10;have fF:=fz 10;have dZ:=rr 11;have fG:=fz 11
 simp only [Qf,Qg,Qh] at r0 r1 r2 r3 r4 r5 r6 r7 r8 r9 dY dZ
 have HR:=Qq hR
 have V:=ust_bd k ks k (by rw [cJ.o];exact Q9 _)
 rw [aX.o] at V
 clear fz rr hR hX hM
 by_cases hz:st.1=k
 ·have hq:((st.1:Int)==(k:Int))=true:=by rw [hz];simp
  have aP:Uy rows (ust k ks k)=Ft.zero:=by rw [aX.o];unfold Uy;rw [if_pos (by rw [HN.o];exact hz)]
  have bN:=Qq aP
  clear aP V
  have HZ:=Qq hz
  clear hz
  go_wp2_with fail
  show bodyPost _ _ _ _ _ (Y9 wr _ _ _ _ _ _ _ _ _ _ _ _ _)
  refine Q7 (v:=.agg zF) (by simp [results,Tryz.results32,go_sem,Ya HR.o]) rfl ⟨[Ic,Ig,Ic,Ic,Ig,Ie,Ie,Ic,Ic,Ig,Ie,Ie],rfl,by rw [bN.o];exact Kt _ _,Y1 HM.o.below Ia⟩
 obtain ⟨dB,dC⟩:=V.resolve_left hz
 have hq:((st.1:Int)==(k:Int))=false:=by rw [<- Qt,beq_iff_eq];omega
 obtain ⟨x,hx⟩:∃ x,rows[st.1]?=some x:=⟨_,Qx (by rw [HN.o];exact dB)⟩
 obtain ⟨y,hy⟩:∃ y,rows[st.2]?=some y:=⟨_,Qx (by rw [HN.o];exact dC)⟩
 have aP:Uy rows (ust k ks k)=⟨11,[],x,y⟩:=by
  rw [aX.o]
  unfold Uy
  rw [if_neg (by rw [HN.o];exact hz),Qs,Qs,hx,hy];rfl
 have bN:=Qq aP
 obtain ⟨xb,eB,M,I,N,J,rfl,gX,dR,d0,d1,d2,d3,d4⟩:=(HV.o.below HM.o.below).val hx
 obtain ⟨yb,eC,aT,aR,aU,aS,he,gZ,dS,e0,e1,e2,e3,e4⟩:=(HV.o.below HM.o.below).val hy
 obtain ⟨rfl,rfl,-⟩:xb=yb/\eB=eC/\True:=by simpa using he
 have fM:(0:Int)<=(st.1:Int):=Ia
 have fN:(st.1:Int)<(k:Int):=Ia
 have fO:(0:Int)<=(st.2:Int):=Ia
 have fP:(st.2:Int)<(k:Int):=Ia
 have eU:=Qq dR;have eV:=Qq dS
 clear aP V hz hx hy he dR dS dB dC
 go_wp2_with fail
 go_region
 go_wp2_with fail
 obtain ⟨W,hW⟩:=eX (Y9 wr (w+1) (.int .i64 11) Ig x.kind x.n x.s (.slice M x.names.length I) (.slice N x.kids.length J) y.kind y.n y.s (.slice aT y.names.length aR) (.slice aU y.kids.length aS))
 have q:∀ j,W.cell? ⟨w+1,j,none⟩=#[.int .i64 11,.string ⟨#[]⟩,.int .i64 x.kind,.int .i64 x.n,.string ⟨x.s.toArray⟩,.slice M x.names.length I,.slice N x.kids.length J,.int .i64 y.kind,.int .i64 y.n,.string ⟨y.s.toArray⟩,.slice aT y.names.length aR,.slice aU y.kids.length aS][j]?:=λj=>by rw [<- hW];exact Ya HR.o j
 have bG:∀ b,b<w.heap.size->W.heap[b]?=wr.heap[b]?:=λb hb=>by rw [<- hW];exact Xj Ia
 have bD:Below w w W:=by rw [<- hW];exact Y1 HM.o.below Ia
 show bodyPost _ _ _ _ _ (World.drew (Y9 wr (w+1) (.int .i64 11) Ig x.kind x.n x.s (.slice M x.names.length I) (.slice N x.kids.length J) y.kind y.n y.s (.slice aT y.names.length aR) (.slice aU y.kids.length aS)))
 rw [hW]
 have bB:=Qq bG;have G:=Qq bD
 obtain ⟨q0,q1,q2,q3,q4,q5,q6,q7,q8,q9,dW,dX⟩:=AJ q
 simp only [Qf,Qg,Qh] at q0 q1 q2 q3 q4 q5 q6 q7 q8 q9 dW dX
 clear hW bG bD q r0 r1 r2 r3 r4 r5 r6 r7 r8 r9 dY dZ f0 f1 f2 f3 f4 f5 f6 f7 f8 f9 fF fG
 refine Q7 (v:=.agg (AU (.int .i64 11) Ig x M I N J y aT aR aU aS)) (by simp [results,Tryz.results32,go_sem,q0,q1,q2,q3,q4,q5,q6,q7,q8,q9,dW,dX]) rfl ⟨_,rfl,?_,G.o.drew⟩
 rw [bN.o]
 refine ⟨Il x M I N J,Il y aT aR aU aS,rfl,Ib,?_,?_⟩
 ·exact Z9.move (S':=S') eU.o (λb hb _=>bB.o b hb.2) (λ_ _ h=>h.1)
 exact Z9.move (S':=S') eV.o (λb hb _=>bB.o b hb.2) (λ_ _ h=>h.1)
def U5 (W:World) (R:Nat) (a0 a1 a2 a3 a4 a5 a6 a7 a8 a9 a10 a11 a12:Value):World:=(((((((((((((W.setCell ⟨R,0,none⟩ a0).setCell ⟨R,1,none⟩ a1).setCell ⟨R,2,none⟩ a2).setCell ⟨R,3,none⟩ a3).setCell ⟨R,4,none⟩ a4).setCell ⟨R,5,none⟩ a5).setCell ⟨R,6,none⟩ a6).setCell ⟨R,7,none⟩ a7).setCell ⟨R,8,none⟩ a8).setCell ⟨R,9,none⟩ a9).setCell ⟨R,10,none⟩ a10).setCell ⟨R,11,none⟩ a11).setCell ⟨R,12,none⟩ a12)
theorem Lo {W:World} {R:Nat} {a0 a1 a2 a3 a4 a5 a6 a7 a8 a9 a10 a11 a12 x0 x1 x2 x3 x4 x5 x6 x7 x8 x9 x10 x11 x12:Value} {t:TypeId} (h:W.heap[R]?=some (.cells #[x0,x1,x2,x3,x4,x5,x6,x7,x8,x9,x10,x11,x12] t (0,0))):(U5 W R a0 a1 a2 a3 a4 a5 a6 a7 a8 a9 a10 a11 a12).heap[R]?=some (.cells #[a0,a1,a2,a3,a4,a5,a6,a7,a8,a9,a10,a11,a12] t (0,0)):=by
 have A:=Qi _ _ 0 _ _ a0 h;have A:=Qi _ _ 1 _ _ a1 A;have A:=Qi _ _ 2 _ _ a2 A;have A:=Qi _ _ 3 _ _ a3 A;have A:=Qi _ _ 4 _ _ a4 A;have A:=Qi _ _ 5 _ _ a5 A;have A:=Qi _ _ 6 _ _ a6 A;have A:=Qi _ _ 7 _ _ a7 A;have A:=Qi _ _ 8 _ _ a8 A;have A:=Qi _ _ 9 _ _ a9 A;have A:=Qi _ _ 10 _ _ a10 A;have A:=Qi _ _ 11 _ _ a11 A;have A:=Qi _ _ 12 _ _ a12 A
 simpa [U5] using A
theorem Ut {W:World} {R:Nat} {a0 a1 a2 a3 a4 a5 a6 a7 a8 a9 a10 a11 a12 x0 x1 x2 x3 x4 x5 x6 x7 x8 x9 x10 x11 x12:Value} {t:TypeId} (h:W.heap[R]?=some (.cells #[x0,x1,x2,x3,x4,x5,x6,x7,x8,x9,x10,x11,x12] t (0,0))) (j:Nat):(U5 W R a0 a1 a2 a3 a4 a5 a6 a7 a8 a9 a10 a11 a12).cell? ⟨R,j,none⟩=#[a0,a1,a2,a3,a4,a5,a6,a7,a8,a9,a10,a11,a12][j]?:=
 Qk _ _ _ _ _ _ (Lo h)
theorem Jw {W:World} {R k:Nat} {a0 a1 a2 a3 a4 a5 a6 a7 a8 a9 a10 a11 a12:Value} (h:k≠R):(U5 W R a0 a1 a2 a3 a4 a5 a6 a7 a8 a9 a10 a11 a12).heap[k]?=W.heap[k]?:=by
 unfold U5
 repeat rw [Za h]
theorem V9 {B R:Nat} {w W:World} {a0 a1 a2 a3 a4 a5 a6 a7 a8 a9 a10 a11 a12:Value} (h:Below B w W) (hR:B<=R):Below B w (U5 W R a0 a1 a2 a3 a4 a5 a6 a7 a8 a9 a10 a11 a12):=
 ((((((((((((h.setCell (p:=⟨R,0,none⟩) hR _).setCell (p:=⟨R,1,none⟩) hR _).setCell (p:=⟨R,2,none⟩) hR _).setCell (p:=⟨R,3,none⟩) hR _).setCell (p:=⟨R,4,none⟩) hR _).setCell (p:=⟨R,5,none⟩) hR _).setCell (p:=⟨R,6,none⟩) hR _).setCell (p:=⟨R,7,none⟩) hR _).setCell (p:=⟨R,8,none⟩) hR _).setCell (p:=⟨R,9,none⟩) hR _).setCell (p:=⟨R,10,none⟩) hR _).setCell (p:=⟨R,11,none⟩) hR _).setCell (p:=⟨R,12,none⟩) hR _
def Tbl.zero:Tbl:=⟨[],[],[],[],.mk 0 [] 0 [] [] [] [] 0 0⟩
theorem Gv (S:Nat->Prop) (w:World):Zn.R S w [Ig,Ie,Ie,Ie,Ic,Ig,Ic,Ig,Ie,Ie,Ie,Ic,Ic] Tbl.zero:=
 ⟨_,_,_,_,rfl,by simp [Tbl.zero],Sl.nil _ _ _,Sl.nil _ _ _,Sl.nil _ _ _,Xv (nm:=[]) (s:=[]) Ib Ib (Sl.nil _ _ _) (Sl.nil _ _ _) (Sl.nil _ _ _)⟩
theorem Wt (S:Nat->Prop) (t:Tbl) (ct:List Value) (w:World) (h:Zn.R S w ct t):
  Calls prog 164 #[ct] w λe w'=>e=.returned (sv t.name)/\Below w w w':=by
 obtain ⟨cp,cc,kp,kc,rp,rc,k,s1,n,s2,p1,n1,c1,p2,n2,c2,p3,n3,c3,a,z,A,_⟩:=Yq h
 simp only [AL] at A
 subst A
 clear h
 unfold sv
 go_enter func164,ntmps164
 go_wp2_with fail
 go_ret
 exact ⟨rfl,Zg _ _⟩
def Yw (l:List Tbl) (x:Bs):Option Tbl:=l.find? (λt=>decide (t.name=x))
def NamedIs (S:Nat->Prop) (w:World) (o:Option Tbl) (e:Ending) (w':World):Prop:=∃ cs',e=.returned (.tuple #[.agg cs'.toArray,.bool o.isSome])/\Zn.R (λb=>S b/\b<w) w' cs' (o.getD Tbl.zero)/\Below w w w'
theorem Qjz (S:Nat->Prop) (l:List Tbl) (v:Value) (x0:Bs) (w:World) (hv0:Sl Zn S w v l):
  Calls prog 163 #[v,.func (.func 164) #[] #[],sv x0] w (NamedIs S w (Yw l x0)):=by
 have hv:=hv0.up
 obtain ⟨vp,eB,rfl,hl⟩:=hv.len
 have HV:=Qq hv
 clear hv hv0
 obtain ⟨m,hm⟩:=eX (l.length)
 rw [hm] at HV hl |-
 have HN:=Qq hm
 clear hm
 obtain ⟨r,hr⟩:=eX (Yw l x0)
 rw [hr]
 have HR:=Qq hr
 clear hr
 unfold sv
 go_enter func163,ntmps163
 go_wp2_with fail
 generalize cD:w.alloc (.cells zT 48)=W1
 have cT:=Iq cD (Zg _ _)
 have cS:=Ik (b:=w.heap.size) cD (Qw _ _)
 have dP:=Qq cT;have dR:=Qq cS
 clear cD cT cS
 go_loopw [13] (λi wr=>∃ k:Nat,k<=m/\i=.int .i64 k/\Aside (∀ (j:Nat) (y:Tbl),j<k->l[j]?=some y->decide (y.name=x0)=false)/\Below W1 W1 wr) (λi _=>m - (intOf i).toNat)
 case atStart=>exact ⟨0,Q8 _,rfl,λj _ hj=>absurd hj (Z6 _),Qz _ _⟩
 obtain ⟨k,hk,rfl,hA,hB⟩:=hrel
 have G:=kB hB dR.o
 have bM:=Z8 G
 obtain ⟨HA,HB,dQ⟩:=Im hA.o (dP.o.n hB) hB
 clear hA hB
 by_cases cH:k<m
 ·have eD:(0:Int)<=(k:Int):=Ia
  have eE:(k:Int)<(m:Int):=Ia
  obtain ⟨x,hx⟩:∃ x,l[k]?=some x:=⟨_,Qx (by rw [HN.o];exact cH)⟩
  obtain ⟨bb,eF,cx,rfl,eC,-,-,bK,D⟩:=(HV.o.below HB.o).elem hx
  have cB:=Qq (Wt _ x cx (wr.alloc (.cells cx.toArray 48)) (Zn.frame bK (.f (Zg _ _))))
  have dS:=Qq bK
  obtain ⟨aF,aE,aL,aK,aW,aV,k9,aX,n9,aY,aP,aM,aB,aQ,aN,aC,aR,aO,aD,a9,z9,cU,_⟩:=Yq bK
  simp only [AL] at cU
  subst cU
  have y0:=D 0 _ rfl;have y1:=D 1 _ rfl;have y2:=D 2 _ rfl;have y3:=D 3 _ rfl;have y4:=D 4 _ rfl;have y5:=D 5 _ rfl;have y6:=D 6 _ rfl;have y7:=D 7 _ rfl;have y8:=D 8 _ rfl;have y9:=D 9 _ rfl;have dI:=D 10 _ rfl;have dJ:=D 11 _ rfl;have dK:=D 12 _ rfl
  simp only [show Zn.k=13 from rfl,Nat.add_zero] at y0 y1 y2 y3 y4 y5 y6 y7 y8 y9 dI dJ dK
  have HX:=Qq hx;have aA:=Qq G
  clear hx bK D G
  unfold sv at cB
  by_cases he:x.name=x0
  ·have hq:(x.name==x0)=true:=by rw [he];simp
   have aJ:r=some x:=by
    rw [<- HR.o]
    unfold Yw
    obtain ⟨dU,eA⟩:=Qj HX.o
    rw [List.find?_eq_some_iff_getElem]
    refine ⟨by simp [he],k,dU,eA,λj hj=>?_⟩
    have:=HA.o j _ hj (Qx Ia)
    simpa using this
   have Z:=Qq aJ
   clear aJ he
   go_wp2_with fail
   refine cB.o.mono ?_
   rintro e w5 ⟨rfl,hw⟩
   have A:=(hw.block wr Ib).trans (Qw wr _)
   have I:=(hw.block w (by simp;omega)).trans ((Below.heap_alloc wr _ _ bM).trans aA.o)
   have aZ:=Qk _ _ 0 _ _ _ A;have bA:=Qk _ _ 1 _ _ _ A;have bB:=Qk _ _ 2 _ _ _ A;have bC:=Qk _ _ 3 _ _ _ A;have bD:=Qk _ _ 4 _ _ _ A;have bE:=Qk _ _ 5 _ _ _ A;have bF:=Qk _ _ 6 _ _ _ A;have bG:=Qk _ _ 7 _ _ _ A;have bH:=Qk _ _ 8 _ _ _ A;have bI:=Qk _ _ 9 _ _ _ A;have T:=Qk _ _ 10 _ _ _ A;have U:=Qk _ _ 11 _ _ _ A;have V:=Qk _ _ 12 _ _ _ A
   have fz:=λj=>Qn _ _ j _ _ I
   have rr:=λj=>Qk _ _ j _ _ _ I
   obtain ⟨f0,f1,f2,f3,f4,f5,f6,f7,f8,f9,aG,aH,aI⟩:=AX fz
   obtain ⟨r0,r1,r2,r3,r4,r5,r6,r7,r8,r9,M,N,O⟩:=AX rr
   simp only [Qf,Qg,Qh] at aZ bA bB bC bD bE bF bG bH bI T U V r0 r1 r2 r3 r4 r5 r6 r7 r8 r9 M N O
   have cA:=Qq (HB.o.n ((Zg wr _).n hw));have cC:=Qq I
   have cJ:=Qq ((Zg wr _).n hw)
   clear fz rr A I hw y0 y1 y2 y3 y4 y5 y6 y7 y8 y9 dI dJ dK
   go_wp2_with fail
   obtain ⟨W,hW⟩:=eX (U5 w5 w x.name (.slice aF x.columns.length aE) (.slice aL x.key.length aK) (.slice aW x.refs.length aV) k9 (.string aX) n9 (.string aY) (.slice aP aM aB) (.slice aQ aN aC) (.slice aR aO aD) a9 z9)
   have q:∀ j,W.cell? ⟨w,j,none⟩=#[.string ⟨x.name.toArray⟩,.slice aF x.columns.length aE,.slice aL x.key.length aK,.slice aW x.refs.length aV,.int .i64 k9,.string aX,.int .i64 n9,.string aY,.slice aP aM aB,.slice aQ aN aC,.slice aR aO aD,.int .i64 a9,.int .i64 z9][j]?:=λj=>by rw [<- hW];exact Ut cC.o j
   have bN:∀ b,b<w.heap.size->W.heap[b]?=w5.heap[b]?:=λb hb=>by rw [<- hW];exact Jw Ia
   have J:Below w w W:=by rw [<- hW];exact V9 cA.o (Q9 _)
   show bodyPost _ _ _ _ _ (U5 w5 w x.name (.slice aF x.columns.length aE) (.slice aL x.key.length aK) (.slice aW x.refs.length aV) k9 (.string aX) n9 (.string aY) (.slice aP aM aB) (.slice aQ aN aC) (.slice aR aO aD) a9 z9)
   rw [hW]
   have cK:=Qq bN;have Y:=Qq J
   obtain ⟨q0,q1,q2,q3,q4,q5,q6,q7,q8,q9,aS,aT,aU⟩:=AX q
   simp only [Qf,Qg,Qh] at q0 q1 q2 q3 q4 q5 q6 q7 q8 q9 aS aT aU
   clear hW bN J q r0 r1 r2 r3 r4 r5 r6 r7 r8 r9 M N O f0 f1 f2 f3 f4 f5 f6 f7 f8 f9 aG aH aI aZ bA bB bC bD bE bF bG bH bI T U V
   refine Q7 (v:=.tuple #[.agg (AR x aF aE aL aK aW aV k9 aX n9 aY aP aM aB aQ aN aC aR aO aD a9 z9),.bool true]) (by simp [results,results163,go_sem,q0,q1,q2,q3,q4,q5,q6,q7,q8,q9,aS,aT,aU]) rfl ⟨AR x aF aE aL aK aW aV k9 aX n9 aY aP aM aB aQ aN aC aR aO aD a9 z9,by rw [Z.o];rfl,?_,Y.o⟩
   rw [Z.o]
   exact Zn.frame dS.o (λb hb cH=>(cK.o b hb.2).trans (cJ.o.block b cH))
  have hq:(x.name==x0)=false:=by rw [<- Qt,beq_iff_eq];exact he
  have HE:=Qq he
  clear he
  go_wp2_with (go_at_call 164;refine cB.o.mono ?_;rintro e w5 ⟨rfl,hw⟩;have dT:=Qq ((Zg wr _).n hw);clear hw)
  go_roundw
  case measure=>simp [intOf];omega
  case rel=>
   refine ⟨k+1,Ia,by go_num,(show Aside _ from λj y hj hy=>?_),?_⟩
   ·by_cases e:j=k
    ·subst e
     have:=HX.o
     rw [this] at hy
     cases hy
     simpa using HE.o
    exact HA.o j y Ia hy
   exact (dQ.o.n dT.o)
 have dV:k=m:=Ia
 subst dV
 have aJ:r=none:=by
  rw [<- HR.o]
  unfold Yw
  rw [List.find?_eq_none]
  intro y hy
  obtain ⟨j,hj⟩:=Zk hy
  have:=HA.o j y (by have:=(Qj hj).1;have:=HN.o;omega) hj
  simpa using this
 have Z:=Qq aJ
 have fz:=λj=>Qn _ _ j _ _ G
 have rr:=λj=>Qk _ _ j _ _ _ G
 obtain ⟨f0,f1,f2,f3,f4,f5,f6,f7,f8,f9,aG,aH,aI⟩:=AX fz
 obtain ⟨r0,r1,r2,r3,r4,r5,r6,r7,r8,r9,M,N,O⟩:=AX rr
 simp only [Qf,Qg,Qh] at r0 r1 r2 r3 r4 r5 r6 r7 r8 r9 M N O
 have aA:=Qq G
 clear fz rr G aJ f0 f1 f2 f3 f4 f5 f6 f7 f8 f9 aG aH aI r0 r1 r2 r3 r4 r5 r6 r7 r8 r9 M N O
 go_upto_region 8 with fail
 generalize cE:wr.alloc (.cells zT 48)=w5
 have cF:=Iq cE (Zg _ _)
 have A:=Ik (b:=wr.heap.size) cE (Qw _ _)
 have I:=(cF.block w bM).trans aA.o
 have aZ:=Qk _ _ 0 _ _ _ A;have bA:=Qk _ _ 1 _ _ _ A;have bB:=Qk _ _ 2 _ _ _ A;have bC:=Qk _ _ 3 _ _ _ A;have bD:=Qk _ _ 4 _ _ _ A;have bE:=Qk _ _ 5 _ _ _ A;have bF:=Qk _ _ 6 _ _ _ A;have bG:=Qk _ _ 7 _ _ _ A;have bH:=Qk _ _ 8 _ _ _ A;have bI:=Qk _ _ 9 _ _ _ A;have T:=Qk _ _ 10 _ _ _ A;have U:=Qk _ _ 11 _ _ _ A;have V:=Qk _ _ 12 _ _ _ A
 have fz:=λj=>Qn _ _ j _ _ I
 have rr:=λj=>Qk _ _ j _ _ _ I
 obtain ⟨f0,f1,f2,f3,f4,f5,f6,f7,f8,f9,aG,aH,aI⟩:=AX fz
 obtain ⟨r0,r1,r2,r3,r4,r5,r6,r7,r8,r9,M,N,O⟩:=AX rr
 simp only [Qf,Qg,Qh] at aZ bA bB bC bD bE bF bG bH bI T U V r0 r1 r2 r3 r4 r5 r6 r7 r8 r9 M N O
 have cA:=Qq (HB.o.n cF);have cC:=Qq I
 clear fz rr A I cF cE
 go_wp2_with fail
 obtain ⟨W,hW⟩:=eX (U5 w5 w Ig Ie Ie Ie Ic Ig Ic Ig Ie Ie Ie Ic Ic)
 have q:∀ j,W.cell? ⟨w,j,none⟩=zT[j]?:=λj=>by rw [<- hW];exact Ut cC.o j
 have J:Below w w W:=by rw [<- hW];exact V9 cA.o (Q9 _)
 show bodyPost _ _ _ _ _ (U5 w5 w Ig Ie Ie Ie Ic Ig Ic Ig Ie Ie Ie Ic Ic)
 rw [hW]
 have Y:=Qq J
 obtain ⟨q0,q1,q2,q3,q4,q5,q6,q7,q8,q9,aS,aT,aU⟩:=AX q
 simp only [Qf,Qg,Qh] at q0 q1 q2 q3 q4 q5 q6 q7 q8 q9 aS aT aU
 clear hW J q r0 r1 r2 r3 r4 r5 r6 r7 r8 r9 M N O f0 f1 f2 f3 f4 f5 f6 f7 f8 f9 aG aH aI aZ bA bB bC bD bE bF bG bH bI T U V
 refine Q7 (v:=.tuple #[.agg zT,.bool false]) (by simp [results,results163,go_sem,q0,q1,q2,q3,q4,q5,q6,q7,q8,q9,aS,aT,aU]) rfl ⟨[Ig,Ie,Ie,Ie,Ic,Ig,Ic,Ig,Ie,Ie,Ie,Ic,Ic],by rw [Z.o];rfl,?_,Y.o⟩
 rw [Z.o]
 exact Gv _ _
end Go.Proofs.YtdpibdpbgokmoaaGreatDoor
