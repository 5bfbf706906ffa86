import Derived.Test.YtlanplhphiikjaaGreatDoorF03
set_option maxRecDepth 100000
set_option maxHeartbeats 400000000
namespace Go.Proofs.YtlanplhphiikjaaGreatDoor
open Go.RowKit Go.Shelf Go.Lib Tryz
def Yd:Rd Rel where
 k:=2
 R S w cs x:=∃ v,cs=[sv x.table,v]/\x.table.length<=1000000/\Sl Zc S w v x.rows
 len h:=by obtain ⟨v,rfl,_⟩:=h;rfl
 frame h hA:=by obtain ⟨v,rfl,D,G⟩:=h;exact ⟨v,rfl,D,G.frame hA⟩
 mono h hS:=by obtain ⟨v,rfl,D,G⟩:=h;exact ⟨v,rfl,D,G.mono hS⟩
def Yy:Rd Col where
 k:=6
 R S w cs x:=∃ tc,cs=sv x.name::tc/\x.name.length<=1000000/\Y6 S w tc x.type
 len h:=by obtain ⟨v,rfl,_,D⟩:=h;rw [List.length_cons,D.length]
 frame h hA:=by obtain ⟨v,rfl,G,D⟩:=h;exact ⟨v,rfl,G,D.move hA P8⟩
 mono h hS:=by obtain ⟨v,rfl,G,D⟩:=h;exact ⟨v,rfl,G,D.move (.refl _ _) hS⟩
def Dz:Rd Rf where
 k:=2
 R _ _ cs x:=cs=[sv x.column,sv x.table]/\x.column.length<=1000000/\x.table.length<=1000000
 len h:=by rw [h.1];rfl
 frame h _:=h
 mono h _:=h
def Zg:Rd Tbl where
 k:=13
 R S w cs x:=∃ D I J G,cs=sv x.name::D::I::J::G/\x.name.length<=1000000/\Sl Yy S w D x.columns/\Sl Zi S w I x.key/\Sl Dz S w J x.refs/\Yj S w G x.check
 len h:=by obtain ⟨_,_,_,_,rfl,_,_,_,_,L⟩:=h;simp only [List.length_cons,L.length]
 frame h hA:=by obtain ⟨D,I,J,G,rfl,M,L,N,O,T⟩:=h;exact ⟨D,I,J,G,rfl,M,L.frame hA,N.frame hA,O.frame hA,T.move hA P8⟩
 mono h hS:=by obtain ⟨D,I,J,G,rfl,M,L,N,O,T⟩:=h;exact ⟨D,I,J,G,rfl,M,L.mono hS,N.mono hS,O.mono hS,T.move (.refl _ _) hS⟩
def F8:Rd Ct where
 k:=7
 R S w cs x:=∃ tc,cs=sv x.name::.bool x.has::tc/\x.name.length<=1000000/\Y6 S w tc x.arg
 len h:=by obtain ⟨v,rfl,_,D⟩:=h;simp only [List.length_cons,D.length]
 frame h hA:=by obtain ⟨v,rfl,G,D⟩:=h;exact ⟨v,rfl,G,D.move hA P8⟩
 mono h hS:=by obtain ⟨v,rfl,G,D⟩:=h;exact ⟨v,rfl,G,D.move (.refl _ _) hS⟩
def Vi:Rd Sm where
 k:=2
 R S w cs x:=∃ v,cs=[sv x.name,v]/\x.name.length<=1000000/\Sl F8 S w v x.ctors
 len h:=by obtain ⟨v,rfl,_⟩:=h;rfl
 frame h hA:=by obtain ⟨v,rfl,D,G⟩:=h;exact ⟨v,rfl,D,G.frame hA⟩
 mono h hS:=by obtain ⟨v,rfl,D,G⟩:=h;exact ⟨v,rfl,D,G.mono hS⟩
def Ug (S:Nat->Prop) (w:World) (cs:List Value) (x:Sc):Prop:=∃ uv tv,cs=[uv,tv]/\Sl Vi S w uv x.sums/\Sl Zg S w tv x.tables
theorem Ug.below {S:Nat->Prop} {w w':World} {cs:List Value} {x:Sc} (h:Ug S w cs x) (hb:Below w w w'):Ug S w' cs x:=by
 obtain ⟨uv,tv,rfl,h1,h2⟩:=h;exact ⟨uv,tv,rfl,h1.below hb,h2.below hb⟩
theorem Jv:∀ S w cs x,Zc.R S w cs x->∀ u ∈ cs,u.oneCell'=true:=by
 intro S w cs x h u hu
 obtain ⟨p3,k3,p4,k4,rfl,_⟩:=Z5.cells (show Z5 S w cs x from h)
 simp only [vcs,Zy,Zx,or_false] at hu
 rcases hu with rfl | rfl | rfl | rfl | rfl <;> rfl
theorem Vm:∀ S w cs x,Zi.R S w cs x->∀ u ∈ cs,u.oneCell'=true:=by
 intro S w cs x h u hu
 obtain ⟨rfl,_⟩:=h
 simp only [Zy,Zx,or_false] at hu
 subst hu;rfl
theorem sl_one {T:Type} {r:Rd T} {S:Nat->Prop} {w:World} {v:Value} {xs:List T} (h:Sl r S w v xs):v.oneCell'=true:=by
 obtain ⟨p,cap,rfl,_⟩:=h.len;rfl
theorem rf_one:∀ S w cs x,Dz.R S w cs x->∀ u ∈ cs,u.oneCell'=true:=by
 intro S w cs x h u hu
 obtain ⟨rfl,_⟩:=h
 simp only [Zy,Zx,or_false] at hu
 rcases hu with rfl | rfl <;> rfl
theorem ty_one {S:Nat->Prop} {w:World} {cs:List Value} {x:Ty} (h:Y6 S w cs x):∀ u ∈ cs,u.oneCell'=true:=by
 intro u hu
 cases h with
 | mk k n s names kids nv p cap b off cs hs hn=>
  simp only [Zy,Zx,or_false] at hu
  rcases hu with rfl | rfl | rfl | rfl | rfl
  ·rfl
  ·rfl
  ·rfl
  ·exact sl_one hn
  rfl
theorem Bh:∀ S w cs x,Yy.R S w cs x->∀ u ∈ cs,u.oneCell'=true:=by
 intro S w cs x h u D
 obtain ⟨tc,rfl,_,h2⟩:=h
 rcases Zy.1 D with rfl | D
 ·rfl
 exact ty_one h2 u D
theorem Y3 {P:Program} {t:TypeId} {z:Value} {n b:Nat} (h:(P.info? t).map (fun i=>(i.zero,i.size,i.bytes))=some (some z,n,b)):∃ i0,P.info? t=some i0/\i0.zero=some z/\i0.size=n/\i0.bytes=b:=by
 cases hi:P.info? t with
 | none=>rw [hi] at h;cases h
 | some i0=>
  rw [hi] at h
  simp only [Option.map_some,Qu,Prod.mk.injEq] at h
  exact ⟨i0,rfl,h.1,h.2.1,h.2.2⟩
theorem Eh (S:Nat->Prop) (v:Value) (xs:List Val) (w:World) (hs:Sl Zc S w v xs):Calls prog 141 #[v] w (U4 Zc 48 S w xs):=by
 obtain ⟨i0,h1,h2,h3,h4⟩:=Y3 (P:=prog) (t:=48) (z:=.agg zV) (n:=5) (b:=80) Og
 exact Kj Tryz.clVal Zc Of 80 i0 _ h1 h2 h3 h4 rfl sizeOf48 Oa Jv S v xs w hs
theorem Dd (S:Nat->Prop) (v:Value) (xs:List Bs) (w:World) (hs:Sl Zi S w v xs):Calls prog 150 #[v] w (U4 Zi 9 S w xs):=by
 obtain ⟨i0,h1,h2,h3,h4⟩:=Y3 (P:=prog) (t:=9) (z:=.string ⟨#[]⟩) (n:=1) (b:=16) Og
 exact Kj Tryz.clStr Zi Of 16 i0 _ h1 h2 h3 h4 rfl sizeOf9 Oa Vm S v xs w hs
theorem cloneRef (S:Nat->Prop) (v:Value) (xs:List Rf) (w:World) (hs:Sl Dz S w v xs):Calls prog 235 #[v] w (U4 Dz 82 S w xs):=by
 obtain ⟨i0,h1,h2,h3,h4⟩:=Y3 (P:=prog) (t:=82) (z:=.agg #[Oo,Oo]) (n:=2) (b:=32) Og
 exact Kj Tryz.clRef Dz Of 32 i0 _ h1 h2 h3 h4 rfl sizeOf82 Oa rf_one S v xs w hs
theorem Hz (S:Nat->Prop) (v:Value) (xs:List Col) (w:World) (hs:Sl Yy S w v xs):Calls prog 113 #[v] w (U4 Yy 79 S w xs):=by
 obtain ⟨i0,h1,h2,h3,h4⟩:=Y3 (P:=prog) (t:=79) (z:=.agg #[Oo,On,Oo,On,Ot,Ot]) (n:=6) (b:=96) Og
 exact Kj Tryz.clCol Yy Of 96 i0 _ h1 h2 h3 h4 rfl sizeOf79 Oa Bh S v xs w hs
theorem N4 (S:Nat->Prop) (v:Value) (l:List Rel) (t:Bs) (w:World) (hs:Sl Yd S w v l):
  Calls prog 93 #[v,sv t] w fun e w'=>e=.returned (.int .i64 (V5 (fun r=>decide (r.table=t)) l))/\Below w w w':=by
 have hp:∀ D:World,Below w w D->D.cell? ⟨w,0,none⟩=some (sv t)->Xo prog 143 #[Om w] Yd S l (fun r=>decide (r.table=t)) D:=by
  rintro D M I W x cs hb hx ⟨rv,rfl,_,_⟩
  have J:W.cell? ⟨w,0,none⟩=some (sv t):=kD hb (Qv D _ I) I
  have L:=Qv W _ J
  have N:w.heap.size≠W.heap.size:=by
   intro e;rw [e] at L;simp at L
  have hq:(x.table==t)=decide (x.table=t):=by rw [Bool.eq_iff_iff,beq_iff_eq,decide_eq_true_eq]
  have HQ:=Qq hq
  clear hq I hb M hx
  show Calls prog 143 #[.agg #[sv x.table,rv],Om w] W _
  unfold sv at J |-
  go_enter func143,ntmps143
  go_wp2_with fail
  go_ret
  exact ⟨by rw [<- HQ.out];rfl,Zb _ _⟩
 have HI:∀ D:World,Below w w D->D.cell? ⟨w,0,none⟩=some (sv t)->Calls prog 142 #[v,.func (.func 143) #[] #[Om w]] D fun e w'=>e=.returned (.int .i64 (V5 (fun r=>decide (r.table=t)) l))/\Below D D w':=
  fun D hb I=>G5 Tryz.ixRel Yd isAgg42 sizeOf42 _ _ (enters_of func143 Og rfl) S v l D _ (hs.below hb) (hp D hb I)
 have G:=Qq HI
 clear HI hp hs
 generalize V5 _ l=r at G |-
 unfold sv at G |-
 go_enter func93,ntmps93
 go_wp2_with (go_at_call 142;refine (G.out _ (Zb _ _) Od).mono ?_;rintro e w' ⟨rfl,hw⟩)
 go_ret
 exact ⟨rfl,(Zb _ _).thn hw⟩
theorem Di {W W1:World} (hb:Below W W W1):(∀ b o,b<W.heap.size->W1.cell? ⟨b,o,none⟩=W.cell? ⟨b,o,none⟩)/\(∀ b o,b<W.heap.size->W1.frozen? ⟨b,o,none⟩=W.frozen? ⟨b,o,none⟩):=
 ⟨fun b o h=>hb.cell (p:=⟨b,o,none⟩) h,fun b o h=>hb.frozen (p:=⟨b,o,none⟩) h⟩
def Mr (w:World) (x:Val) (e:Ending) (w':World):Prop:=∃ cs',e=.returned (.agg cs'.toArray)/\Z5 (fun b=>w<=b) w' cs' x/\Below w w w'
def Bo (x:Val):Prop:=∀ (S:Nat->Prop) (cs:List Value) (w:World),Z5 S w cs x->Calls prog 102 #[cs] w (Mr w x)
theorem set_flat {n:Nat}:∀ (css:List (List Value)) (i:Nat) (a b c d e:Value),(∀ x ∈ css,x.length=5)->css.length=n->i<n ->
  (((((css.flatten.set (i*5) a).set (i*5+1) b).set (i*5+2) c).set (i*5+3) d).set (i*5+4) e)=(css.set i [a,b,c,d,e]).flatten:=by
 intro css
 induction css generalizing n with
 | nil=>intro i a b c d e _ D hi;simp at D;omega
 | cons x css ih=>
  intro i a b c d e hx D hi
  have h5:=hx x Od
  cases i with
  | zero=>
   match x,h5 with
   | [x0,x1,x2,x3,x4],_=>simp
  | succ i=>
   have:=ih (n:=css.length) i a b c d e (fun y hy=>hx y (by simp [hy])) rfl (by simp at D;omega)
   simp only [List.flatten_cons,List.set_cons_succ]
   rw [<- this]
   have e1:(i+1)*5=x.length+i*5:=by rw [h5];omega
   simp only [e1,Nat.add_assoc]
   simp only [List.set_append_right _ _ (Nat.le_add_right _ _),Nat.add_sub_cancel_left]
theorem store5 {w:World} {B g n cap:Nat} {E:TypeId} {css:List (List Value)} (h:w.ownsRow B E 5 (.slice (some ⟨g,0,none⟩) n cap) n css.flatten) (hl:css.length=n) (h5:∀ x ∈ css,x.length=5) (i:Nat) (hi:i<n) (a b c d e:Value):
  (((((w.setCell ⟨g,i*5,none⟩ a).setCell ⟨g,i*5+1,none⟩ b).setCell ⟨g,i*5+2,none⟩ c).setCell ⟨g,i*5+3,none⟩ d).setCell ⟨g,i*5+4,none⟩ e).ownsRow B E 5 (.slice (some ⟨g,0,none⟩) n cap) n (css.set i [a,b,c,d,e]).flatten:=by
 rw [<- set_flat css i a b c d e h5 hl hi]
 obtain ⟨h1,_⟩:=h.stored (i*5) a
 obtain ⟨h2,_⟩:=h1.stored (i*5+1) b
 obtain ⟨h3,_⟩:=h2.stored (i*5+2) c
 obtain ⟨h4,_⟩:=h3.stored (i*5+3) d
 exact (h4.stored (i*5+4) e).1
structure Vg (w:World) (k n:Int) (s:Bs) (ns:List Bs) (ks:List Val) (np:Option Addr) (ncap:Nat) (kp:Option Addr) (kcap:Nat) (kcs:List (List Value)) (kk:Nat) (wx:World):Prop where
 below:Below w w wx
 box:wx.heap[w.heap.size]?=some (.cells #[k,n,s,.slice np ns.length ncap,.slice kp ks.length kcap] 48 (0,0))
 res:wx.heap[w.heap.size+1]?=some (.cells zV 48 (0,0))
 names:Sl Zi (fun b=>w+2<=b/\some b≠(Value.slice kp ks.length kcap).ownBlock) wx (.slice np ns.length ncap) ns
 kids:∃ news:List (List Value),news.length=kk/\wx.ownsRow (w+2) 48 5 (.slice kp ks.length kcap) ks.length (news++kcs.drop kk).flatten /\
  Cs Zc (fun b=>w+2<=b/\some b≠(Value.slice kp ks.length kcap).ownBlock) wx news (ks.take kk)
theorem Ud {w w':World} {B B':Nat} {e:TypeId} {sz n:Nat} {v:Value} {xs:List Value} (h:w.ownsRow B e sz v n xs) (hB:B'<=B) (hA:∀ b,B<=b->b<w.heap.size->w'.heap[b]?=w.heap[b]?):w'.ownsRow B' e sz v n xs:=by
 refine ⟨h.1,?_⟩
 rcases h.2 with hn | ⟨g,cap,cur,rfl,hg,hh,rest⟩
 ·exact .inl hn
 exact .inr ⟨g,cap,cur,rfl,Oa,(hA g hg (Array.getElem?_eq_some_iff.1 hh).1).trans hh,rest⟩
theorem Z3 {w:World} {b:Nat} {o:Obj} (h:w.heap[b]?=some o):b<w.heap.size:=(Array.getElem?_eq_some_iff.1 h).1
theorem Z4 {w:World} {a:Addr} {u:Value} {b:Nat} (h:b≠a.block):(w.setCell a u).heap[b]?=w.heap[b]?:=Below.heap_setCell _ _ _ _ h
theorem sl_str {w:World} {v:Value} {xs:List Bs} {css:List (List Value)} {E:TypeId} {S:Nat->Prop} {B B':Nat} (h:Own Zi E S B w v xs css) (hl:xs.length<=1000000) (hB:B'<=B):Sl Zi (fun b=>B'<=b) w v xs:=by
 have:Own Zi E (fun _=>False) B w v xs css:=⟨h.row,⟨h.cs.len,fun i c x hc hx=>h.cs.R i c x hc hx⟩⟩
 exact this.sl hl (fun b hb=>Oa) (fun b _ h=>h.elim)
theorem Y1 {w:World} {g i0 i1 i2 i3 i4:Nat} {a b c d e:Value} {k:Nat} (h:k≠g):
  (((((w.setCell ⟨g,i0,none⟩ a).setCell ⟨g,i1,none⟩ b).setCell ⟨g,i2,none⟩ c).setCell ⟨g,i3,none⟩ d).setCell ⟨g,i4,none⟩ e).heap[k]?=w.heap[k]?:=by
 rw [Z4 h,Z4 h,Z4 h,Z4 h,Z4 h]
theorem Vg.next {w wr w4:World} {k n:Int} {s:Bs} {ns:List Bs} {ks:List Val} {np:Option Addr} {ncap g kcap kk B:Nat} {kcs:List (List Value)} {x:Val} {a b c d e:Value}
  (hM:Vg w k n s ns ks np ncap (some ⟨g,0,none⟩) kcap kcs kk wr) (hx:ks[kk]?=some x) (hCs:Cs Zc (fun b=>b<w) w kcs ks) (hb:Below wr wr w4) (hB:wr<=B)
  (hv:Z5 (fun b=>B<=b) w4 [a,b,c,d,e] x):
  Vg w k n s ns ks np ncap (some ⟨g,0,none⟩) kcap kcs (kk+1) (((((w4.setCell ⟨g,kk*5,none⟩ a).setCell ⟨g,kk*5+1,none⟩ b).setCell ⟨g,kk*5+2,none⟩ c).setCell ⟨g,kk*5+3,none⟩ d).setCell ⟨g,kk*5+4,none⟩ e):=by
 have I:kk<ks.length:=(Qj hx).1
 obtain ⟨D,T,L,J⟩:=hM.kids
 have hg:=L.lt g rfl
 have hG:w.heap.size<=g:=Oa
 have Y:(Value.slice (some ⟨g,0,none⟩) ks.length kcap).ownBlock=some g:=rfl
 have N:∀ y ∈ D++kcs.drop kk,y.length=5:=by
  intro y hy
  rcases Zw.1 hy with h | h
  ·exact J.all y h
  exact hCs.all y (Zz h)
 have O:(D++kcs.drop kk).length=ks.length:=by rw [Qe,Qr,hCs.len];omega
 have U:(D++kcs.drop kk).set kk [a,b,c,d,e]=(D++[[a,b,c,d,e]])++kcs.drop (kk+1):=by
  have hd:kcs.drop kk=(kcs[kk]'(by rw [hCs.len];exact I))::kcs.drop (kk+1):=Qi (by rw [hCs.len];exact I)
  rw [hd,List.set_append_right _ _ Oa,T,Nat.sub_self,List.set_cons_zero,List.append_assoc];rfl
 refine ⟨?_,?_,?_,?_,⟨D++[[a,b,c,d,e]],by simp [T],?_,?_⟩⟩
 ·exact (((((hM.below.thn hb).setCell (p:=⟨g,_,none⟩) hG _).setCell (p:=⟨g,_,none⟩) hG _).setCell (p:=⟨g,_,none⟩) hG _).setCell (p:=⟨g,_,none⟩) hG _).setCell (p:=⟨g,_,none⟩) hG _
 ·rw [Y1 Oa,hb.block _ (Z3 hM.box)];exact hM.box
 ·rw [Y1 Oa,hb.block _ (Z3 hM.res)];exact hM.res
 ·refine hM.names.frame (fun b M G=>?_)
  rw [Y1 (fun e=>M.2 (by rw [e];rfl)),hb.block _ G]
 ·rw [<- U]
  exact store5 (Ud L (Q4 _) (fun b _ G=>hb.block b G)) O N kk I a b c d e
 rw [Qs I]
 rw [Qx I] at hx
 obtain rfl:=Q6 hx
 refine (J.move (fun b M G=>?_) P8).app (Cs.one ?_)
 ·rw [Y1 (fun e=>M.2 (by rw [e];rfl)),hb.block _ G]
 obtain ⟨Z,aA⟩:=hg
 refine Z5.move hv (fun b M G=>?_) (fun b G M=>?_)
 ·have V:B<=b:=M
  exact Y1 Oa
 have V:B<=b:=M
 refine ⟨Oa,fun e=>?_⟩
 have:b=g:=Q6 e
 omega
theorem Hn (k n:Int) (s:Bs) (ns:List Bs) (ks:List Val) (ih:∀ x ∈ ks,Bo x):Bo (.mk k n s ns ks):=by
 intro S0 cs w bM
 have hx:Z5 (fun b=>b<w) w cs (.mk k n s ns ks):=bM.move (.refl _ _) (fun b hb _=>hb)
 clear bM
 obtain ⟨nv,kv,rfl,hs,hn,hk⟩:=Xs.1 hx
 have cQ:ns.length<=1000000:=by obtain ⟨_,_,_,h⟩:=hn.len;exact h
 have cP:ks.length<=1000000:=by obtain ⟨_,_,_,h⟩:=hk.len;exact h
 obtain ⟨HN,HK,HI⟩:=Px hn hk ih
 clear hx hn hk ih
 unfold sv
 go_enter func102,ntmps102
 go_upto_region 1 with fail
 go_cut [12] (fun _ wx=>∃ np M kp D U,Vg w k n s ns ks np M kp D U 0 wx/\Cs Zc (fun b=>b<w) w U ks)
 case first=>
  go_region_with (first | (go_at_call 150;refine (Dd _ nv ns _ (HN.out.below (by first | exact (Zl _ _ _).drew | exact (Zl _ _ _).drew.thn aP.out | exact (Zl _ _ _).drew.thn aQ.out))).mono ?_;rintro e w1 ⟨np,M,eA,rfl,bK,aK⟩;obtain ⟨aE,aG⟩:=Di aK;have cS:=aK.size;have aP:=Qq aK;have cB:=Qq bK;clear aK bK;(try simp at cS);have cM:w.heap.size<w1.heap.size:=Oa;have cO:w.heap.size+1<w1.heap.size:=Oa;have dL:w1.cell? ⟨w,3,none⟩=some nv:=(by first | (rw [aE _ _ (by simp;omega)];simp) | (rw [aE _ _ Oh];assumption));have dQ:w1.frozen? ⟨w,3,none⟩=false:=(by first | (rw [aG _ _ (by simp;omega)];simp) | (rw [aG _ _ Oh];assumption));have dM:w1.cell? ⟨w,4,none⟩=some kv:=(by first | (rw [aE _ _ (by simp;omega)];simp) | (rw [aE _ _ Oh];assumption));have dR:w1.frozen? ⟨w,4,none⟩=false:=(by first | (rw [aG _ _ (by simp;omega)];simp) | (rw [aG _ _ Oh];assumption));clear aE aG) | (go_at_call 141;refine (Eh _ kv ks _ (HK.out.below (by first | exact (Zl _ _ _).drew | exact (Zl _ _ _).drew.thn aP.out | exact (Zl _ _ _).drew.thn aQ.out))).mono ?_;rintro e w2 ⟨kp,D,U,rfl,bL,aL⟩;obtain ⟨aF,aH⟩:=Di aL;have cT:=aL.size;have aQ:=Qq aL;have aS:=Qq bL;clear aL bL;(try simp only [World.size_drew,World.size_alloc] at cT);have dU:w.heap.size<w2.heap.size:=Oa;have dY:w.heap.size+1<w2.heap.size:=Oa;have dN:w2.cell? ⟨w,3,none⟩=some nv:=(by first | (rw [aF _ _ (by simp;omega)];simp) | (rw [aF _ _ Oh];assumption));have dS:w2.frozen? ⟨w,3,none⟩=false:=(by first | (rw [aH _ _ (by simp;omega)];simp) | (rw [aH _ _ Oh];assumption));have dO:w2.cell? ⟨w,4,none⟩=some kv:=(by first | (rw [aF _ _ (by simp;omega)];simp) | (rw [aF _ _ Oh];assumption));have dT:w2.frozen? ⟨w,4,none⟩=false:=(by first | (rw [aH _ _ (by simp;omega)];simp) | (rw [aH _ _ Oh];assumption));clear aF aH))
  all_goals
   go_wp2_with fail
   go_meet
   have b1:=aP.out
   have b2:=aQ.out
   have bE:=b1.block w (by simp;omega)
   have aN:=b1.block (w+1) Od
   rw [heap_drew,Q0] at bE
   rw [heap_drew,Q1] at aN
   have cL:=kE b2 cM bE
   have bF:=kE b2 cO aN
   have bH:Below w w w2:=(Zl _ _ _).drew.thn (b1.thn b2)
   refine ⟨np,M,kp,D,U,⟨(bH.setCell (p:=⟨w,3,none⟩) (Q4 _) _).setCell (p:=⟨w,4,none⟩) (Q4 _) _,?_,?_,?_,⟨[],rfl,?_,⟨rfl,fun i c x hc=>by simp at hc⟩⟩⟩,?_⟩
   ·exact Qd _ _ _ _ _ _ (Qd _ _ _ _ _ _ cL)
   ·rw [Z4 Od,Z4 Od];exact bF
   ·refine ((sl_str cB.out cQ Od).mono (S':=fun b=>w+2<=b/\some b≠(Value.slice kp ks.length D).ownBlock) (fun b hb h=>⟨h,fun e=>?_⟩)).frame (fun b hb V=>?_)
    ·have:=(aS.out.row.lt b e.symm).1
     omega
    rw [Z4 (by show b≠w;omega),Z4 (by show b≠w;omega)]
    exact b2.block b V
   ·refine Ud aS.out.row Oa (fun b hb V=>?_)
    rw [Z4 (by show b≠w;omega),Z4 (by show b≠w;omega)]
   exact (aS.out.cs.move (S':=fun b=>b<w) (.refl _ _) (fun b _ h=>h.1)).move (fun b hb _=>(bH.block b hb).symm) (fun b _ h=>h)
 obtain ⟨np,M,kp,D,U,T,bD⟩:=hcut
 have HC:=Qq bD;have HM:=Qq T
 obtain ⟨c0,c1,c2,c3,c4⟩:=row5 T.box
 clear bD T
 go_wp2_with fail
 go_loopw [16] (fun i wr=>∃ L:Nat,L<=ks.length/\i=.int .i64 L/\Vg w k n s ns ks np M kp D U L wr) (fun i _=>ks.length - (intOf i).toNat)
 case atStart=>exact ⟨0,Q3 _,rfl,HM.out⟩
 obtain ⟨L,dZ,rfl,T⟩:=hrel
 have c0:=Qk _ _ 0 _ _ _ T.box;have c1:=Qk _ _ 1 _ _ _ T.box;have c2:=Qk _ _ 2 _ _ _ T.box;have c3:=Qk _ _ 3 _ _ _ T.box;have c4:=Qk _ _ 4 _ _ _ T.box
 have r0:=Qk _ _ 0 _ _ _ T.res;have r1:=Qk _ _ 1 _ _ _ T.res;have r2:=Qk _ _ 2 _ _ _ T.res;have r3:=Qk _ _ 3 _ _ _ T.res;have r4:=Qk _ _ 4 _ _ _ T.res
 have fr:=fun j=>Qg _ _ j _ _ T.res
 have dE:=(Array.getElem?_eq_some_iff.1 T.res).1
 simp only [Qa,Qb,Qc] at c0 c1 c2 c3 c4 r0 r1 r2 r3 r4
 have Z:=Qq T
 by_cases V:L<ks.length
 ·obtain ⟨x,hx⟩:∃ x,ks[L]?=some x:=⟨_,Qx V⟩
  obtain ⟨Y,aM,J,I⟩:=T.kids
  obtain ⟨g,cap,bJ,dV,O⟩:=J.form Oa
  simp only [Ql] at bJ
  obtain ⟨rfl,-,rfl⟩:=bJ
  obtain ⟨oc,aW⟩:∃ oc,U[L]?=some oc:=⟨_,Qx (by rw [HC.out.len];exact V)⟩
  have aY:=HC.out.R L oc x aW hx
  obtain ⟨p3,k3,p4,k4,rfl,_⟩:=Z5.cells (show Z5 _ w oc x from aY)
  have aD:∀ y ∈ Y++U.drop L,y.length=5:=by
   intro y hy
   rcases Zw.1 hy with h | h
   ·exact I.all y h
   exact HC.out.all y (Zz h)
  have aU:(Y++U.drop L)[L]?=some (vcs x p3 k3 p4 k4):=by
   rw [Zj Oa,List.getElem?_drop,aM,Nat.sub_self,Nat.add_zero];exact aW
  have G:∀ (j:Nat) u,(vcs x p3 k3 p4 k4)[j]?=some u->wr.cell? ⟨g,L*5+j,none⟩=some u:=by
   intro j u hu
   have h5:j<5:=(Qj hu).1
   rw [J.cellAt _ Oa]
   exact X8 aD aU hu
  have d0:=G 0 _ rfl;have d1:=G 1 _ rfl;have d2:=G 2 _ rfl;have d3:=G 3 _ rfl;have d4:=G 4 _ rfl
  rw [Nat.add_zero] at d0
  have fz:=fun j=>J.frozenAt j
  have dW:(0:Int)<=(L:Int):=Oa
  have dX:(L:Int)<(ks.length:Int):=Oa
  have dF:w.heap.size≠wr.heap.size:=Oa
  have dG:w.heap.size+1≠wr.heap.size:=Oa
  have dH:g≠wr.heap.size:=Oa
  obtain ⟨HX,HV,HA,dI,HR⟩:=Pw hx aY aD aU J;obtain ⟨dK,HL,aB,dJ⟩:=Py I aM fz fr
  clear hx aY aD aU J I aM G aW T fz fr r0 r1 r2 r3 r4 c0 c1 c2 c3
  go_upto_region 5 with fail
  obtain ⟨W5,aJ⟩:=eX (wr.alloc (.cells (Ou x p3 k3 p4 k4) 48))
  have aV:=eqB aJ (Zb _ _)
  have bN:=eqH (b:=wr.heap.size) aJ (Qw _ _)
  rw [aJ]
  obtain ⟨x0,x1,x2,x3,x4⟩:=row5 bN
  have c5:=kD aV Oa c4
  have aR:=Qq aV
  have cF:=c4
  clear aJ aV bN c4
  go_region_with (first | (go_at_call 102;refine (HI.out x (Qy HX.out) _ (vcs x p3 k3 p4 k4) _ (Z5.move HV.out (.of_below (Z.out.below.thn aR.out.drew)) P8)).mono ?_;rintro e w4 ⟨dP,rfl,aX,bG⟩;obtain ⟨q3,l3,q4,l4,bI,_⟩:=Z5.cells aX;simp only [vcs] at bI;subst bI;have N:=Qq (aR.out.drew.thn bG);have cC:=Qq aX;clear aX bG;have e4:=kD N.out Oa cF;have g0:=kD N.out O d0;have g1:=kD N.out O d1;have g2:=kD N.out O d2;have g3:=kD N.out O d3;have g4:=kD N.out O d4;have f0:=(N.out.frozen (p:=⟨g,L*5,none⟩) O).trans (aB.out (L*5));have f1:=(N.out.frozen (p:=⟨g,L*5+1,none⟩) O).trans (aB.out (L*5+1));have f2:=(N.out.frozen (p:=⟨g,L*5+2,none⟩) O).trans (aB.out (L*5+2));have f3:=(N.out.frozen (p:=⟨g,L*5+3,none⟩) O).trans (aB.out (L*5+3));have f4:=(N.out.frozen (p:=⟨g,L*5+4,none⟩) O).trans (aB.out (L*5+4))))
  all_goals
   go_wp2_with fail
   go_roundw
   case measure=>simp [intOf];omega
   case rel=>exact ⟨L+1,Oa,by go_num,Z.out.next HX.out HC.out N.out (aR.out.size) cC.out⟩
 obtain rfl:L=ks.length:=Oa
 obtain ⟨cG,cH,cI,cJ,cK⟩:=P3 fr
 clear fr
 go_wp2_with fail
 have aA:=Qd _ _ 4 _ _ (.slice kp ks.length D) (Qd _ _ 3 _ _ (.slice np ns.length M) (Qd _ _ 2 _ _ (.string ⟨s.toArray⟩) (Qd _ _ 1 _ _ (.int .i64 n) (Qd _ _ 0 _ _ (.int .i64 k) Z.out.res))))
 have q0:=Qk _ _ 0 _ _ _ aA;have q1:=Qk _ _ 1 _ _ _ aA;have q2:=Qk _ _ 2 _ _ _ aA;have q3:=Qk _ _ 3 _ _ _ aA;have q4:=Qk _ _ 4 _ _ _ aA
 simp only [List.setIfInBounds_toArray,List.set_cons_zero,List.set_cons_succ,Qa,Qb,Qc] at q0 q1 q2 q3 q4
 obtain ⟨WF,aC⟩:=eX ((((((wr.setCell ⟨w+1,0,none⟩ (.int .i64 k)).setCell ⟨w+1,1,none⟩ (.int .i64 n)).setCell ⟨w+1,2,none⟩ (.string ⟨s.toArray⟩)).setCell ⟨w+1,3,none⟩ (.slice np ns.length M)).setCell ⟨w+1,4,none⟩ (.slice kp ks.length D)))
 rw [aC] at q0 q1 q2 q3 q4 |-
 have cD:=Qq aC
 clear aA aC c0 c1 c2 c3 c4 r0 r1 r2 r3 r4 cG cH cI cJ cK
 refine Q2 (v:=.agg #[k,n,s,.slice np ns.length M,.slice kp ks.length D]) (by simp [results,results102,go_sem,q0,q1,q2,q3,q4]) rfl ⟨_,rfl,?_,?_⟩
 all_goals rw [<- cD.out]
 ·obtain ⟨Y,aM,J,I⟩:=Z.out.kids
  rw [Qo (by rw [HC.out.len];exact Q4 _),List.append_nil] at J
  rw [Qp (Q4 _)] at I
  have hO:Own Zc 48 (fun b=>w+2<=b) (w+2) wr (.slice kp ks.length D) ks Y:=⟨J,I⟩
  refine Zu hs ?_ ?_
  ·refine (Z.out.names.frame (fun b hS V=>?_)).mono (fun b _ hS=>?_)
   ·exact Y1 (by have:w.heap.size+2<=b:=hS.1;omega)
   have:w.heap.size+2<=b:=hS.1
   show w<=b
   omega
  refine ((hO.sl cP (S':=fun b=>w+2<=b) (fun b h=>h) (fun b _ h=>h)).frame (fun b hS V=>?_)).mono (fun b _ hS=>?_)
  ·exact Y1 (by have:w.heap.size+2<=b:=hS;omega)
  have:w.heap.size+2<=b:=hS
  show w<=b
  omega
 exact ((((Z.out.below.setCell (p:=⟨w+1,0,none⟩) (Nat.le_succ _) _).setCell (p:=⟨w+1,1,none⟩) (Nat.le_succ _) _).setCell (p:=⟨w+1,2,none⟩) (Nat.le_succ _) _).setCell (p:=⟨w+1,3,none⟩) (Nat.le_succ _) _).setCell (p:=⟨w+1,4,none⟩) (Nat.le_succ _) _
theorem M9:∀ x:Val,Bo x
 | .mk k n s ns ks=>Hn k n s ns ks fun x _=>M9 x
termination_by x=>SizeOf.sizeOf x
decreasing_by
 have:=List.sizeOf_lt_of_mem ‹_ ∈ ks›
 simp only [Val.mk.sizeOf_spec]
 omega
theorem eqv_beq (a b:Val):(Zt a b==0)=eqv a b:=by rw [<- eqv_cmp];rfl
theorem Jm (S:Nat->Prop) (a b:Val) (ca cb:List Value) (w:World) (ha:Z5 S w ca a) (hb:Z5 S w cb b):
  Calls prog 99 #[ca,cb] w fun e w'=>e=.returned (.int .i64 (Zt a b))/\Gr w w':=cmpAt a b S ca cb w ha hb
theorem same_any (S:Nat->Prop) (a b:Val) (ca cb:List Value) (w:World) (ha:Z5 S w ca a) (hb:Z5 S w cb b):
  Calls prog 96 #[ca,cb] w fun e w'=>e=.returned (.bool (eqv a b))/\Below w w w':=by
 rw [<- eqv_beq]
 have HC:=Qq (fun W (h:Below w w W)=>Jm S a b ca cb W (ha.move (.of_below h) P8) (hb.move (.of_below h) P8))
 obtain ⟨p3,k3,p4,k4,D,_⟩:=Z5.cells ha
 obtain ⟨q3,l3,q4,l4,G,_⟩:=Z5.cells hb
 simp only [vcs] at D G
 subst D;subst G
 clear ha hb
 generalize Zt a b=c at HC |-
 go_enter func96,ntmps96
 go_wp2_with (go_at_call 99;refine (HC.out _ (Zl _ _ _)).mono ?_;rintro e w' ⟨rfl,hw⟩;have HW:=Qq ((Vw w _ _).thn hw);clear hw)
 go_ret
 exact ⟨rfl,HW.out.bl⟩
theorem Y6.cells {S:Nat->Prop} {w:World} {cs:List Value} {x:Ty} (h:Y6 S w cs x):∃ k s n p3 n3 k3 p4 n4 k4,cs=[.int .i64 k,.string s,.int .i64 n,.slice p3 n3 k3,.slice p4 n4 k4]:=by
 cases h with
 | mk k n s names kids nv p cap b off cs hs hn=>
  obtain ⟨p3,k3,rfl,_⟩:=hn.len
  exact ⟨_,_,_,_,_,_,_,_,_,rfl⟩
theorem row1_any (S:Nat->Prop) (a b:Col) (ca cb:List Value) (w:World) (ha:Yy.R S w ca a) (hb:Yy.R S w cb b):
  Calls prog 115 #[ca,cb] w fun e w'=>e=.returned (.int .i64 (Y7 a.name b.name))/\Gr w w':=by
 obtain ⟨ta,rfl,_,h1⟩:=ha
 obtain ⟨tb,rfl,_,h2⟩:=hb
 obtain ⟨_,_,_,_,_,_,_,_,_,rfl⟩:=h1.cells
 obtain ⟨_,_,_,_,_,_,_,_,_,rfl⟩:=h2.cells
 have D:=Qq (fun W=>Ea ⟨a.name.toArray⟩ ⟨b.name.toArray⟩ W)
 rw [show Y7 (bl ⟨a.name.toArray⟩) (bl ⟨b.name.toArray⟩)=Y7 a.name b.name from rfl] at D
 generalize Y7 a.name b.name=c at D |-
 clear h1 h2
 unfold sv
 go_enter func115,ntmps115
 go_wp2_with (go_at_call 116;refine (D.out _).mono ?_;rintro e w' ⟨rfl,rfl⟩)
 go_ret
 exact ⟨rfl,Vw _ _ _⟩
theorem Hs (S:Nat->Prop) (v:Value) (l:List Bs) (x:Bs) (w:World) (hs:Sl Zi S w v l):
  Calls prog 149 #[v,sv x] w fun e w'=>e=.returned (.int .i64 (V5 (fun y=>decide (y=x)) l))/\w=w':=by
 obtain ⟨p,cap,rfl,hl⟩:=hs.len
 have HS:=Qq hs
 clear hs
 obtain ⟨n,G⟩:=eX (l.length)
 rw [G] at HS hl;rw [G]
 have HN:=Qq G
 clear G
 unfold sv
 go_enter func149,ntmps149
 go_wp2_with fail
 go_loop [8] (fun i=>∃ k:Nat,k<=n/\i=.int .i64 k/\Aside (∀ (j:Nat) (y:Bs),j<k->l[j]?=some y->decide (y=x)=false)) (fun i=>n - (intOf i).toNat)
 case atStart=>exact ⟨0,Q3 _,rfl,fun j _ hj=>absurd hj (Z1 _)⟩
 obtain ⟨k,hk,rfl,A⟩:=hrel
 by_cases hlt:k<n
 ·have M:(0:Int)<=(k:Int):=Oa
  have N:(k:Int)<(n:Int):=Oa
  obtain ⟨y,D⟩:∃ y,l[k]?=some y:=⟨_,Qx (by rw [HN.out];exact hlt)⟩
  obtain ⟨b,O,rfl,hc,-⟩:=HS.out.str D
  have HY:=Qq D
  clear D
  by_cases he:y=x
  ·have hq:(x==y)=true:=by rw [he];simp
   have I:=Qq he
   clear he
   go_wp2_with fail
   go_ret
   refine ⟨?_,rfl⟩
   rw [Js HY.out (by rw [I.out];simp) A.out]
   rfl
  have hq:(x==y)=false:=by rw [<- Qn,beq_iff_eq];exact fun e=>he e.symm
  have I:=Qq he
  clear he
  go_wp2_with fail
  go_round
  case measure=>simp [intOf];omega
  case rel=>
   refine ⟨k+1,Oa,by go_num,(show Aside _ from fun j z hj J=>?_)⟩
   by_cases e:j=k
   ·subst e
    have:=HY.out
    rw [this] at J
    cases J
    simpa using I.out
   exact A.out j z Oa J
 have L:¬ (k:Int)<(n:Int):=Oa
 have:k=n:=Oa
 subst this
 go_wp2_with fail
 go_ret
 refine ⟨?_,rfl⟩
 rw [J0 (fun j y D=>A.out j y (by have:=(Qj D).1;have:=HN.out;omega) D)]
 rfl
end Go.Proofs.YtlanplhphiikjaaGreatDoor
