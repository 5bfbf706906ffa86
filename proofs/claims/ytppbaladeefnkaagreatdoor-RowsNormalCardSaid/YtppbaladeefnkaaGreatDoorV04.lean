import Derived.Test.YtppbaladeefnkaaGreatDoorV03
set_option maxRecDepth 100000
set_option maxHeartbeats 400000000
namespace Go.Proofs.YtppbaladeefnkaaGreatDoor
open Go.RowKit Go.Shelf Go.Lib Tryz
def Z0:Rd Rel where
 k:=2
 R S w cs x:=∃ v,cs=[sv x.table,v]∧x.table.length≤1000000∧Sl Ql S w v x.rows
 len h:=by obtain ⟨v,rfl,_⟩:=h;rfl
 frame h hA:=by obtain ⟨v,rfl,h1,h2⟩:=h;exact ⟨v,rfl,h1,h2.frame hA⟩
 mono h hS:=by obtain ⟨v,rfl,h1,h2⟩:=h;exact ⟨v,rfl,h1,h2.mono hS⟩
def Y0:Rd Col where
 k:=6
 R S w cs x:=∃ tc,cs=sv x.name::tc∧x.name.length≤1000000∧Y7 S w tc x.type
 len h:=by obtain ⟨v,rfl,_,h2⟩:=h;rw [List.length_cons,h2.length]
 frame h hA:=by obtain ⟨v,rfl,h1,h2⟩:=h;exact ⟨v,rfl,h1,h2.move hA (fun _ _ h=>h)⟩
 mono h hS:=by obtain ⟨v,rfl,h1,h2⟩:=h;exact ⟨v,rfl,h1,h2.move (.refl _ _) hS⟩
def Jb:Rd Rf where
 k:=2
 R _ _ cs x:=cs=[sv x.column,sv x.table]∧x.column.length≤1000000∧x.table.length≤1000000
 len h:=by rw [h.1];rfl
 frame h _:=h
 mono h _:=h
def Qt:Rd Tbl where
 k:=13
 R S w cs x:=∃ cv kv rv ec,cs=sv x.name::cv::kv::rv::ec∧x.name.length≤1000000∧Sl Y0 S w cv x.columns∧Sl Qp S w kv x.key∧Sl Jb S w rv x.refs∧Z6 S w ec x.check
 len h:=by obtain ⟨_,_,_,_,rfl,_,_,_,_,h2⟩:=h;simp only [List.length_cons,h2.length]
 frame h hA:=by obtain ⟨cv,kv,rv,ec,rfl,h1,h2,h3,h4,h5⟩:=h;exact ⟨cv,kv,rv,ec,rfl,h1,h2.frame hA,h3.frame hA,h4.frame hA,h5.move hA (fun _ _ h=>h)⟩
 mono h hS:=by obtain ⟨cv,kv,rv,ec,rfl,h1,h2,h3,h4,h5⟩:=h;exact ⟨cv,kv,rv,ec,rfl,h1,h2.mono hS,h3.mono hS,h4.mono hS,h5.move (.refl _ _) hS⟩
def Be:Rd Ct where
 k:=7
 R S w cs x:=∃ tc,cs=sv x.name::.bool x.has::tc∧x.name.length≤1000000∧Y7 S w tc x.arg
 len h:=by obtain ⟨v,rfl,_,h2⟩:=h;simp only [List.length_cons,h2.length]
 frame h hA:=by obtain ⟨v,rfl,h1,h2⟩:=h;exact ⟨v,rfl,h1,h2.move hA (fun _ _ h=>h)⟩
 mono h hS:=by obtain ⟨v,rfl,h1,h2⟩:=h;exact ⟨v,rfl,h1,h2.move (.refl _ _) hS⟩
def Ke:Rd Sm where
 k:=2
 R S w cs x:=∃ v,cs=[sv x.name,v]∧x.name.length≤1000000∧Sl Be S w v x.ctors
 len h:=by obtain ⟨v,rfl,_⟩:=h;rfl
 frame h hA:=by obtain ⟨v,rfl,h1,h2⟩:=h;exact ⟨v,rfl,h1,h2.frame hA⟩
 mono h hS:=by obtain ⟨v,rfl,h1,h2⟩:=h;exact ⟨v,rfl,h1,h2.mono hS⟩
def Yn (S:Nat→Prop) (w:World) (cs:List Value) (x:Sc):Prop:=∃ uv tv,cs=[uv,tv]∧Sl Ke S w uv x.sums∧Sl Qt S w tv x.tables
theorem Yn.below {S:Nat→Prop} {w w':World} {cs:List Value} {x:Sc} (h:Yn S w cs x) (hb:Below w.heap.size w w'):Yn S w' cs x:=by
 obtain ⟨uv,tv,rfl,h1,h2⟩:=h;exact ⟨uv,tv,rfl,h1.below hb,h2.below hb⟩
theorem Zu:∀ S w cs x,Ql.R S w cs x→∀ u ∈ cs,u.oneCell'=true:=by
 intro S w cs x h u hu
 obtain ⟨p3,k3,p4,k4,rfl,_⟩:=Qh.cells (show Qh S w cs x from h)
 simp only [vcs,List.mem_cons,List.not_mem_nil,or_false] at hu
 rcases hu with rfl | rfl | rfl | rfl | rfl <;> rfl
theorem Xd:∀ S w cs x,Qp.R S w cs x→∀ u ∈ cs,u.oneCell'=true:=by
 intro S w cs x h u hu
 obtain ⟨rfl,_⟩:=h
 simp only [List.mem_cons,List.not_mem_nil,or_false] at hu
 subst hu;rfl
theorem sl_one {T:Type} {r:Rd T} {S:Nat→Prop} {w:World} {v:Value} {xs:List T} (h:Sl r S w v xs):v.oneCell'=true:=by
 obtain ⟨p,cap,rfl,_⟩:=h.len;rfl
theorem Pz:∀ S w cs x,Z0.R S w cs x→∀ u ∈ cs,u.oneCell'=true:=by
 intro S w cs x h u hu
 obtain ⟨v,rfl,_,h2⟩:=h
 simp only [List.mem_cons,List.not_mem_nil,or_false] at hu
 rcases hu with rfl | rfl
 ·rfl
 exact sl_one h2
theorem rf_one:∀ S w cs x,Jb.R S w cs x→∀ u ∈ cs,u.oneCell'=true:=by
 intro S w cs x h u hu
 obtain ⟨rfl,_⟩:=h
 simp only [List.mem_cons,List.not_mem_nil,or_false] at hu
 rcases hu with rfl | rfl <;> rfl
theorem ty_one {S:Nat→Prop} {w:World} {cs:List Value} {x:Ty} (h:Y7 S w cs x):∀ u ∈ cs,u.oneCell'=true:=by
 intro u hu
 cases h with
 | mk k n s names kids nv p cap b off cs hs hn=>
  simp only [List.mem_cons,List.not_mem_nil,or_false] at hu
  rcases hu with rfl | rfl | rfl | rfl | rfl
  ·rfl
  ·rfl
  ·rfl
  ·exact sl_one hn
  rfl
theorem Pw:∀ S w cs x,Y0.R S w cs x→∀ u ∈ cs,u.oneCell'=true:=by
 intro S w cs x h u hu
 obtain ⟨tc,rfl,_,h2⟩:=h
 rcases List.mem_cons.1 hu with rfl | hu
 ·rfl
 exact ty_one h2 u hu
theorem Za {P:Program} {t:TypeId} {z:Value} {n b:Nat} (h:(P.info? t).map (fun i=>(i.zero,i.size,i.bytes))=some (some z,n,b)):∃ i0,P.info? t=some i0∧i0.zero=some z∧i0.size=n∧i0.bytes=b:=by
 cases hi:P.info? t with
 | none=>rw [hi] at h;cases h
 | some i0=>
  rw [hi] at h
  simp only [Option.map_some,Option.some.injEq,Prod.mk.injEq] at h
  exact ⟨i0,rfl,h.1,h.2.1,h.2.2⟩
theorem Gb (S:Nat→Prop) (v:Value) (xs:List Val) (w:World) (hs:Sl Ql S w v xs):Calls prog 52 #[v] w (U3 Ql 44 S w xs):=by
 obtain ⟨i0,h1,h2,h3,h4⟩:=Za (P:=prog) (t:=44) (z:=.agg zV) (n:=5) (b:=80) (by kernel_rfl)
 exact Jo Tryz.clVal Ql (by decide) 80 i0 _ h1 h2 h3 h4 rfl sizeOf44 (by omega) Zu S v xs w hs
theorem Mz (S:Nat→Prop) (v:Value) (xs:List Bs) (w:World) (hs:Sl Qp S w v xs):Calls prog 79 #[v] w (U3 Qp 9 S w xs):=by
 obtain ⟨i0,h1,h2,h3,h4⟩:=Za (P:=prog) (t:=9) (z:=.string ⟨#[]⟩) (n:=1) (b:=16) (by kernel_rfl)
 exact Jo Tryz.clStr Qp (by decide) 16 i0 _ h1 h2 h3 h4 rfl sizeOf9 (by omega) Xd S v xs w hs
theorem cloneRel (S:Nat→Prop) (v:Value) (xs:List Rel) (w:World) (hs:Sl Z0 S w v xs):Calls prog 97 #[v] w (U3 Z0 57 S w xs):=by
 obtain ⟨i0,h1,h2,h3,h4⟩:=Za (P:=prog) (t:=57) (z:=.agg #[.string ⟨#[]⟩,.slice none 0 0]) (n:=2) (b:=40) (by kernel_rfl)
 exact Jo Tryz.clRel Z0 (by decide) 40 i0 _ h1 h2 h3 h4 rfl sizeOf57 (by omega) Pz S v xs w hs
theorem cloneRef (S:Nat→Prop) (v:Value) (xs:List Rf) (w:World) (hs:Sl Jb S w v xs):Calls prog 80 #[v] w (U3 Jb 80 S w xs):=by
 obtain ⟨i0,h1,h2,h3,h4⟩:=Za (P:=prog) (t:=80) (z:=.agg #[.string ⟨#[]⟩,.string ⟨#[]⟩]) (n:=2) (b:=32) (by kernel_rfl)
 exact Jo Tryz.clRef Jb (by decide) 32 i0 _ h1 h2 h3 h4 rfl sizeOf80 (by omega) rf_one S v xs w hs
theorem L5 (S:Nat→Prop) (v:Value) (xs:List Col) (w:World) (hs:Sl Y0 S w v xs):Calls prog 78 #[v] w (U3 Y0 78 S w xs):=by
 obtain ⟨i0,h1,h2,h3,h4⟩:=Za (P:=prog) (t:=78) (z:=.agg #[.string ⟨#[]⟩,.int .i64 0,.string ⟨#[]⟩,.int .i64 0,.slice none 0 0,.slice none 0 0]) (n:=6) (b:=96) (by kernel_rfl)
 exact Jo Tryz.clCol Y0 (by decide) 96 i0 _ h1 h2 h3 h4 rfl sizeOf78 (by omega) Pw S v xs w hs
theorem Xg (S:Nat→Prop) (v:Value) (l:List Rel) (t:Bs) (w:World) (hs:Sl Z0 S w v l):
  Calls prog 41 #[v,sv t] w fun e w'=>e=.returned (.int .i64 (Y9 (fun r=>decide (r.table=t)) l))∧Below w.heap.size w w':=by
 have hp:∀ w1:World,Below w.heap.size w w1→w1.cell? ⟨w.heap.size,0,none⟩=some (sv t)→Xp prog 82 #[.pointer (some ⟨w.heap.size,0,none⟩)] Z0 S l (fun r=>decide (r.table=t)) w1:=by
  rintro w1 hb1 hc W x cs hb hx ⟨rv,rfl,_,_⟩
  have hc':W.cell? ⟨w.heap.size,0,none⟩=some (sv t):=(hb.cell (p:=⟨w.heap.size,0,none⟩) (Qv w1 _ hc)).trans hc
  have hlt:=Qv W _ hc'
  have hne:w.heap.size≠W.heap.size:=by
   intro e;rw [e] at hlt;simp at hlt
  have hq:(x.table==t)=decide (x.table=t):=by rw [Bool.eq_iff_iff,beq_iff_eq,decide_eq_true_eq]
  have HQ:=Qq hq
  clear hq hc hb hb1 hx
  show Calls prog 82 #[.agg #[sv x.table,rv],.pointer (some ⟨w.heap.size,0,none⟩)] W _
  unfold sv at hc' ⊢
  go_enter func82,ntmps82
  go_wp2_with fail
  go_ret
  exact ⟨by rw [← HQ.out];rfl,Qn _ _⟩
 have HI:∀ w1:World,Below w.heap.size w w1→w1.cell? ⟨w.heap.size,0,none⟩=some (sv t)→Calls prog 81 #[v,.func (.func 82) #[] #[.pointer (some ⟨w.heap.size,0,none⟩)]] w1 fun e w'=>e=.returned (.int .i64 (Y9 (fun r=>decide (r.table=t)) l))∧Below w1.heap.size w1 w':=
  fun w1 hb hc=>Fz Tryz.ixRel Z0 isAgg57 sizeOf57 _ _ (enters_of func82 (by kernel_rfl) rfl) S v l w1 _ (hs.below hb) (hp w1 hb hc)
 have HI2:=Qq HI
 clear HI hp hs
 generalize Y9 _ l=r at HI2 ⊢
 unfold sv at HI2 ⊢
 go_enter func41,ntmps41
 go_wp2_with (go_at_call 81;refine (HI2.out _ (Qn _ _) (by simp)).mono ?_;rintro e w' ⟨rfl,hw⟩)
 go_ret
 exact ⟨rfl,(Qn _ _).thn hw⟩
theorem Ma {W W1:World} (hb:Below W.heap.size W W1):(∀ b o,b<W.heap.size→W1.cell? ⟨b,o,none⟩=W.cell? ⟨b,o,none⟩)∧(∀ b o,b<W.heap.size→W1.frozen? ⟨b,o,none⟩=W.frozen? ⟨b,o,none⟩):=
 ⟨fun b o h=>hb.cell (p:=⟨b,o,none⟩) h,fun b o h=>hb.frozen (p:=⟨b,o,none⟩) h⟩
def CloneIs (w:World) (x:Val) (e:Ending) (w':World):Prop:=∃ cs',e=.returned (.agg cs'.toArray)∧Qh (fun b=>w.heap.size≤b) w' cs' x∧Below w.heap.size w w'
def Hl (x:Val):Prop:=∀ (S:Nat→Prop) (cs:List Value) (w:World),Qh S w cs x→Calls prog 75 #[.agg cs.toArray] w (CloneIs w x)
theorem set_flat {n:Nat}:∀ (css:List (List Value)) (i:Nat) (a b c d e:Value),(∀ x ∈ css,x.length=5)→css.length=n→i<n →
  (((((css.flatten.set (i*5) a).set (i*5+1) b).set (i*5+2) c).set (i*5+3) d).set (i*5+4) e)=(css.set i [a,b,c,d,e]).flatten:=by
 intro css
 induction css generalizing n with
 | nil=>intro i a b c d e _ hn hi;simp at hn;omega
 | cons x css ih=>
  intro i a b c d e hx hn hi
  have h5:=hx x (by simp)
  cases i with
  | zero=>
   match x,h5 with
   | [x0,x1,x2,x3,x4],_=>simp
  | succ i=>
   have:=ih (n:=css.length) i a b c d e (fun y hy=>hx y (by simp [hy])) rfl (by simp at hn;omega)
   simp only [List.flatten_cons,List.set_cons_succ]
   rw [← this]
   have e1:(i+1)*5=x.length+i*5:=by rw [h5];omega
   simp only [e1,Nat.add_assoc]
   simp only [List.set_append_right _ _ (Nat.le_add_right _ _),Nat.add_sub_cancel_left]
theorem store5 {w:World} {B g n cap:Nat} {E:TypeId} {css:List (List Value)} (h:w.ownsRow B E 5 (.slice (some ⟨g,0,none⟩) n cap) n css.flatten) (hl:css.length=n) (h5:∀ x ∈ css,x.length=5) (i:Nat) (hi:i<n) (a b c d e:Value):
  (((((w.setCell ⟨g,i*5,none⟩ a).setCell ⟨g,i*5+1,none⟩ b).setCell ⟨g,i*5+2,none⟩ c).setCell ⟨g,i*5+3,none⟩ d).setCell ⟨g,i*5+4,none⟩ e).ownsRow B E 5 (.slice (some ⟨g,0,none⟩) n cap) n (css.set i [a,b,c,d,e]).flatten:=by
 rw [← set_flat css i a b c d e h5 hl hi]
 obtain ⟨h1,_⟩:=h.stored (i*5) a
 obtain ⟨h2,_⟩:=h1.stored (i*5+1) b
 obtain ⟨h3,_⟩:=h2.stored (i*5+2) c
 obtain ⟨h4,_⟩:=h3.stored (i*5+3) d
 exact (h4.stored (i*5+4) e).1
structure J6 (w:World) (k n:Int) (s:Bs) (ns:List Bs) (ks:List Val) (np:Option Addr) (ncap:Nat) (kp:Option Addr) (kcap:Nat) (kcs:List (List Value)) (kk:Nat) (wx:World):Prop where
 below:Below w.heap.size w wx
 box:wx.heap[w.heap.size]?=some (.cells #[.int .i64 k,.int .i64 n,.string ⟨s.toArray⟩,.slice np ns.length ncap,.slice kp ks.length kcap] 44 (0,0))
 res:wx.heap[w.heap.size+1]?=some (.cells zV 44 (0,0))
 names:Sl Qp (fun b=>w.heap.size+2≤b∧some b≠(Value.slice kp ks.length kcap).ownBlock) wx (.slice np ns.length ncap) ns
 kids:∃ news:List (List Value),news.length=kk∧wx.ownsRow (w.heap.size+2) 44 5 (.slice kp ks.length kcap) ks.length (news++kcs.drop kk).flatten ∧
  Cs Ql (fun b=>w.heap.size+2≤b∧some b≠(Value.slice kp ks.length kcap).ownBlock) wx news (ks.take kk)
theorem X7 {w w':World} {B B':Nat} {e:TypeId} {sz n:Nat} {v:Value} {xs:List Value} (h:w.ownsRow B e sz v n xs) (hB:B'≤B) (hA:∀ b,B≤b→b<w.heap.size→w'.heap[b]?=w.heap[b]?):w'.ownsRow B' e sz v n xs:=by
 refine ⟨h.1,?_⟩
 rcases h.2 with hn | ⟨g,cap,cur,rfl,hg,hh,rest⟩
 ·exact .inl hn
 exact .inr ⟨g,cap,cur,rfl,by omega,(hA g hg (Array.getElem?_eq_some_iff.1 hh).1).trans hh,rest⟩
theorem Qf {w:World} {b:Nat} {o:Obj} (h:w.heap[b]?=some o):b<w.heap.size:=(Array.getElem?_eq_some_iff.1 h).1
theorem Qg {w:World} {a:Addr} {u:Value} {b:Nat} (h:b≠a.block):(w.setCell a u).heap[b]?=w.heap[b]?:=Below.heap_setCell _ _ _ _ h
theorem sl_str {w:World} {v:Value} {xs:List Bs} {css:List (List Value)} {E:TypeId} {S:Nat→Prop} {B B':Nat} (h:Own Qp E S B w v xs css) (hl:xs.length≤1000000) (hB:B'≤B):Sl Qp (fun b=>B'≤b) w v xs:=by
 have:Own Qp E (fun _=>False) B w v xs css:=⟨h.row,⟨h.cs.len,fun i c x hc hx=>h.cs.R i c x hc hx⟩⟩
 exact this.sl hl (fun b hb=>by omega) (fun b _ h=>h.elim)
theorem Yp {w:World} {g i0 i1 i2 i3 i4:Nat} {a b c d e:Value} {k:Nat} (h:k≠g):
  (((((w.setCell ⟨g,i0,none⟩ a).setCell ⟨g,i1,none⟩ b).setCell ⟨g,i2,none⟩ c).setCell ⟨g,i3,none⟩ d).setCell ⟨g,i4,none⟩ e).heap[k]?=w.heap[k]?:=by
 rw [Qg h,Qg h,Qg h,Qg h,Qg h]
theorem J6.next {w wr w4:World} {k n:Int} {s:Bs} {ns:List Bs} {ks:List Val} {np:Option Addr} {ncap g kcap kk B:Nat} {kcs:List (List Value)} {x:Val} {a b c d e:Value}
  (hM:J6 w k n s ns ks np ncap (some ⟨g,0,none⟩) kcap kcs kk wr) (hx:ks[kk]?=some x) (hCs:Cs Ql (fun b=>b<w.heap.size) w kcs ks) (hb:Below wr.heap.size wr w4) (hB:wr.heap.size≤B)
  (hv:Qh (fun b=>B≤b) w4 [a,b,c,d,e] x):
  J6 w k n s ns ks np ncap (some ⟨g,0,none⟩) kcap kcs (kk+1) (((((w4.setCell ⟨g,kk*5,none⟩ a).setCell ⟨g,kk*5+1,none⟩ b).setCell ⟨g,kk*5+2,none⟩ c).setCell ⟨g,kk*5+3,none⟩ d).setCell ⟨g,kk*5+4,none⟩ e):=by
 have hkk:kk<ks.length:=(Qj hx).1
 obtain ⟨news,hnl,hrow,hnews⟩:=hM.kids
 have hg:=hrow.lt g rfl
 have hG:w.heap.size≤g:=by omega
 have hown:(Value.slice (some ⟨g,0,none⟩) ks.length kcap).ownBlock=some g:=rfl
 have hall:∀ y ∈ news++kcs.drop kk,y.length=5:=by
  intro y hy
  rcases List.mem_append.1 hy with h | h
  ·exact hnews.all y h
  exact hCs.all y (List.mem_of_mem_drop h)
 have hlen:(news++kcs.drop kk).length=ks.length:=by rw [List.length_append,List.length_drop,hCs.len];omega
 have hset:(news++kcs.drop kk).set kk [a,b,c,d,e]=(news++[[a,b,c,d,e]])++kcs.drop (kk+1):=by
  have hd:kcs.drop kk=(kcs[kk]'(by rw [hCs.len];exact hkk))::kcs.drop (kk+1):=List.drop_eq_getElem_cons (by rw [hCs.len];exact hkk)
  rw [hd,List.set_append_right _ _ (by omega),hnl,Nat.sub_self,List.set_cons_zero,List.append_assoc];rfl
 refine ⟨?_,?_,?_,?_,⟨news++[[a,b,c,d,e]],by simp [hnl],?_,?_⟩⟩
 ·exact (((((hM.below.thn hb).setCell (p:=⟨g,_,none⟩) hG _).setCell (p:=⟨g,_,none⟩) hG _).setCell (p:=⟨g,_,none⟩) hG _).setCell (p:=⟨g,_,none⟩) hG _).setCell (p:=⟨g,_,none⟩) hG _
 ·rw [Yp (by omega),hb.block _ (Qf hM.box)];exact hM.box
 ·rw [Yp (by omega),hb.block _ (Qf hM.res)];exact hM.res
 ·refine hM.names.frame (fun b hS hlt=>?_)
  rw [Yp (fun e=>hS.2 (by rw [e];rfl)),hb.block _ hlt]
 ·rw [← hset]
  exact store5 (X7 hrow (Q9 _) (fun b _ hlt=>hb.block b hlt)) hlen hall kk hkk a b c d e
 rw [List.take_succ_eq_append_getElem hkk]
 rw [Qx hkk] at hx
 obtain rfl:=Qb hx
 refine (hnews.move (fun b hS hlt=>?_) (fun _ _ h=>h)).app (Cs.one ?_)
 ·rw [Yp (fun e=>hS.2 (by rw [e];rfl)),hb.block _ hlt]
 obtain ⟨hg1,hg2⟩:=hg
 refine Qh.move hv (fun b hS hlt=>?_) (fun b hlt hS=>?_)
 ·have hS':B≤b:=hS
  exact Yp (by omega)
 have hS':B≤b:=hS
 refine ⟨by omega,fun e=>?_⟩
 have:b=g:=Qb e
 omega
theorem Ny (k n:Int) (s:Bs) (ns:List Bs) (ks:List Val) (ih:∀ x ∈ ks,Hl x):Hl (.mk k n s ns ks):=by
 intro S0 cs w hx0
 have hx:Qh (fun b=>b<w.heap.size) w cs (.mk k n s ns ks):=hx0.move (.refl _ _) (fun b hb _=>hb)
 clear hx0
 obtain ⟨nv,kv,rfl,hs,hn,hk⟩:=Vt.1 hx
 have hln:ns.length≤1000000:=by obtain ⟨_,_,_,h⟩:=hn.len;exact h
 have hlk:ks.length≤1000000:=by obtain ⟨_,_,_,h⟩:=hk.len;exact h
 have HN:=Qq hn;have HK:=Qq hk;have HI:=Qq ih
 clear hx hn hk ih
 unfold sv
 go_enter func75,ntmps75
 go_upto_region 1 with fail
 go_cut [12] (fun _ wx=>∃ np ncap kp kcap kcs,J6 w k n s ns ks np ncap kp kcap kcs 0 wx∧Cs Ql (fun b=>b<w.heap.size) w kcs ks)
 case first=>
  go_region_with (first | (go_at_call 79;refine (Mz _ nv ns _ (HN.out.below (by first | exact (Zv _ _ _).drew | exact (Zv _ _ _).drew.thn HB1.out | exact (Zv _ _ _).drew.thn HB2.out))).mono ?_;rintro e w1 ⟨np,ncap,ncs,rfl,ho1,hb1⟩;obtain ⟨hc1,hf1⟩:=Ma hb1;have hz1:=hb1.size;have HB1:=Qq hb1;have HO1:=Qq ho1;clear hb1 ho1;(try simp at hz1);have hg1:w.heap.size<w1.heap.size:=(by omega);have hk1:w.heap.size+1<w1.heap.size:=(by omega);have c13:w1.cell? ⟨w.heap.size,3,none⟩=some nv:=(by first | (rw [hc1 _ _ (by simp;omega)];simp) | (rw [hc1 _ _ (by assumption)];assumption));have f13:w1.frozen? ⟨w.heap.size,3,none⟩=false:=(by first | (rw [hf1 _ _ (by simp;omega)];simp) | (rw [hf1 _ _ (by assumption)];assumption));have c14:w1.cell? ⟨w.heap.size,4,none⟩=some kv:=(by first | (rw [hc1 _ _ (by simp;omega)];simp) | (rw [hc1 _ _ (by assumption)];assumption));have f14:w1.frozen? ⟨w.heap.size,4,none⟩=false:=(by first | (rw [hf1 _ _ (by simp;omega)];simp) | (rw [hf1 _ _ (by assumption)];assumption));clear hc1 hf1) | (go_at_call 52;refine (Gb _ kv ks _ (HK.out.below (by first | exact (Zv _ _ _).drew | exact (Zv _ _ _).drew.thn HB1.out | exact (Zv _ _ _).drew.thn HB2.out))).mono ?_;rintro e w2 ⟨kp,kcap,kcs,rfl,ho2,hb2⟩;obtain ⟨hc2,hf2⟩:=Ma hb2;have hz2:=hb2.size;have HB2:=Qq hb2;have HO2:=Qq ho2;clear hb2 ho2;(try simp only [World.size_drew,World.size_alloc] at hz2);have hg2:w.heap.size<w2.heap.size:=(by omega);have hk2:w.heap.size+1<w2.heap.size:=(by omega);have c23:w2.cell? ⟨w.heap.size,3,none⟩=some nv:=(by first | (rw [hc2 _ _ (by simp;omega)];simp) | (rw [hc2 _ _ (by assumption)];assumption));have f23:w2.frozen? ⟨w.heap.size,3,none⟩=false:=(by first | (rw [hf2 _ _ (by simp;omega)];simp) | (rw [hf2 _ _ (by assumption)];assumption));have c24:w2.cell? ⟨w.heap.size,4,none⟩=some kv:=(by first | (rw [hc2 _ _ (by simp;omega)];simp) | (rw [hc2 _ _ (by assumption)];assumption));have f24:w2.frozen? ⟨w.heap.size,4,none⟩=false:=(by first | (rw [hf2 _ _ (by simp;omega)];simp) | (rw [hf2 _ _ (by assumption)];assumption));clear hc2 hf2))
  all_goals
   go_wp2_with fail
   go_meet
   have b1:=HB1.out
   have b2:=HB2.out
   have hG1:=b1.block w.heap.size (by simp;omega)
   have hG1':=b1.block (w.heap.size+1) (by simp)
   rw [heap_drew,Q5] at hG1
   rw [heap_drew,Q6] at hG1'
   have hG2:=kE b2 hg1 hG1
   have hG2':=kE b2 hk1 hG1'
   have hbw:Below w.heap.size w w2:=(Zv _ _ _).drew.thn (b1.thn b2)
   refine ⟨np,ncap,kp,kcap,kcs,⟨(hbw.setCell (p:=⟨w.heap.size,3,none⟩) (Q9 _) _).setCell (p:=⟨w.heap.size,4,none⟩) (Q9 _) _,?_,?_,?_,⟨[],rfl,?_,⟨rfl,fun i c x hc=>by simp at hc⟩⟩⟩,?_⟩
   ·exact heap_setCell_same _ _ _ _ _ _ (heap_setCell_same _ _ _ _ _ _ hG2)
   ·rw [Qg (by simp),Qg (by simp)];exact hG2'
   ·refine ((sl_str HO1.out hln (by simp)).mono (S':=fun b=>w.heap.size+2≤b∧some b≠(Value.slice kp ks.length kcap).ownBlock) (fun b hb h=>⟨h,fun e=>?_⟩)).frame (fun b hb hlt=>?_)
    ·have:=(HO2.out.row.lt b e.symm).1
     omega
    rw [Qg (by show b≠w.heap.size;omega),Qg (by show b≠w.heap.size;omega)]
    exact b2.block b hlt
   ·refine X7 HO2.out.row (by omega) (fun b hb hlt=>?_)
    rw [Qg (by show b≠w.heap.size;omega),Qg (by show b≠w.heap.size;omega)]
   exact (HO2.out.cs.move (S':=fun b=>b<w.heap.size) (.refl _ _) (fun b _ h=>h.1)).move (fun b hb _=>(hbw.block b hb).symm) (fun b _ h=>h)
 obtain ⟨np,ncap,kp,kcap,kcs,hM,hCs⟩:=hcut
 have HC:=Qq hCs;have HM:=Qq hM
 obtain ⟨c0,c1,c2,c3,c4⟩:=row5 hM.box
 clear hCs hM
 go_wp2_with fail
 go_loopw [16] (fun i wr=>∃ kk:Nat,kk≤ks.length∧i=.int .i64 kk∧J6 w k n s ns ks np ncap kp kcap kcs kk wr) (fun i _=>ks.length - (intOf i).toNat)
 case atStart=>exact ⟨0,Q8 _,rfl,HM.out⟩
 obtain ⟨kk,hkk,rfl,hM⟩:=hrel
 have c0:=Qk _ _ 0 _ _ _ hM.box;have c1:=Qk _ _ 1 _ _ _ hM.box;have c2:=Qk _ _ 2 _ _ _ hM.box;have c3:=Qk _ _ 3 _ _ _ hM.box;have c4:=Qk _ _ 4 _ _ _ hM.box
 have r0:=Qk _ _ 0 _ _ _ hM.res;have r1:=Qk _ _ 1 _ _ _ hM.res;have r2:=Qk _ _ 2 _ _ _ hM.res;have r3:=Qk _ _ 3 _ _ _ hM.res;have r4:=Qk _ _ 4 _ _ _ hM.res
 have fr:=fun j=>frozen_of_row _ _ j _ _ hM.res
 have hlt1:=(Array.getElem?_eq_some_iff.1 hM.res).1
 simp only [List.getElem?_toArray,List.getElem?_cons_zero,List.getElem?_cons_succ] at c0 c1 c2 c3 c4 r0 r1 r2 r3 r4
 have HM1:=Qq hM
 by_cases hlt:kk<ks.length
 ·obtain ⟨x,hx⟩:∃ x,ks[kk]?=some x:=⟨_,Qx hlt⟩
  obtain ⟨news,hnl,hrow,hnews⟩:=hM.kids
  obtain ⟨g,cap,hkp,hgB,hgs⟩:=hrow.form (by omega)
  simp only [Value.slice.injEq] at hkp
  obtain ⟨rfl,-,rfl⟩:=hkp
  obtain ⟨oc,hoc⟩:∃ oc,kcs[kk]?=some oc:=⟨_,Qx (by rw [HC.out.len];exact hlt)⟩
  have hvx:=HC.out.R kk oc x hoc hx
  obtain ⟨p3,k3,p4,k4,rfl,_⟩:=Qh.cells (show Qh _ w oc x from hvx)
  have hall:∀ y ∈ news++kcs.drop kk,y.length=5:=by
   intro y hy
   rcases List.mem_append.1 hy with h | h
   ·exact hnews.all y h
   exact HC.out.all y (List.mem_of_mem_drop h)
  have hat:(news++kcs.drop kk)[kk]?=some (vcs x p3 k3 p4 k4):=by
   rw [List.getElem?_append_right (by omega),List.getElem?_drop,hnl,Nat.sub_self,Nat.add_zero];exact hoc
  have hcell:∀ (j:Nat) u,(vcs x p3 k3 p4 k4)[j]?=some u→wr.cell? ⟨g,kk*5+j,none⟩=some u:=by
   intro j u hu
   have h5:j<5:=(Qj hu).1
   rw [hrow.cellAt _ (by omega)]
   exact Yg hall hat hu
  have d0:=hcell 0 _ rfl;have d1:=hcell 1 _ rfl;have d2:=hcell 2 _ rfl;have d3:=hcell 3 _ rfl;have d4:=hcell 4 _ rfl
  rw [Nat.add_zero] at d0
  have fz:=fun j=>hrow.frozenAt j
  have hi1:(0:Int)≤(kk:Int):=by omega
  have hi2:(kk:Int)<(ks.length:Int):=by omega
  have hne1:w.heap.size≠wr.heap.size:=by omega
  have hne2:w.heap.size+1≠wr.heap.size:=by omega
  have hne3:g≠wr.heap.size:=by omega
  have HX:=Qq hx;have HV:=Qq hvx;have HA:=Qq hall;have HAt:=Qq hat;have HR:=Qq hrow;have HN2:=Qq hnews;have HL:=Qq hnl;have HFz:=Qq fz;have HFr:=Qq fr
  clear hx hvx hall hat hrow hnews hnl hcell hoc hM fz fr r0 r1 r2 r3 r4 c0 c1 c2 c3
  go_upto_region 5 with fail
  obtain ⟨W5,hW5⟩:=eX (wr.alloc (.cells #[.int .i64 x.kind,.int .i64 x.n,.string ⟨x.s.toArray⟩,.slice p3 x.names.length k3,.slice p4 x.kids.length k4] 44))
  have hb5:=eqB hW5 (Qn _ _)
  have hx5:=eqH (b:=wr.heap.size) hW5 (Qw _ _)
  rw [hW5]
  obtain ⟨x0,x1,x2,x3,x4⟩:=row5 hx5
  have c5:=(hb5.cell (p:=⟨w.heap.size,4,none⟩) (show w.heap.size<wr.heap.size by omega)).trans c4
  have HB5:=Qq hb5
  have c4':=c4
  clear hW5 hb5 hx5 c4
  go_region_with (first | (go_at_call 75;refine (HI.out x (Qy HX.out) _ (vcs x p3 k3 p4 k4) _ (Qh.move HV.out (.of_below (HM1.out.below.thn HB5.out.drew)) (fun _ _ h=>h))).mono ?_;rintro e w4 ⟨cs',rfl,hv4,hb4⟩;obtain ⟨q3,l3,q4,l4,hcs,_⟩:=Qh.cells hv4;simp only [vcs] at hcs;subst hcs;have HB4:=Qq (HB5.out.drew.thn hb4);have HV4:=Qq hv4;clear hv4 hb4;have e4:=(HB4.out.cell (p:=⟨w.heap.size,4,none⟩) (show w.heap.size<wr.heap.size by omega)).trans c4';have g0:=(HB4.out.cell (p:=⟨g,kk*5,none⟩) hgs).trans d0;have g1:=(HB4.out.cell (p:=⟨g,kk*5+1,none⟩) hgs).trans d1;have g2:=(HB4.out.cell (p:=⟨g,kk*5+2,none⟩) hgs).trans d2;have g3:=(HB4.out.cell (p:=⟨g,kk*5+3,none⟩) hgs).trans d3;have g4:=(HB4.out.cell (p:=⟨g,kk*5+4,none⟩) hgs).trans d4;have f0:=(HB4.out.frozen (p:=⟨g,kk*5,none⟩) hgs).trans (HFz.out (kk*5));have f1:=(HB4.out.frozen (p:=⟨g,kk*5+1,none⟩) hgs).trans (HFz.out (kk*5+1));have f2:=(HB4.out.frozen (p:=⟨g,kk*5+2,none⟩) hgs).trans (HFz.out (kk*5+2));have f3:=(HB4.out.frozen (p:=⟨g,kk*5+3,none⟩) hgs).trans (HFz.out (kk*5+3));have f4:=(HB4.out.frozen (p:=⟨g,kk*5+4,none⟩) hgs).trans (HFz.out (kk*5+4))))
  all_goals
   go_wp2_with fail
   go_roundw
   case measure=>simp [intOf];omega
   case rel=>exact ⟨kk+1,by omega,by go_num,HM1.out.next HX.out HC.out HB4.out (HB5.out.size) HV4.out⟩
 obtain rfl:kk=ks.length:=by omega
 have fz0:=fr 0;have fz1:=fr 1;have fz2:=fr 2;have fz3:=fr 3;have fz4:=fr 4
 clear fr
 go_wp2_with fail
 have hWF:=heap_setCell_same _ _ 4 _ _ (.slice kp ks.length kcap) (heap_setCell_same _ _ 3 _ _ (.slice np ns.length ncap) (heap_setCell_same _ _ 2 _ _ (.string ⟨s.toArray⟩) (heap_setCell_same _ _ 1 _ _ (.int .i64 n) (heap_setCell_same _ _ 0 _ _ (.int .i64 k) HM1.out.res))))
 have q0:=Qk _ _ 0 _ _ _ hWF;have q1:=Qk _ _ 1 _ _ _ hWF;have q2:=Qk _ _ 2 _ _ _ hWF;have q3:=Qk _ _ 3 _ _ _ hWF;have q4:=Qk _ _ 4 _ _ _ hWF
 simp only [List.setIfInBounds_toArray,List.set_cons_zero,List.set_cons_succ,List.getElem?_toArray,List.getElem?_cons_zero,List.getElem?_cons_succ] at q0 q1 q2 q3 q4
 obtain ⟨WF,hWF'⟩:=eX ((((((wr.setCell ⟨w.heap.size+1,0,none⟩ (.int .i64 k)).setCell ⟨w.heap.size+1,1,none⟩ (.int .i64 n)).setCell ⟨w.heap.size+1,2,none⟩ (.string ⟨s.toArray⟩)).setCell ⟨w.heap.size+1,3,none⟩ (.slice np ns.length ncap)).setCell ⟨w.heap.size+1,4,none⟩ (.slice kp ks.length kcap)))
 rw [hWF'] at q0 q1 q2 q3 q4 ⊢
 have HWF:=Qq hWF'
 clear hWF hWF' c0 c1 c2 c3 c4 r0 r1 r2 r3 r4 fz0 fz1 fz2 fz3 fz4
 refine Q7 (v:=.agg #[.int .i64 k,.int .i64 n,.string ⟨s.toArray⟩,.slice np ns.length ncap,.slice kp ks.length kcap]) (by simp [results,results75,go_sem,q0,q1,q2,q3,q4]) rfl ⟨[.int .i64 k,.int .i64 n,.string ⟨s.toArray⟩,.slice np ns.length ncap,.slice kp ks.length kcap],rfl,?_,?_⟩
 all_goals rw [← HWF.out]
 ·obtain ⟨news,hnl,hrow,hnews⟩:=HM1.out.kids
  rw [List.drop_eq_nil_of_le (by rw [HC.out.len];exact Q9 _),List.append_nil] at hrow
  rw [List.take_of_length_le (Q9 _)] at hnews
  have hO:Own Ql 44 (fun b=>w.heap.size+2≤b) (w.heap.size+2) wr (.slice kp ks.length kcap) ks news:=⟨hrow,hnews⟩
  refine Zn hs ?_ ?_
  ·refine (HM1.out.names.frame (fun b hS hlt=>?_)).mono (fun b _ hS=>?_)
   ·exact Yp (by have:w.heap.size+2≤b:=hS.1;omega)
   have:w.heap.size+2≤b:=hS.1
   show w.heap.size≤b
   omega
  refine ((hO.sl hlk (S':=fun b=>w.heap.size+2≤b) (fun b h=>h) (fun b _ h=>h)).frame (fun b hS hlt=>?_)).mono (fun b _ hS=>?_)
  ·exact Yp (by have:w.heap.size+2≤b:=hS;omega)
  have:w.heap.size+2≤b:=hS
  show w.heap.size≤b
  omega
 exact ((((HM1.out.below.setCell (p:=⟨w.heap.size+1,0,none⟩) (Nat.le_succ _) _).setCell (p:=⟨w.heap.size+1,1,none⟩) (Nat.le_succ _) _).setCell (p:=⟨w.heap.size+1,2,none⟩) (Nat.le_succ _) _).setCell (p:=⟨w.heap.size+1,3,none⟩) (Nat.le_succ _) _).setCell (p:=⟨w.heap.size+1,4,none⟩) (Nat.le_succ _) _
theorem P0:∀ x:Val,Hl x
 | .mk k n s ns ks=>Ny k n s ns ks fun x _=>P0 x
termination_by x=>SizeOf.sizeOf x
decreasing_by
 have:=List.sizeOf_lt_of_mem ‹_ ∈ ks›
 simp only [Val.mk.sizeOf_spec]
 omega
theorem Hi (a b:Val):(Z1 a b==0)=eqv a b:=by rw [← eqv_cmp];rfl
theorem Dw (S:Nat→Prop) (a b:Val) (ca cb:List Value) (w:World) (ha:Qh S w ca a) (hb:Qh S w cb b):
  Calls prog 57 #[.agg ca.toArray,.agg cb.toArray] w fun e w'=>e=.returned (.int .i64 (Z1 a b))∧Gr w w':=cmpAt a b S ca cb w ha hb
theorem Gz (S:Nat→Prop) (a b:Val) (ca cb:List Value) (w:World) (ha:Qh S w ca a) (hb:Qh S w cb b):
  Calls prog 45 #[.agg ca.toArray,.agg cb.toArray] w fun e w'=>e=.returned (.bool (eqv a b))∧Below w.heap.size w w':=by
 rw [← Hi]
 have HC:=Qq (fun W (h:Below w.heap.size w W)=>Dw S a b ca cb W (ha.move (.of_below h) (fun _ _ h=>h)) (hb.move (.of_below h) (fun _ _ h=>h)))
 obtain ⟨p3,k3,p4,k4,hca,_⟩:=Qh.cells ha
 obtain ⟨q3,l3,q4,l4,hcb,_⟩:=Qh.cells hb
 simp only [vcs] at hca hcb
 subst hca;subst hcb
 clear ha hb
 generalize Z1 a b=c at HC ⊢
 go_enter func45,ntmps45
 go_wp2_with (go_at_call 57;refine (HC.out _ (Zv _ _ _)).mono ?_;rintro e w' ⟨rfl,hw⟩;have HW:=Qq ((X6 w _ _).thn hw);clear hw)
 go_ret
 exact ⟨rfl,HW.out.bl⟩
theorem R7 (S:Nat→Prop) (a b:Val) (ca cb:List Value) (w:World) (ha:Qh S w ca a) (hb:Qh S w cb b):
  Calls prog 108 #[.agg ca.toArray,.agg cb.toArray] w fun e w'=>e=.returned (.int .i64 (Z1 a b))∧Gr w w':=by
 have HC:=Qq (fun W (h:Below w.heap.size w W)=>Dw S a b ca cb W (ha.move (.of_below h) (fun _ _ h=>h)) (hb.move (.of_below h) (fun _ _ h=>h)))
 obtain ⟨p3,k3,p4,k4,hca,_⟩:=Qh.cells ha
 obtain ⟨q3,l3,q4,l4,hcb,_⟩:=Qh.cells hb
 simp only [vcs] at hca hcb
 subst hca;subst hcb
 clear ha hb
 generalize Z1 a b=c at HC ⊢
 go_enter func108,ntmps108
 go_wp2_with (go_at_call 57;refine (HC.out _ (Zv _ _ _)).mono ?_;rintro e w' ⟨rfl,hw⟩;have HW:=Qq ((X6 w _ _).thn hw);clear hw)
 go_ret
 exact ⟨rfl,HW.out⟩
theorem Y7.cells {S:Nat→Prop} {w:World} {cs:List Value} {x:Ty} (h:Y7 S w cs x):∃ k s n p3 n3 k3 p4 n4 k4,cs=[.int .i64 k,.string s,.int .i64 n,.slice p3 n3 k3,.slice p4 n4 k4]:=by
 cases h with
 | mk k n s names kids nv p cap b off cs hs hn=>
  obtain ⟨p3,k3,rfl,_⟩:=hn.len
  exact ⟨_,_,_,_,_,_,_,_,_,rfl⟩
theorem row1_any (S:Nat→Prop) (a b:Col) (ca cb:List Value) (w:World) (ha:Y0.R S w ca a) (hb:Y0.R S w cb b):
  Calls prog 121 #[.agg ca.toArray,.agg cb.toArray] w fun e w'=>e=.returned (.int .i64 (Zg a.name b.name))∧Gr w w':=by
 obtain ⟨ta,rfl,_,h1⟩:=ha
 obtain ⟨tb,rfl,_,h2⟩:=hb
 obtain ⟨_,_,_,_,_,_,_,_,_,rfl⟩:=h1.cells
 obtain ⟨_,_,_,_,_,_,_,_,_,rfl⟩:=h2.cells
 have HS:=Qq (fun W=>Mv ⟨a.name.toArray⟩ ⟨b.name.toArray⟩ W)
 rw [show Zg (bl ⟨a.name.toArray⟩) (bl ⟨b.name.toArray⟩)=Zg a.name b.name from rfl] at HS
 generalize Zg a.name b.name=c at HS ⊢
 clear h1 h2
 unfold sv
 go_enter func121,ntmps121
 go_wp2_with (go_at_call 99;refine (HS.out _).mono ?_;rintro e w' ⟨rfl,rfl⟩)
 go_ret
 exact ⟨rfl,X6 _ _ _⟩
theorem Na (S:Nat→Prop) (v:Value) (l:List Bs) (x:Bs) (w:World) (hs:Sl Qp S w v l):
  Calls prog 117 #[v,sv x] w fun e w'=>e=.returned (.int .i64 (Y9 (fun y=>decide (y=x)) l))∧w=w':=by
 obtain ⟨p,cap,rfl,hl⟩:=hs.len
 have HS:=Qq hs
 clear hs
 obtain ⟨n,hn⟩:=eX (l.length)
 rw [hn] at HS hl;rw [hn]
 have HN:=Qq hn
 clear hn
 unfold sv
 go_enter func117,ntmps117
 go_wp2_with fail
 go_loop [8] (fun i=>∃ k:Nat,k≤n∧i=.int .i64 k∧Aside (∀ (j:Nat) (y:Bs),j<k→l[j]?=some y→decide (y=x)=false)) (fun i=>n - (intOf i).toNat)
 case atStart=>exact ⟨0,Q8 _,rfl,fun j _ hj=>absurd hj (Nat.not_lt_zero _)⟩
 obtain ⟨k,hk,rfl,A⟩:=hrel
 by_cases hlt:k<n
 ·have hi1:(0:Int)≤(k:Int):=by omega
  have hi2:(k:Int)<(n:Int):=by omega
  obtain ⟨y,hy⟩:∃ y,l[k]?=some y:=⟨_,Qx (by rw [HN.out];exact hlt)⟩
  obtain ⟨b,off,rfl,hc,-⟩:=HS.out.str hy
  have HY:=Qq hy
  clear hy
  by_cases he:y=x
  ·have hq:(x==y)=true:=by rw [he];simp
   have HE:=Qq he
   clear he
   go_wp2_with fail
   go_ret
   refine ⟨?_,rfl⟩
   rw [Vb HY.out (by rw [HE.out];simp) A.out]
   rfl
  have hq:(x==y)=false:=by rw [← Bool.not_eq_true,beq_iff_eq];exact fun e=>he e.symm
  have HE:=Qq he
  clear he
  go_wp2_with fail
  go_round
  case measure=>simp [intOf];omega
  case rel=>
   refine ⟨k+1,by omega,by go_num,(show Aside _ from fun j z hj hz=>?_)⟩
   by_cases e:j=k
   ·subst e
    have:=HY.out
    rw [this] at hz
    cases hz
    simpa using HE.out
   exact A.out j z (by omega) hz
 have hltz:¬ (k:Int)<(n:Int):=by omega
 have:k=n:=by omega
 subst this
 go_wp2_with fail
 go_ret
 refine ⟨?_,rfl⟩
 rw [Xf (fun j y hy=>A.out j y (by have:=(Qj hy).1;have:=HN.out;omega) hy)]
 rfl
end Go.Proofs.YtppbaladeefnkaaGreatDoor
