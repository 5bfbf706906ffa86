import Derived.Test.YtcljcblceodciaaGreatDoorU06
set_option maxRecDepth 100000
set_option maxHeartbeats 400000000
namespace Go.Proofs.YtcljcblceodciaaGreatDoor
open Go.RowKit Go.Shelf Go.Lib Go.WideMaps Go.Maps
section
variable {P:Program} {T:Type}
theorem Vp {r:Rd T} (hk:0<r.k) {ops:Array Oper} {rest:List Oper} {o:Oper} {a:Act} {Q:Exit→Act→World→Prop} (hgd:o.guard=none) (s x:Operand) (t:TypeId)
  (ho:o.op=.call { callee:=.builtin .append,args:=#[s,x],argTypes:=#[t,t] }) (E:TypeId) (i:TypeInfo) (z:Value) (bytes:Nat) (ht:P.underlying t=some (.slice E)) (hi:P.info? E=some i) (hz:i.zero=some z)
  (hsize:i.size=r.k) (hby:i.bytes=bytes) (hzs:z.cells.size=r.k) (hb1:bytes≤1000) (S:Nat→Prop) (B:Nat) (w:World) (v:Value) (xs:List T) (css:List (List Value)) (ys:List T) (q:Option Addr) (m c:Nat) (hs:a.eval s=v)
  (hO:Own r E S B w v xs css) (hx:a.eval x=.slice q m c) (hY:Sl r (But S v) w (.slice q m c) ys) (hm:m=ys.length) (hne:ys≠[]) (h1:∀ S w cs x,r.R S w cs x→∀ u ∈ cs,u.oneCell'=true) (hl:xs.length+ys.length≤1000000) (hB:B≤w)
  (h:∀ p cap css' N,Own r E S B N (.slice p (xs.length+m) cap) (xs++ys) css'→w.grownBy N v.ownBlock→((Value.slice p (xs.length+m) cap).ownBlock=v.ownBlock∨(Value.slice p (xs.length+m) cap).ownBlock=some w.heap.size)→wpList P ops Q rest (a.put o.dst (.slice p (xs.length+m) cap)) N):
  wpList P ops Q (o::rest) a w:=by
 subst hm
 obtain ⟨q',c',dss,hv,O,hc⟩:=hY.css hk
 simp only [Qr] at hv
 obtain ⟨rfl,-,rfl⟩:=hv
 obtain ⟨b,I,rfl,_,aB,G⟩:=hc hne
 refine wpList_append_own_at (P:=P) (w:=w) hgd s x t ho B E i z r.k bytes ht hi hz hsize hby hzs hk v xs.length css.flatten hs hO.row ⟨b,I,none⟩ ys.length c dss.flatten hx O.flat (fun j u Z=>?_) (fun u Z=>?_) (by unfold maxLen;omega) (by
   have:=Nat.mul_le_mul (show xs.length+ys.length≤1000000 by omega) hb1
   omega) hB (fun v1 N D A _ J=>?_)
 ·rw [show (⟨b,I,none⟩:Addr).add j=⟨b,I+j,none⟩ by unfold Addr.add;split <;> simp_all]
  exact G j u Z
 ·obtain ⟨cc,V,aA⟩:=List.mem_flatten.1 Z
  obtain ⟨i',M⟩:=Zk V
  have Y:=(Qj M).1
  exact h1 _ w cc _ (O.R i' cc _ M (Qx (by rw [← O.len];exact Y))) u aA
 have U:=hO.append O (ys:=ys) (dss:=dss) (v':=v1) (w2:=N) D A J
 have aC:0<ys.length:=List.length_pos_iff.2 hne
 rcases D.2 with ⟨_,hn⟩ | ⟨g,cap,aD,rfl,_⟩
 ·omega
 exact h _ _ _ _ U A J
end
theorem Ck {E:TypeId} {S:Nat→Prop} {B:Nat} {w:World} {v:Value} {bs:Bs} {css:List (List Value)} (h:Own Va E S B w v bs css):(v=.slice none 0 0∧bs=[])∨∃ g cap,v=.slice (some ⟨g,0,none⟩) bs.length cap∧∀ j (hj:j<bs.length),w.cell? ((⟨g,0,none⟩:Addr).add j)=some (.int .u8 (bs[j].toNat:Int)):=by
 rcases h.row.2 with ⟨A,h0⟩ | ⟨g,cap,D,A,_⟩
 ·exact .inl ⟨A,Zy h0⟩
 refine .inr ⟨g,cap,A,fun j hj=>?_⟩
 refine h.row.cells (g:=g) (by rw [A];rfl) j _ ?_
 have hc:css[j]?=some [.int .u8 (bs[j].toNat:Int)]:=by
  have h1:=Qx (l:=css) (i:=j) (by rw [h.cs.len];exact hj)
  have:=h.cs.R j _ _ h1 (Qx hj)
  rw [h1];exact congrArg some this
 have:=Vv (k:=1) h.cs.all hc (j:=0) (u:=.int .u8 (bs[j].toNat:Int)) rfl
 simpa using this
theorem conv_own {E:TypeId} {S:Nat→Prop} {B:Nat} {w:World} {v:Value} {bs:Bs} {css:List (List Value)} (h:Own Va E S B w v bs css):(convert 124 9 v).run Tryz.prog w=.ok (.string ⟨bs.toArray⟩) w:=by
 rcases Ck h with ⟨rfl,rfl⟩ | ⟨g,cap,rfl,hc⟩
 ·exact Lib.run_convert_nil_bytes w 124 9 5 0 Tryz.underlying124 Tryz.underlying5 Tryz.underlying9
 exact run_convert_bytes_back w 124 9 5 ⟨g,0,none⟩ cap bs Tryz.underlying124 Tryz.underlying5 Tryz.underlying9 hc
structure Ft where
 code:Int
 table:Bs
 row:Val
 other:Val
def Ft.zero:Ft:=⟨0,[],Val.zero,Val.zero⟩
def Hz (S:Nat→Prop) (w:World) (cs:List Value) (f:Ft):Prop:=∃ c1 c2,cs=.int .i64 f.code::sv f.table::(c1++c2)∧f.table.length≤1000000∧Z9 S w c1 f.row∧Z9 S w c2 f.other
theorem Hz.move {S S':Nat→Prop} {w w':World} {cs:List Value} {f:Ft} (h:Hz S w cs f) (hA:Uf S w w') (hS:∀ b,b<w.heap.size→S b→S' b):Hz S' w' cs f:=by
 obtain ⟨c1,c2,rfl,h1,h2,h3⟩:=h
 exact ⟨c1,c2,rfl,h1,h2.move hA hS,h3.move hA hS⟩
def Dg (S:Nat→Prop) (w:World) (f:Ft) (e:Ending) (w':World):Prop:=∃ cs',e=.returned (.agg cs'.toArray)∧Hz S w' cs' f∧Below w w w'
def fcs (c:Int) (t:ByteArray) (r:Val) (o:Val) (p3:Option Addr) (k3:Nat) (p4:Option Addr) (k4:Nat) (q3:Option Addr) (l3:Nat) (q4:Option Addr) (l4:Nat):List Value:=
 (Cr c (.string t) r p3 k3 p4 k4 o q3 l3 q4 l4)
theorem Ud {S:Nat→Prop} {w:World} {cs:List Value} {f:Ft} (h:Hz S w cs f):∃ p3 k3 p4 k4 q3 l3 q4 l4,cs=fcs f.code ⟨f.table.toArray⟩ f.row f.other p3 k3 p4 k4 q3 l3 q4 l4∧f.table.length≤1000000∧Z9 S w (vcs f.row p3 k3 p4 k4) f.row∧Z9 S w (vcs f.other q3 l3 q4 l4) f.other:=by
 obtain ⟨c1,c2,rfl,h1,h2,h3⟩:=h
 obtain ⟨p3,k3,p4,k4,rfl,_⟩:=Z9.cells h2
 obtain ⟨q3,l3,q4,l4,rfl,_⟩:=Z9.cells h3
 exact ⟨p3,k3,p4,k4,q3,l3,q4,l4,rfl,h1,h2,h3⟩
theorem Jh (S:Nat→Prop) (w:World):Hz S w [Ci,Cl,Ci,Ci,Cl,Cm,Cm,Ci,Ci,Cl,Cm,Cm] Ft.zero:=
 ⟨_,_,rfl,by simp [Ft.zero],Yi S w,Yi S w⟩
def Yd (W:World) (R:Nat) (a0 a1 a2 a3 a4 a5 a6 a7 a8 a9 a10 a11:Value):World:=((((((((((((W.setCell ⟨R,0,none⟩ a0).setCell ⟨R,1,none⟩ a1).setCell ⟨R,2,none⟩ a2).setCell ⟨R,3,none⟩ a3).setCell ⟨R,4,none⟩ a4).setCell ⟨R,5,none⟩ a5).setCell ⟨R,6,none⟩ a6).setCell ⟨R,7,none⟩ a7).setCell ⟨R,8,none⟩ a8).setCell ⟨R,9,none⟩ a9).setCell ⟨R,10,none⟩ a10).setCell ⟨R,11,none⟩ a11)
theorem Ew {W:World} {R:Nat} {a0 a1 a2 a3 a4 a5 a6 a7 a8 a9 a10 a11 x0 x1 x2 x3 x4 x5 x6 x7 x8 x9 x10 x11:Value} {t:TypeId} (h:W.heap[R]?=some (.cells #[x0,x1,x2,x3,x4,x5,x6,x7,x8,x9,x10,x11] t (0,0))):(Yd W R a0 a1 a2 a3 a4 a5 a6 a7 a8 a9 a10 a11).heap[R]?=some (.cells #[a0,a1,a2,a3,a4,a5,a6,a7,a8,a9,a10,a11] t (0,0)):=by
 have A:=Qi _ _ 0 _ _ a0 h;have A:=Qi _ _ 1 _ _ a1 A;have A:=Qi _ _ 2 _ _ a2 A;have A:=Qi _ _ 3 _ _ a3 A;have A:=Qi _ _ 4 _ _ a4 A;have A:=Qi _ _ 5 _ _ a5 A;have A:=Qi _ _ 6 _ _ a6 A;have A:=Qi _ _ 7 _ _ a7 A;have A:=Qi _ _ 8 _ _ a8 A;have A:=Qi _ _ 9 _ _ a9 A;have A:=Qi _ _ 10 _ _ a10 A;have A:=Qi _ _ 11 _ _ a11 A
 simpa [Yd] using A
theorem Y8 {W:World} {R:Nat} {a0 a1 a2 a3 a4 a5 a6 a7 a8 a9 a10 a11 x0 x1 x2 x3 x4 x5 x6 x7 x8 x9 x10 x11:Value} {t:TypeId} (h:W.heap[R]?=some (.cells #[x0,x1,x2,x3,x4,x5,x6,x7,x8,x9,x10,x11] t (0,0))) (j:Nat):(Yd W R a0 a1 a2 a3 a4 a5 a6 a7 a8 a9 a10 a11).cell? ⟨R,j,none⟩=#[a0,a1,a2,a3,a4,a5,a6,a7,a8,a9,a10,a11][j]?:=
 Qk _ _ _ _ _ _ (Ew h)
theorem Ys {W:World} {R k:Nat} {a0 a1 a2 a3 a4 a5 a6 a7 a8 a9 a10 a11:Value} (h:k≠R):(Yd W R a0 a1 a2 a3 a4 a5 a6 a7 a8 a9 a10 a11).heap[k]?=W.heap[k]?:=by
 unfold Yd
 repeat rw [Za h]
theorem Y1 {B R:Nat} {w W:World} {a0 a1 a2 a3 a4 a5 a6 a7 a8 a9 a10 a11:Value} (h:Below B w W) (hR:B≤R):Below B w (Yd W R a0 a1 a2 a3 a4 a5 a6 a7 a8 a9 a10 a11):=
 (((((((((((h.setCell (p:=⟨R,0,none⟩) hR _).setCell (p:=⟨R,1,none⟩) hR _).setCell (p:=⟨R,2,none⟩) hR _).setCell (p:=⟨R,3,none⟩) hR _).setCell (p:=⟨R,4,none⟩) hR _).setCell (p:=⟨R,5,none⟩) hR _).setCell (p:=⟨R,6,none⟩) hR _).setCell (p:=⟨R,7,none⟩) hR _).setCell (p:=⟨R,8,none⟩) hR _).setCell (p:=⟨R,9,none⟩) hR _).setCell (p:=⟨R,10,none⟩) hR _).setCell (p:=⟨R,11,none⟩) hR _
def Xq (P:List Bs) (k:Bs):Option Nat:=P.findIdx? (fun y=>decide (y=k))
theorem F8 (P:List Bs) (k s:Bs):Xq (P++[k]) s=(match Xq P s with | some a=>some a | none=>if k=s then some P.length else none):=by
 unfold Xq
 rw [List.findIdx?_append]
 cases P.findIdx? (fun y=>decide (y=s)) with
 | some a=>rfl
 | none=>by_cases h:k=s <;> simp [h]
def Ub (P:List Bs) (st:Nat × Nat) (k:Bs):Nat × Nat:=match Xq P k with
 | none=>st
 | some a=>if a<st.1 then (a,P.length) else st
def ust (n:Nat) (ks:List Bs):Nat→Nat × Nat
 | 0=>(n,0)
 | i+1=>Ub (ks.take i) (ust n ks i) (ks.getD i [])
theorem Di {P:List Bs} {k:Bs} {a:Nat} (h:Xq P k=some a):a<P.length:=by
 unfold Xq at h
 rw [List.findIdx?_eq_some_iff_getElem] at h
 exact h.1
theorem ust_bd (n:Nat) (ks:List Bs):∀ i,i≤ks.length→(ust n ks i).1=n∨((ust n ks i).1<i∧(ust n ks i).2<i)
 | 0,_=>.inl rfl
 | i+1,hi=>by
  have ih:=ust_bd n ks i C7
  have hl:(ks.take i).length=i:=by rw [Qm];omega
  have e:ust n ks (i+1)=Ub (ks.take i) (ust n ks i) (ks.getD i []):=rfl
  rw [e]
  generalize ust n ks i=st at ih ⊢
  unfold Ub
  cases hf:Xq (ks.take i) (ks.getD i []) with
  | none=>
   rcases ih with h | h
   ·exact .inl h
   exact .inr ⟨by show st.1<i+1;omega,by show st.2<i+1;omega⟩
  | some a=>
   have ha:=Di hf
   by_cases hlt:a<st.1
   ·simp only [if_pos hlt]
    exact .inr ⟨C7,C7⟩
   simp only [if_neg hlt]
   rcases ih with h | h
   ·exact .inl h
   exact .inr ⟨C7,C7⟩
def Ws (D:DataW Unit) (P:List Bs):Prop:=IsMap D∧∀ s:Bs,Maps.has D (.string s)=(Xq P s).isSome∧∀ a,Xq P s=some a→D.atKey (.string s) (.lit (.int .i64 0))=.lit (.int .i64 (a:Nat))
theorem invD_nil:Ws (.map []) []:=⟨isMap_empty,fun _=>⟨rfl,fun _ h=>by cases h⟩⟩
theorem keyLit (s:Bs):WideAt.IsKeyLit (.string s):=by simp [WideAt.IsKeyLit]
theorem invD_new {D:DataW Unit} {P:List Bs} {k:Bs} (h:Ws D P) (hk:Xq P k=none):Ws (D.put (.string k) (.lit (.int .i64 (P.length:Nat)))) (P++[k]):=by
 refine ⟨h.1.put _ _,fun s=>?_⟩
 rw [F8]
 by_cases hs:s=k
 ·subst hs
  rw [hk]
  simp only [if_true]
  refine ⟨has_put_same h.1 (keyLit _) _,fun a I=>?_⟩
  cases I
  exact atKey_put_same h.1 (keyLit _) _ _
 have A:(Lit.string s)≠.string k:=fun e=>hs (by injection e)
 rw [has_put_other A,atKey_put_other A]
 have G:=(h.2 s)
 cases hf:Xq P s with
 | none=>rw [hf] at G;simp only [if_neg (fun e=>hs (Eq.symm e))];exact ⟨G.1,fun a I=>by cases I⟩
 | some a=>rw [hf] at G;exact G
theorem Oz {D:DataW Unit} {P:List Bs} {k:Bs} {a:Nat} (h:Ws D P) (hk:Xq P k=some a):Ws D (P++[k]):=by
 refine ⟨h.1,fun s=>?_⟩
 rw [F8]
 have A:=h.2 s
 cases hf:Xq P s with
 | some b=>rw [hf] at A;exact A
 | none=>
  have hs:k≠s:=fun e=>by subst e;rw [hf] at hk;cases hk
  rw [hf] at A
  simp only [if_neg hs]
  exact A
theorem Mf {w w':World} {k:TypeId} {R:Value→Option (DataW Unit × List MemPlace)} {b n:Nat} {D:DataW Unit} (h:w.ownsMap Tryz.prog k R b n D) (e:w'.heap[b]?=w.heap[b]?):w'.ownsMap Tryz.prog k R b n D:=by
 obtain ⟨es,c,h1,h2⟩:=h
 exact ⟨es,c,e.trans h1,h2⟩
theorem Bp {w:World} {k:TypeId} {R:Value→Option (DataW Unit × List MemPlace)} {b n:Nat} {D:DataW Unit} (h:w.ownsMap Tryz.prog k R b n D):b<w.heap.size:=by
 obtain ⟨es,c,h1,h2⟩:=h
 exact Z8 h1
def kb (l:List Int):Bs:=(l.map Kj).flatten
structure B6 (t:Tbl) (rows:List Val) (K:Val→List Int):Prop where
 key:∀ row ∈ rows,keyOf t.key row=some ((K row).map Yf)
 bd:∀ row ∈ rows,∀ x ∈ K row,-2305843009213693952≤x∧x<2305843009213693952
 len:∀ row ∈ rows,(K row).length≤3
def Uk (rows:List Val) (st:Nat × Nat):Ft:=if st.1=rows.length then Ft.zero else ⟨11,[],rows.getD st.1 Val.zero,rows.getD st.2 Val.zero⟩
structure UMid (w W1:World) (ks:List Bs) (k:Nat) (wr:World):Prop where
 below:Below w w wr
 keep:∀ b,b<w.heap.size+2→wr.heap[b]?=W1.heap[b]?
 map:∃ D,wr.ownsMap Tryz.prog 9 (plainElem Tryz.prog 3) (w+2) k D∧Ws D (ks.take k)
theorem law9:Keyed Tryz.prog 9:=string_keyed Tryz.underlying9
theorem zero3 (w:World):(zeroValue 3).run Tryz.prog w=.ok (.int .i64 0) w:=Cd
theorem Ru (S S':Nat→Prop) (t:Tbl) (rows:List Val) (K:Val→List Int) (ct:List Value) (v:Value) (w:World) (ht:Zm.R S w ct t) (hv0:Sl Zd S' w v rows) (hK:B6 t rows K) (hl:rows.length≤100000) (hkl:t.key.length≤1000):
  Calls Tryz.prog 39 #[ct,v] w (Dg S' w (Uk rows (ust rows.length (rows.map fun r=>kb (K r)) rows.length))):=by
 have gV:=@run_makeMap Tryz.prog
 have hv:=hv0.up
 have bA:=Qq (fun row cr (hm:row ∈ rows) W (hb:Below w w W) (hr:Z9 (fun b=>S' b∧b<w) W cr row)=>(hK.key row hm) ▸ B9 S (fun b=>S' b∧b<w) t row ct cr W (Zm.frame ht (.of_below hb)) hr hkl)
 have cG:=Qq (fun (n:Int) cs W (h0:-2305843009213693952≤n) (h1:n<2305843009213693952) (h:Z9 (fun _=>True) W cs (Yf n))=>Ra _ n [] [] cs W h h0 h1)
 obtain ⟨bQ,bP,bX,bW,bZ,bY,k0,s1,n0,s2,p1,n1,c1,p2,n2,c2,p3,n3,c3,a0,z0,rfl,_,_,_,_,_⟩:=Zt ht
 obtain ⟨vp,gR,rfl,_⟩:=hv.len
 unfold tcs at bA ⊢
 have HV:=Qq hv;have cI:=Qq hK
 obtain ⟨i5,j1,j2,j3,j4⟩:=Y7 (P:=Tryz.prog) (t:=5) (z:=.int .u8 0) (n:=1) (b:=1) Cd
 obtain ⟨HJ,eK,eL,eM⟩:=Qjz j1 j2 j3 j4
 clear ht hv hv0 hK j1 j2 j3 j4
 obtain ⟨ks,aZ⟩:=eX ((rows.map fun r=>kb (K r)))
 rw [aZ]
 have bT:ks.length=rows.length:=by rw [← aZ,Z7]
 obtain ⟨n,hn⟩:=eX (rows.length)
 rw [hn] at HV hl bT ⊢
 obtain ⟨HN,eN,cJ⟩:=Qjq hn aZ bT
 clear hn aZ bT
 go_enter Tryz.func39,Tryz.ntmps39
 go_wp2_with fail
 generalize aK:((w.alloc (.cells (Co t bQ bP bX bW bZ bY k0 s1 n0 s2 p1 n1 c1 p2 n2 c2 p3 n3 c3 a0 z0) 48)).alloc (.cells zF 38)).alloc (.map #[] 0)=W1
 have cR:UMid w W1 ks 0 W1:=by
  refine ⟨by rw [← aK];exact Xm _ _ _ _,fun _ _=>rfl,.map [],?_,invD_nil⟩
  rw [← aK]
  have e:((w.alloc (.cells (Co t bQ bP bX bW bZ bY k0 s1 n0 s2 p1 n1 c1 p2 n2 c2 p3 n3 c3 a0 z0) 48)).alloc (.cells zF 38)).heap.size=w.heap.size+2:=Ca
  rw [← e]
  exact World.ownsMap_made _ _ _ _
 have cY:W1.heap[w.heap.size]?=some (.cells (Co t bQ bP bX bW bZ bY k0 s1 n0 s2 p1 n1 c1 p2 n2 c2 p3 n3 c3 a0 z0) 48 (0,0)):=by rw [← aK,Below.heap_alloc _ _ _ (by simp;omega)];exact Q5 _ _ _
 have cW:W1.heap[w.heap.size+1]?=some (.cells zF 38 (0,0)):=by rw [← aK,Below.heap_alloc _ _ _ Ca];exact Q6 _ _ _
 obtain ⟨eO,eY,eT⟩:=Qjq cR cY cW
 clear cR cY cW aK
 go_loopw [6,7,21] (fun eZ gC i wr=>∃ (k:Nat) (st:Nat × Nat),k≤n∧i=.int .i64 k∧Aside (ust n ks k=st)∧eZ=.int .i64 (st.1:Nat)∧gC=.int .i64 (st.2:Nat)∧UMid w W1 ks k wr) (fun _ _ i _=>n - (intOf i).toNat)
 case atStart=>exact ⟨0,(n,0),Q8 _,rfl,rfl,rfl,rfl,eO.out⟩
 obtain ⟨k,st,hk,rfl,dL,rfl,rfl,hM⟩:=hrel
 have HM:=Qq hM;have aX:=Qq dL.out
 have hX:=(hM.keep _ C7).trans eY.out
 have hR:=(hM.keep _ C7).trans eT.out
 have dN:w.heap.size+2<wr.heap.size:=by
  obtain ⟨D,hD,_⟩:=hM.map
  exact Bp hD
 clear dL
 have gY:w.heap.size<wr.heap.size:=C7
 have hA:w.heap.size≠wr.heap.size:=C7
 by_cases hlt:k<n
 ·have fO:(0:Int)≤(k:Int):=C7
  have fP:(k:Int)<(n:Int):=C7
  obtain ⟨row,aC⟩:∃ row,rows[k]?=some row:=⟨_,Qx (by rw [HN.out];exact hlt)⟩
  obtain ⟨hC,gS,M,I,N,J,rfl,gX,dQ,d0,d1,d2,d3,d4⟩:=(HV.out.below hM.below).val aC
  obtain ⟨y0,y1,y2,y3,y4,y5,y6,y7,y8,y9,gI,gJ,gK⟩:=row13 hX
  have aB:=Qy aC
  have aJ:=bA.out row (vcs row M I N J) aB (wr.alloc (.cells (Cn row M I N J) 36)) (hM.below.thn (Zg _ _)) (dQ.move (.of_below (Zg _ _)) Qje)
  have T:=Qq aJ
  have V:=cI.out.bd row aB
  have bU:=cI.out.len row aB
  have bE:ks[k]?=some (kb (K row)):=by rw [← eN.out,List.getElem?_map,aC];rfl
  have cF:=Qq V;have aH:=Qq bE
  clear aC dQ aB aJ V bE hM hX hR
  obtain ⟨L,hL⟩:=eX (K row)
  rw [hL] at T cF aH bU
  clear hL
  go_wp2_with fail
  unfold vcs at T
  refine T.out.mono ?_
  rintro e w5 ⟨kp,kn,gP,rfl,bF,aO,dD⟩
  rw [Option.getD_some,Z7] at bF
  subst bF
  rw [Option.getD_some] at aO
  have aL:Below wr wr w5:=(Zg _ _).thn dD
  have cM:=Qq (aO.mono (S':=fun _=>True) (fun _ _ _=>trivial));have aF:=Qq aL
  have gM:=aL.size
  clear aO dD aL y0 y1 y2 y3 y4 y5 y6 y7 y8 y9 gI gJ gK d0 d1 d2 d3 d4
  go_wp2_with fail
  go_loopw [11,31] (fun b j wv=>∃ (q:Nat) (A:Bs) (p:Option Addr) (cap:Nat),q≤L.length∧j=.int .i64 q∧b=.slice p A.length cap∧Aside (A=kb (L.take q))∧Below w5 w5 wv∧A.length≤20*q ∧
   ∃ css,Own Va 5 (fun _=>True) w5 wv (.slice p A.length cap) A css) (fun _ j _=>L.length - (intOf j).toNat)
  case atStart=>exact ⟨0,[],none,0,Q8 _,rfl,rfl,rfl,Qz _ _,Ca,[],Own.nil _ _ _ _ _⟩
  obtain ⟨q,A,p,cap,hq,rfl,rfl,hE,bR,gT,css,hO⟩:=hrel
  obtain ⟨aG,HO,HE⟩:=Qjq bR hO hE.out
  have gO:=bR.size
  clear bR hO hE
  by_cases hql:q<L.length
  ·have fQ:(0:Int)≤(q:Int):=C7
   have fR:(q:Int)<(L.length:Int):=C7
   obtain ⟨x,hx⟩:∃ x,L[q]?=some x:=⟨_,Qx hql⟩
   have dU:(L.map Yf)[q]?=some (Yf x):=by rw [List.getElem?_map,hx];rfl
   have dM:=(cM.out.below aG.out).val dU
   simp only [Yf,Val.kind,Val.n,Val.s,Val.names,Val.kids,List.length_nil] at dM
   obtain ⟨ub,gQ,q3,l3,q4,l4,rfl,gW,bV,e0,e1,e2,e3,e4⟩:=dM
   simp only [vcs,Val.kind,Val.n,Val.s,Val.names,Val.kids,List.length_nil] at bV
   have HX:=Qq hx
   have aM:=cF.out x (Qy hx)
   have cQ:=cG.out x _ (wr.alloc (.cells #[Ci,x,Cl,.slice q3 0 l3,.slice q4 0 l4] 36)) aM.1 aM.2 (Z9.move bV (.of_below (Zg _ _)) Qje)
   have eI:=Qq cQ
   have gU:=O4 aM.1 aM.2
   have dK:Kj x≠[]:=by
    unfold Kj
    intro e
    have:=congrArg List.length e
    rw [Ql] at this
    have h2:vb (zz 0)=[0]:=by rw [show zz 0=0 from rfl,Bz C7];rfl
    rw [h2] at this
    simp at this
   have eP:=Qq dK
   clear hx dU bV aM cQ dK
   go_wp2_with fail
   refine eI.out.mono ?_
   rintro e w6 ⟨ep,aI,fE,rfl,aY,dE⟩
   have Y:Below wr wr w6:=(Zg _ _).thn dE
   have cU:Own Va 5 (fun _=>True) w5 w6 (.slice p A.length cap) A css:=HO.out.below Y
   have hY:Sl Va (But (fun _=>True) (.slice p A.length cap)) w6 (.slice ep (Kj x).length aI) (Kj x):=by
    have cS:Own Va 5 (fun _=>False) _ w6 (.slice ep (Kj x).length aI) (Kj x) fE:=⟨aY.row,⟨aY.cs.len,fun i c y hc hy=>aY.cs.R i c y hc hy⟩⟩
    refine cS.sl C7 (fun b hb=>⟨trivial,fun e=>?_⟩) (fun b hb h=>h.elim)
    have h1:=(HO.out.row.lt b e.symm).2
    have h2:wr.heap.size+1≤b:=by simpa using hb
    omega
   obtain ⟨eH,cL,HY⟩:=Qjq Y cU hY
   have gN:=Y.size
   clear aY dE Y cU hY e0 e1 e2 e3 e4
   go_wp2_with (at_builtin;refine Vp (r:=Va) Cc rfl (.tmp 35) (.tmp 37) _ rfl 5 i5 (.int .u8 0) 1 Tryz.underlying124 HJ.out eK.out eL.out eM.out rfl C7 (fun _=>True) w5 w6 (.slice p A.length cap) A css (Kj x) ep (Kj x).length aI rfl cL.out rfl HY.out rfl eP.out Ni C7 C7 ?_;intro p7 cN cO w7 cT dF dA;have eR:=Qq cT;have eJ:=Qq dF;clear cT dF dA)
   go_roundw
   case measure=>simp [intOf];omega
   case rel=>
    refine ⟨q+1,A++Kj x,p7,cN,C7,by go_num,by rw [Ql],(show Aside _ from ?_),(aG.out.thn eH.out).grown eJ.out C7 (fun g hg=>(cL.out.row.lt g hg).1),by rw [Ql];omega,cO,by rw [Ql];exact eR.out⟩
    have:A++Kj x=kb (L.take (q+1)):=by
     obtain ⟨fU,rfl⟩:=Qj HX.out
     rw [HE.out,Zz fU]
     unfold kb
     rw [List.map_append,List.flatten_append]
     simp only [List.map_cons,List.map_nil,List.flatten_cons,List.flatten_nil,List.append_nil]
    exact this
  have fV:q=L.length:=C7
  subst fV
  have bS:A=kb L:=by rw [HE.out,Zj (Q9 _)]
  have fM:=conv_own HO.out
  obtain ⟨D,hD,hI⟩:=HM.out.map
  have cP:wr.ownsMap Tryz.prog 9 (plainElem Tryz.prog 3) (w+2) k D:=Mf hD (by rw [aG.out.block _ C7,aF.out.block _ dN])
  have dI:Go.keyOf Tryz.prog 9 (.string ⟨A.toArray⟩)=some (.string A):=keyOf_string_mk Tryz.underlying9 (by rw [Vz];unfold maxLen;omega)
  have Zb:∀ b,b<w.heap.size+2→wr.heap[b]?=W1.heap[b]?:=fun b hb=>by
   rw [aG.out.block _ C7,aF.out.block _ C7]
   exact HM.out.keep b hb
  have Z:Below w w wr:=HM.out.below.thn (aF.out.thn aG.out)
  have dJ:(ks.take k).length=k:=by rw [Qm,cJ.out];omega
  have dO:ks.take (k+1)=ks.take k++[A]:=by
   obtain ⟨fS,e⟩:=Qj aH.out
   rw [Zz fS,e,bS]
  have dP:ust n ks (k+1)=Ub (ks.take k) st A:=by
   show Ub (ks.take k) (ust n ks k) (ks.getD k [])=_
   rw [aX.out,Qs,aH.out,Option.getD_some,bS]
  obtain ⟨HD,HI,aW,O,G,bK,bM,bO⟩:=Qjy cP hI dI Zb Z dJ dO dP
  have dT:(Lit.int .i64 (k:Int)).wf=true:=WalkArith.wf_i64 C7
  have eW:=Qq dT
  clear bS hD hI cP dI Zb Z dJ dO dP dT
  cases hf:Xq (ks.take k) A with
  | none=>
   have dG:Maps.has D (.string A)=false:=by rw [(HI.out.2 A).1,hf];rfl
   have HF:=Qq hf
   clear hf
   go_wp2_with (first | (at_lookup;refine wpList_lookup_own_ok_int _ rfl (.tmp 41) (.tmp 43) _ rfl 9 3 .i64 law9 Tryz.underlying123 Tryz.underlying3 (zero3 _) (w+2) k D rfl HD.out (.string ⟨A.toArray⟩) (.string A) rfl aW.out ?_;intro c U aQ;clear U aQ) | (at_mapUpdate;refine wpList_mapUpdate_own _ rfl (.tmp 49) (.tmp 51) (.tmp 52) _ rfl 9 3 law9 Tryz.underlying123 _ (w+2) k D rfl HD.out (by unfold maxLen;omega) (.string ⟨A.toArray⟩) (.int .i64 k) (.string A) rfl rfl aW.out _ [] (plainElem_int Tryz.underlying3 eW.out) ?_;intro w8 aN aA;have eS:=Qq aN;have cH:=Qq aA;clear aN aA))
   go_roundw
   case measure=>simp [intOf];omega
   case rel=>
    have gL:=Bp HD.out
    refine ⟨k+1,st,C7,by go_num,(show Aside _ from ?_),rfl,rfl,⟨G.out.grown cH.out G.out.size (fun g hg=>by have:=Qb hg;omega),fun b hb=>?_,_,eS.out,?_⟩⟩
    ·have:ust n ks (k+1)=st:=by rw [bO.out];unfold Ub;rw [HF.out]
     exact this
    ·rw [cH.out.block b C7 (fun e=>by have:=Qb e;omega)];exact O.out b hb
    rw [bM.out]
    have:=invD_new HI.out HF.out
    rwa [bK.out] at this
  | some a=>
   have dG:Maps.has D (.string A)=true:=by rw [(HI.out.2 A).1,hf];rfl
   have cE:=Qq ((HI.out.2 A).2 a hf)
   have fL:=Di hf
   rw [bK.out] at fL
   have HF:=Qq hf
   clear hf
   by_cases hab:a<st.1
   ·have cZ:(a:Int)<(st.1:Int):=C7
    go_wp2_with (at_lookup;refine wpList_lookup_own_ok_int _ rfl (.tmp 41) (.tmp 43) _ rfl 9 3 .i64 law9 Tryz.underlying123 Tryz.underlying3 (zero3 _) (w+2) k D rfl HD.out (.string ⟨A.toArray⟩) (.string A) rfl aW.out ?_;intro c U aQ;obtain rfl:c=(a:Int):=(by have h1:=U.symm.trans cE.out;simpa using h1);clear U aQ)
    go_roundw
    case measure=>simp [intOf];omega
    case rel=>
     refine ⟨k+1,(a,k),C7,by go_num,(show Aside _ from ?_),rfl,rfl,⟨G.out,O.out,D,?_,?_⟩⟩
     ·have:ust n ks (k+1)=(a,k):=by rw [bO.out];unfold Ub;rw [HF.out];simp only [if_pos hab,bK.out]
      exact this
     ·obtain ⟨es,cl,h1,h2,h3,h4⟩:=HD.out
      exact ⟨es,cl,h1,h2,C7,h4⟩
     rw [bM.out];exact Oz HI.out HF.out
   have cZ:¬ ((a:Int)<(st.1:Int)):=C7
   go_wp2_with (at_lookup;refine wpList_lookup_own_ok_int _ rfl (.tmp 41) (.tmp 43) _ rfl 9 3 .i64 law9 Tryz.underlying123 Tryz.underlying3 (zero3 _) (w+2) k D rfl HD.out (.string ⟨A.toArray⟩) (.string A) rfl aW.out ?_;intro c U aQ;obtain rfl:c=(a:Int):=(by have h1:=U.symm.trans cE.out;simpa using h1);clear U aQ)
   go_roundw
   case measure=>simp [intOf];omega
   case rel=>
    refine ⟨k+1,st,C7,by go_num,(show Aside _ from ?_),rfl,rfl,⟨G.out,O.out,D,?_,?_⟩⟩
    ·have:ust n ks (k+1)=st:=by rw [bO.out];unfold Ub;rw [HF.out];simp only [if_neg hab]
     exact this
    ·obtain ⟨es,cl,h1,h2,h3,h4⟩:=HD.out
     exact ⟨es,cl,h1,h2,C7,h4⟩
    rw [bM.out];exact Oz HI.out HF.out
 have dH:k=n:=C7
 subst dH
 have fz:=fun j=>Qn _ _ j _ _ hR
 have rr:=fun j=>Qk _ _ j _ _ _ hR
 have r0:=rr 0;have f0:=fz 0;have r1:=rr 1;have f1:=fz 1;have r2:=rr 2;have f2:=fz 2;have r3:=rr 3;have f3:=fz 3;have r4:=rr 4;have f4:=fz 4;have r5:=rr 5;have f5:=fz 5;have r6:=rr 6;have f6:=fz 6;have r7:=rr 7;have f7:=fz 7;have r8:=rr 8;have f8:=fz 8;have r9:=rr 9;have f9:=fz 9;have dY:=rr 10;have fH:=fz 10;have dZ:=rr 11;have fI:=fz 11
 simp only [Qf,Qg,Qh] at r0 r1 r2 r3 r4 r5 r6 r7 r8 r9 dY dZ
 have HR:=Qq hR
 have V:=ust_bd k ks k (by rw [cJ.out];exact Q9 _)
 rw [aX.out] at V
 clear fz rr hR hX hM
 by_cases hz:st.1=k
 ·have hq:((st.1:Int)==(k:Int))=true:=by rw [hz];simp
  have aP:Uk rows (ust k ks k)=Ft.zero:=by rw [aX.out];unfold Uk;rw [if_pos (by rw [HN.out];exact hz)]
  have bN:=Qq aP
  clear aP V
  have HZ:=Qq hz
  clear hz
  go_wp2_with fail
  show bodyPost _ _ _ _ _ (Yd wr _ _ _ _ _ _ _ _ _ _ _ _ _)
  refine Q7 (v:=.agg zF) (by simp [results,Tryz.results39,go_sem,Y8 HR.out]) rfl ⟨[Ci,Cl,Ci,Ci,Cl,Cm,Cm,Ci,Ci,Cl,Cm,Cm],rfl,by rw [bN.out];exact Jh _ _,Y1 HM.out.below C7⟩
 obtain ⟨dB,dC⟩:=V.resolve_left hz
 have hq:((st.1:Int)==(k:Int))=false:=by rw [← Qt,beq_iff_eq];omega
 obtain ⟨x,hx⟩:∃ x,rows[st.1]?=some x:=⟨_,Qx (by rw [HN.out];exact dB)⟩
 obtain ⟨y,hy⟩:∃ y,rows[st.2]?=some y:=⟨_,Qx (by rw [HN.out];exact dC)⟩
 have aP:Uk rows (ust k ks k)=⟨11,[],x,y⟩:=by
  rw [aX.out]
  unfold Uk
  rw [if_neg (by rw [HN.out];exact hz),Qs,Qs,hx,hy];rfl
 have bN:=Qq aP
 obtain ⟨xb,eB,M,I,N,J,rfl,gZ,dR,d0,d1,d2,d3,d4⟩:=(HV.out.below HM.out.below).val hx
 obtain ⟨yb,eC,aT,aR,aU,aS,he,hB,dS,e0,e1,e2,e3,e4⟩:=(HV.out.below HM.out.below).val hy
 obtain ⟨rfl,rfl,-⟩:xb=yb∧eB=eC∧True:=by simpa using he
 have fO:(0:Int)≤(st.1:Int):=C7
 have fP:(st.1:Int)<(k:Int):=C7
 have fQ:(0:Int)≤(st.2:Int):=C7
 have fR:(st.2:Int)<(k:Int):=C7
 have eU:=Qq dR;have eV:=Qq dS
 clear aP V hz hx hy he dR dS dB dC
 go_wp2_with fail
 go_region
 go_wp2_with fail
 obtain ⟨W,hW⟩:=eX (Yd wr (w+1) (.int .i64 11) Cl x.kind x.n x.s (.slice M x.names.length I) (.slice N x.kids.length J) y.kind y.n y.s (.slice aT y.names.length aR) (.slice aU y.kids.length aS))
 have q:∀ j,W.cell? ⟨w+1,j,none⟩=#[.int .i64 11,.string ⟨#[]⟩,.int .i64 x.kind,.int .i64 x.n,.string ⟨x.s.toArray⟩,.slice M x.names.length I,.slice N x.kids.length J,.int .i64 y.kind,.int .i64 y.n,.string ⟨y.s.toArray⟩,.slice aT y.names.length aR,.slice aU y.kids.length aS][j]?:=fun j=>by rw [← hW];exact Y8 HR.out j
 have bG:∀ b,b<w.heap.size→W.heap[b]?=wr.heap[b]?:=fun b hb=>by rw [← hW];exact Ys C7
 have bD:Below w w W:=by rw [← hW];exact Y1 HM.out.below C7
 show bodyPost _ _ _ _ _ (World.drew (Yd wr (w+1) (.int .i64 11) Cl x.kind x.n x.s (.slice M x.names.length I) (.slice N x.kids.length J) y.kind y.n y.s (.slice aT y.names.length aR) (.slice aU y.kids.length aS)))
 rw [hW]
 have bB:=Qq bG;have G:=Qq bD
 obtain ⟨q0,q1,q2,q3,q4,q5,q6,q7,q8,q9,dW,dX⟩:=Qjb q
 simp only [Qf,Qg,Qh] at q0 q1 q2 q3 q4 q5 q6 q7 q8 q9 dW dX
 clear hW bG bD q r0 r1 r2 r3 r4 r5 r6 r7 r8 r9 dY dZ f0 f1 f2 f3 f4 f5 f6 f7 f8 f9 fH fI
 refine Q7 (v:=.agg (Cr (.int .i64 11) Cl x M I N J y aT aR aU aS)) (by simp [results,Tryz.results39,go_sem,q0,q1,q2,q3,q4,q5,q6,q7,q8,q9,dW,dX]) rfl ⟨_,rfl,?_,G.out.drew⟩
 rw [bN.out]
 refine ⟨vcs x M I N J,vcs y aT aR aU aS,rfl,Ca,?_,?_⟩
 ·exact Z9.move (S':=S') eU.out (fun b hb _=>bB.out b hb.2) (fun _ _ h=>h.1)
 exact Z9.move (S':=S') eV.out (fun b hb _=>bB.out b hb.2) (fun _ _ h=>h.1)
open Go.RowKit Go.Shelf Go.Lib Tryz
def Xi (W:World) (R:Nat) (a0 a1 a2 a3 a4 a5 a6 a7 a8 a9 a10 a11 a12:Value):World:=(((((((((((((W.setCell ⟨R,0,none⟩ a0).setCell ⟨R,1,none⟩ a1).setCell ⟨R,2,none⟩ a2).setCell ⟨R,3,none⟩ a3).setCell ⟨R,4,none⟩ a4).setCell ⟨R,5,none⟩ a5).setCell ⟨R,6,none⟩ a6).setCell ⟨R,7,none⟩ a7).setCell ⟨R,8,none⟩ a8).setCell ⟨R,9,none⟩ a9).setCell ⟨R,10,none⟩ a10).setCell ⟨R,11,none⟩ a11).setCell ⟨R,12,none⟩ a12)
theorem Kd {W:World} {R:Nat} {a0 a1 a2 a3 a4 a5 a6 a7 a8 a9 a10 a11 a12 x0 x1 x2 x3 x4 x5 x6 x7 x8 x9 x10 x11 x12:Value} {t:TypeId} (h:W.heap[R]?=some (.cells #[x0,x1,x2,x3,x4,x5,x6,x7,x8,x9,x10,x11,x12] t (0,0))):(Xi W R a0 a1 a2 a3 a4 a5 a6 a7 a8 a9 a10 a11 a12).heap[R]?=some (.cells #[a0,a1,a2,a3,a4,a5,a6,a7,a8,a9,a10,a11,a12] t (0,0)):=by
 have A:=Qi _ _ 0 _ _ a0 h;have A:=Qi _ _ 1 _ _ a1 A;have A:=Qi _ _ 2 _ _ a2 A;have A:=Qi _ _ 3 _ _ a3 A;have A:=Qi _ _ 4 _ _ a4 A;have A:=Qi _ _ 5 _ _ a5 A;have A:=Qi _ _ 6 _ _ a6 A;have A:=Qi _ _ 7 _ _ a7 A;have A:=Qi _ _ 8 _ _ a8 A;have A:=Qi _ _ 9 _ _ a9 A;have A:=Qi _ _ 10 _ _ a10 A;have A:=Qi _ _ 11 _ _ a11 A;have A:=Qi _ _ 12 _ _ a12 A
 simpa [Xi] using A
theorem U0 {W:World} {R:Nat} {a0 a1 a2 a3 a4 a5 a6 a7 a8 a9 a10 a11 a12 x0 x1 x2 x3 x4 x5 x6 x7 x8 x9 x10 x11 x12:Value} {t:TypeId} (h:W.heap[R]?=some (.cells #[x0,x1,x2,x3,x4,x5,x6,x7,x8,x9,x10,x11,x12] t (0,0))) (j:Nat):(Xi W R a0 a1 a2 a3 a4 a5 a6 a7 a8 a9 a10 a11 a12).cell? ⟨R,j,none⟩=#[a0,a1,a2,a3,a4,a5,a6,a7,a8,a9,a10,a11,a12][j]?:=
 Qk _ _ _ _ _ _ (Kd h)
theorem V8 {W:World} {R k:Nat} {a0 a1 a2 a3 a4 a5 a6 a7 a8 a9 a10 a11 a12:Value} (h:k≠R):(Xi W R a0 a1 a2 a3 a4 a5 a6 a7 a8 a9 a10 a11 a12).heap[k]?=W.heap[k]?:=by
 unfold Xi
 repeat rw [Za h]
theorem Xz {B R:Nat} {w W:World} {a0 a1 a2 a3 a4 a5 a6 a7 a8 a9 a10 a11 a12:Value} (h:Below B w W) (hR:B≤R):Below B w (Xi W R a0 a1 a2 a3 a4 a5 a6 a7 a8 a9 a10 a11 a12):=
 ((((((((((((h.setCell (p:=⟨R,0,none⟩) hR _).setCell (p:=⟨R,1,none⟩) hR _).setCell (p:=⟨R,2,none⟩) hR _).setCell (p:=⟨R,3,none⟩) hR _).setCell (p:=⟨R,4,none⟩) hR _).setCell (p:=⟨R,5,none⟩) hR _).setCell (p:=⟨R,6,none⟩) hR _).setCell (p:=⟨R,7,none⟩) hR _).setCell (p:=⟨R,8,none⟩) hR _).setCell (p:=⟨R,9,none⟩) hR _).setCell (p:=⟨R,10,none⟩) hR _).setCell (p:=⟨R,11,none⟩) hR _).setCell (p:=⟨R,12,none⟩) hR _
def Tbl.zero:Tbl:=⟨[],[],[],[],.mk 0 [] 0 [] [] [] [] 0 0⟩
theorem Db (S:Nat→Prop) (w:World):Zm.R S w [Cl,Cm,Cm,Cm,Ci,Cl,Ci,Cl,Cm,Cm,Cm,Ci,Ci] Tbl.zero:=
 ⟨_,_,_,_,rfl,by simp [Tbl.zero],Sl.nil _ _ _,Sl.nil _ _ _,Sl.nil _ _ _,Xj (nm:=[]) (s:=[]) Ca Ca (Sl.nil _ _ _) (Sl.nil _ _ _) (Sl.nil _ _ _)⟩
theorem Rp (S:Nat→Prop) (t:Tbl) (ct:List Value) (w:World) (h:Zm.R S w ct t):
  Calls prog 72 #[ct] w fun e w'=>e=.returned (sv t.name)∧Below w w w':=by
 obtain ⟨cp,cc,kp,kc,rp,rc,k,s1,n,s2,p1,n1,c1,p2,n2,c2,p3,n3,c3,a,z,A,_⟩:=Zt h
 simp only [tcs] at A
 subst A
 clear h
 unfold sv
 go_enter func72,ntmps72
 go_wp2_with fail
 go_ret
 exact ⟨rfl,Zg _ _⟩
def Yq (l:List Tbl) (x:Bs):Option Tbl:=l.find? (fun t=>decide (t.name=x))
def NamedIs (S:Nat→Prop) (w:World) (o:Option Tbl) (e:Ending) (w':World):Prop:=∃ cs',e=.returned (.tuple #[.agg cs'.toArray,.bool o.isSome])∧Zm.R (fun b=>S b∧b<w) w' cs' (o.getD Tbl.zero)∧Below w w w'
theorem Ad (S:Nat→Prop) (l:List Tbl) (v:Value) (x0:Bs) (w:World) (hv0:Sl Zm S w v l):
  Calls prog 71 #[v,.func (.func 72) #[] #[],sv x0] w (NamedIs S w (Yq l x0)):=by
 have hv:=hv0.up
 obtain ⟨vp,eB,rfl,hl⟩:=hv.len
 have HV:=Qq hv
 clear hv hv0
 obtain ⟨m,hm⟩:=eX (l.length)
 rw [hm] at HV hl ⊢
 have HN:=Qq hm
 clear hm
 obtain ⟨r,hr⟩:=eX (Yq l x0)
 rw [hr]
 have HR:=Qq hr
 clear hr
 unfold sv
 go_enter func71,ntmps71
 go_wp2_with fail
 generalize cD:w.alloc (.cells zT 48)=W1
 have cT:=eqB cD (Zg _ _)
 have cS:=eqH (b:=w.heap.size) cD (Qw _ _)
 have dP:=Qq cT;have dR:=Qq cS
 clear cD cT cS
 go_loopw [13] (fun i wr=>∃ k:Nat,k≤m∧i=.int .i64 k∧Aside (∀ (j:Nat) (y:Tbl),j<k→l[j]?=some y→decide (y.name=x0)=false)∧Below W1 W1 wr) (fun i _=>m - (intOf i).toNat)
 case atStart=>exact ⟨0,Q8 _,rfl,fun j _ hj=>absurd hj (Z6 _),Qz _ _⟩
 obtain ⟨k,hk,rfl,hA,hB⟩:=hrel
 have G:=kB hB dR.out
 have bM:=Z8 G
 obtain ⟨HA,HB,dQ⟩:=Qjq hA.out (dP.out.thn hB) hB
 clear hA hB
 by_cases cH:k<m
 ·have eD:(0:Int)≤(k:Int):=C7
  have eE:(k:Int)<(m:Int):=C7
  obtain ⟨x,hx⟩:∃ x,l[k]?=some x:=⟨_,Qx (by rw [HN.out];exact cH)⟩
  obtain ⟨bb,eF,cx,rfl,eC,-,-,bK,D⟩:=(HV.out.below HB.out).elem hx
  have cB:=Qq (Rp _ x cx (wr.alloc (.cells cx.toArray 48)) (Zm.frame bK (.of_below (Zg _ _))))
  have dS:=Qq bK
  obtain ⟨aF,aE,aL,aK,aW,aV,k9,aX,n9,aY,aP,aM,aB,aQ,aN,aC,aR,aO,aD,a9,z9,cU,_⟩:=Zt bK
  simp only [tcs] at cU
  subst cU
  have y0:=D 0 _ rfl;have y1:=D 1 _ rfl;have y2:=D 2 _ rfl;have y3:=D 3 _ rfl;have y4:=D 4 _ rfl;have y5:=D 5 _ rfl;have y6:=D 6 _ rfl;have y7:=D 7 _ rfl;have y8:=D 8 _ rfl;have y9:=D 9 _ rfl;have dI:=D 10 _ rfl;have dJ:=D 11 _ rfl;have dK:=D 12 _ rfl
  simp only [show Zm.k=13 from rfl,Nat.add_zero] at y0 y1 y2 y3 y4 y5 y6 y7 y8 y9 dI dJ dK
  have HX:=Qq hx;have aA:=Qq G
  clear hx bK D G
  unfold sv at cB
  by_cases he:x.name=x0
  ·have hq:(x.name==x0)=true:=by rw [he];simp
   have aJ:r=some x:=by
    rw [← HR.out]
    unfold Yq
    obtain ⟨dU,eA⟩:=Qj HX.out
    rw [List.find?_eq_some_iff_getElem]
    refine ⟨by simp [he],k,dU,eA,fun j hj=>?_⟩
    have:=HA.out j _ hj (Qx C7)
    simpa using this
   have Z:=Qq aJ
   clear aJ he
   go_wp2_with fail
   refine cB.out.mono ?_
   rintro e w5 ⟨rfl,hw⟩
   have A:=(hw.block wr Ca).trans (Qw wr _)
   have I:=(hw.block w (by simp;omega)).trans ((Below.heap_alloc wr _ _ bM).trans aA.out)
   have aZ:=Qk _ _ 0 _ _ _ A;have bA:=Qk _ _ 1 _ _ _ A;have bB:=Qk _ _ 2 _ _ _ A;have bC:=Qk _ _ 3 _ _ _ A;have bD:=Qk _ _ 4 _ _ _ A;have bE:=Qk _ _ 5 _ _ _ A;have bF:=Qk _ _ 6 _ _ _ A;have bG:=Qk _ _ 7 _ _ _ A;have bH:=Qk _ _ 8 _ _ _ A;have bI:=Qk _ _ 9 _ _ _ A;have T:=Qk _ _ 10 _ _ _ A;have U:=Qk _ _ 11 _ _ _ A;have V:=Qk _ _ 12 _ _ _ A
   have fz:=fun j=>Qn _ _ j _ _ I
   have rr:=fun j=>Qk _ _ j _ _ _ I
   obtain ⟨f0,f1,f2,f3,f4,f5,f6,f7,f8,f9,aG,aH,aI⟩:=Qjc fz
   obtain ⟨r0,r1,r2,r3,r4,r5,r6,r7,r8,r9,M,N,O⟩:=Qjc rr
   simp only [Qf,Qg,Qh] at aZ bA bB bC bD bE bF bG bH bI T U V r0 r1 r2 r3 r4 r5 r6 r7 r8 r9 M N O
   have cA:=Qq (HB.out.thn ((Zg wr _).thn hw));have cC:=Qq I
   have cJ:=Qq ((Zg wr _).thn hw)
   clear fz rr A I hw y0 y1 y2 y3 y4 y5 y6 y7 y8 y9 dI dJ dK
   go_wp2_with fail
   obtain ⟨W,hW⟩:=eX (Xi w5 w x.name (.slice aF x.columns.length aE) (.slice aL x.key.length aK) (.slice aW x.refs.length aV) k9 (.string aX) n9 (.string aY) (.slice aP aM aB) (.slice aQ aN aC) (.slice aR aO aD) a9 z9)
   have q:∀ j,W.cell? ⟨w,j,none⟩=#[.string ⟨x.name.toArray⟩,.slice aF x.columns.length aE,.slice aL x.key.length aK,.slice aW x.refs.length aV,.int .i64 k9,.string aX,.int .i64 n9,.string aY,.slice aP aM aB,.slice aQ aN aC,.slice aR aO aD,.int .i64 a9,.int .i64 z9][j]?:=fun j=>by rw [← hW];exact U0 cC.out j
   have bN:∀ b,b<w.heap.size→W.heap[b]?=w5.heap[b]?:=fun b hb=>by rw [← hW];exact V8 C7
   have J:Below w w W:=by rw [← hW];exact Xz cA.out (Q9 _)
   show bodyPost _ _ _ _ _ (Xi w5 w x.name (.slice aF x.columns.length aE) (.slice aL x.key.length aK) (.slice aW x.refs.length aV) k9 (.string aX) n9 (.string aY) (.slice aP aM aB) (.slice aQ aN aC) (.slice aR aO aD) a9 z9)
   rw [hW]
   have cK:=Qq bN;have Y:=Qq J
   obtain ⟨q0,q1,q2,q3,q4,q5,q6,q7,q8,q9,aS,aT,aU⟩:=Qjc q
   simp only [Qf,Qg,Qh] at q0 q1 q2 q3 q4 q5 q6 q7 q8 q9 aS aT aU
   clear hW bN J q r0 r1 r2 r3 r4 r5 r6 r7 r8 r9 M N O f0 f1 f2 f3 f4 f5 f6 f7 f8 f9 aG aH aI aZ bA bB bC bD bE bF bG bH bI T U V
   refine Q7 (v:=.tuple #[.agg (Co x aF aE aL aK aW aV k9 aX n9 aY aP aM aB aQ aN aC aR aO aD a9 z9),.bool true]) (by simp [results,results71,go_sem,q0,q1,q2,q3,q4,q5,q6,q7,q8,q9,aS,aT,aU]) rfl ⟨Co x aF aE aL aK aW aV k9 aX n9 aY aP aM aB aQ aN aC aR aO aD a9 z9,by rw [Z.out];rfl,?_,Y.out⟩
   rw [Z.out]
   exact Zm.frame dS.out (fun b hb cH=>(cK.out b hb.2).trans (cJ.out.block b cH))
  have hq:(x.name==x0)=false:=by rw [← Qt,beq_iff_eq];exact he
  have HE:=Qq he
  clear he
  go_wp2_with (go_at_call 72;refine cB.out.mono ?_;rintro e w5 ⟨rfl,hw⟩;have dT:=Qq ((Zg wr _).thn hw);clear hw)
  go_roundw
  case measure=>simp [intOf];omega
  case rel=>
   refine ⟨k+1,C7,by go_num,(show Aside _ from fun j y hj hy=>?_),?_⟩
   ·by_cases e:j=k
    ·subst e
     have:=HX.out
     rw [this] at hy
     cases hy
     simpa using HE.out
    exact HA.out j y C7 hy
   exact (dQ.out.thn dT.out)
 have dV:k=m:=C7
 subst dV
 have aJ:r=none:=by
  rw [← HR.out]
  unfold Yq
  rw [List.find?_eq_none]
  intro y hy
  obtain ⟨j,hj⟩:=Zk hy
  have:=HA.out j y (by have:=(Qj hj).1;have:=HN.out;omega) hj
  simpa using this
 have Z:=Qq aJ
 have fz:=fun j=>Qn _ _ j _ _ G
 have rr:=fun j=>Qk _ _ j _ _ _ G
 obtain ⟨f0,f1,f2,f3,f4,f5,f6,f7,f8,f9,aG,aH,aI⟩:=Qjc fz
 obtain ⟨r0,r1,r2,r3,r4,r5,r6,r7,r8,r9,M,N,O⟩:=Qjc rr
 simp only [Qf,Qg,Qh] at r0 r1 r2 r3 r4 r5 r6 r7 r8 r9 M N O
 have aA:=Qq G
 clear fz rr G aJ f0 f1 f2 f3 f4 f5 f6 f7 f8 f9 aG aH aI r0 r1 r2 r3 r4 r5 r6 r7 r8 r9 M N O
 go_upto_region 8 with fail
 generalize cE:wr.alloc (.cells zT 48)=w5
 have cF:=eqB cE (Zg _ _)
 have A:=eqH (b:=wr.heap.size) cE (Qw _ _)
 have I:=(cF.block w bM).trans aA.out
 have aZ:=Qk _ _ 0 _ _ _ A;have bA:=Qk _ _ 1 _ _ _ A;have bB:=Qk _ _ 2 _ _ _ A;have bC:=Qk _ _ 3 _ _ _ A;have bD:=Qk _ _ 4 _ _ _ A;have bE:=Qk _ _ 5 _ _ _ A;have bF:=Qk _ _ 6 _ _ _ A;have bG:=Qk _ _ 7 _ _ _ A;have bH:=Qk _ _ 8 _ _ _ A;have bI:=Qk _ _ 9 _ _ _ A;have T:=Qk _ _ 10 _ _ _ A;have U:=Qk _ _ 11 _ _ _ A;have V:=Qk _ _ 12 _ _ _ A
 have fz:=fun j=>Qn _ _ j _ _ I
 have rr:=fun j=>Qk _ _ j _ _ _ I
 obtain ⟨f0,f1,f2,f3,f4,f5,f6,f7,f8,f9,aG,aH,aI⟩:=Qjc fz
 obtain ⟨r0,r1,r2,r3,r4,r5,r6,r7,r8,r9,M,N,O⟩:=Qjc rr
 simp only [Qf,Qg,Qh] at aZ bA bB bC bD bE bF bG bH bI T U V r0 r1 r2 r3 r4 r5 r6 r7 r8 r9 M N O
 have cA:=Qq (HB.out.thn cF);have cC:=Qq I
 clear fz rr A I cF cE
 go_wp2_with fail
 obtain ⟨W,hW⟩:=eX (Xi w5 w Cl Cm Cm Cm Ci Cl Ci Cl Cm Cm Cm Ci Ci)
 have q:∀ j,W.cell? ⟨w,j,none⟩=zT[j]?:=fun j=>by rw [← hW];exact U0 cC.out j
 have J:Below w w W:=by rw [← hW];exact Xz cA.out (Q9 _)
 show bodyPost _ _ _ _ _ (Xi w5 w Cl Cm Cm Cm Ci Cl Ci Cl Cm Cm Cm Ci Ci)
 rw [hW]
 have Y:=Qq J
 obtain ⟨q0,q1,q2,q3,q4,q5,q6,q7,q8,q9,aS,aT,aU⟩:=Qjc q
 simp only [Qf,Qg,Qh] at q0 q1 q2 q3 q4 q5 q6 q7 q8 q9 aS aT aU
 clear hW J q r0 r1 r2 r3 r4 r5 r6 r7 r8 r9 M N O f0 f1 f2 f3 f4 f5 f6 f7 f8 f9 aG aH aI aZ bA bB bC bD bE bF bG bH bI T U V
 refine Q7 (v:=.tuple #[.agg zT,.bool false]) (by simp [results,results71,go_sem,q0,q1,q2,q3,q4,q5,q6,q7,q8,q9,aS,aT,aU]) rfl ⟨[Cl,Cm,Cm,Cm,Ci,Cl,Ci,Cl,Cm,Cm,Cm,Ci,Ci],by rw [Z.out];rfl,?_,Y.out⟩
 rw [Z.out]
 exact Db _ _
end Go.Proofs.YtcljcblceodciaaGreatDoor
