import Derived.Test.YtlanplhphiikjaaGreatDoorF17
import Derived.Test.YtlanplhphiikjaaGreatDoorF18
set_option maxRecDepth 100000
set_option maxHeartbeats 400000000
namespace Go.Proofs.YtlanplhphiikjaaGreatDoor
open Go.RowKit Go.Shelf Go.Lib Go.WideMaps Go.Maps
def Y8 (W:World) (R:Nat) (a0 a1 a2 a3 a4 a5 a6 a7 a8 a9 a10 a11:Value):World:=((((((((((((W.setCell ⟨R,0,none⟩ a0).setCell ⟨R,1,none⟩ a1).setCell ⟨R,2,none⟩ a2).setCell ⟨R,3,none⟩ a3).setCell ⟨R,4,none⟩ a4).setCell ⟨R,5,none⟩ a5).setCell ⟨R,6,none⟩ a6).setCell ⟨R,7,none⟩ a7).setCell ⟨R,8,none⟩ a8).setCell ⟨R,9,none⟩ a9).setCell ⟨R,10,none⟩ a10).setCell ⟨R,11,none⟩ a11)
theorem Fr {W:World} {R:Nat} {a0 a1 a2 a3 a4 a5 a6 a7 a8 a9 a10 a11 x0 x1 x2 x3 x4 x5 x6 x7 x8 x9 x10 x11:Value} {t:TypeId} (h:W.heap[R]?=some (.cells #[x0,x1,x2,x3,x4,x5,x6,x7,x8,x9,x10,x11] t (0,0))):(Y8 W R a0 a1 a2 a3 a4 a5 a6 a7 a8 a9 a10 a11).heap[R]?=some (.cells #[a0,a1,a2,a3,a4,a5,a6,a7,a8,a9,a10,a11] t (0,0)):=by
 have D:=Qd _ _ 0 _ _ a0 h;have D:=Qd _ _ 1 _ _ a1 D;have D:=Qd _ _ 2 _ _ a2 D;have D:=Qd _ _ 3 _ _ a3 D;have D:=Qd _ _ 4 _ _ a4 D;have D:=Qd _ _ 5 _ _ a5 D;have D:=Qd _ _ 6 _ _ a6 D;have D:=Qd _ _ 7 _ _ a7 D;have D:=Qd _ _ 8 _ _ a8 D;have D:=Qd _ _ 9 _ _ a9 D;have D:=Qd _ _ 10 _ _ a10 D;have D:=Qd _ _ 11 _ _ a11 D
 simpa [Y8] using D
theorem Y4 {W:World} {R:Nat} {a0 a1 a2 a3 a4 a5 a6 a7 a8 a9 a10 a11 x0 x1 x2 x3 x4 x5 x6 x7 x8 x9 x10 x11:Value} {t:TypeId} (h:W.heap[R]?=some (.cells #[x0,x1,x2,x3,x4,x5,x6,x7,x8,x9,x10,x11] t (0,0))) (j:Nat):(Y8 W R a0 a1 a2 a3 a4 a5 a6 a7 a8 a9 a10 a11).cell? ⟨R,j,none⟩=#[a0,a1,a2,a3,a4,a5,a6,a7,a8,a9,a10,a11][j]?:=
 Qk _ _ _ _ _ _ (Fr h)
theorem Y9 {W:World} {R k:Nat} {a0 a1 a2 a3 a4 a5 a6 a7 a8 a9 a10 a11:Value} (h:k≠R):(Y8 W R a0 a1 a2 a3 a4 a5 a6 a7 a8 a9 a10 a11).heap[k]?=W.heap[k]?:=by
 unfold Y8
 repeat rw [Z4 h]
theorem Yq {B R:Nat} {w W:World} {a0 a1 a2 a3 a4 a5 a6 a7 a8 a9 a10 a11:Value} (h:Below B w W) (hR:B<=R):Below B w (Y8 W R a0 a1 a2 a3 a4 a5 a6 a7 a8 a9 a10 a11):=
 (((((((((((h.setCell (p:=⟨R,0,none⟩) hR _).setCell (p:=⟨R,1,none⟩) hR _).setCell (p:=⟨R,2,none⟩) hR _).setCell (p:=⟨R,3,none⟩) hR _).setCell (p:=⟨R,4,none⟩) hR _).setCell (p:=⟨R,5,none⟩) hR _).setCell (p:=⟨R,6,none⟩) hR _).setCell (p:=⟨R,7,none⟩) hR _).setCell (p:=⟨R,8,none⟩) hR _).setCell (p:=⟨R,9,none⟩) hR _).setCell (p:=⟨R,10,none⟩) hR _).setCell (p:=⟨R,11,none⟩) hR _
def Yo (P:List Bs) (k:Bs):Option Nat:=P.findIdx? (fun y=>decide (y=k))
theorem Jo (P:List Bs) (k s:Bs):Yo (P++[k]) s=(match Yo P s with | some a=>some a | none=>if k=s then some P.length else none):=by
 unfold Yo
 rw [List.findIdx?_append]
 cases P.findIdx? (fun y=>decide (y=s)) with
 | some a=>rfl
 | none=>by_cases h:k=s <;> simp [h]
def J2 (P:List Bs) (st:Nat × Nat) (k:Bs):Nat × Nat:=match Yo P k with
 | none=>st
 | some a=>if a<st.1 then (a,P.length) else st
def ust (n:Nat) (ks:List Bs):Nat->Nat × Nat
 | 0=>(n,0)
 | i+1=>J2 (ks.take i) (ust n ks i) (ks.getD i [])
theorem Fl {P:List Bs} {k:Bs} {a:Nat} (h:Yo P k=some a):a<P.length:=by
 unfold Yo at h
 rw [List.findIdx?_eq_some_iff_getElem] at h
 exact h.1
theorem ust_bd (n:Nat) (ks:List Bs):∀ i,i<=ks.length->(ust n ks i).1=n\/((ust n ks i).1<i/\(ust n ks i).2<i)
 | 0,_=>.inl rfl
 | i+1,hi=>by
  have ih:=ust_bd n ks i Oa
  have hl:(ks.take i).length=i:=by rw [Qf];omega
  have e:ust n ks (i+1)=J2 (ks.take i) (ust n ks i) (ks.getD i []):=rfl
  rw [e]
  generalize ust n ks i=st at ih |-
  unfold J2
  cases hf:Yo (ks.take i) (ks.getD i []) with
  | none=>
   rcases ih with h | h
   ·exact .inl h
   exact .inr ⟨by show st.1<i+1;omega,by show st.2<i+1;omega⟩
  | some a=>
   have ha:=Fl hf
   by_cases hlt:a<st.1
   ·simp only [if_pos hlt]
    exact .inr ⟨Oa,Oa⟩
   simp only [if_neg hlt]
   rcases ih with h | h
   ·exact .inl h
   exact .inr ⟨Oa,Oa⟩
def Nv (D:DataW Unit) (P:List Bs):Prop:=IsMap D/\∀ s:Bs,Maps.has D (.string s)=(Yo P s).isSome/\∀ a,Yo P s=some a->D.atKey (.string s) (.lit (.int .i64 0))=.lit (.int .i64 (a:Nat))
theorem invD_nil:Nv (.map []) []:=⟨isMap_empty,fun _=>⟨rfl,fun _ h=>by cases h⟩⟩
theorem keyLit (s:Bs):WideAt.IsKeyLit (.string s):=by simp [WideAt.IsKeyLit]
theorem invD_new {D:DataW Unit} {P:List Bs} {k:Bs} (h:Nv D P) (hk:Yo P k=none):Nv (D.put (.string k) (.lit (.int .i64 (P.length:Nat)))) (P++[k]):=by
 refine ⟨h.1.put _ _,fun s=>?_⟩
 rw [Jo]
 by_cases hs:s=k
 ·subst hs
  rw [hk]
  simp only [if_true]
  refine ⟨has_put_same h.1 (keyLit _) _,fun a J=>?_⟩
  cases J
  exact atKey_put_same h.1 (keyLit _) _ _
 have G:(Lit.string s)≠.string k:=fun e=>hs (by injection e)
 rw [has_put_other G,atKey_put_other G]
 have I:=(h.2 s)
 cases hf:Yo P s with
 | none=>rw [hf] at I;simp only [if_neg (fun e=>hs (Eq.symm e))];exact ⟨I.1,fun a J=>by cases J⟩
 | some a=>rw [hf] at I;exact I
theorem Er {D:DataW Unit} {P:List Bs} {k:Bs} {a:Nat} (h:Nv D P) (hk:Yo P k=some a):Nv D (P++[k]):=by
 refine ⟨h.1,fun s=>?_⟩
 rw [Jo]
 have G:=h.2 s
 cases hf:Yo P s with
 | some b=>rw [hf] at G;exact G
 | none=>
  have hs:k≠s:=fun e=>by subst e;rw [hf] at hk;cases hk
  rw [hf] at G
  simp only [if_neg hs]
  exact G
theorem Bg {w w':World} {k:TypeId} {R:Value->Option (DataW Unit × List MemPlace)} {b n:Nat} {D:DataW Unit} (h:w.ownsMap Tryz.prog k R b n D) (e:w'.heap[b]?=w.heap[b]?):w'.ownsMap Tryz.prog k R b n D:=by
 obtain ⟨es,c,h1,h2⟩:=h
 exact ⟨es,c,e.trans h1,h2⟩
theorem Fo {w:World} {k:TypeId} {R:Value->Option (DataW Unit × List MemPlace)} {b n:Nat} {D:DataW Unit} (h:w.ownsMap Tryz.prog k R b n D):b<w.heap.size:=by
 obtain ⟨es,c,h1,h2⟩:=h
 exact Z3 h1
def kb (l:List Int):Bs:=(l.map encI).flatten
def Ui (rows:List Val) (st:Nat × Nat):Ft:=if st.1=rows.length then Ft.zero else ⟨11,[],rows.getD st.1 Val.zero,rows.getD st.2 Val.zero⟩
structure UMid (w W1:World) (ks:List Bs) (k:Nat) (wr:World):Prop where
 below:Below w w wr
 keep:∀ b,b<w.heap.size+2->wr.heap[b]?=W1.heap[b]?
 map:∃ D,wr.ownsMap Tryz.prog 9 (plainElem Tryz.prog 3) (w+2) k D/\Nv D (ks.take k)
theorem law9:Keyed Tryz.prog 9:=string_keyed Tryz.underlying9
theorem zero3 (w:World):(zeroValue 3).run Tryz.prog w=.ok (.int .i64 0) w:=Og
open Go.RowKit Go.Shelf Go.Lib Tryz
def lkP (ks:List Bs) (key:List Val) (v:Val):Bool:=eqL eqv ((keyOf ks v).getD []) key
theorem Nk (X K:Nat) (S:Nat->Prop) (x:Tbl) (ct:List Value) (kv:Value) (key:List Val) (rows:List Val) (w:World) (hct:∀ j u,ct[j]?=some u->w.cell? ⟨X,j,none⟩=some u) (hXl:X<w)
  (hx:Zg.R S w ct x) (hkl:x.key.length<=1000) (hk:w.cell? ⟨K,0,none⟩=some kv) (hkey:Sl Zc S w kv key):
  Xo prog 183 #[Om X,Om K] Zc S rows (lkP x.key key) w:=by
 intro W v cs hb _ hr
 have bN:=Qv w _ hk
 obtain ⟨kp,kc,rfl,_⟩:=hkey.len
 have Y:=Zg.frame hx (.of_below hb)
 obtain ⟨aE,aD,aO,aN,aW,aV,k9,aX,n9,aY,aS,aP,aA,aT,aQ,aB,aU,aR,aC,a9,z9,J,_⟩:=Zr Y
 simp only [tcs] at J
 subst J
 obtain ⟨p3,k3,p4,k4,J,_⟩:=Z5.cells (show Z5 S W cs v from hr)
 simp only [vcs] at J
 subst J
 have aL:=hkey.below hb
 have d:=fun j u hj=>(hb.cell (p:=⟨X,j,none⟩) hXl).trans (hct j u hj)
 have dk:W.cell? ⟨K,0,none⟩=some (.slice kp key.length kc):=kD hb bN hk
 have d0:=d 0 (.string ⟨x.name.toArray⟩) rfl
 have d1:=d 1 (.slice aE x.columns.length aD) rfl
 have d2:=d 2 (.slice aO x.key.length aN) rfl
 have d3:=d 3 (.slice aW x.refs.length aV) rfl
 have d4:=d 4 (.int .i64 k9) rfl
 have d5:=d 5 (.string aX) rfl
 have d6:=d 6 (.int .i64 n9) rfl
 have d7:=d 7 (.string aY) rfl
 have d8:=d 8 (.slice aS aP aA) rfl
 have d9:=d 9 (.slice aT aQ aB) rfl
 have aF:=d 10 (.slice aU aR aC) rfl
 have aG:=d 11 (.int .i64 a9) rfl
 have aH:=d 12 (.int .i64 z9) rfl
 have D:X<W.heap.size:=Qv W _ d0
 have bM:K<W.heap.size:=Qv W _ dk
 obtain ⟨Z,N⟩:=eX (W.alloc (.cells (Ou v p3 k3 p4 k4) 48))
 have U:=eqB N (Zb _ _)
 have bS:Z=W.heap.size+1:=by rw [<- N];simp
 refine let_mvar% ?Lq1:=fun w':World=>(Pc w' X x.name (.slice aE x.columns.length aD) (.slice aO x.key.length aN) (.slice aW x.refs.length aV) k9 (.string aX) n9 (.string aY) (.slice aS aP aA) (.slice aT aQ aB) (.slice aU aR aC) a9 z9 (Oi w' K 0 (.slice kp key.length kc)/\Pa w' W v.kind v.n v.s (.slice p3 v.names.length k3) (.slice p4 v.kids.length k4) (Below (W+1) Z w')):Prop);?_
 have HS:∀ w',Below (W+1) Z w'->?Lq1 w':=by
  intro w' h
  have G:∀ {b j:Nat} {u:Value},b<W->W.cell? ⟨b,j,none⟩=some u->w'.cell? ⟨b,j,none⟩=some u:=fun aM hc=>kD h (Nat.lt_succ_of_lt aM) (kD U aM hc)
  have L:w'.heap[W.heap.size]?=some (.cells (Ou v p3 k3 p4 k4) 48 (0,0)):=kE h (Nat.lt_succ_self _) (by rw [<- N];exact Qw _ _)
  exact ⟨G D d0,G D d1,G D d2,G D d3,G D d4,G D d5,G D d6,G D d7,G D d8,G D d9,G D aF,G D aG,G D aH,G bM dk,Qk _ _ 0 _ _ _ L,Qk _ _ 1 _ _ _ L,Qk _ _ 2 _ _ _ L,Qk _ _ 3 _ _ _ L,Qk _ _ 4 _ _ _ L,h⟩
 have M:∀ w',?Lq1 w'->Below (W+1) Z w':=fun w' h=>h.2.2.2.2.2.2.2.2.2.2.2.2.2.2.2.2.2.2.2
 have T:∀ w' O,?Lq1 w'->Below w' w' O->?Lq1 O:=fun w' O h h2=>HS O ((M w' h).trans (h2.mono (by have:=(M w' h).size;omega)))
 have I:∀ w',?Lq1 w'->Below W W w':=fun w' h=>U.trans ((M w' h).mono (Nat.le_succ _))
 have HK:=Qq (fun W' (h':?Lq1 W')=>(Mo S S x v _ _ W' (Zg.frame Y (.of_below (I _ h'))) (Zc.frame hr (.of_below (I _ h'))) hkl).mono (R':=fun e w2=>∃ p n cap,e=.returned (.slice p n cap)/\Sl Zc (fun _=>True) w2 (.slice p n cap) ((keyOf x.key v).getD [])/\?Lq1 w2) (by
  rintro e w2 ⟨p,n,cap,rfl,_,h3,h4⟩
  exact ⟨p,n,cap,rfl,h3.mono (fun _ _ _=>trivial),T _ _ h' h4⟩))
 have HE:=Qq (fun W' p n cap (h':?Lq1 W') (h2:Sl Zc (fun _=>True) W' (.slice p n cap) ((keyOf x.key v).getD []))=>(O9 96 #[] (enters_of func96 Og rfl) (fun _=>True) (.slice p n cap) (.slice kp key.length kc) ((keyOf x.key v).getD []) key W' h2 ((aL.below (I _ h')).mono (fun _ _ _=>trivial)) eqv (fun V a b ca cb hV _ _ h3 h4=>same_any (fun _=>True) a b ca cb V h3 h4)).mono (R':=fun e w2=>e=.returned (.bool (eqL eqv ((keyOf x.key v).getD []) key))/\?Lq1 w2) (by
  rintro e w2 ⟨rfl,h4⟩
  exact ⟨rfl,T _ _ h' h4⟩))
 have bF:=Qq HS
 have bE:=Qq I
 clear HS d dk d0 d1 d2 d3 d4 d5 d6 d7 d8 d9 aF aG aH hct hk hkey aL hx Y hr U hb M T I
 show Calls prog 183 #[.agg (Ou v p3 k3 p4 k4),Om X,Om K] W (fun e w'=>e=.returned (.bool (eqL eqv ((keyOf x.key v).getD []) key))/\Below W W w')
 generalize eqL eqv ((keyOf x.key v).getD []) key=res at HE |-
 go_enter func183,ntmps183
 go_upto_region 1 with fail
 clear N
 have bL:Below (W+1) Z Z:=.refl _ _
 go_region_held3 ?Lq1 (first | exact bF.out _ (Below.drew bL) | assumption)
  (first
   | (go_at_call 119;refine (HK.out _ Oh).mono ?_;rintro e w2 ⟨bV,bU,bT,rfl,aK,bO⟩)
   | (go_at_call 184;refine (HE.out _ _ _ _ Oh aK).mono ?_;rintro e w3 ⟨rfl,aJ⟩))
 have bD:=Qq (bE.out _ aJ)
 clear aJ aK bO
 go_wp2_with fail
 go_ret
 exact ⟨rfl,bD.out⟩
theorem kid_any (E V k:Nat) (S0 S':Nat->Prop) (kp:Option Addr) (kc:Nat) (kids:List Ex) (e:Ex) (p:Value) (env:List (Bs × Val)) (v:Val) (w:World) (h6:w.cell? ⟨E,6,none⟩=some (.slice kp kids.length kc)) (hk:Sl Vv S' w (.slice kp kids.length kc) kids) (hV:w.cell? ⟨V,0,none⟩=some p)
  (he0:Vq S0 w p env) (hx:kids[k]?=some e) (hev:EvV e env v):Calls prog 189 #[k,Om E,Om V] w (J5 S0 w v):=by
 have he:Vq (fun b=>S0 b/\b<w) w p env:=he0.move (.refl _ _) (fun b hb h=>⟨h,hb⟩)
 obtain ⟨q,rfl⟩:=he.ptr
 obtain ⟨N,D,cs,bS,G,_,_,hr,I⟩:=hk.elem hx
 subst bS
 have aH:=Qq (fun W (hb:Below w w W)=>hev (fun b=>S0 b/\b<w) S' cs (.pointer q) W (Vv.frame hr (.of_below hb)) (he.move (.of_below hb) P8))
 obtain ⟨ek,bP,en,bQ,bM,bJ,bG,bN,bK,bH,bO,bL,bI,ea,ez,aB⟩:=Yj.cells (show Yj S' w cs e from hr)
 subst aB
 have aL:=Qv _ _ h6
 have aN:=Qv _ _ hV
 have bZ:k<kids.length:=(Qj hx).1
 have bX:(0:Int)<=(k:Int):=Oa
 have bY:(k:Int)<(kids.length:Int):=Oa
 have d0:=I 0 _ rfl
 have d1:=I 1 _ rfl
 have d2:=I 2 _ rfl
 have d3:=I 3 _ rfl
 have d4:=I 4 _ rfl
 have d5:=I 5 _ rfl
 have d6:=I 6 _ rfl
 have d7:=I 7 _ rfl
 have d8:=I 8 _ rfl
 simp only [show Vv.k=9 from rfl,Nat.add_zero] at d0 d1 d2 d3 d4 d5 d6 d7 d8
 obtain ⟨w1,aA⟩:=eX (w.alloc (.cells zV 48))
 have aO:=eqB aA (Zb _ _)
 have bV:w1=w.heap.size+1:=by rw [<- aA];simp
 have aM:=eqH (b:=w.heap.size) aA (Qw _ _)
 refine let_mvar% ?Lq1:=fun w':World=>Oi w' E 6 (Ol N D kids.length kc)/\Oi w' N (D+k*9) ek/\Oi w' N (D+k*9+1) (.string bP)/\Oi w' N (D+k*9+2) en/\Oi w' N (D+k*9+3) (.string bQ)/\Oi w' N (D+k*9+4) (.slice bM bJ bG)/\Oi w' N (D+k*9+5) (.slice bN bK bH)/\Oi w' N (D+k*9+6) (.slice bO bL bI)/\Oi w' N (D+k*9+7) ea/\Oi w' N (D+k*9+8) ez/\Oi w' V 0 (.pointer q)/\(∃ U y1 y2 y3 Y,w'.heap[w.heap.size]?=some (.cells #[U,y1,y2,y3,Y] 48 (0,0)))/\Below w w w';?_
 have HS:∀ w',Below w w w'->(∃ U y1 y2 y3 Y,w'.heap[w.heap.size]?=some (.cells #[U,y1,y2,y3,Y] 48 (0,0)))->?Lq1 w':=by
  intro w' h hy
  have M:∀ {b j:Nat} {u:Value},b<w->w.cell? ⟨b,j,none⟩=some u->w'.cell? ⟨b,j,none⟩=some u:=fun bT I=>kD h bT I
  exact ⟨M aL h6,M G d0,M G d1,M G d2,M G d3,M G d4,M G d5,M G d6,M G d7,M G d8,M aN hV,hy,h⟩
 have J:∀ w',?Lq1 w'->Below w w w':=fun w' h=>h.2.2.2.2.2.2.2.2.2.2.2.2
 have O:∀ w',?Lq1 w'->(∃ U y1 y2 y3 Y,w'.heap[w.heap.size]?=some (.cells #[U,y1,y2,y3,Y] 48 (0,0))):=fun w' h=>h.2.2.2.2.2.2.2.2.2.2.2.1
 have aJ:∀ w' T,?Lq1 w'->Below w' w' T->?Lq1 T:=fun w' T h h2=>HS T ((J w' h).thn h2) (by
  obtain ⟨U,y1,y2,y3,Y,hy⟩:=O w' h
  exact ⟨U,y1,y2,y3,Y,kB h2 hy⟩)
 have Z:∀ w' a b c d e,?Lq1 w'->?Lq1 (Zn w' w a b c d e):=fun w' a b c d e h=>HS _ (Z7 (J w' h) (Q4 _)) (by
  obtain ⟨U,y1,y2,y3,Y,hy⟩:=O w' h
  exact ⟨a,b,c,d,e,Xm hy⟩)
 unfold Zn at Z
 have HC:=Qq (fun W' (h':?Lq1 W')=>(aH.out W' (J _ h')).mono (R':=fun e w2=>∃ q3 l3 q4 l4,e=.returned (.agg (Ou v q3 l3 q4 l4))/\Z5 (fun b=>S0 b/\b<w) w2 (vcs v q3 l3 q4 l4) v/\?Lq1 w2) (by
  rintro e w2 ⟨bW,rfl,h3,h4⟩
  obtain ⟨q3,l3,q4,l4,aB,_⟩:=Z5.cells h3
  subst aB
  exact ⟨q3,l3,q4,l4,rfl,h3,aJ _ _ h' h4⟩))
 obtain ⟨aU,aG,aK,aI⟩:=Py (HS w1.drew aO.drew ⟨_,_,_,_,_,aM⟩) J O Z
 clear HS J aJ O Z aH I h6 hk hV he he0 hx hev hr aO d0 d1 d2 d3 d4 d5 d6 d7 d8 aL aN aM bV
 go_enter func189,ntmps189
 go_upto_region 1 with fail
 go_region_held3 ?Lq1 (first | with_reducible exact aU.out | with_reducible exact L | with_reducible exact aI.out _ _ _ _ _ _ L)
  (first
   | (go_at_call 125;refine (HC.out _ Oh).mono ?_;rintro e w2 ⟨q3,l3,q4,l4,rfl,aP,L⟩;obtain ⟨g0,g1,g2,g3,g4,r2⟩:=aK.out _ L;obtain ⟨f0,f1,f2,f3,f4⟩:=frz5 r2;obtain ⟨U,y1,y2,y3,Y⟩:=row5 r2;have aV:=Qq r2;clear r2))
 have aT:=Qq (aG.out _ L);have aW:=Qq aP
 clear aP L
 go_wp2_with fail
 show bodyPost _ _ _ _ _ (Pk w2 w v q3 l3 q4 l4)
 refine Q2 (v:=.agg (Ou v q3 l3 q4 l4)) (by simp [results,results189,go_sem,Z8 aV.out]) rfl ⟨_,rfl,?_,Z7 aT.out (Q4 _)⟩
 exact Z5.move aW.out (fun b hb _=>Za (by have:=hb.2;omega)) (fun _ _ h=>h.1)
def GotMid (S:Nat->Prop) (w:World) (u:Val) (b:Bool) (t7 t8:Value) (wx:World):Prop:=
 ∃ G q3 m3 q4 m4,t7=.pointer (some ⟨G,0,none⟩)/\t8=.bool b/\wx.heap[G]?=some (.cells (Ou u q3 m3 q4 m4) 48 (0,0))/\Z5 S wx (vcs u q3 m3 q4 m4) u/\Below w w wx/\w.heap.size<=G
def Xh (S:Nat->Prop) (w:World) (v:Value) (xs:List Int):Prop:=
 ∃ p cap,v=.slice p xs.length cap/\xs.length<=9223372036854775807/\(xs≠[]->∃ b off,p=some ⟨b,off,none⟩/\S b/\b<w.heap.size/\∀ i x,xs[i]?=some x->w.cell? ⟨b,off+i,none⟩=some (.int .i64 x))
theorem Xh.len {S:Nat->Prop} {w:World} {v:Value} {xs:List Int} (h:Xh S w v xs):∃ p cap,v=.slice p xs.length cap/\xs.length<=9223372036854775807:=by
 obtain ⟨p,cap,h1,h2,_⟩:=h;exact ⟨p,cap,h1,h2⟩
theorem Xh.below {S:Nat->Prop} {w w':World} {v:Value} {xs:List Int} (h:Xh S w v xs) (hb:Below w w w'):Xh S w' v xs:=by
 obtain ⟨p,cap,h1,h2,h3⟩:=h
 refine ⟨p,cap,h1,h2,fun I=>?_⟩
 obtain ⟨b,G,e,hS,D,hc⟩:=h3 I
 exact ⟨b,G,e,hS,Q5 D hb.size,fun i x hx=>(hb.cell (p:=⟨b,G+i,none⟩) D).trans (hc i x hx)⟩
theorem Gl (S:Nat->Prop) (v:Value) (l:List Int) (i:Nat) (m:Int) (w:World) (hs:Xh S w v l) (hi:Ke l) (hm:1<=m) (hm2:m<=1000000000):
  Calls prog 28 #[v,i,m] w fun e w'=>e=.returned (.int .i64 (Xi l i m))/\w=w':=by
 have J:decide ((i:Int)<0)=false:=Od
 obtain ⟨p,cap,rfl,hl,D⟩:=hs
 by_cases h:i<l.length
 ·obtain ⟨n,G⟩:∃ n,l[i]?=some n:=⟨_,Qx h⟩
  obtain ⟨b,L,rfl,_,hb,D⟩:=D (fun e=>by rw [e] at h;exact absurd h (Z1 i))
  have c0:=D i n G
  have HA:=Qq (fun W=>Jb n m W (hi n (Qy G)).1 (hi n (Qy G)).2 hm Oa)
  have I:Xi l i m=Yu n m:=by unfold Xi;rw [G]
  rw [I]
  generalize Yu n m=r at HA |-
  have h1:(i:Int)<(l.length:Int):=Oa
  have h2:decide ((l.length:Int)<=(i:Int))=false:=by simp;omega
  clear hi G D I
  go_enter func28,ntmps28
  go_wp2_with (go_at_call 17;refine (HA.out _).mono ?_;rintro e w' ⟨rfl,rfl⟩)
  go_ret
  exact ⟨rfl,rfl⟩
 have I:Xi l i m=0:=by unfold Xi;rw [List.getElem?_eq_none Oa]
 rw [I]
 have h2:decide ((l.length:Int)<=(i:Int))=true:=by simp;omega
 clear hi I D
 go_enter func28,ntmps28
 go_wp2_with fail
 go_ret
 exact ⟨rfl,rfl⟩
theorem Ll (S:Nat->Prop) (v:Val) (cs:List Value) (l:Int) (w:World) (h:Z5 S w cs v) (hk:v.kids=[]) (h1:-1000000<=l) (h2:l<=1000000):
  Calls prog 266 #[cs,l] w fun e w'=>e=.returned (.int .i64 (l - 1))/\Below w w w':=by
 obtain ⟨p3,k3,p4,k4,I,_⟩:=Z5.cells h
 simp only [vcs] at I
 subst I
 have J:v.kids.length=0:=by rw [hk];rfl
 rw [J]
 clear h hk J
 go_enter func266,ntmps266
 go_upto_region 2 with fail
 generalize D:World.alloc w _=w1
 have G:=eqB D (Zb _ _)
 have h1:=eqH (b:=w.heap.size) D (Qw _ _)
 have c4:=rA4 h1
 have HB:=Qq G
 clear h1 G D
 go_wp2_with fail
 go_loop [1,5] (fun a i=>a=.int .i64 (l - 1)/\i=.int .i64 0) (fun _ _=>0)
 case atStart=>exact ⟨rfl,rfl⟩
 obtain ⟨rfl,rfl⟩:=hrel
 go_wp2_with fail
 go_ret
 exact ⟨rfl,HB.out⟩
theorem Li (S:Nat->Prop) (ks:List Val) (p:Option Addr) (cap:Nat) (l:Int) (w:World) (h:Sl Zc S w (.slice p ks.length cap) ks) (hf:∀ v ∈ ks,v.kids=[]) (h1:(ks.length:Int)<l) (h2:l<=1000000):
  Calls prog 266 #[.agg #[.int .i64 5,On,Oo,Ot,.slice p ks.length cap],l] w fun e w'=>e=.returned (.int .i64 (l - 1 - ks.length))/\Below w w w':=by
 have HL:=Qq (fun v cs (l:Int) W (V:Z5 S W cs v) (hk:v.kids=[]) (h1:-1000000<=l) (h2:l<=1000000)=>Ll S v cs l W V hk h1 h2)
 have HS:=Qq h;have HF:=Qq hf
 obtain ⟨n,hn⟩:=eX (ks.length)
 have HN:=Qq hn
 rw [hn] at h1 HS |-
 clear h hf hn
 go_enter func266,ntmps266
 go_upto_region 2 with fail
 generalize D:World.alloc w _=w1
 have M:=eqB D (Zb _ _)
 have h3:=eqH (b:=w.heap.size) D (Qw _ _)
 have HB:=Qq M;have H3:=Qq h3
 have T:=Z3 h3
 clear h3 M D
 go_wp2_with fail
 go_loopw [1,5] (fun a i wr=>∃ k:Nat,k<=n/\a=.int .i64 (l - 1 - k)/\i=.int .i64 k/\Below w1 w1 wr) (fun _ i _=>n - (intOf i).toNat)
 case atStart=>exact ⟨0,Q3 _,by go_num,rfl,Qz _ _⟩
 obtain ⟨k,hk,rfl,rfl,U⟩:=hrel
 have c4:=rA4 ((kE U T H3.out))
 have Z:=Qq U;have J:=Qq (HB.out.thn U)
 clear U
 obtain ⟨I,G⟩:∃ I:Int,l - 1 - k=I:=⟨_,rfl⟩
 have L:=Qq G
 rw [G]
 have g1:0<=I:=Oa
 have g2:I<=1000000:=Oa
 clear G
 by_cases hlt:k<n
 ·have aF:(0:Int)<=(k:Int):=Oa
  have aB:(k:Int)<(n:Int):=Oa
  obtain ⟨x,hx⟩:∃ x,ks[k]?=some x:=⟨_,Qx (by rw [HN.out];exact hlt)⟩
  obtain ⟨b,aG,p3,k3,p4,k4,rfl,hb,V,x0,x1,x2,x3,x4⟩:=(HS.out.below J.out).val hx
  have HX:=Qq (HL.out x _ I wr V (HF.out x (Qy hx)) Oa g2)
  clear hx V
  go_wp2_with (go_at_call 266;refine HX.out.mono ?_;rintro e w4 ⟨rfl,N⟩;have Y:=Qq N;clear N)
  go_roundw
  case measure=>simp [intOf];omega
  case rel=>exact ⟨k+1,Oa,by rw [<- L.out];congr 1;omega,by go_num,Z.out.thn Y.out⟩
 have aC:k=n:=Oa
 have aB:¬ (k:Int)<(n:Int):=Oa
 have O:I=l - 1 - n:=by rw [<- L.out,aC]
 subst O
 go_wp2_with fail
 go_ret
 exact ⟨rfl,J.out⟩
theorem Gm (S:Nat->Prop) (ks:List Val) (p:Option Addr) (cap:Nat) (w:World) (h:Sl Zc S w (.slice p ks.length cap) ks) (hf:∀ v ∈ ks,v.kids=[]) (hl:ks.length<=4096):
  Calls prog 156 #[.slice p ks.length cap] w fun e w'=>e=.returned (.agg #[.int .i64 5,On,Oo,Ot,.slice p ks.length cap])/\Below w w w':=by
 have U:=Qq (fun W (hb:Below w w W)=>Li S ks p cap 65536 W (h.below hb) hf Oa Oa)
 obtain ⟨n,hn⟩:=eX (ks.length)
 rw [hn] at hl U |-
 clear h hf hn
 have hm:∀ W,Below w w W->Calls prog 214 #[.agg #[.int .i64 5,On,Oo,Ot,.slice p n cap]] W fun e w'=>e=.returned (.agg #[.int .i64 5,On,Oo,Ot,.slice p n cap])/\Below W W w':=by
  intro W hb
  have hq:¬ (65536 - 1 - (n:Int))<0:=Oa
  obtain ⟨q,aA⟩:∃ q:Int,65536 - 1 - (n:Int)=q:=⟨_,rfl⟩
  rw [aA] at U hq
  have hd:decide (q<0)=false:=by simpa using hq
  have aD:=Qq hb
  clear hb aA hq
  go_enter func214,ntmps214
  go_upto_region 1 with fail
  generalize I:World.alloc (World.alloc W _) _=W2
  have Y:=eqB I (Zl _ _ _)
  have N:=eqH (b:=W.heap.size) I (Q0 _ _ _)
  have D:=eqH (b:=W.heap.size+1) I (Q1 _ _ _)
  obtain ⟨H0,H1,T⟩:=Px N D Y
  obtain ⟨a0,a1,a2,a3,a4⟩:=row5 N
  clear N D Y I
  go_upto_region 3 with (go_at_call 266;refine (U.out _ (aD.out.thn T.out)).mono ?_;rintro e W3 ⟨rfl,Z⟩;have J:=Qq Z;clear Z)
  have N:=kB J.out H0.out
  have D:=kB J.out H1.out
  have aE:=Qq D
  clear a0 a1 a2 a3 a4
  obtain ⟨a0,a1,a2,a3,a4⟩:=row5 N
  obtain ⟨r0,r1,r2,r3,r4⟩:=row5 D
  obtain ⟨f0,f1,f2,f3,f4⟩:=frz5 D
  clear N D
  go_wp2_with fail
  show bodyPost _ _ _ _ _ (Zn W3 (W+1) (.int .i64 5) On Oo Ot (.slice p n cap))
  exact Q2 (v:=.agg #[.int .i64 5,On,Oo,Ot,.slice p n cap]) (by simp [results,results214,go_sem,Z8 aE.out]) rfl ⟨rfl,Z7 (T.out.thn J.out) Oa⟩
 have hs:∀ W,Calls prog 215 #[.slice p n cap] W fun e w'=>e=.returned (.slice p n cap)/\W=w':=by
  intro W
  have aJ:(n:Int)<=4096:=Oa
  have aK:0<=(n:Int):=Oa
  clear U hm
  go_enter func215,ntmps215
  go_wp2_with fail
  go_ret
  exact ⟨rfl,rfl⟩
 have HM:=Qq hm;have aG:=Qq hs
 clear hm hs U
 go_enter func156,ntmps156
 go_upto_region 1 with fail
 generalize L:World.alloc w _=w1
 have V:=eqB L (Zb _ _)
 have D:=eqH (b:=w.heap.size) L (Qw _ _)
 have H1:=Qq D;have O:=Qq V
 clear D V L
 go_wp2_with (first | (go_at_call 215;refine (aG.out _).mono ?_;rintro e w' ⟨rfl,rfl⟩) | (go_at_call 214;refine (HM.out _ O.out).mono ?_;rintro e w4 ⟨rfl,M⟩;have G:=kB M H1.out;have aF:=Qq G;have aC:=Qq M;obtain ⟨r0,r1,r2,r3,r4⟩:=row5 G;obtain ⟨f0,f1,f2,f3,f4⟩:=frz5 G;clear G M))
 show bodyPost _ _ _ _ _ (Zn w4 w (.int .i64 5) On Oo Ot (.slice p n cap))
 exact Q2 (v:=.agg #[.int .i64 5,On,Oo,Ot,.slice p n cap]) (by simp [results,results156,go_sem,Z8 aF.out]) rfl ⟨rfl,Z7 (O.out.thn aC.out) (Q4 _)⟩
theorem Hm (S:Nat->Prop) (ks:List Val) (cs:List Value) (w:World) (h:Z5 S w cs (Zm ks)):
  Calls prog 210 #[cs] w fun e w'=>∃ p cap,e=.returned (.slice p ks.length cap)/\Sl Zc S w' (.slice p ks.length cap) ks/\Below w w w':=by
 have HN:=Qq U2
 obtain ⟨p3,k3,J,I,G,_,hk,_⟩:=Z5.cells h
 have D:Sl Zc S w (.slice J ks.length I) ks:=hk
 have HK:=Qq D
 subst G
 show Calls _ _ #[.agg #[.int .i64 5,On,Oo,.slice p3 0 k3,.slice J ks.length I]] _ _
 obtain ⟨n,hn⟩:=eX (ks.length)
 rw [hn] at HK |-
 clear h hk D hn
 go_enter func210,ntmps210
 go_wp2_with (go_at_call 155;refine (HN.out _).mono ?_;rintro e w' ⟨rfl,rfl⟩)
 go_ret
 exact ⟨J,I,rfl,HK.out.below (Zb _ _),Zb _ _⟩
end Go.Proofs.YtlanplhphiikjaaGreatDoor
