import Derived.Test.YtlanplhphiikjaaGreatDoorE13
import Derived.Test.YtlanplhphiikjaaGreatDoorE14
set_option maxRecDepth 100000
set_option maxHeartbeats 400000000
namespace Go.Proofs.YtlanplhphiikjaaGreatDoor
open Go.RowKit Go.Shelf Go.Lib Tryz
def lkP (ks:List Bs) (key:List Val) (v:Val):Bool:=eqL eqv ((keyOf ks v).getD []) key
theorem Qqu (X K:Nat) (S:Nat->Prop) (x:Tbl) (ct:List Value) (kv:Value) (key:List Val) (rows:List Val) (w:World) (hct:∀ j u,ct[j]?=some u->w.cell? ⟨X,j,none⟩=some u) (hXl:X<w)
  (hx:Zl.R S w ct x) (hkl:x.key.length<=1000) (hk:w.cell? ⟨K,0,none⟩=some kv) (hkey:Sl Zc S w kv key):
  Ui prog 183 #[Qxb X,Qxb K] Zc S rows (lkP x.key key) w:=by
 intro W v cs hb _ hr
 have bO:=Qv w _ hk
 obtain ⟨kp,kc,rfl,_⟩:=hkey.len
 have Z:=Zl.frame hx (.of_below hb)
 obtain ⟨aF,aE,aP,aO,aX,aW,k9,aY,n9,aZ,aT,aQ,aB,aU,aR,aC,aV,aS,aD,a9,z9,J,_⟩:=Yj Z
 simp only [tcs] at J
 subst J
 obtain ⟨p3,k3,p4,k4,J,_⟩:=Za.cells (show Za S W cs v from hr)
 simp only [vcs] at J
 subst J
 have aM:=hkey.below hb
 have d:=fun j u hj=>(hb.cell (p:=⟨X,j,none⟩) hXl).trans (hct j u hj)
 have dk:W.cell? ⟨K,0,none⟩=some (.slice kp key.length kc):=kD hb bO hk
 have d0:=d 0 (.string ⟨x.name.toArray⟩) rfl
 have d1:=d 1 (.slice aF x.columns.length aE) rfl
 have d2:=d 2 (.slice aP x.key.length aO) rfl
 have d3:=d 3 (.slice aX x.refs.length aW) rfl
 have d4:=d 4 (.int .i64 k9) rfl
 have d5:=d 5 (.string aY) rfl
 have d6:=d 6 (.int .i64 n9) rfl
 have d7:=d 7 (.string aZ) rfl
 have d8:=d 8 (.slice aT aQ aB) rfl
 have d9:=d 9 (.slice aU aR aC) rfl
 have aG:=d 10 (.slice aV aS aD) rfl
 have aH:=d 11 (.int .i64 a9) rfl
 have aI:=d 12 (.int .i64 z9) rfl
 have A:X<W.heap.size:=Qv W _ d0
 have bN:K<W.heap.size:=Qv W _ dk
 obtain ⟨W1,O⟩:=eX (W.alloc (.cells (Qxf v p3 k3 p4 k4) 48))
 have Y:=eqB O (Ze _ _)
 have bT:W1=W.heap.size+1:=by rw [<- O];simp
 refine let_mvar% ?Lq1:=fun w':World=>(Qya w' X x.name (.slice aF x.columns.length aE) (.slice aP x.key.length aO) (.slice aX x.refs.length aW) k9 (.string aY) n9 (.string aZ) (.slice aT aQ aB) (.slice aU aR aC) (.slice aV aS aD) a9 z9 (Qxw w' K 0 (.slice kp key.length kc)/\Qyy w' W v.kind v.n v.s (.slice p3 v.names.length k3) (.slice p4 v.kids.length k4) (Below (W+1) W1 w')):Prop);?_
 have HS:∀ w',Below (W+1) W1 w'->?Lq1 w':=by
  intro w' h
  have D:∀ {b j:Nat} {u:Value},b<W->W.cell? ⟨b,j,none⟩=some u->w'.cell? ⟨b,j,none⟩=some u:=fun aN hc=>kD h (Nat.lt_succ_of_lt aN) (kD Y aN hc)
  have M:w'.heap[W.heap.size]?=some (.cells (Qxf v p3 k3 p4 k4) 48 (0,0)):=kE h (Nat.lt_succ_self _) (by rw [<- O];exact Qw _ _)
  exact ⟨D A d0,D A d1,D A d2,D A d3,D A d4,D A d5,D A d6,D A d7,D A d8,D A d9,D A aG,D A aH,D A aI,D bN dk,Qk _ _ 0 _ _ _ M,Qk _ _ 1 _ _ _ M,Qk _ _ 2 _ _ _ M,Qk _ _ 3 _ _ _ M,Qk _ _ 4 _ _ _ M,h⟩
 have N:∀ w',?Lq1 w'->Below (W+1) W1 w':=fun w' h=>h.2.2.2.2.2.2.2.2.2.2.2.2.2.2.2.2.2.2.2
 have U:∀ w' T,?Lq1 w'->Below w' w' T->?Lq1 T:=fun w' T h h2=>HS T ((N w' h).trans (h2.mono (by have:=(N w' h).size;omega)))
 have I:∀ w',?Lq1 w'->Below W W w':=fun w' h=>Y.trans ((N w' h).mono (Nat.le_succ _))
 have HK:=Qq (fun W' (h':?Lq1 W')=>(Ch S S x v _ _ W' (Zl.frame Z (.of_below (I _ h'))) (Zc.frame hr (.of_below (I _ h'))) hkl).mono (R':=fun e w2=>∃ p n cap,e=.returned (.slice p n cap)/\Sl Zc (fun _=>True) w2 (.slice p n cap) ((keyOf x.key v).getD [])/\?Lq1 w2) (by
  rintro e w2 ⟨p,n,cap,rfl,_,h3,h4⟩
  exact ⟨p,n,cap,rfl,h3.mono (fun _ _ _=>trivial),U _ _ h' h4⟩))
 have HE:=Qq (fun W' p n cap (h':?Lq1 W') (h2:Sl Zc (fun _=>True) W' (.slice p n cap) ((keyOf x.key v).getD []))=>(Qkg 96 #[] (enters_of func96 Qxx rfl) (fun _=>True) (.slice p n cap) (.slice kp key.length kc) ((keyOf x.key v).getD []) key W' h2 ((aM.below (I _ h')).mono (fun _ _ _=>trivial)) eqv (fun V a b ca cb hV _ _ h3 h4=>R2 (fun _=>True) a b ca cb V h3 h4)).mono (R':=fun e w2=>e=.returned (.bool (eqL eqv ((keyOf x.key v).getD []) key))/\?Lq1 w2) (by
  rintro e w2 ⟨rfl,h4⟩
  exact ⟨rfl,U _ _ h' h4⟩))
 have bG:=Qq HS
 have bF:=Qq I
 clear HS d dk d0 d1 d2 d3 d4 d5 d6 d7 d8 d9 aG aH aI hct hk hkey aM hx Z hr Y hb N U I
 show Calls prog 183 #[.agg (Qxf v p3 k3 p4 k4),Qxb X,Qxb K] W (fun e w'=>e=.returned (.bool (eqL eqv ((keyOf x.key v).getD []) key))/\Below W W w')
 generalize eqL eqv ((keyOf x.key v).getD []) key=res at HE |-
 go_enter func183,ntmps183
 go_upto_region 1 with fail
 clear O
 have bM:Below (W+1) W1 W1:=.refl _ _
 go_region_held3 ?Lq1 (first | exact bG.out _ (Below.drew bM) | assumption)
  (first
   | (go_at_call 119;refine (HK.out _ Qxy).mono ?_;rintro e w2 ⟨bW,bV,bU,rfl,aL,bP⟩)
   | (go_at_call 184;refine (HE.out _ _ _ _ Qxy aL).mono ?_;rintro e w3 ⟨rfl,aK⟩))
 have bE:=Qq (bF.out _ aK)
 clear aK aL bP
 go_wp2_with fail
 go_ret
 exact ⟨rfl,bE.out⟩
theorem zig_full (n:Int) (h0:-9223372036854775808<=n) (h1:n<=9223372036854775807) (w:World):Calls prog 86 #[n] w fun e w'=>e=.returned (.int .u64 (zz n))/\w=w':=by
 by_cases h:0<=n
 ·have A:bits BinOp.xor IntKind.u64 (n*2) (n / 9223372036854775808)=(zz n:Nat):=by
   rw [show n / 9223372036854775808=0 by omega,xor_zero _ Qvu Qvu]
   unfold zz;rw [if_pos h];omega
  have D:=Qq A
  clear A
  go_enter func86,ntmps86
  go_wp2_with fail
  go_ret
  exact ⟨Ys D.out,rfl⟩
 have h':n<0:=Qvu
 have A:bits BinOp.xor IntKind.u64 (IntKind.u64.wrap (IntKind.u64.wrap n*2)) (IntKind.u64.wrap (n / 9223372036854775808))=(zz n:Nat):=by
  rw [IntKind.wrap_u64,IntKind.wrap_u64,IntKind.wrap_u64,show n / 9223372036854775808 % 18446744073709551616=18446744073709551615 by omega,Rw _ Qvu Qvu]
  unfold zz;rw [if_neg h];omega
 have D:=Qq A
 clear A h
 go_enter func86,ntmps86
 go_wp2_with fail
 go_ret
 exact ⟨Ys D.out,rfl⟩
theorem zz_big {n:Int} (h0:-9223372036854775808<=n) (h1:n<=9223372036854775807):zz n<18446744073709551616:=by unfold zz;split <;> omega
theorem Jp {n:Int} (h0:-9223372036854775808<=n) (h1:n<=9223372036854775807):(wI n).length<=10:=Kw (zz_big h0 h1)
theorem Mg (g:Nat) (w:World) (v:Value) (bs:Bs) (n:Int) (h:WAt g w v bs) (h0:-9223372036854775808<=n) (h1:n<=9223372036854775807) (hl:bs.length<=100000):
  Calls prog 33 #[Qxb g,n] w (K8 g w v (bs++wI n)):=by
 have HZ:=Qq (zig_full n h0 h1 w)
 have A:=Qq (Le g w v bs (zz n) h (zz_big h0 h1) hl)
 clear h h0 h1 hl
 unfold wI
 generalize zz n=m at HZ A |-
 generalize D:bs++vb m=b2 at A |-
 clear D
 go_enter func33,ntmps33
 go_wp2_with (first | (go_at_call 86;refine HZ.out.mono ?_;rintro e w' ⟨rfl,rfl⟩) | (go_at_call 85;refine A.out.mono ?_;rintro e w' ⟨rfl,hw⟩))
 go_end0
 exact ⟨rfl,hw⟩
theorem leftS {B:Nat} {w w1:World} {v v1:Value} (hg:w.grownBy w1 v.ownBlock) (hv:∀ g,v.ownBlock=some g->B<=g) (hB:B<=w) (hat:v1.ownBlock=v.ownBlock\/v1.ownBlock=some w.heap.size):Fg B w w1 v v1:=by
 have hb:Below B w w1:=(Qz B w).grown hg hB hv
 refine ⟨hb,hb.size,fun b A D=>hg.block b A (fun e=>D e),?_⟩
 rcases hat with h | h
 ·exact .inl h
 exact .inr ⟨_,h,Q9 _⟩
section
variable {P:Program}
theorem A5 (w:World) (base:Nat) (t u ty e:TypeId) (i:TypeInfo) (ht:P.underlying t=some (.slice e)) (hu:P.underlying u=some .string) (hi:P.info? e=some i) (hz:i.zero=some (.int .u8 0))
  (hsize:i.size=1) (hby:i.bytes=1) (v:Value) (n:Nat) (xs:List Value) (hown:w.ownsRow base e 1 v n xs) (s:ByteArray) (h63:n+s.size<=1000000) (hbase:base<=w):
  ∃ v' w',(Builtin.append_ #[t,u] ty #[v,.string s]).run P w=.ok v' w'/\w'.ownsRow base e 1 v' (n+s.size) (xs++strCells s)/\w.grownBy w' v.ownBlock/\(v'.ownBlock=v.ownBlock\/v'.ownBlock=some w.heap.size):=by
 obtain ⟨v',w',D,h2,h3,h4⟩:=run_append_own_string (P:=P) w base t u ty e i ht hu hi hz hsize hby v n xs hown s (by unfold maxLen;omega) Qvu hbase
 refine ⟨v',w',D,h2,h3,?_⟩
 have N:xs.length=n:=by simpa using hown.1
 rcases hown.2 with ⟨rfl,rfl⟩ | ⟨g,cap,I,rfl,O,hg,U,T,J,M⟩
 ·by_cases hm:s.size=0
  ·rw [h4.2 ⟨rfl,hm⟩];exact .inl rfl
  have A:=run_append_nil_string (P:=P) w t u ty e i (.int .u8 0) ht hu hi hz s Qvu Qvu (by rw [hby];omega)
  rw [D] at A
  injection A with a b
  rw [a];exact .inr rfl
 by_cases hroom:n+s.size<=cap
 ·have A:=run_append_room_string (P:=P) w t u ty e i ht hu hi hsize g n cap I hg s hroom (by simp at J;omega)
  rw [D] at A
  injection A with a b
  rw [a];exact .inl rfl
 have A:=run_append_grow_string (P:=P) w t u ty e i (.int .u8 0) ht hu hi hz ⟨g,0,none⟩ n cap xs (by rw [hsize];simpa using N) (hown.cells (g:=g) rfl) s Qvu Qvu (by rw [hby];exact growslice_fits Qvu Qvu)
 rw [D] at A
 injection A with a b
 rw [a];exact .inr rfl
theorem Nz (s:Bs):strCells ⟨s.toArray⟩=(s.map fun b=>[Value.int .u8 b.toNat]).flatten:=by
 unfold strCells
 induction s with
 | nil=>rfl
 | cons a s ih=>simpa using ih
theorem byteCs (S:Nat->Prop) (w:World):∀ s:Bs,Cs Zt S w (s.map fun b=>[Value.int .u8 b.toNat]) s:=fun s=>
 ⟨Qxz,fun i c x hc hx=>by
  rw [List.getElem?_map,hx] at hc
  exact (Qb hc).symm⟩
theorem Ms {ops:Array Oper} {rest:List Oper} {o:Oper} {a:Act} {Q:Exit->Act->World->Prop} (hgd:o.guard=none) (sl x:Operand) (t u:TypeId)
  (ho:o.op=.call { callee:=.builtin .append,args:=#[sl,x],argTypes:=#[t,u] }) (E:TypeId) (i:TypeInfo) (ht:P.underlying t=some (.slice E)) (hu:P.underlying u=some .string) (hi:P.info? E=some i) (hz:i.zero=some (.int .u8 0)) (hsize:i.size=1) (hby:i.bytes=1)
  (S:Nat->Prop) (B:Nat) (w:World) (v:Value) (xs:Bs) (css:List (List Value)) (hs:a.eval sl=v) (hO:Own Zt E S B w v xs css) (s:Bs) (hx:a.eval x=.string ⟨s.toArray⟩) (n:Nat) (hn:xs.length+s.length=n) (hl:n<=1000000) (hB:B<=w)
  (h:∀ p cap css' w1,Own Zt E S B w1 (.slice p n cap) (xs++s) css'->Fg B w w1 v (.slice p n cap)->wpList P ops Q rest (a.put o.dst (.slice p n cap)) w1):wpList P ops Q (o::rest) a w:=by
 subst hn
 have D:(⟨s.toArray⟩:ByteArray).size=s.length:=by show s.toArray.size=_;simp
 refine wpList_plain hgd fun K hK=>?_
 obtain ⟨v',w',hr,h2,h3,h4⟩:=A5 (P:=P) w B t u o.type E i ht hu hi hz hsize hby v xs.length css.flatten hO.row ⟨s.toArray⟩ Qvu hB
 unfold Oper.wp execOp
 simp only [ho,resolve,invoke,builtin,Sem.run_bind,Sem.run_pure,Result.andThen_ok,List.map_toArray,List.map_cons,List.map_nil,hs,hx,hr]
 rw [D,Nz] at h2
 have A:=hO.append (byteCs (But S v) w s) (v':=v') (w2:=w') h2 h3 h4
 obtain ⟨p,cap,hf⟩:=A.form
 rw [Ql] at hf
 subst hf
 exact hK _ _ (h p cap _ w' A (leftS h3 (fun g hg=>(hO.row.lt g hg).1) hB h4))
end
theorem F5 (g:Nat) (w:World) (v:Value) (bs s:Bs) (h:WAt g w v bs) (hl:bs.length+s.length<=90000):
  Calls prog 34 #[Qxb g,s] w (K8 g w v (bs++wT s)):=by
 obtain ⟨m,Z⟩:=eX (s.length)
 have HU:=Qq (Le g w v bs m h Qvu Qvu)
 have hz:(⟨s.toArray⟩:ByteArray).size=m:=by rw [<- Z];show s.toArray.size=_;simp
 have aH:=Kw (n:=m) Qvu
 obtain ⟨i5,j1,j2,j3,j4⟩:=Y4 (P:=prog) (t:=5) (z:=.int .u8 0) (n:=1) (b:=1) Qxx
 obtain ⟨HJ,aB,aC,aD,HM⟩:=Qxp j1 j2 j3 j4 Z
 unfold wT
 rw [Z] at hl |-
 obtain ⟨Y,J⟩:=eX (bs++vb m)
 have aJ:Y.length+m<=100000:=by rw [<- J,Ql];omega
 rw [<- List.append_assoc]
 rw [J] at HU |-
 clear h j1 j2 j3 j4 J Z aH hl
 go_enter func34,ntmps34
 go_upto_region 1 with (go_at_call 85;refine HU.out.mono ?_;rintro e w1 ⟨rfl,u,M,hS⟩)
 have c0:=Qk _ _ 0 _ _ _ M.cell;have f0:=fA 0 M.cell
 simp only [Qf,Qg] at c0
 obtain ⟨css,hO⟩:=M.own
 obtain ⟨up,V,rfl⟩:=hO.form
 have U:=Z8 M.cell
 obtain ⟨HA,HS,HO⟩:=Qxn M.cell hS hO
 clear M hS hO
 go_wp2_with (at_builtin;refine Ms rfl (.tmp 13) (.tmp 14) _ _ rfl 5 i5 underlying23 underlying9 HJ.out aB.out aC.out aD.out (fun _=>False) (g+1) w1 (.slice up Y.length V) Y css rfl HO.out s rfl (Y.length+m) (by rw [HM.out]) Qvu Qvu ?_;intro p5 aI O w5 T I;have N:=Qq T;have A:=Qq I;have D:=(I.other g U (fun e=>by have:=(HO.out.row.lt g e.symm).1;omega)).trans HA.out;have aL:=fA 0 D;have aK:=rA0 D;have aA:=Qq D;clear T I D)
 go_end0
 refine ⟨rfl,_,⟨by rw [Qi _ _ _ _ _ _ aA.out];rfl,O,N.out.move (Q9 _) (fun b _ h=>Z9 ?_)⟩,HS.out.trans ⟨(A.out.below.mono (Nat.le_succ g)).setCell (p:=⟨g,0,none⟩) (Q9 _) _,by simp [World.setCell];exact A.out.size,fun b hb aF aG=>?_,A.out.at'⟩⟩
 ·rcases h with h | h
  ·exact h.elim
  have:=(N.out.row.lt b h).1
  show b≠g
  omega
 rw [Z9 aF,A.out.other b hb aG]
def I64 (n:Int):Prop:=-9223372036854775808<=n/\n<=9223372036854775807
theorem Qqz (l:List Int) (k:Nat) (x:Int) (hx:l[k]?=some x):(l.take (k+1)).flatMap wI=(l.take k).flatMap wI++wI x:=by
 rw [List.take_add_one,hx];simp
theorem ints_any (g:Nat) (w:World) (v:Value) (bs:Bs) (l:List Int) (n b:Nat) (hn:l.length=n) (h2:n<=2) (hA:WAt g w v bs) (hr:∀ x ∈ l,I64 x) (hl:bs.length<=60000)
  (hb:∀ j x,l[j]?=some x->w.cell? ⟨b,j,none⟩=some (.int .i64 x)) (hlt:b<w) (hbg:b≠g) (hbv:v.ownBlock≠some b):
  Calls prog 91 #[Qxb g,Qxa b 0 n n] w (K8 g w v (bs++l.flatMap wI)):=by
 obtain ⟨HA,HB,HV,HR,HN,Z⟩:=Qxr hA hb hbv hr hn hlt
 clear hA hb hbv hr hn hlt
 go_enter func91,ntmps91
 go_wp2_with fail
 go_loopw [8] (fun i wr=>∃ (k:Nat) (cs:Bs) (u:Value),k<=n/\i=.int .i64 k/\Aside (cs=bs++(l.take k).flatMap wI)/\cs.length<=bs.length+10*k/\WAt g wr u cs/\Xk g w v wr u) (fun i _=>n - (intOf i).toNat)
 case atStart=>exact ⟨0,bs,v,Q8 _,rfl,by rw [List.take_zero];exact (List.append_nil _).symm,Qvu,HA.out,Xk.refl _ _ _⟩
 obtain ⟨k,cs,u,hk,rfl,N,aD,hA,I⟩:=hrel
 by_cases hlt:k<n
 ·obtain ⟨x,O⟩:∃ x,l[k]?=some x:=⟨_,Qx (by rw [HN.out];exact hlt)⟩
  have c0:wr.cell? ⟨b,k,none⟩=some (.int .i64 x):=(World.cell?_of_block (I.keep b Z.out hbg (fun e=>HV.out e.symm))).trans (HB.out k x O)
  have A:=HR.out x (Qy O)
  have HI:=Qq (Mg g wr u cs x hA A.1 A.2 Qvu)
  have aC:=Jp A.1 A.2
  have HE:=Qq (show cs++wI x=bs++(l.take (k+1)).flatMap wI by rw [N.out,Qqz l k x O,List.append_assoc])
  have HS:=Qq I
  have aE:(0:Int)<=(k:Int):=Qvu
  have aF:(k:Int)<(n:Int):=Qvu
  have V:=Qq (show (cs++wI x).length<=bs.length+10*(k+1) by rw [Ql];omega)
  clear N hA I O A aC
  go_wp2_with (go_at_call 33;refine HI.out.mono ?_;rintro e w' ⟨rfl,v',D,J⟩;have T:=Qq D;have aB:=Qq J;clear D J)
  go_roundw
  case measure=>simp [intOf];omega
  case rel=>exact ⟨k+1,cs++wI x,v',Qvu,by go_num,HE.out,V.out,T.out,HS.out.trans aB.out⟩
 obtain rfl:n=k:=Qvu
 have M:cs=bs++l.flatMap wI:=by rw [N.out,Zj (by rw [HN.out];exact Q9 _)]
 have Y:=Qq M
 have U:=Qq hA;have HS:=Qq I
 clear N hA I M
 go_wp2_with fail
 go_end0
 exact ⟨rfl,u,by rw [<- Y.out];exact U.out,HS.out⟩
inductive WOk:Val->Prop
 | mk (k n:Int) (s:Bs) (names:List Bs) (kids:List Val) (hk:I64 k) (hn:I64 n) (hf:k=4->kids.length<=names.length) (hz:k=0\/k=1\/k=2->kids=[]) (hs:∀ x ∈ kids,WOk x):WOk (.mk k n s names kids)
def U1 (v:Val):Prop:=∀ (S:Nat->Prop) (cs:List Value) (g:Nat) (w:World) (u:Value) (bs:Bs),Za S w cs v->(∀ b,S b->b<w.heap.size->b≠g/\some b≠u.ownBlock)->WAt g w u bs->bs.length+(Y6 v).length<=50000 ->
 Calls prog 45 #[Qxb g,cs] w (K8 g w u (bs++Y6 v))
theorem Bm (b:Bool) (names:List Bs) (kids:List Val) (j:Nat) (x:Val) (hx:kids[j]?=some x):Yt b (names.drop j) (kids.drop j)=(if b then wT ((names.drop j).headD []) else [])++(Y6 x++Yt b (names.drop (j+1)) (kids.drop (j+1))):=by
 obtain ⟨h,rfl⟩:=Qj hx
 rw [Qp h]
 show (if b then wT ((names.drop j).headD []) else [])++(Y6 kids[j]++Yt b (names.drop j).tail (kids.drop (j+1)))=_
 rw [List.tail_drop]
theorem Mi (b:Bool) (names:List Bs) (kids:List Val) (j:Nat) (hj:kids.length<=j):Yt b (names.drop j) (kids.drop j)=[]:=by
 rw [Qu hj];cases b <;> rfl
theorem WAt.own_lt {g:Nat} {w:World} {v:Value} {bs:Bs} (h:WAt g w v bs):∀ b,v.ownBlock=some b->g<b/\b<w.heap.size:=fun b hb=>by
 obtain ⟨_,ho⟩:=h.own
 have:=ho.row.lt b hb
 exact ⟨this.1,this.2⟩
theorem Jh (g:Nat) (w:World) (v:Value) (bs:Bs) (l:List Int) (n:Nat) (hn:l.length=n) (h2:n<=2) (hA:WAt g w v bs) (hr:∀ x ∈ l,I64 x) (hl:bs.length<=60000):
  Calls prog 91 #[Qxb g,Qxa w 0 n n] (w.alloc (.cells (l.map (Value.int .i64)).toArray 3)) (K8 g w v (bs++l.flatMap wI)):=by
 have hb:=Ze w (.cells (l.map (Value.int .i64)).toArray 3)
 have hg:=Z8 hA.cell
 refine (ints_any g _ v bs l n w hn h2 (hA.below hb) hr hl (fun j x hx=>?_) (Z8 (Qw w _)) Qvu (fun e=>by have:=(hA.own_lt _ e).2;omega)).mono ?_
 ·rw [Qk _ _ j _ _ _ (Qw w _)]
  simp [hx]
 rintro e w' ⟨h1,v',h2,h3⟩
 exact ⟨h1,v',h2,(Xk.of_below (v:=v) hb (Nat.le_of_lt hg)).trans h3⟩
theorem Lk (n:Int) (s:Bs) (names:List Bs) (kids:List Val) (k:Int) (h02:k=0\/k=2) (hk:I64 k) (hn:I64 n) (hf:k=4->kids.length<=names.length) (hz:k=0\/k=1\/k=2->kids=[]) (ih:∀ x ∈ kids,U1 x):U1 (.mk k n s names kids):=by
 intro S cs g w u bs aP aN Y hl
 have hv:Za (fun b=>S b/\b<w) w cs (.mk k n s names kids):=aP.move (.refl _ _) (fun b hb h=>⟨h,hb⟩)
 obtain ⟨p3,k3,p4,k4,aO,aI,Z,_⟩:=Za.cells hv
 simp only [vcs,Val.kind,Val.n,Val.s,Val.names,Val.kids] at aO aI Z
 subst aO
 have hg:=Z8 Y.cell
 have aA:=Qq Y.own_lt
 obtain ⟨aK,aL,aY,aM,aZ⟩:=Qxp hk hn hf hz ih
 have bA:=Qq aI;have aV:=Qq Z
 have bB:=Qq (fun b (h:S b/\b<w)=>aN b h.1 h.2)
 obtain ⟨m,hm⟩:=eX (kids.length)
 have bD:m<=1000000:=by obtain ⟨_,_,_,h⟩:=Z.len;omega
 rw [hm] at aV |-
 have HM:=Qq hm
 obtain ⟨T,hT⟩:=eX (bs++Y6 (.mk k n s names kids))
 have bC:T.length<=50000:=by rw [<- hT,Ql];exact hl
 rw [hT]
 have O:bs++Y6 (.mk k n s names kids)=T:=hT
 rw [show Y6 (.mk k n s names kids)=wI k++((if k=0\/k=2 then wI n else if k=1 then wT s else if k=3 then wT s++wI kids.length else wI kids.length)++Yt (k==4) names kids) from rfl,hm] at O
 have aJ:=Qq Y
 clear aP aN hv aI Z hk hn hf hm hT hl hz ih Y
 rcases h02 with rfl | rfl
 ·obtain rfl:kids=[]:=aM.out Qxz
  obtain rfl:m=0:=HM.out.symm
  have J:bs++(wI 0++wI n)=T:=by rw [<- O];simp [Yt]
  have HI:=Qq (fun W v9 (hA:WAt g W v9 bs)=>Jh g W v9 bs [0,n] 2 rfl Qvu hA (by intro x hx;simp at hx;rcases hx with rfl | rfl;exact ⟨Qvu,Qvu⟩;exact aL.out) (by have:=congrArg List.length J;rw [Ql] at this;omega))
  have aG:=Qq J
  clear O J aK
  go_enter func45,ntmps45
  go_upto_region 1 with fail
  generalize M:World.alloc w _=W1
  have D:=eqB M (Ze _ _)
  have A:=eqH (b:=w.heap.size) M (Qw _ _)
  obtain ⟨aT,aH,aC⟩:=Qxn D A (aJ.out.below D)
  have V:w.heap.size<W1.heap.size:=Z8 A
  have aE:=Qq (Xk.of_below (v:=u) D (Nat.le_of_lt hg))
  obtain ⟨x0,x1,x2,x3,x4⟩:=row5 A
  clear D A M
  go_wp2_with (go_at_call 91;refine (HI.out _ _ aC.out).mono ?_;rintro e w2 ⟨rfl,v2,N,I⟩;have aD:=Qq N;have aF:=Qq I;have U:=(I.keep w V Qvu (fun e=>by have:=(aA.out _ e.symm).2;omega)).trans aH.out;have z4:=rA4 U;clear N I U)
  go_loop [57] (fun i=>i=.int .i64 0) (fun _=>0)
  case atStart=>exact rfl
  subst hrel
  go_wp2_with fail
  go_end0
  exact ⟨rfl,v2,(by rw [<- aG.out];have:=aD.out;simpa using this),aE.out.trans aF.out⟩
 obtain rfl:kids=[]:=aM.out Qxz
 obtain rfl:m=0:=HM.out.symm
 have J:bs++(wI 2++wI n)=T:=by rw [<- O];simp [Yt]
 have HI:=Qq (fun W v9 (hA:WAt g W v9 bs)=>Jh g W v9 bs [2,n] 2 rfl Qvu hA (by intro x hx;simp at hx;rcases hx with rfl | rfl;exact ⟨Qvu,Qvu⟩;exact aL.out) (by have:=congrArg List.length J;rw [Ql] at this;omega))
 have aG:=Qq J
 clear O J aK
 go_enter func45,ntmps45
 go_upto_region 1 with fail
 generalize M:World.alloc w _=W1
 have D:=eqB M (Ze _ _)
 have A:=eqH (b:=w.heap.size) M (Qw _ _)
 obtain ⟨aT,aH,aC⟩:=Qxn D A (aJ.out.below D)
 have V:w.heap.size<W1.heap.size:=Z8 A
 have aE:=Qq (Xk.of_below (v:=u) D (Nat.le_of_lt hg))
 obtain ⟨x0,x1,x2,x3,x4⟩:=row5 A
 clear D A M
 go_wp2_with (go_at_call 91;refine (HI.out _ _ aC.out).mono ?_;rintro e w2 ⟨rfl,v2,N,I⟩;have aD:=Qq N;have aF:=Qq I;have U:=(I.keep w V Qvu (fun e=>by have:=(aA.out _ e.symm).2;omega)).trans aH.out;have z4:=rA4 U;clear N I U)
 go_loop [57] (fun i=>i=.int .i64 0) (fun _=>0)
 case atStart=>exact rfl
 subst hrel
 go_wp2_with fail
 go_end0
 exact ⟨rfl,v2,(by rw [<- aG.out];have:=aD.out;simpa using this),aE.out.trans aF.out⟩
theorem Ag (n:Int) (s:Bs) (names:List Bs) (kids:List Val) (k:Int) (h1:k=1) (hk:I64 k) (hn:I64 n) (hf:k=4->kids.length<=names.length) (hz:k=0\/k=1\/k=2->kids=[]) (ih:∀ x ∈ kids,U1 x):U1 (.mk k n s names kids):=by
 intro S cs g w u U aN aJ A hl
 have hv:Za (fun b=>S b/\b<w) w cs (.mk k n s names kids):=aN.move (.refl _ _) (fun b hb h=>⟨h,hb⟩)
 obtain ⟨p3,k3,p4,k4,aM,aD,N,_⟩:=Za.cells hv
 simp only [vcs,Val.kind,Val.n,Val.s,Val.names,Val.kids] at aM aD N
 subst aM
 have hg:=Z8 A.cell
 have O:=Qq A.own_lt
 obtain ⟨aU,bD,bC,aV,bE⟩:=Qxp hk hn hf hz ih
 have bF:=Qq aD;have aW:=Qq N
 have bG:=Qq (fun b (h:S b/\b<w)=>aJ b h.1 h.2)
 obtain ⟨m,hm⟩:=eX (kids.length)
 have bI:m<=1000000:=by obtain ⟨_,_,_,h⟩:=N.len;omega
 rw [hm] at aW |-
 have HM:=Qq hm
 obtain ⟨T,hT⟩:=eX (U++Y6 (.mk k n s names kids))
 have bH:T.length<=50000:=by rw [<- hT,Ql];exact hl
 rw [hT]
 have Z:U++Y6 (.mk k n s names kids)=T:=hT
 rw [show Y6 (.mk k n s names kids)=wI k++((if k=0\/k=2 then wI n else if k=1 then wT s else if k=3 then wT s++wI kids.length else wI kids.length)++Yt (k==4) names kids) from rfl,hm] at Z
 have aQ:=Qq A
 clear aN aJ hv aD N hk hn hf hm hT hl hz ih A
 subst h1
 obtain rfl:kids=[]:=aV.out Qxz
 obtain rfl:m=0:=HM.out.symm
 have aA:U++wI 1++wT s=T:=by rw [<- Z];simp [Yt]
 have aC:U.length+(wI 1).length+(wT s).length<=50000:=by have:=congrArg List.length aA;simp only [Ql] at this;omega
 have V:(U++[(1:Int)].flatMap wI).length+s.length<=90000:=by unfold wT at aC;simp only [Ql,List.flatMap_cons,List.flatMap_nil,List.append_nil] at aC |-;omega
 have HI:=Qq (fun W v9 (hA:WAt g W v9 U)=>Jh g W v9 U [1] 1 rfl Qvu hA (by intro x hx;obtain rfl:=Z5.1 hx;exact ⟨Qvu,Qvu⟩) Qvu)
 have HX:=Qq (fun W v9 (hA:WAt g W v9 (U++[(1:Int)].flatMap wI))=>F5 g W v9 _ s hA V)
 have bA:=Qq aA
 clear Z aA aC V aU
 go_enter func45,ntmps45
 go_upto_region 1 with fail
 generalize aB:World.alloc w _=W1
 have M:=eqB aB (Ze _ _)
 have D:=eqH (b:=w.heap.size) aB (Qw _ _)
 obtain ⟨bB,aG,aR⟩:=Qxn M D (aQ.out.below M)
 have Y:w.heap.size<W1.heap.size:=Z8 D
 have aX:=Qq (Xk.of_below (v:=u) M (Nat.le_of_lt hg))
 obtain ⟨x0,x1,x2,x3,x4⟩:=row5 D
 clear M D aB
 go_wp2_with (first | (go_at_call 91;refine (HI.out _ _ aR.out).mono ?_;rintro e w2 ⟨rfl,v2,aH,aK⟩;have aS:=Qq aH;have aE:=aK;have aY:=Qq aE;have I:=(aE.keep w Y Qvu (fun e=>by have:=(O.out _ e.symm).2;omega)).trans aG.out;have bJ:=rA0 I;have z22:=rA2 I;have bK:=rA4 I;clear aH aK aE I) | (go_at_call 34;refine (HX.out _ _ aS.out).mono ?_;rintro e w3 ⟨rfl,v3,aI,aL⟩;have aT:=Qq aI;have aF:=aY.out.trans aL;have aZ:=Qq aF;have J:=(aF.keep w Y Qvu (fun e=>by have:=(O.out _ e.symm).2;omega)).trans aG.out;have bL:=rA0 J;have bM:=rA2 J;have bN:=rA4 J;clear aI aL aF J))
 go_loop [57] (fun i=>i=.int .i64 0) (fun _=>0)
 case atStart=>exact rfl
 subst hrel
 go_wp2_with fail
 go_end0
 exact ⟨rfl,v3,(by rw [<- bA.out];have:=aT.out;simpa using this),aX.out.trans aZ.out⟩
theorem Ap (n:Int) (s:Bs) (names:List Bs) (kids:List Val) (k:Int) (h3:k=3) (hk:I64 k) (hn:I64 n) (hf:k=4->kids.length<=names.length) (hz:k=0\/k=1\/k=2->kids=[]) (ih:∀ x ∈ kids,U1 x):U1 (.mk k n s names kids):=by
 intro S cs g w u J bK bF aA hl
 have hv:Za (fun b=>S b/\b<w) w cs (.mk k n s names kids):=bK.move (.refl _ _) (fun b hb h=>⟨h,hb⟩)
 obtain ⟨p3,k3,p4,k4,O,aT,aH,_⟩:=Za.cells hv
 simp only [vcs,Val.kind,Val.n,Val.s,Val.names,Val.kids] at O aT aH
 subst O
 have hg:=Z8 aA.cell
 have A:=Qq aA.own_lt
 obtain ⟨cA,cR,cQ,cS,cC⟩:=Qxp hk hn hf hz ih
 have cT:=Qq aT;have aY:=Qq aH
 have I:=Qq (fun b (h:S b/\b<w)=>bF b h.1 h.2)
 obtain ⟨m,hm⟩:=eX (kids.length)
 have dB:m<=1000000:=by obtain ⟨_,_,_,h⟩:=aH.len;omega
 rw [hm] at aY |-
 have HM:=Qq hm
 obtain ⟨T,hT⟩:=eX (J++Y6 (.mk k n s names kids))
 have cV:T.length<=50000:=by rw [<- hT,Ql];exact hl
 rw [hT]
 have aP:J++Y6 (.mk k n s names kids)=T:=hT
 rw [show Y6 (.mk k n s names kids)=wI k++((if k=0\/k=2 then wI n else if k=1 then wT s else if k=3 then wT s++wI kids.length else wI kids.length)++Yt (k==4) names kids) from rfl,hm] at aP
 have bQ:=Qq aA
 clear bK bF hv aT aH hk hn hf hm hT hl hz ih aA
 subst h3
 have aQ:J++wI 3++wT s++wI m++Yt false names kids=T:=by rw [<- aP];simp
 have aI:J.length+(wI 3).length+(wT s).length+(wI m).length<=50000:=by have:=congrArg List.length aQ;simp only [Ql] at this;omega
 have aL:(J++[(3:Int)].flatMap wI).length+s.length<=90000:=by unfold wT at aI;simp only [Ql,List.flatMap_cons,List.flatMap_nil,List.append_nil] at aI |-;omega
 have aM:(J++[(3:Int)].flatMap wI++wT s).length<=60000:=by simp only [Ql,List.flatMap_cons,List.flatMap_nil,List.append_nil] at aI |-;omega
 have HI:=Qq (fun W v9 (Z:WAt g W v9 J)=>Jh g W v9 J [3] 1 rfl Qvu Z (by intro x hx;obtain rfl:=Z5.1 hx;exact ⟨Qvu,Qvu⟩) Qvu)
 have HX:=Qq (fun W v9 (Z:WAt g W v9 (J++[(3:Int)].flatMap wI))=>F5 g W v9 _ s Z aL)
 have cB:=Qq (fun W v9 (Z:WAt g W v9 (J++[(3:Int)].flatMap wI++wT s))=>Jh g W v9 _ [(m:Int)] 1 rfl Qvu Z (by intro x hx;obtain rfl:=Z5.1 hx;exact ⟨Qvu,Qvu⟩) aM)
 have cM:=Qq aQ
 clear aP aQ aI aL aM cA
 go_enter func45,ntmps45
 go_upto_region 1 with fail
 generalize aR:World.alloc w _=W1
 have aG:=eqB aR (Ze _ _)
 have aC:=eqH (b:=w.heap.size) aR (Qw _ _)
 obtain ⟨bX,Y,bR⟩:=Qxn aG aC (bQ.out.below aG)
 have D:w.heap.size<W1.heap.size:=Z8 aC
 have cG:=Qq (Xk.of_below (v:=u) aG (Nat.le_of_lt hg))
 obtain ⟨x0,x1,x2,x3,x4⟩:=row5 aC
 clear aG aC aR
 go_upto_region 13 with (first | (go_at_call 91;refine (cB.out _ _ bT.out).mono ?_;rintro e w4 ⟨rfl,v4,bC,bH⟩;have bU:=Qq bC;have aW:=cI.out.trans bH;have cJ:=Qq aW;have aF:=(aW.keep w D Qvu (fun e=>by have:=(A.out _ e.symm).2;omega)).trans Y.out;have dH:=rA0 aF;have dI:=rA2 aF;have dJ:=rA4 aF;clear bC bH aW aF) | (go_at_call 34;refine (HX.out _ _ bS.out).mono ?_;rintro e w3 ⟨rfl,v3,bB,bG⟩;have bT:=Qq bB;have aV:=cH.out.trans bG;have cI:=Qq aV;have aE:=(aV.keep w D Qvu (fun e=>by have:=(A.out _ e.symm).2;omega)).trans Y.out;have dE:=rA0 aE;have dF:=rA2 aE;have dG:=rA4 aE;clear bB bG aV aE) | (go_at_call 91;refine (HI.out _ _ bR.out).mono ?_;rintro e w2 ⟨rfl,v2,aB,M⟩;have bS:=Qq aB;have aU:=M;have cH:=Qq aU;have aD:=(aU.keep w D Qvu (fun e=>by have:=(A.out _ e.symm).2;omega)).trans Y.out;have dC:=rA0 aD;have z22:=rA2 aD;have dD:=rA4 aD;clear aB M aU aD))
 have cL:=Qq (show J++[(3:Int)].flatMap wI++wT s++[(m:Int)].flatMap wI++Yt ((3:Int)==4) (names.drop 0) (kids.drop 0)=T by rw [<- cM.out];simp)
 have bW:=Qq bU.out;have cK:=Qq cJ.out
 go_wp2_with fail
 go_loopw [57] (fun i wr=>∃ (j:Nat) (cs:Bs) (u':Value),j<=m/\i=.int .i64 j/\Aside (cs++Yt ((3:Int)==4) (names.drop j) (kids.drop j)=T)/\WAt g wr u' cs/\Xk g W1 u wr u') (fun i _=>m - (intOf i).toNat)
 case atStart=>exact ⟨0,_,_,Q8 _,rfl,cL.out,bW.out,cK.out⟩
 obtain ⟨j,cs,u',hj,rfl,hE,Z,hS⟩:=hrel
 have N:=(hS.keep w D Qvu (fun e=>by have:=(A.out _ e.symm).2;omega)).trans Y.out
 have bD:Vz (fun b=>S b/\b<w) w wr:=fun b hb U=>(hS.keep b Qvu (I.out b hb).1 (I.out b hb).2).trans (bX.out.block b U)
 have bI:=Z8 Z.cell
 have dA:=Z8 N
 obtain ⟨HE,HA,HS,cU,bV⟩:=Qxp hE.out Z hS N bD
 have cW:cs.length<=50000:=by have:=congrArg List.length hE.out;rw [Ql] at this;omega
 have y0:=rA0 N;have y3:=rA3 N
 clear hE Z hS N bD
 by_cases U:j<m
 ·have cX:(0:Int)<=(j:Int):=Qvu
  have cY:(j:Int)<(m:Int):=Qvu
  obtain ⟨x,hx⟩:∃ x,kids[j]?=some x:=⟨_,Qx (by rw [HM.out];exact U)⟩
  have cD:=Qq (cC.out x (Qy hx))
  have aS:=Bm ((3:Int)==4) names kids j x hx
  obtain ⟨kb,cP,q3,l3,q4,l4,rfl,cZ,bL,d0,d1,d2,d3,d4⟩:=(aY.out.frame bV.out).val hx
  have cN:=Qq bL;have HX:=Qq hx
  generalize V:Yt ((3:Int)==4) (names.drop (j+1)) (kids.drop (j+1))=rest at aS
  have aN:=Qq V
  clear bL hx V
  have aO:cs++Y6 x++rest=T:=by rw [<- HE.out,aS,List.append_assoc];simp
  have bJ:cs.length+(Y6 x).length<=50000:=by have:=congrArg List.length aO;rw [Ql,Ql] at this;omega
  have bZ:=Qq aO;have cE:=Qq bJ
  clear aO bJ aS
  have aK:=Qq (fun W u2 cs2 (aB:WAt g W u2 cs2) (M:Xk g wr u' W u2) (h2:cs2.length+(Y6 x).length<=50000)=>cD.out (fun b=>S b/\b<w) (vcs x q3 l3 q4 l4) g W u2 cs2 (cN.out.move (fun b hb U=>M.keep b U (I.out b hb).1 (fun e=>by
    rcases HS.out.at' with h | ⟨q,h,hq⟩
    ·exact (I.out b hb).2 (e.trans h)
    ·rw [h] at e;have:=Qb e;have:=hb.2;omega)) Qyv) (fun b hb _=>⟨(I.out b hb).1,fun e=>by
    rcases M.at' with h | ⟨q,h,hq⟩
    ·rcases HS.out.at' with h' | ⟨q',h',hq'⟩
     ·exact (I.out b hb).2 (e.trans (h.trans h'))
     rw [h,h'] at e;have:=Qb e;have:=hb.2;omega
    rw [h] at e;have:=Qb e;have:=hb.2;have:=HS.out.size;omega⟩) aB h2)
  unfold vcs at aK
  go_wp2_with (go_at_call 45;refine (aK.out _ u' cs (HA.out.below (Ze _ _)) (Xk.of_below (Ze _ _) (Nat.le_of_lt bI)) cE.out).mono ?_;rintro e w' ⟨rfl,v',bA,bE⟩;have bP:=Qq bA;have cF:=Qq ((Xk.of_below (v:=u') (Ze wr _) (Nat.le_of_lt bI)).trans bE);clear bA bE)
  go_roundw
  case measure=>simp [intOf];omega
  case rel=>exact ⟨j+1,cs++Y6 x,v',Qvu,by go_num,(by rw [aN.out];exact bZ.out),bP.out,HS.out.trans cF.out⟩
 obtain rfl:m=j:=Qvu
 have O:cs=T:=by
  have h:=HE.out
  rw [Mi _ _ _ _ (Nat.le_of_eq HM.out),List.append_nil] at h
  exact h
 have bY:=Qq O
 clear O
 go_wp2_with fail
 go_end0
 exact ⟨rfl,u',by rw [<- bY.out];exact HA.out,cG.out.trans HS.out⟩
theorem Qvw (n:Int) (s:Bs) (names:List Bs) (kids:List Val) (k:Int) (h4:k=4) (hk:I64 k) (hn:I64 n) (hf:k=4->kids.length<=names.length) (hz:k=0\/k=1\/k=2->kids=[]) (ih:∀ x ∈ kids,U1 x):U1 (.mk k n s names kids):=by
 intro S cs g w u bs bI bD U hl
 have hv:Za (fun b=>S b/\b<w) w cs (.mk k n s names kids):=bI.move (.refl _ _) (fun b hb h=>⟨h,hb⟩)
 obtain ⟨p3,k3,p4,k4,J,aO,aB,_⟩:=Za.cells hv
 simp only [vcs,Val.kind,Val.n,Val.s,Val.names,Val.kids] at J aO aB
 subst J
 have hg:=Z8 U.cell
 have aE:=Qq U.own_lt
 obtain ⟨bY,cR,bX,cS,bZ⟩:=Qxp hk hn hf hz ih
 have cD:=Qq aO;have aS:=Qq aB
 have A:=Qq (fun b (h:S b/\b<w)=>bD b h.1 h.2)
 obtain ⟨m,hm⟩:=eX (kids.length)
 have dB:m<=1000000:=by obtain ⟨_,_,_,h⟩:=aB.len;omega
 rw [hm] at aS |-
 have HM:=Qq hm
 obtain ⟨T,hT⟩:=eX (bs++Y6 (.mk k n s names kids))
 have cU:T.length<=50000:=by rw [<- hT,Ql];exact hl
 rw [hT]
 have aK:bs++Y6 (.mk k n s names kids)=T:=hT
 rw [show Y6 (.mk k n s names kids)=wI k++((if k=0\/k=2 then wI n else if k=1 then wT s else if k=3 then wT s++wI kids.length else wI kids.length)++Yt (k==4) names kids) from rfl,hm] at aK
 have bP:=Qq U
 clear bI bD hv aO aB hk hn hf hm hT hl hz ih U
 subst h4
 have aL:bs++(wI 4++wI m)++Yt true names kids=T:=by rw [<- aK];simp
 have cN:bs.length+(wI 4).length+(wI m).length<=50000:=by have:=congrArg List.length aL;simp only [Ql] at this;omega
 have HI:=Qq (fun W v9 (hA:WAt g W v9 bs)=>Jh g W v9 bs [4,(m:Int)] 2 rfl Qvu hA (by intro x hx;simp at hx;rcases hx with rfl | rfl;exact bY.out;exact ⟨Qvu,Qvu⟩) Qvu)
 have cJ:=Qq aL
 clear aK aL cN
 go_enter func45,ntmps45
 go_upto_region 1 with fail
 generalize aM:World.alloc w _=W1
 have aA:=eqB aM (Ze _ _)
 have Y:=eqH (b:=w.heap.size) aM (Qw _ _)
 obtain ⟨bU,aW,bQ⟩:=Qxn aA Y (bP.out.below aA)
 have aF:w.heap.size<W1.heap.size:=Z8 Y
 have cF:=Qq (Xk.of_below (v:=u) aA (Nat.le_of_lt hg))
 obtain ⟨x0,x1,x2,x3,x4⟩:=row5 Y
 clear aA Y aM
 go_upto_region 13 with (go_at_call 91;refine (HI.out _ _ bQ.out).mono ?_;rintro e w4 ⟨rfl,v4,aZ,bE⟩;have bS:=Qq aZ;have aP:=bE;have cG:=Qq aP;have Z:=(aP.keep w aF Qvu (fun e=>by have:=(aE.out _ e.symm).2;omega)).trans aW.out;have dD:=rA0 Z;have dE:=rA2 Z;have dF:=rA4 Z;clear aZ bE aP Z)
 have cI:=Qq (show bs++[4,(m:Int)].flatMap wI++Yt ((4:Int)==4) (names.drop 0) (kids.drop 0)=T by rw [<- cJ.out];simp)
 have bT:=Qq bS.out;have cH:=Qq cG.out
 go_wp2_with fail
 go_loopw [57] (fun i wr=>∃ (j:Nat) (cs:Bs) (u':Value),j<=m/\i=.int .i64 j/\Aside (cs++Yt ((4:Int)==4) (names.drop j) (kids.drop j)=T)/\WAt g wr u' cs/\Xk g W1 u wr u') (fun i _=>m - (intOf i).toNat)
 case atStart=>exact ⟨0,_,_,Q8 _,rfl,cI.out,bT.out,cH.out⟩
 obtain ⟨j,cs,u',hj,rfl,hE,hA,hS⟩:=hrel
 have I:=(hS.keep w aF Qvu (fun e=>by have:=(aE.out _ e.symm).2;omega)).trans aW.out
 have bA:Vz (fun b=>S b/\b<w) w wr:=fun b hb M=>(hS.keep b Qvu (A.out b hb).1 (A.out b hb).2).trans (bU.out.block b M)
 have cM:=Z8 hA.cell
 have dA:=Z8 I
 obtain ⟨HE,HA,HS,cT,aR⟩:=Qxp hE.out hA hS I bA
 have cV:cs.length<=50000:=by have:=congrArg List.length hE.out;rw [Ql] at this;omega
 have y0:=rA0 I;have y3:=rA3 I
 clear hE hA hS I bA
 by_cases M:j<m
 ·have cW:(0:Int)<=(j:Int):=Qvu
  have cX:(j:Int)<(m:Int):=Qvu
  obtain ⟨x,hx⟩:∃ x,kids[j]?=some x:=⟨_,Qx (by rw [HM.out];exact M)⟩
  have cA:=Qq (bZ.out x (Qy hx))
  have aN:=Bm ((4:Int)==4) names kids j x hx
  obtain ⟨kb,cP,q3,l3,q4,l4,rfl,cZ,bJ,d0,d1,d2,d3,d4⟩:=(aS.out.frame aR.out).val hx
  have cK:=Qq bJ;have HX:=Qq hx
  generalize O:Yt ((4:Int)==4) (names.drop (j+1)) (kids.drop (j+1))=rest at aN
  have aH:=Qq O
  clear bJ hx O
  obtain ⟨nm,N⟩:∃ nm,names[j]?=some nm:=⟨_,Qx (by have:=bX.out Qxz;have:=HM.out;omega)⟩
  have bG:j<names.length:=(Qj N).1
  have cY:(j:Int)<(names.length:Int):=Qvu
  obtain ⟨nb,cQ,rfl,cO,_⟩:=(cD.out.frame aR.out).str N
  have dC:=Qv _ _ cO
  have bF:(names.drop j).headD []=nm:=by rw [Qp bG];rw [Qx bG] at N;exact Qb N
  have aJ:cs++wT nm++Y6 x++rest=T:=by rw [<- HE.out,aN,bF];simp
  have aC:cs.length+(wT nm).length+(Y6 x).length<=50000:=by have:=congrArg List.length aJ;simp only [Ql] at this;omega
  have bH:cs.length+nm.length<=90000:=by unfold wT at aC;rw [Ql] at aC;omega
  have bW:=Qq aJ;have cB:=Qq (show (cs++wT nm).length+(Y6 x).length<=50000 by rw [Ql];exact aC)
  have aV:=Qq (fun W (hW:Below wr wr W)=>F5 g W u' cs nm (HA.out.below hW) bH)
  clear aJ aC bH bF aN N
  have aD:=Qq (fun W u2 cs2 (V:WAt g W u2 cs2) (D:Xk g wr u' W u2) (h2:cs2.length+(Y6 x).length<=50000)=>cA.out (fun b=>S b/\b<w) (vcs x q3 l3 q4 l4) g W u2 cs2 (cK.out.move (fun b hb M=>D.keep b M (A.out b hb).1 (fun e=>by
    rcases HS.out.at' with h | ⟨q,h,hq⟩
    ·exact (A.out b hb).2 (e.trans h)
    ·rw [h] at e;have:=Qb e;have:=hb.2;omega)) Qyv) (fun b hb _=>⟨(A.out b hb).1,fun e=>by
    rcases D.at' with h | ⟨q,h,hq⟩
    ·rcases HS.out.at' with h' | ⟨q',h',hq'⟩
     ·exact (A.out b hb).2 (e.trans (h.trans h'))
     rw [h,h'] at e;have:=Qb e;have:=hb.2;omega
    rw [h] at e;have:=Qb e;have:=hb.2;have:=HS.out.size;omega⟩) V h2)
  unfold vcs at aD
  go_wp2_with (first | (go_at_call 34;refine (aV.out _ (Ze _ _)).mono ?_;rintro e w2 ⟨rfl,v2,V,D⟩;have bR:=Qq V;have aU:=Qq ((Xk.of_below (v:=u') (Ze wr _) (Nat.le_of_lt cM)).trans D);have bB:=(D.keep wr (Z8 (Qw wr _)) Qvu (fun e=>by have:=(HA.out.own_lt _ e.symm).2;omega)).trans (Qw wr _);obtain ⟨n0,n1,n2,n3,n4⟩:=row5 bB;clear V D bB aV) | (go_at_call 45;refine (aD.out _ v2 _ bR.out aU.out cB.out).mono ?_;rintro e w' ⟨rfl,v',aY,bC⟩;have bO:=Qq aY;have cE:=Qq (aU.out.trans bC);clear aY bC))
  go_roundw
  case measure=>simp [intOf];omega
  case rel=>exact ⟨j+1,cs++wT nm++Y6 x,v',Qvu,by go_num,(by rw [aH.out];exact bW.out),bO.out,HS.out.trans cE.out⟩
 obtain rfl:m=j:=Qvu
 have J:cs=T:=by
  have h:=HE.out
  rw [Mi _ _ _ _ (Nat.le_of_eq HM.out),List.append_nil] at h
  exact h
 have bV:=Qq J
 clear J
 go_wp2_with fail
 go_end0
 exact ⟨rfl,u',by rw [<- bV.out];exact HA.out,cF.out.trans HS.out⟩
theorem Tf (n:Int) (s:Bs) (names:List Bs) (kids:List Val) (k:Int) (hk0:k≠0) (hk1:k≠1) (hk2:k≠2) (hk3:k≠3) (hk4:k≠4) (hk:I64 k) (hn:I64 n) (hf:k=4->kids.length<=names.length) (hz:k=0\/k=1\/k=2->kids=[]) (ih:∀ x ∈ kids,U1 x):U1 (.mk k n s names kids):=by
 intro S cs g w u bs aZ aV N hl
 have hv:Za (fun b=>S b/\b<w) w cs (.mk k n s names kids):=aZ.move (.refl _ _) (fun b hb h=>⟨h,hb⟩)
 obtain ⟨p3,k3,p4,k4,I,aK,Y,_⟩:=Za.cells hv
 simp only [vcs,Val.kind,Val.n,Val.s,Val.names,Val.kids] at I aK Y
 subst I
 have hg:=Z8 N.cell
 have aA:=Qq N.own_lt
 obtain ⟨bN,cD,cC,cE,bO⟩:=Qxp hk hn hf hz ih
 have cF:=Qq aK;have aN:=Qq Y
 have A:=Qq (fun b (h:S b/\b<w)=>aV b h.1 h.2)
 obtain ⟨m,hm⟩:=eX (kids.length)
 have cN:m<=1000000:=by obtain ⟨_,_,_,h⟩:=Y.len;omega
 rw [hm] at aN |-
 have HM:=Qq hm
 obtain ⟨T,hT⟩:=eX (bs++Y6 (.mk k n s names kids))
 have cH:T.length<=50000:=by rw [<- hT,Ql];exact hl
 rw [hT]
 have aG:bs++Y6 (.mk k n s names kids)=T:=hT
 rw [show Y6 (.mk k n s names kids)=wI k++((if k=0\/k=2 then wI n else if k=1 then wT s else if k=3 then wT s++wI kids.length else wI kids.length)++Yt (k==4) names kids) from rfl,hm] at aG
 have bF:=Qq N
 clear aZ aV hv aK Y hk hn hf hm hT hl hz ih N
 have cO:(k==(0:Int))=false:=by simpa using hk0
 have cP:(k==(1:Int))=false:=by simpa using hk1
 have cQ:(k==(2:Int))=false:=by simpa using hk2
 have cR:(k==(3:Int))=false:=by simpa using hk3
 have aH:bs++(wI k++wI m)++Yt (k==4) names kids=T:=by rw [<- aG,if_neg Qvu,if_neg hk1,if_neg hk3];simp
 have bZ:bs.length+(wI k).length+(wI m).length<=50000:=by have:=congrArg List.length aH;simp only [Ql] at this;omega
 have HI:=Qq (fun W v9 (hA:WAt g W v9 bs)=>Jh g W v9 bs [k,(m:Int)] 2 rfl Qvu hA (by intro x hx;simp at hx;rcases hx with rfl | rfl;exact bN.out;exact ⟨Qvu,Qvu⟩) Qvu)
 have bW:=Qq aH
 clear aG aH bZ hk0 hk1 hk2 hk3
 have cA:(k==(4:Int))=false:=by simpa using hk4
 go_enter func45,ntmps45
 go_upto_region 1 with fail
 generalize aI:World.alloc w _=W1
 have V:=eqB aI (Ze _ _)
 have O:=eqH (b:=w.heap.size) aI (Qw _ _)
 obtain ⟨bK,aP,bG⟩:=Qxn V O (bF.out.below V)
 have aB:w.heap.size<W1.heap.size:=Z8 O
 have bS:=Qq (Xk.of_below (v:=u) V (Nat.le_of_lt hg))
 obtain ⟨x0,x1,x2,x3,x4⟩:=row5 O
 clear V O aI
 go_upto_region 13 with (go_at_call 91;refine (HI.out _ _ bG.out).mono ?_;rintro e w4 ⟨rfl,v4,aS,aW⟩;have bH:=Qq aS;have aL:=aW;have bT:=Qq aL;have U:=(aL.keep w aB Qvu (fun e=>by have:=(aA.out _ e.symm).2;omega)).trans aP.out;have cS:=rA0 U;have cT:=rA2 U;have cU:=rA4 U;clear aS aW aL U)
 have bV:=Qq (show bs++[k,(m:Int)].flatMap wI++Yt (k==4) (names.drop 0) (kids.drop 0)=T by rw [<- bW.out];simp)
 have bJ:=Qq bH.out;have bU:=Qq bT.out
 go_wp2_with fail
 go_loopw [57] (fun i wr=>∃ (j:Nat) (cs:Bs) (u':Value),j<=m/\i=.int .i64 j/\Aside (cs++Yt (k==4) (names.drop j) (kids.drop j)=T)/\WAt g wr u' cs/\Xk g W1 u wr u') (fun i _=>m - (intOf i).toNat)
 case atStart=>exact ⟨0,_,_,Q8 _,rfl,bV.out,bJ.out,bU.out⟩
 obtain ⟨j,cs,u',hj,rfl,hE,hA,hS⟩:=hrel
 have D:=(hS.keep w aB Qvu (fun e=>by have:=(aA.out _ e.symm).2;omega)).trans aP.out
 have aT:Vz (fun b=>S b/\b<w) w wr:=fun b hb J=>(hS.keep b Qvu (A.out b hb).1 (A.out b hb).2).trans (bK.out.block b J)
 have aX:=Z8 hA.cell
 have cM:=Z8 D
 obtain ⟨HE,HA,HS,cG,bI⟩:=Qxp hE.out hA hS D aT
 have cI:cs.length<=50000:=by have:=congrArg List.length hE.out;rw [Ql] at this;omega
 have y0:=rA0 D;have y3:=rA3 D
 clear hE hA hS D aT
 by_cases J:j<m
 ·have cJ:(0:Int)<=(j:Int):=Qvu
  have cK:(j:Int)<(m:Int):=Qvu
  obtain ⟨x,hx⟩:∃ x,kids[j]?=some x:=⟨_,Qx (by rw [HM.out];exact J)⟩
  have bP:=Qq (bO.out x (Qy hx))
  have aJ:=Bm (k==4) names kids j x hx
  obtain ⟨kb,cB,q3,l3,q4,l4,rfl,cL,bA,d0,d1,d2,d3,d4⟩:=(aN.out.frame bI.out).val hx
  have bX:=Qq bA;have HX:=Qq hx
  generalize M:Yt (k==4) (names.drop (j+1)) (kids.drop (j+1))=rest at aJ
  have aD:=Qq M
  clear bA hx M
  have aF:cs++Y6 x++rest=T:=by rw [<- HE.out,aJ,List.append_assoc];simp [cA]
  have aY:cs.length+(Y6 x).length<=50000:=by have:=congrArg List.length aF;rw [Ql,Ql] at this;omega
  have bM:=Qq aF;have bQ:=Qq aY
  clear aF aY aJ
  have Z:=Qq (fun W u2 cs2 (hA2:WAt g W u2 cs2) (hS2:Xk g wr u' W u2) (h2:cs2.length+(Y6 x).length<=50000)=>bP.out (fun b=>S b/\b<w) (vcs x q3 l3 q4 l4) g W u2 cs2 (bX.out.move (fun b hb J=>hS2.keep b J (A.out b hb).1 (fun e=>by
    rcases HS.out.at' with h | ⟨q,h,hq⟩
    ·exact (A.out b hb).2 (e.trans h)
    ·rw [h] at e;have:=Qb e;have:=hb.2;omega)) Qyv) (fun b hb _=>⟨(A.out b hb).1,fun e=>by
    rcases hS2.at' with h | ⟨q,h,hq⟩
    ·rcases HS.out.at' with h' | ⟨q',h',hq'⟩
     ·exact (A.out b hb).2 (e.trans (h.trans h'))
     rw [h,h'] at e;have:=Qb e;have:=hb.2;omega
    rw [h] at e;have:=Qb e;have:=hb.2;have:=HS.out.size;omega⟩) hA2 h2)
  unfold vcs at Z
  go_wp2_with (go_at_call 45;refine (Z.out _ u' cs (HA.out.below (Ze _ _)) (Xk.of_below (Ze _ _) (Nat.le_of_lt aX)) bQ.out).mono ?_;rintro e w' ⟨rfl,v',aR,aU⟩;have bE:=Qq aR;have bR:=Qq ((Xk.of_below (v:=u') (Ze wr _) (Nat.le_of_lt aX)).trans aU);clear aR aU)
  go_roundw
  case measure=>simp [intOf];omega
  case rel=>exact ⟨j+1,cs++Y6 x,v',Qvu,by go_num,(by rw [aD.out];exact bM.out),bE.out,HS.out.trans bR.out⟩
 obtain rfl:m=j:=Qvu
 have I:cs=T:=by
  have h:=HE.out
  rw [Mi _ _ _ _ (Nat.le_of_eq HM.out),List.append_nil] at h
  exact h
 have bL:=Qq I
 clear I
 go_wp2_with fail
 go_end0
 exact ⟨rfl,u',by rw [<- bL.out];exact HA.out,bS.out.trans HS.out⟩
theorem Qkb {v:Val} (h:WOk v):U1 v:=by
 induction h with
 | mk k n s names kids hk hn hf hz hs ih=>
  by_cases h0:k=0
  ·exact Lk n s names kids k (.inl h0) hk hn hf hz ih
  by_cases h1:k=1
  ·exact Ag n s names kids k h1 hk hn hf hz ih
  by_cases h2:k=2
  ·exact Lk n s names kids k (.inr h2) hk hn hf hz ih
  by_cases h3:k=3
  ·exact Ap n s names kids k h3 hk hn hf hz ih
  by_cases h4:k=4
  ·exact Qvw n s names kids k h4 hk hn hf hz ih
  exact Tf n s names kids k h0 h1 h2 h3 h4 hk hn hf hz ih
theorem Gy (S:Nat->Prop) (v:Val) (cs:List Value) (w:World) (hw:WOk v) (h:Za S w cs v) (hl:(Y6 v).length<=50000):
  Calls prog 15 #[cs] w (Uv Zt 5 (fun _=>True) w (Y6 v)):=by
 have hv:Za (fun b=>S b/\b<w) w cs v:=h.move (.refl _ _) (fun b hb h=>⟨h,hb⟩)
 have HV:=Qq hv
 obtain ⟨p3,k3,p4,k4,U,_⟩:=Za.cells hv
 simp only [vcs] at U
 subst U
 have HW:=Qq hw;have HL:=Qq hl
 clear h hw hv hl
 go_enter func15,ntmps15
 go_upto_region 2 with fail
 generalize A:(w.alloc _).alloc _=W1
 have D:=eqB A (Zu _ _ _)
 have O:=eqH (b:=w.heap.size) A (Q5 _ _ _)
 have hA:WAt (w+1) W1 (.slice none 0 0) []:=⟨by rw [<- A];exact Q6 _ _ _,[],Own.nil _ _ _ _ _⟩
 obtain ⟨x0,x1,x2,x3,x4⟩:=row5 O
 have aB:=Qq (Qkb HW.out _ _ (w+1) W1 _ _ (HV.out.move (.of_below D) Qyv) (fun b hb _=>⟨by have:=hb.2;omega,fun e=>by simp [Value.ownBlock] at e⟩) hA (by simpa using HL.out))
 have Y:=Qq D
 clear A D O hA
 go_wp2_with (first | (go_at_call 45;refine aB.out.mono ?_;rintro e w2 ⟨rfl,v2,J,N⟩;have V:=Qq J;have I:=Qq (Y.out.trans (N.below.mono (Nat.le_succ _)));clear J N) | (go_at_call 36;refine (Lp _ _ _ _ V.out (by have:=HL.out;simpa using (by omega:(Y6 v).length<=1000000))).mono ?_;rintro e w' ⟨q,qc,qs,rfl,M,T⟩;have aA:=Qq M;have Z:=Qq T;clear M T))
 go_ret
 exact ⟨q,qc,qs,rfl,by have:=aA.out.move I.out.size (fun _ _ _=>rfl);simpa using this,I.out.thn Z.out⟩
theorem Qkr (s:ByteArray) (w:World) (hs:s.size<=maxLen):
  Calls prog 296 #[.string s,.func (.func 310) #[] #[]] w fun e w'=>e=.returned (.int .i64 (tk Fe (bl s)))/\w=w':=by
 unfold maxLen at hs
 go_enter func296,ntmps296
 go_wp2
 go_loop [5] (fun i=>∃ k:Nat,k<=tk Fe (bl s)/\i=.int .i64 k) (fun i=>s.size - (intOf i).toNat)
 case atStart=>exact ⟨0,Q8 _,rfl⟩
 obtain ⟨n,hn,rfl⟩:=hrel
 have D:=Qq hn;clear hn
 by_cases hlt:n<s.size
 ·by_cases hp:Fe s[n]=true
  ·have A:=Qq (D7 D.out hlt hp)
   go_wp2_with (go_at_call 310;refine (Xm _ _).mono ?_;rintro e w' ⟨rfl,rfl⟩)
   go_round
   case rel=>exact ⟨n+1,A.out,by go_num⟩
   case measure=>simp [intOf];omega
  have I:Fe s[n]=false:=by simpa using hp
  have A:=Qq (Be D.out hlt I);clear hp
  go_wp2_with (go_at_call 310;refine (Xm _ _).mono ?_;rintro e w' ⟨rfl,rfl⟩)
  go_ret
  exact ⟨Ys (by rw [A.out]),rfl⟩
 have A:=Qq (E7 D.out hlt)
 go_wp2
 go_ret
 exact ⟨Ys (by rw [A.out]),rfl⟩
theorem Sr (s:ByteArray) (w:World) (hs:s.size<=maxLen):
  Calls prog 296 #[.string s,.func (.func 297) #[] #[]] w fun e w'=>e=.returned (.int .i64 (tk Hb (bl s)))/\w=w':=by
 unfold maxLen at hs
 go_enter func296,ntmps296
 go_wp2
 go_loop [5] (fun i=>∃ k:Nat,k<=tk Hb (bl s)/\i=.int .i64 k) (fun i=>s.size - (intOf i).toNat)
 case atStart=>exact ⟨0,Q8 _,rfl⟩
 obtain ⟨n,hn,rfl⟩:=hrel
 have D:=Qq hn;clear hn
 by_cases hlt:n<s.size
 ·by_cases hp:Hb s[n]=true
  ·have A:=Qq (D7 D.out hlt hp)
   go_wp2_with (go_at_call 297;refine (Rt _ _).mono ?_;rintro e w' ⟨rfl,rfl⟩)
   go_round
   case rel=>exact ⟨n+1,A.out,by go_num⟩
   case measure=>simp [intOf];omega
  have I:Hb s[n]=false:=by simpa using hp
  have A:=Qq (Be D.out hlt I);clear hp
  go_wp2_with (go_at_call 297;refine (Rt _ _).mono ?_;rintro e w' ⟨rfl,rfl⟩)
  go_ret
  exact ⟨Ys (by rw [A.out]),rfl⟩
 have A:=Qq (E7 D.out hlt)
 go_wp2
 go_ret
 exact ⟨Ys (by rw [A.out]),rfl⟩
theorem Qzr (s:ByteArray) (w:World) (hs:s.size<=maxLen):
  Calls prog 296 #[.string s,.func (.func 316) #[] #[]] w fun e w'=>e=.returned (.int .i64 (tk Fv (bl s)))/\w=w':=by
 unfold maxLen at hs
 go_enter func296,ntmps296
 go_wp2
 go_loop [5] (fun i=>∃ k:Nat,k<=tk Fv (bl s)/\i=.int .i64 k) (fun i=>s.size - (intOf i).toNat)
 case atStart=>exact ⟨0,Q8 _,rfl⟩
 obtain ⟨n,hn,rfl⟩:=hrel
 have D:=Qq hn;clear hn
 by_cases hlt:n<s.size
 ·by_cases hp:Fv s[n]=true
  ·have A:=Qq (D7 D.out hlt hp)
   go_wp2_with (go_at_call 316;refine (Ur _ _).mono ?_;rintro e w' ⟨rfl,rfl⟩)
   go_round
   case rel=>exact ⟨n+1,A.out,by go_num⟩
   case measure=>simp [intOf];omega
  have I:Fv s[n]=false:=by simpa using hp
  have A:=Qq (Be D.out hlt I);clear hp
  go_wp2_with (go_at_call 316;refine (Ur _ _).mono ?_;rintro e w' ⟨rfl,rfl⟩)
  go_ret
  exact ⟨Ys (by rw [A.out]),rfl⟩
 have A:=Qq (E7 D.out hlt)
 go_wp2
 go_ret
 exact ⟨Ys (by rw [A.out]),rfl⟩
theorem Lb (s:ByteArray) (a b:Nat):bl (s.extract a b)=((bl s).drop a).take (b - a):=by
 simp [bl,ByteArray.data_extract]
theorem Qjv (s:ByteArray) (a:Nat):bl (s.extract a s.size)=(bl s).drop a:=by
 rw [Lb,Zj];rw [Zq,J4];exact Q9 _
theorem bl_to (s:ByteArray) (b:Nat):bl (s.extract 0 b)=(bl s).take b:=by simp [Lb]
theorem Md (s:ByteArray) (w:World) (h0:0<s.size) (hs:s.size<4294967281):
  Calls prog 317 #[.string s] w fun e w'=>e=.returned (.int .i64 (quo ((bl s).drop 1)))/\Below w w w':=by
 have J:=Rs U5 ((bl s).drop 1)
 rw [Zq,J4 s] at J
 have M:∀ w,Calls prog 303 #[.string (s.extract 1 s.size),.string { data:=#[34,10] }] w fun e w'=>e=.returned (.int .i64 (ixQ ((bl s).drop 1)))/\Below w w w':=by
  intro w
  have:=Ac (s.extract 1 s.size) w (by rw [ByteArray.size_extract];omega)
  rwa [Qjv] at this
 by_cases hlt:tk U5 ((bl s).drop 1)<s.size - 1
 ·have N:ixQ ((bl s).drop 1)=(tk U5 ((bl s).drop 1):Nat):=by unfold ixQ;rw [if_pos (by rw [Zq,J4 s];exact hlt)]
  obtain ⟨k,V⟩:=eX (tk U5 ((bl s).drop 1))
  rw [N,V] at M
  rw [V] at hlt J
  have A:1+k<s.size:=Qvu
  have D:((bl s).drop 1)[k]?=some (s[1+k]'A):=by rw [List.getElem?_drop];exact Ew s _ _
  have T:=Qq M;clear M N
  have Y:=Qq D;have U:=Qq V;clear D V
  by_cases hq:s[1+k]'A=10
  ·have hb:(((s[1+k]'A).toNat:Int)==10)=true:=by rw [hq];rfl
   have I:quo ((bl s).drop 1)=0:=Sq _ (by rw [U.out,Y.out,hq];decide)
   rw [I]
   clear hq I
   go_enter func317,ntmps317
   go_wp2_with (go_at_call 303;refine (T.out _).mono ?_;rintro e w' ⟨rfl,O⟩)
   go_ret
   exact ⟨rfl,O⟩
  have hb:(((s[1+k]'A).toNat:Int)==10)=false:=by
   have:=Dg (s[1+k]'A) 10
   rw [show ((10:UInt8).toNat:Int)=10 from rfl] at this
   rw [<- this];simpa using hq
  have Z:=Hg (p:=U5) (by rw [U.out];exact Y.out)
  have I:quo ((bl s).drop 1)=k+2:=by
   rw [quo_eq _ (by rw [U.out,Y.out];simp [U5] at Z;exact congrArg some (by by_cases e:s[1+k]'A=34;exact e;exact absurd (Z e) hq)),U.out]
  rw [I]
  clear hq I Z
  go_enter func317,ntmps317
  go_wp2_with (go_at_call 303;refine (T.out _).mono ?_;rintro e w' ⟨rfl,O⟩)
  go_ret
  exact ⟨Ys Qvu,O⟩
 have N:ixQ ((bl s).drop 1)=-1:=by unfold ixQ;rw [if_neg (by rw [Zq,J4 s];exact hlt)]
 have I:quo ((bl s).drop 1)=0:=Sq _ (by rw [List.getElem?_eq_none (by rw [Zq,J4 s];omega)];simp)
 rw [N] at M
 rw [I]
 have T:=Qq M;clear M N I J hlt
 go_enter func317,ntmps317
 go_wp2_with (go_at_call 303;refine (T.out _).mono ?_;rintro e w' ⟨rfl,O⟩)
 go_ret
 exact ⟨rfl,O⟩
theorem Od (s:ByteArray) (h:0<s.size):bl s=s[0]::(bl s).drop 1:=by
 have:=Ew s 0 h
 match hl:bl s with
 | []=>rw [hl] at this;simp at this
 | c::t=>rw [hl] at this;simp at this;simp [this]
theorem O7 {k k':IntKind} {a b c d:Int} (h:a=b) (h':c=d):Ending.returned (.tuple #[.int k a,.int k' c])=.returned (.tuple #[.int k b,.int k' d]):=by rw [h,h']
theorem B6 (s:ByteArray) (w:World) (h0:0<s.size) (hs:s.size<4294967281) (hT:J7 w):
  Calls prog 295 #[.string s] w fun e w'=>e=.returned (.tuple #[.int .i64 (good (bl s)).1,.int .i64 (good (bl s)).2])/\Below w w w':=by
 have hm:s.size<=maxLen:=by unfold maxLen;omega
 obtain ⟨c,hc⟩:=eX (s[0]'h0)
 have O:=Qvx c ((bl s).drop 1)
 rw [<- hc,<- Od s h0,hc] at O
 have U:=Dg c 35
 rw [show ((35:UInt8).toNat:Int)=35 from rfl] at U
 have T:=Dg c 34
 rw [show ((34:UInt8).toNat:Int)=34 from rfl] at T
 rw [U,T] at O
 clear U T
 have HT:=Qq hT;clear hT
 have J:=Qq O;clear O
 have V:=Qq hm;clear hm
 by_cases h1:Fe c=true
 ·go_enter func295,ntmps295
  go_wp2_with (first | (go_at_call 296;refine (Qkr _ _ V.out).mono ?_;rintro e w' ⟨rfl,rfl⟩) | (go_at_call 310;refine (Xm _ _).mono ?_;rintro e w' ⟨rfl,rfl⟩))
  go_ret2
  exact ⟨O7 (by rw [J.out];simp [h1]) (by rw [J.out];simp [h1]),Qz _ _⟩
 have A:Fe c=false:=by simpa using h1
 clear h1
 by_cases h2:((c.toNat:Int)==35)=true
 ·go_enter func295,ntmps295
  go_wp2_with (first | (go_at_call 296;refine (Sr _ _ V.out).mono ?_;rintro e w' ⟨rfl,rfl⟩) | (go_at_call 310;refine (Xm _ _).mono ?_;rintro e w' ⟨rfl,rfl⟩))
  go_ret2
  exact ⟨O7 (by rw [J.out];simp [A,h2]) (by rw [J.out];simp [A,h2]),Qz _ _⟩
 have D:((c.toNat:Int)==35)=false:=by simpa using h2
 clear h2
 by_cases h3:Dl c=true
 ·have hn:tk Jw (bl s)<=s.size:=by have:=Rs Jw (bl s);rwa [J4] at this
  have Z:good (bl s)=(if Ff ((bl s).take (tk Jw (bl s)))=true then 7 else 2,tk Jw (bl s)):=by rw [J.out];simp [A,D,h3]
  have hk:∀ w,J7 w->Calls prog 313 #[.string (s.extract 0 (tk Jw (bl s)))] w fun e w'=>e=.returned (.bool (Ff ((bl s).take (tk Jw (bl s)))))/\∃ q,w'=w.drewN q:=by
   intro w h
   have:=Fo (s.extract 0 (tk Jw (bl s))) w h.kws
   rwa [bl_to] at this
  rw [Z]
  have hR:∀ w,Calls prog 296 #[.string s,.func (.func 312) #[] #[]] w fun e w'=>e=.returned (.int .i64 (tk Jw (bl s)))/\w=w':=fun w=>Tx s w V.out
  obtain ⟨n,aA⟩:=eX (tk Jw (bl s))
  rw [aA] at hn hk hR |-
  obtain ⟨b,hb⟩:=eX (Ff ((bl s).take n))
  rw [hb] at hk |-
  have HK:=Qq hk;have HR:=Qq hR
  clear hk hR Z aA hb
  cases b with
  | true=>
   go_enter func295,ntmps295
   go_wp2_with (first | (go_at_call 296;refine (HR.out _).mono ?_;rintro e w' ⟨rfl,rfl⟩) | (go_at_call 313;refine (HK.out _ HT.out).mono ?_;rintro e w' ⟨rfl,q,rfl⟩) | (go_at_call 310;refine (Xm _ _).mono ?_;rintro e w' ⟨rfl,rfl⟩) | (go_at_call 311;refine (Vk _ _).mono ?_;rintro e w' ⟨rfl,rfl⟩))
   go_ret2
   exact ⟨rfl,Zn _ _⟩
  | false=>
   go_enter func295,ntmps295
   go_wp2_with (first | (go_at_call 296;refine (HR.out _).mono ?_;rintro e w' ⟨rfl,rfl⟩) | (go_at_call 313;refine (HK.out _ HT.out).mono ?_;rintro e w' ⟨rfl,q,rfl⟩) | (go_at_call 310;refine (Xm _ _).mono ?_;rintro e w' ⟨rfl,rfl⟩) | (go_at_call 311;refine (Vk _ _).mono ?_;rintro e w' ⟨rfl,rfl⟩))
   go_ret2
   exact ⟨rfl,Zn _ _⟩
 have I:Dl c=false:=by simpa using h3
 clear h3
 by_cases h4:Bx c=true
 ·go_enter func295,ntmps295
  go_wp2_with (first | (go_at_call 296;refine (Sz _ _ V.out).mono ?_;rintro e w' ⟨rfl,rfl⟩) | (go_at_call 310;refine (Xm _ _).mono ?_;rintro e w' ⟨rfl,rfl⟩) | (go_at_call 311;refine (Vk _ _).mono ?_;rintro e w' ⟨rfl,rfl⟩) | (go_at_call 314;refine (Jg _ _).mono ?_;rintro e w' ⟨rfl,rfl⟩))
  go_ret2
  exact ⟨O7 (by rw [J.out];simp [A,D,I,h4]) (by rw [J.out];simp [A,D,I,h4]),Qz _ _⟩
 have M:Bx c=false:=by simpa using h4
 clear h4
 by_cases h5:Fv c=true
 ·go_enter func295,ntmps295
  go_wp2_with (first | (go_at_call 296;refine (Qzr _ _ V.out).mono ?_;rintro e w' ⟨rfl,rfl⟩) | (go_at_call 310;refine (Xm _ _).mono ?_;rintro e w' ⟨rfl,rfl⟩) | (go_at_call 311;refine (Vk _ _).mono ?_;rintro e w' ⟨rfl,rfl⟩) | (go_at_call 314;refine (Jg _ _).mono ?_;rintro e w' ⟨rfl,rfl⟩) | (go_at_call 316;refine (Ur _ _).mono ?_;rintro e w' ⟨rfl,rfl⟩))
  go_ret2
  exact ⟨O7 (by rw [J.out];simp [A,D,I,M,h5]) (by rw [J.out];simp [A,D,I,M,h5]),Qz _ _⟩
 have N:Fv c=false:=by simpa using h5
 clear h5
 by_cases h6:((c.toNat:Int)==34)=true
 ·go_enter func295,ntmps295
  go_wp2_with (first | (go_at_call 317;refine (Md _ _ h0 hs).mono ?_;rintro e w' ⟨rfl,hw⟩) | (go_at_call 310;refine (Xm _ _).mono ?_;rintro e w' ⟨rfl,rfl⟩) | (go_at_call 311;refine (Vk _ _).mono ?_;rintro e w' ⟨rfl,rfl⟩) | (go_at_call 314;refine (Jg _ _).mono ?_;rintro e w' ⟨rfl,rfl⟩) | (go_at_call 316;refine (Ur _ _).mono ?_;rintro e w' ⟨rfl,rfl⟩))
  go_ret2
  exact ⟨O7 (by rw [J.out];simp [A,D,I,M,N,h6]) (by rw [J.out];simp [A,D,I,M,N,h6]),hw⟩
 have Y:((c.toNat:Int)==34)=false:=by simpa using h6
 clear h6
 go_enter func295,ntmps295
 go_wp2_with (first | (go_at_call 318;refine (Li _ _ HT.out).mono ?_;rintro e w' ⟨rfl,rfl⟩) | (go_at_call 310;refine (Xm _ _).mono ?_;rintro e w' ⟨rfl,rfl⟩) | (go_at_call 311;refine (Vk _ _).mono ?_;rintro e w' ⟨rfl,rfl⟩) | (go_at_call 314;refine (Jg _ _).mono ?_;rintro e w' ⟨rfl,rfl⟩) | (go_at_call 316;refine (Ur _ _).mono ?_;rintro e w' ⟨rfl,rfl⟩))
 go_ret2
 exact ⟨O7 (by rw [J.out];simp [A,D,I,M,N,Y]) (by rw [J.out];simp [A,D,I,M,N,Y]),Qz _ _⟩
theorem Bo (a b:Bs):Yg a b=lex (Nk a) (Nk b):=by
 have h:=Uj a b [] []
 rw [List.append_nil,List.append_nil,show lex [] []=0 from rfl,Ko] at h
 exact h.symm
theorem Pl:∀ {a b:Bs},Yg a b=0->a=b
 | [],[],_=>rfl
 | [],_::_,h=>by simp [Yg] at h
 | _::_,[],h=>by simp [Yg] at h
 | a::s,b::t,h=>by
  unfold Yg thn at h
  split at h
  ·rename_i h0
   have hab:a.toNat=b.toNat:=by
    by_cases e:(a.toNat:Int)=(b.toNat:Int)
    ·exact_mod_cast e
    exact absurd h0 (Eg e)
   rw [UInt8.toNat_inj.1 hab,Pl h]
  rename_i h0
  exact absurd h h0
theorem Wm {a b c:Bs} (h1:Yg a b<0) (h2:Yg b c<0):Yg a c<0:=by
 rw [Bo] at *
 exact Nt h1 h2
theorem Qzv {a b:Bs} (h:¬ Yg a b<0) (hne:a≠b):Yg b a<0:=by
 have h0:Yg a b≠0:=fun e=>hne (Pl e)
 have h1:Yg b a=- Yg a b:=by rw [Bo,Bo,Du]
 omega
abbrev UpB (l:List Bs):Prop:=l.Pairwise (fun a b=>Yg a b<0)
theorem twl_take (p:Bs->Bool) (l:List Bs):l.take (l.takeWhile p).length=l.takeWhile p:=by
 induction l with
 | nil=>rfl
 | cons a l ih=>
  rw [List.takeWhile_cons]
  cases p a
  ·rfl
  simp only [if_true,List.length_cons,List.take_succ_cons,ih]
theorem twl_drop (p:Bs->Bool) (l:List Bs):l.drop (l.takeWhile p).length=l.dropWhile p:=by
 induction l with
 | nil=>rfl
 | cons a l ih=>
  rw [List.takeWhile_cons,List.dropWhile_cons]
  cases p a
  ·rfl
  simp only [if_true,List.length_cons,List.drop_succ_cons,ih]
theorem insAt_up:∀ {l:List Bs} {x:Bs},UpB l->x ∉ l->UpB (X5 l (below l x) x):=by
 intro l x h hx
 unfold X5 below
 rw [twl_take,twl_drop]
 induction l with
 | nil=>simp
 | cons a l ih=>
  obtain ⟨D,h2⟩:=List.pairwise_cons.1 h
  have I:x ∉ l:=fun e=>hx (List.mem_cons_of_mem _ e)
  rw [List.takeWhile_cons,List.dropWhile_cons]
  by_cases hp:Yg a x<0
  ·simp only [hp,decide_true,if_true,List.cons_append]
   refine List.pairwise_cons.2 ⟨fun b hb=>?_,ih h2 I⟩
   rcases Z4.1 hb with hb | hb
   ·exact D b ((List.takeWhile_sublist _).subset hb)
   rcases Z3.1 hb with rfl | hb
   ·exact hp
   exact D b ((List.dropWhile_sublist _).subset hb)
  simp only [hp,decide_false,Bool.false_eq_true,if_false,List.nil_append]
  have A:Yg x a<0:=Qzv hp (fun e=>hx (by rw [e];exact List.mem_cons_self))
  refine List.pairwise_cons.2 ⟨fun b hb=>?_,h⟩
  rcases Z3.1 hb with rfl | hb
  ·exact A
  exact Wm A (D b hb)
theorem Ln {T:Type} {l:List T} {i:Nat} {x y:T} (h:y ∈ X5 l i x):y ∈ l\/y=x:=by
 unfold X5 at h
 rcases Z4.1 h with h | h
 ·exact .inl (List.mem_of_mem_take h)
 rcases Z3.1 h with h | h
 ·exact .inr h
 exact .inl (Zw h)
theorem Lr:∀ (k:Nat) (z:List (Bs × Val)),z.length=k->(z.map Prod.fst).Nodup->UpB (Yu z).1/\(∀ y ∈ (Yu z).1,y ∈ z.map Prod.fst)/\∀ y ∈ (Yu z).2,y ∈ z.map Prod.snd
 | 0,z,h,_=>by rw [Zy h];exact ⟨List.Pairwise.nil,fun y hy=>by simp [Yu] at hy,fun y hy=>by simp [Yu] at hy⟩
 | k+1,z,h,hd=>by
  obtain ⟨z',p,rfl⟩:∃ z' p,z=z'++[p]:=⟨z.dropLast,z.getLast (by intro e;subst e;simp at h),(List.dropLast_concat_getLast (by intro e;subst e;simp at h)).symm⟩
  rw [List.map_append,List.nodup_append] at hd
  obtain ⟨h1,h2,h3⟩:=Lr k z' (by simpa using h) hd.1
  rw [Nd]
  unfold Jc
  refine ⟨insAt_up h1 (fun e=>hd.2.2 _ (h2 _ e) p.1 Qxz rfl),fun y hy=>?_,fun y hy=>?_⟩
  ·rcases Ln hy with hy | rfl
   ·rw [List.map_append];exact List.mem_append_left _ (h2 y hy)
   simp
  rcases Ln hy with hy | rfl
  ·rw [List.map_append];exact List.mem_append_left _ (h3 y hy)
  simp
theorem Qvj {names:List Bs} {vals:List Val} (hl:names.length=vals.length) (hw:∀ x ∈ names,V8 x) (hd:names.Nodup) (hv:∀ v ∈ vals,X6 v):X6 (Jj (Yu (names.zip vals)).1 (Yu (names.zip vals)).2)/\(Yu (names.zip vals)).2.length=names.length:=by
 have h1:(names.zip vals).map Prod.fst=names:=List.map_fst_zip (Nat.le_of_eq hl)
 have h2:(names.zip vals).map Prod.snd=vals:=List.map_snd_zip (Nat.le_of_eq hl.symm)
 obtain ⟨a,b,c⟩:=Lr _ (names.zip vals) rfl (by rw [h1];exact hd)
 obtain ⟨l1,l2⟩:=U9 (names.zip vals)
 rw [h1] at b
 rw [h2] at c
 refine ⟨.record _ _ (by rw [l1,l2]) (fun x D=>hw x (b x D)) (fun i x y D hy=>?_) (fun v A=>hv v (c v A)),by rw [l2,List.length_zip,<- hl,Nat.min_self]⟩
 obtain ⟨h3,rfl⟩:=Qj D
 obtain ⟨h4,rfl⟩:=Qj hy
 exact List.pairwise_iff_getElem.1 a i (i+1) h3 h4 Qvu
end Go.Proofs.YtlanplhphiikjaaGreatDoor
