import Derived.Test.YtdpibdpbgokmoaaGreatDoorC40
set_option maxRecDepth 100000
set_option maxHeartbeats 400000000
namespace Go.Proofs.YtdpibdpbgokmoaaGreatDoor
open Go.RowKit Go.Shelf Go.Lib Tryz
theorem encI_app {a b:Int} {x y:Bs} (h:J2 a++x=J2 b++y):a=b∧x=y:=by
 unfold J2 at h
 rw [List.append_assoc,List.append_assoc] at h
 have:=Rh (zz a) (zz a) (zz b) x y (Q9 _) (List.append_cancel_left h)
 exact ⟨zz_inj this.1,this.2⟩
theorem kb_inj:∀ {a b:List Int},a.length=b.length→kb a=kb b→a=b
 | [],[],_,_=>rfl
 | x::a,y::b,hl,h=>by
  have h2:J2 x++kb a=J2 y++kb b:=h
  obtain ⟨rfl,h3⟩:=encI_app h2
  rw [kb_inj (by simpa using hl) h3]
def L6 (ks:List Bs) (k j:Nat):Prop:=k<j∧∃ a,ks[k]?=some a∧ks[j]?=some a
theorem Ke {ks:List Bs} {i a:Nat} (hi:i<ks.length) (h:Yo (ks.take i) (ks.getD i [])=some a):L6 ks a i∧∀ c,c<a→¬ L6 ks c i:=by
 unfold Yo at h
 rw [List.findIdx?_eq_some_iff_getElem] at h
 obtain ⟨ha,he,hb⟩:=h
 rw [Qm] at ha
 have hk:ks[i]?=some (ks.getD i []):=by rw [Qs,Qx hi];rfl
 refine ⟨⟨Qqj,ks.getD i [],?_,hk⟩,fun c hc=>?_⟩
 ·have:(ks.take i)[a]=ks.getD i []:=by simpa using he
  rw [← this,List.getElem_take]
  exact Qx Qqj
 rintro ⟨A,x,h1,h2⟩
 have h3:=hb c hc
 rw [hk] at h2
 obtain rfl:ks.getD i []=x:=Qb h2
 have h4:(ks.take i)[c]'(by rw [Qm];omega)=ks.getD i []:=by
  rw [List.getElem_take]
  exact (Qj h1).2
 simp [h4] at h3
theorem N1 {ks:List Bs} {i:Nat} (hi:i<ks.length) (h:Yo (ks.take i) (ks.getD i [])=none) (c:Nat):¬ L6 ks c i:=by
 rintro ⟨A,x,h1,h2⟩
 have hk:ks[i]?=some (ks.getD i []):=by rw [Qs,Qx hi];rfl
 rw [hk] at h2
 obtain rfl:ks.getD i []=x:=Qb h2
 unfold Yo at h
 rw [List.findIdx?_eq_none_iff] at h
 have h3:=h (ks.getD i []) (by
  obtain ⟨hc,he⟩:=Qj h1
  rw [List.mem_take_iff_getElem]
  exact ⟨c,Qqj,he⟩)
 simp at h3
theorem Ld {ks:List Bs} {n k j:Nat} (hn:k<n) (hk:∀ c d,c≤k→d<j→¬ L6 ks c d):∀ i,i≤j→i≤ks.length→k<(ust n ks i).1
 | 0,_,_=>hn
 | i+1,hi,hl=>by
  have ih:=Ld hn hk i Qqj Qqj
  have e:ust n ks (i+1)=U5 (ks.take i) (ust n ks i) (ks.getD i []):=rfl
  rw [e]
  generalize ust n ks i=st at ih ⊢
  unfold U5
  cases hf:Yo (ks.take i) (ks.getD i []) with
  | none=>exact ih
  | some a=>
   show k<(if a<st.1 then (a,(ks.take i).length) else st).1
   split
   ·have:=(Ke Qqj hf).1
    have h2:¬ a≤k:=fun h=>hk a i h Qqj this
    show k<a
    omega
   exact ih
theorem Nn {ks:List Bs} {n k j i0:Nat} (h0:ust n ks i0=(k,j)) (hk:∀ c d,c<k→¬ L6 ks c d):∀ m,i0+m≤ks.length→ust n ks (i0+m)=(k,j)
 | 0,_=>h0
 | m+1,hl=>by
  have ih:=Nn h0 hk m Qqj
  show U5 (ks.take (i0+m)) (ust n ks (i0+m)) (ks.getD (i0+m) [])=_
  rw [ih]
  unfold U5
  cases hf:Yo (ks.take (i0+m)) (ks.getD (i0+m) []) with
  | none=>rfl
  | some a=>
   show (if a<k then _ else (k,j))=(k,j)
   rw [if_neg]
   intro h
   exact hk a _ h (Ke Qqj hf).1
theorem Wl {ks:List Bs} {k j:Nat} (hp:L6 ks k j) (hk:∀ c d,c<k→¬ L6 ks c d) (hj:∀ d,d<j→¬ L6 ks k d):ust ks.length ks ks.length=(k,j):=by
 have A:j<ks.length:=by obtain ⟨_,a,_,h⟩:=hp;exact (Qj h).1
 have h1:k<(ust ks.length ks j).1:=Ld (j:=j) (by have:=hp.1;omega) (fun c d hc hd h=>by
  rcases Nat.lt_or_ge c k with D | D
  ·exact hk c d D h
  obtain rfl:c=k:=Qqj
  exact hj d hd h) j (Q9 _) Qqj
 have D:ust ks.length ks (j+1)=(k,j):=by
  show U5 (ks.take j) (ust ks.length ks j) (ks.getD j [])=_
  generalize ust ks.length ks j=st at h1 ⊢
  unfold U5
  cases hf:Yo (ks.take j) (ks.getD j []) with
  | none=>exact absurd hp (N1 A hf k)
  | some a=>
   obtain ⟨h3,h4⟩:=Ke A hf
   obtain rfl:a=k:=by
    rcases Nat.lt_trichotomy a k with h | h | h
    ·exact absurd h3 (hk a j h)
    ·exact h
    exact absurd hp (h4 k h)
   show (if a<st.1 then (a,(ks.take j).length) else st)=_
   rw [if_pos h1,Qm,Z0 Qqj]
 have:=Nn D hk (ks.length - (j+1)) Qqj
 rwa [show j+1+(ks.length - (j+1))=ks.length by omega] at this
theorem M0 (K:Val→List Val) (q:Val→Val→Bool) (hq:∀ x u,eqL eqv (K x) (K u)=q x u):∀ rows:List Val,
  (Ju K rows=Ft.zero∧∀ (k j:Nat) (x u:Val),k<j→rows[k]?=some x→rows[j]?=some u→q x u=false) ∨
  ∃ (k j:Nat) (x u:Val),k<j∧rows[k]?=some x∧rows[j]?=some u∧q x u=true∧Ju K rows=⟨11,[],x,u⟩∧(∀ (c d:Nat) (y z:Val),c<k→c<d→rows[c]?=some y→rows[d]?=some z→q y z=false)∧∀ (d:Nat) (z:Val),k<d→d<j→rows[d]?=some z→q x z=false
 | []=>.inl ⟨rfl,fun k j x u _ h=>by simp at h⟩
 | v::l=>by
  cases hf:l.find? (fun u=>eqL eqv (K v) (K u)) with
  | some u=>
   refine .inr ?_
   have hf2:=hf
   rw [List.find?_eq_some_iff_getElem] at hf2
   obtain ⟨D,i,hi,he,hb⟩:=hf2
   refine ⟨0,i+1,v,u,Qqj,rfl,by rw [Qh,Qx hi,he],by rw [← hq];exact D,by rw [Ju,hf],fun c d y z hc=>Qqj,fun d z hd M A=>?_⟩
   obtain ⟨d,rfl⟩:∃ e,d=e+1:=⟨d - 1,Qqj⟩
   rw [Qh] at A
   obtain ⟨O,I⟩:=Qj A
   have:=hb d Qqj
   rw [I,hq] at this
   simpa using this
  | none=>
   have hn:=hf
   rw [List.find?_eq_none] at hn
   have h0:∀ (d:Nat) (z:Val),l[d]?=some z→q v z=false:=fun d z A=>by
    have:=hn z (Qy A)
    rw [hq] at this
    simpa using this
   have hk:Ju K (v::l)=Ju K l:=by rw [Ju,hf]
   rcases M0 K q hq l with ⟨h1,G⟩ | ⟨k,j,x,u,h1,G,h3,h4,h5,h6,h7⟩
   ·refine .inl ⟨by rw [hk,h1],fun k j x u T hx D=>?_⟩
    obtain ⟨j,rfl⟩:∃ e,j=e+1:=⟨j - 1,Qqj⟩
    rw [Qh] at D
    cases k with
    | zero=>
     obtain rfl:v=x:=Qb hx
     exact h0 j u D
    | succ k=>exact G k j x u Qqj (by simpa using hx) D
   refine .inr ⟨k+1,j+1,x,u,Qqj,by simpa using G,by simpa using h3,h4,by rw [hk,h5],fun c d y z hc J hy A=>?_,fun d z hd N A=>?_⟩
   ·obtain ⟨d,rfl⟩:∃ e,d=e+1:=⟨d - 1,Qqj⟩
    rw [Qh] at A
    cases c with
    | zero=>
     obtain rfl:v=y:=Qb hy
     exact h0 d z A
    | succ c=>exact h6 c d y z Qqj Qqj (by simpa using hy) A
   obtain ⟨d,rfl⟩:∃ e,d=e+1:=⟨d - 1,Qqj⟩
   exact h7 d z Qqj Qqj (by simpa using A)
theorem Ce {K:Val→List Val} {I:Val→List Int} {m:Nat} {rows:List Val} (hK:∀ x ∈ rows,K x=(I x).map Y5) (hl:∀ x ∈ rows,(I x).length=m):
  Uo rows (ust rows.length (rows.map fun x=>kb (I x)) rows.length)=Ju K rows:=by
 have M:(rows.map fun x=>kb (I x)).length=rows.length:=Z7 _
 have A:∀ k j,L6 (rows.map fun x=>kb (I x)) k j→∃ x u,k<j∧rows[k]?=some x∧rows[j]?=some u∧eqL eqv (K x) (K u)=true:=by
  rintro k j ⟨aA,a,O,D⟩
  rw [List.getElem?_map,Option.map_eq_some_iff] at O D
  obtain ⟨x,Y,rfl⟩:=O
  obtain ⟨u,V,he⟩:=D
  refine ⟨x,u,aA,Y,V,?_⟩
  have J:=Qy Y;have G:=Qy V
  rw [hK x J,hK u G,kb_inj (by rw [hl x J,hl u G]) he]
  exact Nk eqv_refl _
 rcases M0 K (fun x u=>eqL eqv (K x) (K u)) (fun _ _=>rfl) rows with ⟨O,D⟩ | ⟨k,j,x,u,O,D,Z,h4,h5,h6,h7⟩
 ·rw [O]
  exact Bv M fun i j a b T ha hb e=>by
   obtain ⟨x,u,_,Y,V,U⟩:=A i j ⟨T,a,ha,by rw [hb,e]⟩
   have:=D i j x u T Y V
   rw [U] at this;cases this
 have hp:L6 (rows.map fun x=>kb (I x)) k j:=by
  refine ⟨O,kb (I x),by rw [List.getElem?_map,D];rfl,?_⟩
  have J:=Qy D;have G:=Qy Z
  rw [hK x J,hK u G] at h4
  rw [List.getElem?_map,Z,No h4];rfl
 have e:=Wl hp (fun c d hc h=>by
  obtain ⟨y,z,N,hy,hz,U⟩:=A c d h
  have:=h6 c d y z hc N hy hz
  rw [U] at this;cases this) (fun d hd h=>by
  obtain ⟨y,z,N,hy,hz,U⟩:=A k d h
  obtain rfl:x=y:=Qb (D.symm.trans hy)
  have:=h7 d z N hd hz
  rw [U] at this;cases this)
 rw [M] at e
 have aD:=(Qj D).1
 rw [e,h5]
 unfold Uo
 rw [if_neg (by show ¬ k=rows.length;omega)]
 show (⟨11,[],rows.getD k Val.zero,rows.getD j Val.zero⟩:Ft)=_
 rw [Qs,Qs,D,Z];rfl
theorem Hq {n:Nat} {cf cf':Nat→Nat→Ft} {nm:Nat→Bs} {f f':Ft} (h:U0 n cf nm f) (h':U0 n cf' nm f') (hc:∀ c i,c<5→i<n→(∀ c' i',i'<n→c'<c→(cf c' i').code=0)→cf c i=cf' c i):f=f':=by
 have N:∀ U,U≤5→(∀ c i,c<U→i<n→(cf c i).code=0)→∀ c i,c≤U→c<5→i<n→cf c i=cf' c i:=fun U _ V c i I G M=>hc c i G M (fun c' i' A O=>V c' i' Qqj A)
 rcases h with ⟨rfl,V⟩ | ⟨c,i,G,M,T,rfl,hb⟩
 ·rcases h' with ⟨rfl,_⟩ | ⟨c',i',D,A,J,rfl,_⟩
  ·rfl
  refine absurd ?_ J
  rw [← N 5 (Q9 _) (fun c i hc M=>V c i hc M) c' i' Qqj D A]
  exact V c' i' D A
 have I:=N c Qqj (fun c' i' O A=>hb c' i' A (.inl O))
 rcases h' with ⟨rfl,Z⟩ | ⟨c',i',D,A,J,rfl,Y⟩
 ·refine absurd ?_ T
  rw [I c i (Q9 _) G M]
  exact Z c i G M
 have e1:¬ (c'<c∨c'=c∧i'<i):=fun h=>J (by rw [← I c' i' Qqj D A];exact hb c' i' A h)
 have e2:¬ (c<c'∨c=c'∧i<i'):=fun h=>T (by rw [I c i (Q9 _) G M];exact Y c i M h)
 obtain rfl:c=c':=Qqj
 obtain rfl:i=i':=Qqj
 rw [I c i (Q9 _) G M]
theorem Pm {s:Sc} {l:List Rel} (h:l.length≠s.tables.length):Uy s l=false:=Ji _ _ _ (fun e=>h e.symm)
theorem Bp (S0 S1:Nat→Prop) (s:Sc) (cs:List Value) (lv:Value) (l:List Rel) (w:World) (hs:Xu S0 w cs s) (hl0:Sl Y7 S1 w lv l) (hlen:l.length≠s.tables.length):
  Calls prog 38 #[cs,lv] w fun e w'=>e=.returned (.bool false)∧Below w w w':=by
 obtain ⟨uv,tv,rfl,hu,ht⟩:=hs
 obtain ⟨up,uc,rfl,_⟩:=hu.len
 obtain ⟨tp,tc,rfl,_⟩:=ht.len
 obtain ⟨lp,lc,rfl,_⟩:=hl0.len
 obtain ⟨n,hn⟩:=eX (s.tables.length)
 obtain ⟨m,hm⟩:=eX (l.length)
 rw [hn] at hlen ⊢
 rw [hm] at hlen ⊢
 have A:((m:Int) != (n:Int))=true:=by rw [bne_iff_ne];omega
 clear hu ht hl0 hn hm hlen
 go_enter func38,ntmps38
 go_wp2_with fail
 go_ret
 exact ⟨rfl,Zg _ _⟩
theorem Mi (S0 S1:Nat→Prop) (s:Sc) (cs:List Value) (lv:Value) (l:List Rel) (w:World) (hs:Xu S0 w cs s) (hl0:Sl Y7 S1 w lv l) (hlen:l.length≠s.tables.length):
  Calls prog 10 #[cs,lv] w (Xt w s l (cfR s l)):=by
 have aA:=Qq (fun W (hW:Below w w W)=>Bp S0 S1 s cs lv l W (hs.below hW) (hl0.below hW) hlen)
 have Z:=Qq (Pm hlen)
 obtain ⟨uv,tv,rfl,V,U⟩:=hs
 have hu:=V.up
 have ht:=U.up
 have hl:=hl0.up
 obtain ⟨up,uc,rfl,_⟩:=hu.len
 obtain ⟨tp,tc,rfl,aC⟩:=ht.len
 obtain ⟨lp,lc,rfl,_⟩:=hl.len
 clear hl0 V U hu ht hl hlen aC
 go_enter func10,ntmps10
 go_upto_region 1 with fail
 generalize D:(w.alloc _).alloc _=W1
 have O:=eqB D (Zt _ _ _)
 have G:=eqH (b:=w.heap.size) D (Q5 _ _ _)
 have I:=eqH (b:=w.heap.size+1) D (Q6 _ _ _)
 obtain ⟨J,aF,aB⟩:=Qqo O G I
 have aD:=Z8 I
 obtain ⟨c0,c1⟩:=row2 G
 clear D O G I
 go_upto_region 2 with (go_at_call 38;refine (aA.out _ J.out).mono ?_;rintro e w5 ⟨rfl,T⟩;have M:=Qq (show Below W1 W1 w5 from T);clear T)
 clear c0 c1
 have A:=kE M.out aD aB.out
 obtain ⟨y0,y1,y2,y3,y4,y5,y6,y7,y8,y9,aI,aJ⟩:=row12 A
 obtain ⟨f0,f1,f2,f3,f4,f5,f6,f7,f8,f9,aG,aH⟩:=frz12 A
 have N:=Qq A
 clear A
 go_wp2_with fail
 show bodyPost _ _ _ _ _ (Yb w5 (w+1) (.int .i64 1) Qqe Qqd Qqd Qqe Qqf Qqf Qqd Qqd Qqe Qqf Qqf)
 have Y:Below w w (Yb w5 (w+1) (.int .i64 1) Qqe Qqd Qqd Qqe Qqf Qqf Qqd Qqd Qqe Qqf Qqf):=(Yy (J.out.thn M.out) Qqj)
 exact Q7 (v:=.agg #[.int .i64 1,Qqe,Qqd,Qqd,Qqe,Qqf,Qqf,Qqd,Qqd,Qqe,Qqf,Qqf]) (by simp [results,results10,go_sem,Ya N.out]) rfl (D7 (c1:=[.int .i64 0,.int .i64 0,.string ⟨#[]⟩,.slice none 0 0,.slice none 0 0]) (c2:=[.int .i64 0,.int .i64 0,.string ⟨#[]⟩,.slice none 0 0,.slice none 0 0]) (rf_arg Z.out) (Yw _ _) (Yw _ _) (Q8 _) Y)
theorem Es (HCk:Kx) (S0 S1:Nat→Prop) (s:Sc) (cs:List Value) (lv:Value) (l:List Rel) (w:World) (hs:Xu S0 w cs s) (hl0:Sl Y7 S1 w lv l) (hsm:Ko s.sums) (hT:∀ t ∈ s.tables,Mj t) (hR:∀ r ∈ l,∀ v ∈ r.rows,Vp v):
  Calls prog 10 #[cs,lv] w (Xt w s l (cfR s l)):=by
 by_cases h:l.length=s.tables.length
 ·exact HCk S0 S1 s cs lv l w hs hl0 h hsm hT hR
 exact Mi S0 S1 s cs lv l w hs hl0 h
end Go.Proofs.YtdpibdpbgokmoaaGreatDoor
