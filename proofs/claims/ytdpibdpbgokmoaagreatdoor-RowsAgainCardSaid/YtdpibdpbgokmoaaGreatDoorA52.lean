/- RowsAgain returns true for every input, and each argument reads afterwards as it read before. Condition: when the call begins, the listed package variables hold what the program's own text lays there (tied to that text). -/
import Derived.Test.YtdpibdpbgokmoaaGreatDoorA49
import Derived.Test.YtdpibdpbgokmoaaGreatDoorA51
import Derived.Test.YtdpibdpbgokmoaaGreatDoorRows
import Derived.Test.YtdpibdpbgokmoaaGreatDoorCards
import Derived.Test.YtdpibdpbgokmoaaGreatDoorTie
set_option maxRecDepth 100000
set_option maxHeartbeats 400000000
namespace Go.Proofs.YtdpibdpbgokmoaaGreatDoor
open Go.RowKit Go.Shelf Go.Lib _root_.Go.Proofs.Tryz
theorem Ef {k:Nat} {two ref third:Bool} {t:Tbl} (h:t ∈ (Gen.schema k two ref third).tables):Oz (Gen.schema k two ref third) t:=by
 have hu:(Yw (Gen.schema k two ref third).tables [117]).isSome=true:=by cases third <;> rfl
 unfold Gen.schema at h
 rcases Z4.1 h with h | h
 ·rcases Z3.1 h with rfl | h
  ·refine ⟨La (by simp only [List.pairwise_cons];decide),Ib,Ib,?_,by cases two <;> simp,by cases two <;> simp,?_⟩
   ·intro q D
    have G:q=[98]\/q=[97]:=by cases two <;> simp at D <;> simp [D]
    rcases G with rfl | rfl
    ·exact ⟨1,_,rfl,rfl,rfl⟩
    exact ⟨0,_,rfl,rfl,rfl⟩
   intro r A
   have I:r.table=[117]:=by cases ref <;> simp at A <;> simp [A]
   rw [I];exact hu
  obtain rfl:=Z5.1 h
  refine ⟨La Ih,Ib,Ib,?_,Ib,Ib,λr A=>by simp at A⟩
  intro q D
  obtain rfl:=Z5.1 D
  exact ⟨0,_,rfl,rfl,rfl⟩
 cases third with
 | false=>simp at h
 | true=>
  obtain rfl:=Z5.1 h
  refine ⟨La Ih,Ib,Ib,?_,Ib,Ib,?_⟩
  ·intro q D
   obtain rfl:=Z5.1 D
   exact ⟨0,_,rfl,rfl,rfl⟩
  intro r A
  rcases Z3.1 A with rfl | A
  ·rfl
  obtain rfl:=Z5.1 A
  rfl
theorem Wn {k:Nat} {two ref third:Bool} {t:Tbl} (h:t ∈ (Gen.schema k two ref third).tables) {v:Val} (hv:Y7 v) (hty:Ui [Gen.hue] t v=true):Ec t v (Vl 8 t v):=by
 unfold Gen.schema at h
 rcases Z4.1 h with h | h
 ·rcases Z3.1 h with rfl | h
  ·exact sat_t rfl rfl hv hty
  obtain rfl:=Z5.1 h
  exact Ae rfl hv
 cases third with
 | false=>simp at h
 | true=>
  obtain rfl:=Z5.1 h
  exact Ae rfl hv
def cfP (s:Sc) (l:List Rel):Nat->Nat->Ft:=cfOf s l (λi=>Ui s.sums (s.tables.getD i Tbl.zero)) (λi=>Vl 8 (s.tables.getD i Tbl.zero)) (λi=>Br (s.tables.getD i Tbl.zero))
theorem genCheck {k:Nat} {two ref third:Bool} (S0 S1:Nat->Prop) (cs:List Value) (lv:Value) (l:List Rel) (w:World) (hs:Ve S0 w cs (Gen.schema k two ref third)) (hl:Sl Yk S1 w lv l) (hkw:Xs w) (hg:∀ r ∈ l,(∀ v ∈ r.rows,Kb v)/\r.rows.length<=8):
  Calls prog 9 #[cs,lv] w (Jq w (Gen.schema k two ref third) l (cfP (Gen.schema k two ref third) l)):=by
 have hG:=Gg k two ref third
 have I:∀ t ∈ (Gen.schema k two ref third).tables,Oz (Gen.schema k two ref third) t:=λt J=>Ef J
 have G:∀ t ∈ (Gen.schema k two ref third).tables,∀ v,Y7 v->Ui (Gen.schema k two ref third).sums t v=true->Ec t v (Vl 8 t v):=λt J v U h=>Wn J U h
 generalize Gen.schema k two ref third=s at hs hG I G |-
 have T:Dd s.sums:=λu hu c O=>(hG.sums u hu c O).1
 refine A8 S0 S1 s cs lv l (λi=>Ui s.sums (s.tables.getD i Tbl.zero)) (λi=>Vl 8 (s.tables.getD i Tbl.zero)) (λi=>Br (s.tables.getD i Tbl.zero)) w hs hl hkw (λt J=>(hG.ok t J).key) (λi t r J hr=>?_)
 have e2:s.tables.getD i Tbl.zero=t:=by rw [Qs,J];rfl
 have D:=Qy J
 have A:=hg r (Qy hr)
 have M:=I t D
 simp only [e2]
 exact ⟨M.srt,M.few,M.some,λx N=>⟨(A.1 x N).good,Wz s.sums x [] _ _ (Ox s.sums) (λu _ y hy=>by
  obtain ⟨c,O,rfl⟩:=List.mem_map.1 hy
  exact hasP_at s.sums T u c.type ((hG.ok t D).types c O))⟩,λh=>T9 M (λv U=>(A.1 v U).good) h,by have:=A.2;omega,(hG.ok t D).key,λh x N=>G t D x (A.1 x N).good (h x N)⟩
theorem eqL_dec {a b:List Bs}:Iu (λx y=>decide (x=y)) a b=decide (a=b):=by
 by_cases h:a=b
 ·subst h
  rw [decide_eq_true rfl]
  exact Nr (λx=>Ib) a
 rw [decide_eq_false h]
 cases e:Iu (λx y=>decide (x=y)) a b with
 | false=>rfl
 | true=>exact absurd (Td e) h
theorem Qzw {us:List Sm} {t:Tbl} (h:Jd t.columns=(t.columns.map Col.name,t.columns.map Col.type)):Ui us t=De us t:=by
 funext v
 unfold Ui BP De
 rw [h,eqL_dec]
theorem Rn {k:Nat} {two ref third:Bool} {t:Tbl} (h:t ∈ (Gen.schema k two ref third).tables):Jd t.columns=(t.columns.map Col.name,t.columns.map Col.type):=by
 unfold Gen.schema at h
 rcases Z4.1 h with h | h
 ·rcases Z3.1 h with rfl | h
  ·rfl
  obtain rfl:=Z5.1 h;rfl
 cases third with
 | false=>simp at h
 | true=>obtain rfl:=Z5.1 h;rfl
theorem cf_same {s:Sc} {l:List Rel} (hS:∀ t ∈ s.tables,Oz s t) (hR:∀ t ∈ s.tables,Jd t.columns=(t.columns.map Col.name,t.columns.map Col.type)) (hg:∀ r ∈ l,∀ v ∈ r.rows,Y7 v) (hlen:l.length=s.tables.length) (c i:Nat) (hc:c<5) (hi:i<s.tables.length) (hz:∀ c' i',i'<s.tables.length->c'<c->(cfP s l c' i').code=0):cfP s l c i=cfR s l c i:=by
 obtain ⟨t,ht⟩:∃ t,s.tables[i]?=some t:=⟨_,Qx hi⟩
 obtain ⟨r,hr⟩:∃ r,l[i]?=some r:=⟨_,Qx Ia⟩
 have e1:(l.getD i ⟨[],[]⟩).rows=r.rows:=by rw [Qs,hr];rfl
 have e2:s.tables.getD i Tbl.zero=t:=by rw [Qs,ht];rfl
 have D:=Qy ht
 match c,hc with
 | 0,_=>rfl
 | 1,_=>
  show X9 9 (Ui s.sums (s.tables.getD i Tbl.zero)) _=X9 9 (De s.sums (s.tables.getD i Tbl.zero)) _
  rw [e2,Qzw (hR t D)]
 | 2,_=>
  have h1:(X9 9 (Ui s.sums (s.tables.getD i Tbl.zero)) (l.getD i ⟨[],[]⟩).rows).code=0:=hz 1 i hi Ia
  show Uy (l.getD i ⟨[],[]⟩).rows (ust (l.getD i ⟨[],[]⟩).rows.length ((l.getD i ⟨[],[]⟩).rows.map λx=>kb (Br (s.tables.getD i Tbl.zero) x)) (l.getD i ⟨[],[]⟩).rows.length)=Ke (Js (s.tables.getD i Tbl.zero)) (l.getD i ⟨[],[]⟩).rows
  rw [e1,e2] at h1 |-
  have G:=B1 Ih h1
  have hk:=λx (A:x ∈ r.rows)=>G9 (hS t D) (hg r (Qy hr) x A) (G x A)
  exact Ci (m:=t.key.length) (λx A=>by unfold Js;rw [(hk x A).1];rfl) (λx A=>(hk x A).2.1)
 | 3,_=>rfl
 | 4,_=>rfl
theorem J6.upSt {s:Sc} {c:Nat} {l:List Rel} (h:J6 s c l):Hx (s.tables.map Tbl.name) c l:=⟨h.tabs,h.up,h.few⟩
section
variable {T:List Bs} {c:Nat} {l:List Rel} {t:Bs} {v w:Val}
theorem Gt (hv:v ∈ Yg l t):Mf l t (key v):=List.mem_map_of_mem hv
theorem Hf (hv:v ∈ Yg l t):t ∈ l.map Rel.table:=by
 cases h:Yr l t with
 | none=>rw [K9 h] at hv;cases hv
 | some i=>
  obtain ⟨r,hr,rfl⟩:=U6 h
  exact List.mem_map_of_mem (Qy hr)
theorem Qjf (hU:Hx T c l) (hd:T.Nodup) (hv:v ∈ Yg l t):Iu Kh (Xn (Vy l t v) t v) l=true:=by
 refine Bu ((hU.del t v).ins t v) hU hd λt' k=>?_
 rw [Dt v t' k (by rw [Xi];exact Hf hv),Dm]
 constructor
 ·rintro (h | ⟨rfl,rfl⟩)
  ·exact h.1
  exact Gt hv
 intro h
 by_cases e:t'=t/\k=key v
 ·exact .inr e
 exact .inl ⟨h,e⟩
theorem Qqb (hU:Hx T c l) (hd:T.Nodup) (hv:v ∈ Yg l t) (hw:w ∈ Yg l t):Iu Kh (Xn (Xn (Vy (Vy l t v) t w) t v) t w) l=true:=by
 refine Bu ((((hU.del t v).del t w).ins t v).ins t w) hU hd λA k=>?_
 rw [Dt w A k (by rw [Jf,Xi,Xi];exact Hf hv),Dt v A k (by rw [Xi,Xi];exact Hf hv),Dm,Dm]
 constructor
 ·rintro ((h | ⟨rfl,rfl⟩) | ⟨rfl,rfl⟩)
  ·exact h.1.1
  ·exact Gt hv
  exact Gt hw
 intro h
 by_cases e:A=t/\k=key v
 ·exact .inl (.inr e)
 by_cases e2:A=t/\k=key w
 ·exact .inr e2
 exact .inl (.inl ⟨⟨h,e⟩,e2⟩)
theorem Tr (hU:Hx T c l) (hd:T.Nodup) (hv:v ∈ Yg l t) (hw:w ∈ Yg l t):Iu Kh (Xn (Xn (Vy (Vy l t v) t w) t w) t v) l=true:=by
 refine Bu ((((hU.del t v).del t w).ins t w).ins t v) hU hd λA k=>?_
 rw [Dt v A k (by rw [Jf,Xi,Xi];exact Hf hv),Dt w A k (by rw [Xi,Xi];exact Hf hv),Dm,Dm]
 constructor
 ·rintro ((h | ⟨rfl,rfl⟩) | ⟨rfl,rfl⟩)
  ·exact h.1.1
  ·exact Gt hw
  exact Gt hv
 intro h
 by_cases e:A=t/\k=key v
 ·exact .inr e
 by_cases e2:A=t/\k=key w
 ·exact .inl (.inr e2)
 exact .inl (.inl ⟨⟨h,e⟩,e2⟩)
theorem A7 {i:Nat} (h:Yr l t=some i):Vy l t v=l.set i ⟨(l.getD i ⟨[],[]⟩).table,Kk (l.getD i ⟨[],[]⟩).rows v⟩:=by unfold Vy;rw [h]
theorem Ar (j:Nat):((Vy l t v).getD j ⟨[],[]⟩).rows.Sublist (l.getD j ⟨[],[]⟩).rows:=by
 cases h:Yr l t with
 | none=>unfold Vy;rw [h];exact List.Sublist.refl _
 | some i=>
  rw [A7 h]
  obtain ⟨r,hr,_⟩:=U6 h
  by_cases e:i=j
  ·subst e
   rw [Qs,List.getElem?_set_self (Qj hr).1]
   exact List.filter_sublist
  rw [Qs,List.getElem?_set_ne e,<- Qs]
  exact List.Sublist.refl _
theorem del_len {i:Nat} {r:Rel} (h:Yr l t=some i) (hr:l[i]?=some r) (hu:UpV r.rows) (hv:v ∈ r.rows):(Yg (Vy l t v) t).length+1=r.rows.length:=by
 have h2:Yg (Vy l t v) t=Kk r.rows v:=by
  rw [A7 h,Fz h]
  rw [if_pos rfl,Qs,hr];rfl
 rw [h2]
 have h3:∀ xs:List Val,UpV xs->v ∈ xs->(Kk xs v).length+1=xs.length:=by
  intro xs
  induction xs with
  | nil=>intro _ h;cases h
  | cons x xs ih=>
   intro hu A
   rw [UpV,List.pairwise_cons] at hu
   unfold Kk
   rcases Z3.1 A with rfl | A
   ·have e:(xs.filter λy=>!eqv y v)=xs:=List.filter_eq_self.2 λy hy=>by
     have h9:=hu.1 y hy
     cases e:eqv y v with
     | false=>rfl
     | true=>
      have D:=(F5 (a:=y) (b:=v)).1 e
      have h7:Zu v y=0:=Fy.2 D.symm
      omega
    rw [List.filter_cons_of_neg (by rw [R9];decide),e];rfl
   have h9:=hu.1 v A
   have e:eqv x v=false:=by
    cases e:eqv x v with
    | false=>rfl
    | true=>
     have D:=(F5 (a:=x) (b:=v)).1 e
     have h7:Zu x v=0:=Fy.2 D
     omega
   have:=ih hu.2 A
   unfold Kk at this
   rw [List.filter_cons_of_pos (by rw [e];rfl),List.length_cons,List.length_cons];omega
 exact h3 r.rows hu hv
end
theorem inc_sub {a b:List Val} (h:b.Sublist a) (ha:Ua a=true):Ua b=true:=by
 have h2:UpV a:=by
  rw [UpV,List.pairwise_iff_getElem]
  intro i j hi hj D
  have h3:=(Kr a).1 ha
  have:∀ m,(A:i+1+m<a.length)->Zu a[i] (a[i+1+m]'A)<0:=by
   intro m
   induction m with
   | zero=>intro A;exact h3 i _ _ (Qx Ia) (Qx Ia)
   | succ m ih=>
    intro A
    have h4:=ih Ia
    have h5:=h3 (i+1+m) _ _ (Qx Ia) (Qx Ia)
    rw [Kn] at h4 h5 |-
    exact Ez h4 h5
  have h6:=this (j - (i+1)) Ia
  simpa [show i+1+(j - (i+1))=j by omega] using h6
 have h7:UpV b:=List.Pairwise.sublist h h2
 rw [Kr]
 intro j x y hx hy
 obtain ⟨hj,rfl⟩:=Qj hx
 obtain ⟨hk,rfl⟩:=Qj hy
 exact (List.pairwise_iff_getElem.1 h7) j (j+1) hj hk Ia
theorem B2 {s:Sc} {l:List Rel} {rows:List Val}:∀ rs:List Rf,(Yf s l rows rs).code=0\/(Yf s l rows rs).code=12
 | []=>.inl rfl
 | r::rs=>by
  unfold Yf
  split
  ·exact B2 rs
  unfold X9
  split
  ·exact .inl rfl
  exact .inr rfl
theorem del_code {s:Sc} {l:List Rel} {t:Bs} {v:Val} {f:Ft} (hS:∀ t ∈ s.tables,Oz s t) (hR:∀ t ∈ s.tables,Jd t.columns=(t.columns.map Col.name,t.columns.map Col.type)) (hg:∀ r ∈ l,∀ v ∈ r.rows,Y7 v) (hlen:l.length=s.tables.length) (hok:Pv s l) {nm:Nat->Bs}
  (h:Ur s.tables.length (cfP s (Vy l t v)) nm f):f.code=0\/f.code=12:=by
 rcases h with ⟨rfl,_⟩ | ⟨c,i,hc,G,I,rfl,_⟩
 ·exact .inl rfl
 have hz:∀ c i,c<5->i<s.tables.length->(cfP s l c i).code=0:=by
  have V:∀ c,c<=5->∀ J i,J<c->i<s.tables.length->(cfP s l J i).code=0:=by
   intro c
   induction c with
   | zero=>intro _ J i aJ;omega
   | succ c ih=>
    intro aM J i aJ G
    by_cases e:J=c
    ·subst e
     rw [cf_same hS hR hg hlen J i Ia G (λaH i' aK Y=>ih Ia aH i' Y aK)]
     exact hok.2 J i Ia G
    exact ih Ia J i Ia G
  exact λc i hc G=>V 5 (Q9 _) c i hc G
 have A:=Ar (l:=l) (t:=t) (v:=v) i
 obtain ⟨O,aC⟩:∃ O,s.tables[i]?=some O:=⟨_,Qx G⟩
 obtain ⟨r,hr⟩:∃ r,l[i]?=some r:=⟨_,Qx Ia⟩
 have U:(l.getD i ⟨[],[]⟩).rows=r.rows:=by rw [Qs,hr];rfl
 have T:s.tables.getD i Tbl.zero=O:=by rw [Qs,aC];rfl
 have Z:=hg r (Qy hr)
 have aD:∀ x ∈ r.rows,Ui s.sums O x=true:=by
  have D:(X9 9 (Ui s.sums (s.tables.getD i Tbl.zero)) (l.getD i ⟨[],[]⟩).rows).code=0:=hz 1 i Ia G
  rw [U,T] at D
  exact B1 Ih D
 rw [U] at A
 match c,hc with
 | 0,_=>
  refine absurd ?_ I
  have D:(G7 (l.getD i ⟨[],[]⟩).rows).code=0:=hz 0 i Ia G
  rw [U] at D
  show (G7 ((Vy l t v).getD i ⟨[],[]⟩).rows).code=0
  have:=A.length_le
  unfold G7 at D |-
  split at D
  ·cases D
  rw [if_neg Ia];rfl
 | 1,_=>
  refine absurd ?_ I
  show (X9 9 (Ui s.sums (s.tables.getD i Tbl.zero)) ((Vy l t v).getD i ⟨[],[]⟩).rows).code=0
  rw [T,U2 (λx M=>aD x (A.subset M))];rfl
 | 2,_=>
  refine absurd ?_ I
  have D:(Uy (l.getD i ⟨[],[]⟩).rows (ust (l.getD i ⟨[],[]⟩).rows.length ((l.getD i ⟨[],[]⟩).rows.map λx=>kb (Br (s.tables.getD i Tbl.zero) x)) (l.getD i ⟨[],[]⟩).rows.length)).code=0:=hz 2 i Ia G
  rw [U,T] at D
  show (Uy ((Vy l t v).getD i ⟨[],[]⟩).rows (ust ((Vy l t v).getD i ⟨[],[]⟩).rows.length (((Vy l t v).getD i ⟨[],[]⟩).rows.map λx=>kb (Br (s.tables.getD i Tbl.zero) x)) ((Vy l t v).getD i ⟨[],[]⟩).rows.length)).code=0
  rw [T]
  generalize ((Vy l t v).getD i ⟨[],[]⟩).rows=b at A |-
  have hp:r.rows.Pairwise (λx y=>Br O x≠Br O y):=by
   rw [List.pairwise_iff_getElem]
   exact λi j G hj N=>Qzd D N (Qx G) (Qx hj)
  have aL:=List.Pairwise.sublist A hp
  have hk:=λx (M:x ∈ b)=>G9 (hS O (Qy aC)) (Z x (A.subset M)) (aD x (A.subset M))
  rw [Fw (Z7 _) (λi j p q N aA aB e=>by
   rw [List.getElem?_map,Option.map_eq_some_iff] at aA aB
   obtain ⟨x,M,rfl⟩:=aA
   obtain ⟨y,hy,rfl⟩:=aB
   obtain ⟨aE,rfl⟩:=Qj M
   obtain ⟨aF,rfl⟩:=Qj hy
   exact (List.pairwise_iff_getElem.1 aL) i j aE aF N (T4 (by rw [(hk _ (Qd aE)).2.1,(hk _ (Qd aF)).2.1]) e))]
  rfl
 | 3,_=>exact B2 _
 | 4,_=>
  refine absurd ?_ I
  have D:(X9 13 (Vl 8 (s.tables.getD i Tbl.zero)) (l.getD i ⟨[],[]⟩).rows).code=0:=hz 4 i Ia G
  rw [U,T] at D
  show (X9 13 (Vl 8 (s.tables.getD i Tbl.zero)) ((Vy l t v).getD i ⟨[],[]⟩).rows).code=0
  have h2:=B1 Ih D
  rw [T,U2 (λx M=>h2 x (A.subset M))];rfl
theorem del_norm {s:Sc} {l:List Rel} {t:Bs} {v:Val} (h:U3 s l=true):U3 s (Vy l t v)=true:=by
 obtain ⟨h1,h2⟩:=Dg h
 have A:(Vy l t v).map Rel.table=l.map Rel.table:=Xi l t v
 have hl:(Vy l t v).length=l.length:=by simpa using congrArg List.length A
 refine Nu (by rw [hl];exact h1) λi x y hx I=>?_
 obtain ⟨r,G⟩:∃ r,l[i]?=some r:=⟨_,Qx (by have:=(Qj I).1;omega)⟩
 have D:=h2 i x r hx G
 rw [Bool.and_eq_true] at D |-
 have e:y.table=r.table:=by
  have h4:=congrArg (·[i]?) A
  simp only [List.getElem?_map,I,G,Option.map_some,Zv] at h4
  exact h4
 have hs:=Ar (l:=l) (t:=t) (v:=v) i
 rw [Qs,Qs,I,G] at hs
 exact ⟨inc_sub hs D.1,by rw [e];exact D.2⟩
theorem Qzf {s:Sc} {l:List Rel} {t:Bs} {v:Val} {w W:World} {e:Ending} (hS:∀ t ∈ s.tables,Oz s t) (hR:∀ t ∈ s.tables,Jd t.columns=(t.columns.map Col.name,t.columns.map Col.type)) (hg:∀ r ∈ l,∀ v ∈ r.rows,Y7 v) (hlen:l.length=s.tables.length) (hok:Pv s l) (h:Jq w s (Vy l t v) (cfP s (Vy l t v)) e W):
  ∃ (fc:Int) (ft:ByteArray) (f1 f2:Int) (f3:ByteArray) (p3:Option Addr) (n3 k3:Nat) (p4:Option Addr) (n4 k4:Nat) (f4 f5:Int) (f6:ByteArray) (q3:Option Addr) (l3 o3:Nat) (q4:Option Addr) (l4 o4:Nat),e=.returned (.agg #[fc,.string ft,f1,f2,.string f3,.slice p3 n3 k3,.slice p4 n4 k4,f4,f5,.string f6,.slice q3 l3 o3,.slice q4 l4 o4])/\(fc=0\/fc=12)/\Below w w W:=by
 obtain ⟨f,h1,_,A,rfl,hf,hb⟩:=h
 have hc:=del_code hS hR hg hlen hok (h1 (del_norm hok.1))
 obtain ⟨p3,k3,p4,k4,q3,l3,q4,l4,rfl,_⟩:=Ue hf
 exact ⟨_,_,_,_,_,_,_,_,_,_,_,_,_,_,_,_,_,_,_,_,rfl,hc,hb⟩
theorem tdiv5 {x:Int} (h1:-9223372036854775808<=x) (h2:x<=9223372036854775807):-9223372036854775808<=x.tdiv 5/\x.tdiv 5<=9223372036854775807:=by
 by_cases h:0<=x
 ·rw [Int.tdiv_eq_ediv_of_nonneg h];omega
 have e:x.tdiv 5=-((-x).tdiv 5):=by rw [Int.neg_tdiv,Int.neg_neg]
 rw [e,Int.tdiv_eq_ediv_of_nonneg Ia];omega
theorem M3 (HCk:L6) (S1 S2:Nat->Prop) (lv nv:Value) (ls ns:List Int) (x:Int) (w:World) (hl0:V5 S1 w lv ls) (hn0:V5 S2 w nv ns) (hi1:Kz ls) (hi2:Kz ns) (hkw:Xs w) (hx1:-9223372036854775808<=x) (hx2:x<=9223372036854775807):
  Calls prog 4 #[lv,nv,x] w λe w'=>e=.returned (.bool true)/\Below w w w':=by
 obtain ⟨s,A⟩:=eX (Gen.schema (Xk ls 0 13).toNat (Xk ls 1 3==0) (decide (0<Xk ls 2 3)) (Xk ls 3 2==0))
 have hG:ScGen s:=by rw [<- A];exact Gg _ _ _ _
 have cE:∀ (S0 S1:Nat->Prop) (cs:List Value) (lv:Value) (l:List Rel) (w:World),Ve S0 w cs s->Sl Yk S1 w lv l->Xs w->(∀ r ∈ l,(∀ v ∈ r.rows,Kb v)/\r.rows.length<=8)->Calls prog 9 #[cs,lv] w (Jq w s l (cfP s l)):=by
  rw [<- A]
  exact λS0 S1 cs lv l w h1 h2 h3 h4=>genCheck S0 S1 cs lv l w h1 h2 h3 h4
 have cF:∀ t ∈ s.tables,Oz s t:=by rw [<- A];exact λt ht=>Ef ht
 have eZ:∀ t ∈ s.tables,Jd t.columns=(t.columns.map Col.name,t.columns.map Col.type):=by rw [<- A];exact λt ht=>Rn ht
 have bY:=Qq ((P0 S1 lv ls (Xk ls 0 13).toNat _ _ _ w hl0 hi1 (λW hW=>R5 S1 lv ls W (hl0.below hW) hi1) rfl rfl rfl).mono (R':=λe w'=>∃ up m1 uc tp G tc,e=.returned (.agg #[.slice up m1 uc,.slice tp G tc])/\Ve (λ_=>True) w' [.slice up m1 uc,.slice tp G tc] s/\s.tables.length=G/\Below w w w') (by
  rintro e w' ⟨cs,rfl,h1,h2⟩
  rw [A] at h1
  obtain ⟨uv,tv,rfl,hu,ht⟩:=h1
  obtain ⟨up,uc,rfl,_⟩:=hu.len
  obtain ⟨tp,tc,rfl,_⟩:=ht.len
  exact ⟨_,_,_,_,_,_,rfl,⟨_,_,rfl,hu.mono (λ_ _ _=>trivial),ht.mono (λ_ _ _=>trivial)⟩,rfl,h2⟩))
 obtain ⟨Z,hA,hD,gZ,eB,eM,hF,HX⟩:=AV hG hkw hn0 hi2 cE cF eZ (Qe hx1 hx2)
 obtain ⟨lp,lc,rfl,_⟩:=hl0.len
 obtain ⟨np,nc,rfl,_⟩:=hn0.len
 clear A hG hkw hn0 hl0 hi1 hi2 cE cF eZ hx1 hx2
 go_enter func4,ntmps4
 go_upto_region 2 with (go_at_call 5;refine bY.o.mono ?_;rintro e w1 ⟨up,m1,uc,tp,G,tc,rfl,cO,fL,fC⟩;obtain ⟨bU,cX,gU⟩:=Im cO fL fC;clear cO fC fL)
 generalize dB:w1.alloc _=W2
 have dD:=Iq dB (Zg _ _)
 have bI:=Ik (b:=w1.heap.size) dB (Qw _ _)
 obtain ⟨bV,dS,hT⟩:=Im (bU.o.below dD) (gU.o.n dD) bI
 obtain ⟨c0,c1⟩:=AF bI
 have fK:=Z8 bI
 clear dB dD bI bU
 have eN:=Qq (Qja HCk s Z.o _ S2 _ (.slice np ns.length nc) ns W2 bV.o (hD.o.below dS.o) gZ.o)
 go_upto_region 3 with (go_at_call 6;refine eN.o.mono ?_;rintro e w3 ⟨a,ap,ac,css,rfl,fO,fJ,hO,fD⟩;obtain ⟨hE,M,HO,cS⟩:=It fO fJ hO fD;clear fO fJ hO fD)
 have iI:a.length<=1000:=by have h1:=M.o.len;have h2:=Z.o.few;omega
 have aW:=Qq ((HO.o.sl (S':=λb=>W2<=b) Ia (λ_ h=>h) Ij).rel)
 have cR:Hid (a.length=G):=Qq (by rw [M.o.len];exact cX.o)
 rw [cR.o] at aW |-
 have dC:=kE cS.o fK hT.o
 obtain ⟨eT,bW,bM⟩:=Im dC (bV.o.below cS.o) (dS.o.n cS.o)
 have cN:=Z8 dC
 have bS:=Qq (hA.o.below bM.o)
 have eO:Hid (Sl Zn (λb=>b<w3) w3 (.slice tp G tc) s.tables):=Qq (by
  obtain ⟨uv,tv,bB,hu,ht⟩:=bW.o
  simp only [List.cons.injEq,and_true] at bB
  obtain ⟨rfl,rfl⟩:=bB
  exact ht.mono (λb hb _=>hb))
 have iU:G<=1000000:=by obtain ⟨_,_,_,h⟩:=eO.o.len;rw [cX.o] at h;exact h
 have cY:=Qq M.o.upSt
 have hB:=Qq (λW (h:Below w3 w3 W)=>Qqn W (bS.o.below h))
 clear c0 c1 eN bY HO dC iI
 go_wp2_with fail
 go_loopw [9,10,11,12,13,14,15,16] (λt9 _ _ _ _ _ _ _ wr=>∃ k:Nat,k<=G/\t9=.int .i64 k/\Aside (Below w3 w3 wr)) (λt9 _ _ _ _ _ _ _ _=>G - (intOf t9).toNat)
 case atStart=>exact ⟨0,Q8 _,rfl,Qz _ _⟩
 obtain ⟨i,hi2,rfl,eY⟩:=hrel
 have aP:=Qq (show Below w3 w3 wr from eY)
 clear eY
 have fB:=kE aP.o cN eT.o
 obtain ⟨c0,c1⟩:=AF fB
 by_cases hi:i<G
 ·have g1:(i:Int)<(G:Int):=Ia
  have g2:(0:Int)<=(i:Int):=Ia
  obtain ⟨t,ht⟩:∃ t,s.tables[i]?=some t:=⟨_,Qx (by rw [cX.o];exact hi)⟩
  obtain ⟨r,T⟩:∃ r,a[i]?=some r:=⟨_,Qx (by rw [cR.o];exact hi)⟩
  have dJ:=M.o.at_ Z.o.once ht
  have fP:Yg a t.name=r.rows:=U4 dJ T
  obtain ⟨tb,fZ,ct,hp,jL,_,iM,fT,fU⟩:=(eO.o.below aP.o).elem ht
  subst hp
  obtain ⟨jI,jH,jO,jN,jX,jW,k9,jY,n9,jZ,jS,jP,jE,jT,jQ,jF,jU,jR,jG,a9,z9,bB,_⟩:=Yq fT
  simp only [AL] at bB
  subst bB
  have e0:=fU 0 _ rfl
  rw [show Zn.k=13 from rfl] at e0
  rw [Nat.add_zero] at e0
  obtain ⟨nr,dI⟩:=eX (r.rows.length)
  have iV:nr<=5:=by rw [<- dI];exact M.o.few r (Qy T)
  have aV:=Qq (Qe T (Qe dJ fP));have bH:=Qq dI
  have hQ:=Qq (M.o.up r (Qy T))
  have jD:=Qq (M.o.rows r (Qy T))
  clear ht fT fU dI fB T dJ fP
  go_upto_region 7 with fail
  have aA:=Qq (N2 _ (.slice ap G ac) a t.name wr (aW.o.below aP.o))
  rw [aV.o.2.2] at aA
  unfold Af sv at aA
  rw [bH.o] at aA
  clear c0 c1 e0
  go_upto_region 8 with (go_at_call 12;refine aA.o.mono ?_;rintro e w6 ⟨rp,rc,rfl,fQ,fF⟩;have eD:=Qq fQ;have bN:=Qq (aP.o.n fF);clear fQ fF)
  clear aA
  by_cases hz:nr=0
  ·subst hz
   go_wp2_with fail
   go_roundw
   case measure=>simp [intOf];omega
   case rel=>exact ⟨i+1,Ia,by go_num,bN.o⟩
  have jK:((nr:Int)==0)=false:=by rw [<- Qt,beq_iff_eq];omega
  have fW:=HX.o
  obtain ⟨j,hj,bC⟩:∃ j:Nat,j<nr/\Vd x nr=(j:Int):=by
   have h9:=Dh x nr Ia
   exact ⟨(Vd x nr).toNat,Ia,Ia⟩
  have aG:=Qq (λW=>Fs x nr W Ia Ia Ia Ia)
  rw [bC] at aG
  obtain ⟨y,hy⟩:∃ y,r.rows[j]?=some y:=⟨_,Qx (by rw [bH.o];exact hj)⟩
  obtain ⟨rb,jC,gL,gJ,gM,gK,bL,iL,bD,d0,d1,d2,d3,d4⟩:=(eD.o.below (Qz _ _)).val hy
  subst bL
  have hS:=Qq bD;have eC:=Qq (Qy hy)
  have r1:(0:Int)<=(j:Int):=Ia
  have r2:(j:Int)<(nr:Int):=Ia
  clear bC hy bD
  go_upto_region 10 with (go_at_call 13;refine (aG.o _).mono ?_;rintro e w' ⟨rfl,rfl⟩)
  generalize dK:World.alloc w6 _=w7
  have dE:=Iq dK (Zg _ _)
  have hU:Hid (w7.heap[w6.heap.size]?=some (.cells (Is y gL gJ gM gK) 36 (0,0))):=Qq (by rw [<- dK];exact Qw _ _)
  have dU:=Qq (bN.o.n dE);have bR:=Qq dE
  clear dK dE d0 d1 d2 d3 d4 aG
  obtain ⟨z5,fY⟩:=eX (x.tdiv 5)
  have jM:-9223372036854775808<=z5/\z5<=9223372036854775807:=by rw [<- fY];exact tdiv5 fW.1 fW.2
  obtain ⟨j2,iK,bC⟩:∃ j2:Nat,j2<nr/\Vd z5 nr=(j2:Int):=by
   have h9:=Dh z5 nr Ia
   exact ⟨(Vd z5 nr).toNat,Ia,Ia⟩
  have aG:=Qq (λW=>Fs z5 nr W Ia Ia Ia Ia)
  rw [bC] at aG
  obtain ⟨u,hy⟩:∃ y,r.rows[j2]?=some y:=⟨_,Qx (by rw [bH.o];exact iK)⟩
  obtain ⟨jV,iQ,gE,gC,gF,gD,bL,iL,bD,d0,d1,d2,d3,d4⟩:=(eD.o.below bR.o).val hy
  simp only [Zv,Addr.mk.injEq,and_true] at bL;obtain ⟨rfl,rfl⟩:=bL
  have hR:=Qq bD;have hC:=Qq (Qy hy)
  have r1:(0:Int)<=(j2:Int):=Ia
  have r2:(j2:Int)<(nr:Int):=Ia
  clear bC hy bD
  go_upto_region 11 with (go_at_call 13;refine (aG.o _).mono ?_;rintro e w' ⟨rfl,rfl⟩)
  generalize dL:World.alloc w7 _=w8
  have aZ:=Iq dL (Zg _ _)
  have hL:Hid (w8.heap[w7.heap.size]?=some (.cells (Is u gE gC gF gD) 36 (0,0))):=Qq (by rw [<- dL];exact Qw _ _)
  obtain ⟨bO,dW,dX⟩:=Im (dU.o.n aZ) (bR.o.n aZ) aZ
  have eU:=Qq (kB aZ hU.o)
  have cP:=eU.o
  obtain ⟨v0,v1,v2,v3,v4⟩:=If cP
  clear dL aZ d0 d1 d2 d3 d4 aG fY cP
  have cB:=Qq (Z9.move hS.o (.f dW.o) Ij);have eQ:=Qq (Z9.move hR.o (.f dX.o) Ij)
  have bG:=Qq (Es _ _ (.slice ap G ac) a t.name y _ w8 (aW.o.below bO.o) cB.o (λr T=>Qc (M.o.few r T) Ia))
  obtain ⟨b,bJ⟩:=eX (Vy a t.name y)
  have dF:b.length=G:=by rw [<- bJ,<- cR.o];simpa using congrArg List.length (Xi a t.name y)
  unfold Va sv at bG
  rw [bJ,dF] at bG
  have O:=Qq bJ;have dY:=Qq dF
  clear bJ dF
  go_upto_region 12 with (go_at_call 14;refine bG.o.mono ?_;rintro e w9 ⟨bp,bc,rfl,fR,fG⟩;have eK:=Qq fR;have aB:=Qq fG;clear fR fG)
  have aI:=Qq (bO.o.n aB.o)
  have dZ:=Qq ((eB.o _ _ [.slice up m1 uc,Io tb fZ G tc] (.slice bp G bc) b w9 (bW.o.below aI.o) eK.o (bS.o.below aI.o) (by
   rw [<- O.o]
   exact Ds (p:=λxs=>(∀ v ∈ xs,Kb v)/\xs.length<=8) (λr T=>⟨M.o.rows r T,Qc (M.o.few r T) Ia⟩) _ _ (λxs h=>⟨λv hv=>h.1 v (List.mem_filter.1 hv).1,Qc (List.length_filter_le _ _) h.2⟩))).mono (λe W h=>Qzf (t:=t.name) (v:=y) eM.o hF.o (λr T v hv=>(M.o.rows r T v hv).good) M.o.len hE.o (by rw [O.o];exact h)))
  have fA:=kE aI.o cN eT.o
  obtain ⟨c0,c1⟩:=AF fA
  have hV:=Qq (kB aB.o eU.o);have hM:=Qq (kB aB.o hL.o)
  clear fA bG v0 v1 v2 v3 v4
  go_upto_region 13 with (go_at_call 9;refine dZ.o.mono ?_;rintro e gI ⟨fc,ft,f1,f2,f3,p3,n3,k3,p4,n4,k4,f4,f5,f6,q3,l3,o3,q4,l4,o4,rfl,bK,cG⟩;have gX:=Qq bK;have gV:=Qq cG;clear bK cG)
  generalize bE:World.alloc gI _=N
  have cH:=Iq bE (Zg _ _)
  have gW:Hid (N.heap[gI.heap.size]?=some (.cells #[fc,.string ft,f1,f2,.string f3,.slice p3 n3 k3,.slice p4 n4 k4,f4,f5,.string f6,.slice q3 l3 o3,.slice q4 l4 o4] 38 (0,0))):=Qq (by rw [<- bE];exact Qw _ _)
  have Y:=Qq (gV.o.n cH);have bP:=Qq (aI.o.n Y.o)
  clear bE cH c0 c1 dZ
  have eV:=Qq (kB Y.o hV.o);have hN:=Qq (kB Y.o hM.o)
  have cC:=Qq (Z9.move cB.o (.f (aB.o.n Y.o)) Ij);have eR:=Qq (Z9.move eQ.o (.f (aB.o.n Y.o)) Ij)
  have aX:=Qq (eK.o.below Y.o);have eI:=Qq (aW.o.below bP.o)
  have fE:∀ r ∈ b,r.rows.length<=5:=by
   rw [<- O.o]
   exact Ds (p:=λxs=>xs.length<=5) M.o.few _ _ (λxs h=>Qc (List.length_filter_le _ _) h)
  have cT:=Qq fE
  clear fE
  have fN:y ∈ Yg a t.name:=by rw [aV.o.2.2];exact eC.o
  have fM:u ∈ Yg a t.name:=by rw [aV.o.2.2];exact hC.o
  have aU:=Qq fN;have bT:=Qq fM
  clear fN fM
  have cW:=Qq (λW (h:Below N N W)=>(E7 _ _ (.slice bp G bc) b t.name y _ W (aX.o.below h) (Z9.move cC.o (.f h) Ij) (λr T=>Qc (cT.o r T) Ia)).mono (R':=λe w2=>∃ p c,e=.returned (.slice p G c)/\Sl Yk (λ_=>True) w2 (.slice p G c) (Xn b t.name y)/\Below N N w2) (by
   rintro e w2 ⟨p,c,rfl,h1,h2⟩
   have dH:(Xn b t.name y).length=G:=by rw [<- dY.o];simpa using congrArg List.length (Jf b t.name y)
   rw [dH] at h1 |-
   exact ⟨p,c,rfl,h1,h.n h2⟩))
  have aT:=Qq (λW p c (h:Below N N W) (hd:Sl Yk (λ_=>True) W (.slice p G c) (Xn b t.name y))=>(Mp _ _ (.slice p G c) (.slice ap G ac) _ a W hd (eI.o.below h)).mono (R':=λe w2=>e=.returned (.bool true)/\Below N N w2) (by
   rintro e w2 ⟨rfl,h2⟩
   rw [<- O.o,Qjf cY.o Z.o.once aU.o]
   exact ⟨rfl,h.n h2⟩))
  have aA:=Qq (λW (h:Below N N W)=>(N2 _ (.slice bp G bc) b t.name W (aX.o.below h)).mono (R':=λe w2=>∃ p m c,m+1=nr/\e=.returned (.slice p m c)/\Below N N w2) (by
   rintro e w2 ⟨p,c,rfl,_,h2⟩
   refine ⟨p,_,c,?_,rfl,h.n h2⟩
   rw [<- bH.o,<- O.o]
   exact del_len aV.o.2.1 aV.o.1 hQ.o eC.o))
  unfold sv Il at cW
  unfold sv at aA
  have fX:=eV.o;have fI:=gW.o
  obtain ⟨v0,v1,v2,v3,v4⟩:=If fX
  have U:=AB fI
  clear fX fI
  have bK:=gX.o
  have gY:Hid True:=Qq trivial
  rcases bK with rfl | rfl
  all_goals
   go_upto_region 15 with (first | (go_at_call 16;refine (cW.o _ (Qz _ _)).mono ?_;rintro e kA ⟨dp,dc,rfl,A,cI⟩;have hH:=Qq A;have dQ:=Qq cI;clear A cI) | (go_at_call 15;refine (aT.o _ _ _ dQ.o hH.o).mono ?_;rintro e kC ⟨rfl,cJ⟩;have dR:=Qq cJ;clear cJ) | (go_at_call 12;refine (aA.o _ dR.o).mono ?_;rintro e iS ⟨ep,em,ec,jJ,rfl,cK⟩;have V:=Qq cK;clear cK))
   clear gY cW aT aA v0 v1 v2 v3 v4 U
   have dV:=Qq (bP.o.n V.o)
   have eL:=Qq (aX.o.below V.o)
   have eP:=Qq (kB V.o hN.o);have hX:=Qq (kB V.o eV.o)
   have bZ:=Qq (Z9.move eR.o (.f V.o) Ij);have eS:=Qq (Z9.move cC.o (.f V.o) Ij)
   have bF:=Qq (Es _ _ (.slice bp G bc) b t.name u _ iS eL.o bZ.o (λr T=>Qc (cT.o r T) Ia))
   obtain ⟨c,bA⟩:=eX (Vy b t.name u)
   have dG:c.length=G:=by rw [<- bA,<- dY.o];simpa using congrArg List.length (Xi b t.name u)
   have fH:∀ r ∈ c,r.rows.length<=5:=by
    rw [<- bA]
    exact Ds (p:=λxs=>xs.length<=5) cT.o _ _ (λxs h=>Qc (List.length_filter_le _ _) h)
   unfold Va sv at bF
   rw [bA,dG] at bF
   have eA:=Qq (show Vy (Vy a t.name y) t.name u=c from by rw [O.o];exact bA);have cV:=Qq dG;have cU:=Qq fH
   clear bA dG fH
   have fV:=eP.o
   obtain ⟨v0,v1,v2,v3,v4⟩:=If fV
   clear fV
   go_upto_region 16 with (go_at_call 14;refine bF.o.mono ?_;rintro e J ⟨cp,cc,rfl,fS,cL⟩;have bX:=Qq fS;have aR:=Qq cL;clear fS cL)
   clear bF v0 v1 v2 v3 v4
   have bQ:=Qq (dV.o.n aR.o)
   have hP:=Qq (kB aR.o eP.o);have hY:=Qq (kB aR.o hX.o)
   have cA:=Qq (Z9.move bZ.o (.f aR.o) Ij);have cD:=Qq (Z9.move eS.o (.f aR.o) Ij)
   have eJ:=Qq (aW.o.below bQ.o)
   have aD:=Qq (λ(W:World) (d:List Rel) (dp:Option Addr) (dc:Nat) (S:Nat->Prop) (z:Val) (cz:List Value) (hd:Sl Yk (λ_=>True) W (.slice dp G dc) d) (hz:Z9 S W cz z) (hl:d.length=G) (h5:∀ r ∈ d,r.rows.length<=6)=>(E7 _ _ (.slice dp G dc) d t.name z cz W hd hz (λr T=>Qc (h5 r T) Ia)).mono (R':=λe w2=>∃ p c,e=.returned (.slice p G c)/\Sl Yk (λ_=>True) w2 (.slice p G c) (Xn d t.name z)/\Below W W w2) (by
    rintro e w2 ⟨p,c,rfl,h1,h2⟩
    have dH:(Xn d t.name z).length=G:=by rw [<- hl];simpa using congrArg List.length (Jf d t.name z)
    rw [dH] at h1 |-
    exact ⟨p,c,rfl,h1,h2⟩))
   have aN:=Qq (λ(z:Val)=>(show (Xn c t.name z).length=G/\∀ r ∈ Xn c t.name z,r.rows.length<=6 from ⟨by rw [<- cV.o];simpa using congrArg List.length (Jf c t.name z),Lj (p:=λxs=>xs.length<=5) (q:=λxs=>xs.length<=6) cU.o _ _ (λxs h=>Qc (Ml xs z) Ia) (λxs h=>Qc h Ia)⟩))
   have hI:Hid (Iu Kh (Xn (Xn c t.name y) t.name u) a=true):=Qq (by rw [<- eA.o];exact Qqb cY.o Z.o.once aU.o bT.o)
   have hJ:Hid (Iu Kh (Xn (Xn c t.name u) t.name y) a=true):=Qq (by rw [<- eA.o];exact Tr cY.o Z.o.once aU.o bT.o)
   have aT:=Qq (λW d p q (h:Below J J W) (hd:Sl Yk (λ_=>True) W (.slice p G q) d) (he:Iu Kh d a=true)=>(Mp _ _ (.slice p G q) (.slice ap G ac) d a W hd (eJ.o.below h)).mono (R':=λe w2=>e=.returned (.bool true)/\Below W W w2) (by
    rintro e w2 ⟨rfl,h2⟩
    rw [he]
    exact ⟨rfl,h2⟩))
   unfold sv at aD
   have HD:=Qq (show ∀ W,(Below J J W)->(AQ W w6 y.kind y.n y.s (.slice gL y.names.length gJ) (.slice gM y.kids.length gK) ((BG W w7 u.kind u.n u.s (.slice gE u.names.length gC) (.slice gF u.kids.length gD):Prop)):Prop) from λW h=>by
    have h3:=kB h hY.o
    have h4:=kB h hP.o
    exact ⟨(Qk _ _ 0 _ _ _ h3).trans rfl,(Qk _ _ 1 _ _ _ h3).trans rfl,(Qk _ _ 2 _ _ _ h3).trans rfl,(Qk _ _ 3 _ _ _ h3).trans rfl,(Qk _ _ 4 _ _ _ h3).trans rfl,(Qk _ _ 0 _ _ _ h4).trans rfl,(Qk _ _ 1 _ _ _ h4).trans rfl,(Qk _ _ 2 _ _ _ h4).trans rfl,(Qk _ _ 3 _ _ _ h4).trans rfl,(Qk _ _ 4 _ _ _ h4).trans rfl⟩)
   have aH:=Qq (show ∀ W,Below J J W->((λW=>Below J J W) W) from λW h=>h)
   refine wp_region_held_drew (S:=λW=>Below J J W) Ir (aH.o _ (Qz _ _).drew) (λI=>?_)
   refine In (v:=?_) 0 (λU D=>?_) ?_;rotate_left
   ·(go_simp;try with_reducible rfl)
   refine In (v:=?_) 1 (λU D=>?_) ?_;rotate_left
   ·(go_simp;try with_reducible rfl)
   refine In (v:=?_) 2 (λU D=>?_) ?_;rotate_left
   ·(obtain ⟨y0,y1,y2,y3,y4,-,-,-,-,-⟩:=HD.o U D;go_simp;try with_reducible rfl)
   refine In (v:=?_) 4 (λU D=>?_) ?_;rotate_left
   ·(go_simp;try with_reducible rfl)
   refine In (v:=?_) 5 (λU D=>?_) ?_;rotate_left
   ·(obtain ⟨-,-,-,-,-,u0,u1,u2,u3,u4⟩:=HD.o U D;go_simp;try with_reducible rfl)
   refine In (v:=?_) 7 (λU D=>?_) ?_;rotate_left
   ·(go_simp;try with_reducible rfl)
   have O:Hid (Below J J J.drew):=Qq (Qz _ _).drew
   have iP:=O.o.size
   generalize J.drew=wd at I O iP |-
   refine AE 3 (λK hK=>?_) ?_
   ·go_simp
    refine (aD.o wd c _ _ _ y _ (bX.o.below O.o) (Z9.move cD.o (.f O.o) Ij) cV.o (λr T=>Qc (cU.o r T) Ia)).mono ?_
    rintro e wa ⟨_,_,rfl,A,hb⟩
    have eE:=Qq A
    clear A
    have aJ:=Qq (O.o.n hb)
    have iW:=aJ.o.size
    clear hb
    try dsimp only
    refine hK.o _ _ (aH.o _ aJ.o) (λI=>?_)
    clear hK K
    refine AE 6 (λK hK=>?_) ?_
    ·go_simp
     refine (aD.o wa (Xn c t.name y) _ _ _ u _ eE.o (Z9.move cA.o (.f aJ.o) Ij) (aN.o y).1 (aN.o y).2).mono ?_
     rintro e wb ⟨_,_,rfl,A,hb⟩
     have eF:=Qq A
     clear A
     have aK:=Qq (aJ.o.n hb)
     have iX:=aK.o.size
     clear hb
     try dsimp only
     refine hK.o _ _ (aH.o _ aK.o) (λI=>?_)
     clear hK K
     refine AE 8 (λK hK=>?_) ?_
     ·go_simp
      refine (aT.o wb _ _ _ aK.o eF.o hI.o).mono ?_
      rintro e wc ⟨rfl,hb⟩
      clear eE eF
      have aC:=Qq (aK.o.n hb)
      have iY:=aC.o.size
      clear hb
      try dsimp only
      refine hK.o _ _ (aH.o _ aC.o) (λI=>?_)
      clear hK K
      refine In (v:=?_) 9 (λU D=>?_) ?_;rotate_left
      ·(go_simp;try with_reducible rfl)
      refine In (v:=?_) 10 (λU D=>?_) ?_;rotate_left
      ·(go_simp;try with_reducible rfl)
      refine In (v:=?_) 11 (λU D=>?_) ?_;rotate_left
      ·(go_simp;try with_reducible rfl)
      refine In (v:=?_) 12 (λU D=>?_) ?_;rotate_left
      ·(go_simp;try with_reducible rfl)
      refine In (v:=?_) 13 (λU D=>?_) ?_;rotate_left
      ·(obtain ⟨-,-,-,-,-,u0,u1,u2,u3,u4⟩:=HD.o U D;go_simp;try with_reducible rfl)
      refine In (v:=?_) 15 (λU D=>?_) ?_;rotate_left
      ·(go_simp;try with_reducible rfl)
      refine In (v:=?_) 16 (λU D=>?_) ?_;rotate_left
      ·(obtain ⟨y0,y1,y2,y3,y4,-,-,-,-,-⟩:=HD.o U D;go_simp;try with_reducible rfl)
      refine In (v:=?_) 18 (λU D=>?_) ?_;rotate_left
      ·(go_simp;try with_reducible rfl)
      refine AE 14 (λK hK=>?_) ?_
      ·go_simp
       refine (aD.o wc c _ _ _ u _ (bX.o.below aC.o) (Z9.move cA.o (.f aC.o) Ij) cV.o (λr T=>Qc (cU.o r T) Ia)).mono ?_
       rintro e wd ⟨_,_,rfl,A,hb⟩
       have eG:=Qq A
       clear A
       have aL:=Qq (aC.o.n hb)
       have iZ:=aL.o.size
       clear hb
       try dsimp only
       refine hK.o _ _ (aH.o _ aL.o) (λI=>?_)
       clear hK K
       refine AE 17 (λK hK=>?_) ?_
       ·go_simp
        refine (aD.o wd (Xn c t.name u) _ _ _ y _ eG.o (Z9.move cD.o (.f aL.o) Ij) (aN.o u).1 (aN.o u).2).mono ?_
        rintro e we ⟨_,_,rfl,A,hb⟩
        have eH:=Qq A
        clear A
        have aM:=Qq (aL.o.n hb)
        have jA:=aM.o.size
        clear hb
        try dsimp only
        refine hK.o _ _ (aH.o _ aM.o) (λI=>?_)
        clear hK K
        refine AE 19 (λK hK=>?_) ?_
        ·go_simp
         refine (aT.o we _ _ _ aM.o eH.o hJ.o).mono ?_
         rintro e wf ⟨rfl,hb⟩
         clear eG eH
         have aS:=Qq (aM.o.n hb)
         have jB:=aS.o.size
         clear hb
         try dsimp only
         refine hK.o _ _ (aH.o _ aS.o) (λI=>?_)
         clear hK K
         refine In (v:=?_) 20 (λU D=>?_) ?_;rotate_left
         ·(go_simp;try with_reducible rfl)
         refine In (v:=?_) 21 (λU D=>?_) ?_;rotate_left
         ·(go_simp;try with_reducible rfl)
         refine wpAnyH_done Ir ?_ _
         clear I
         go_wp2_with fail
         go_roundw
         case measure=>simp [intOf];omega
         case rel=>exact ⟨i+1,Ia,by go_num,bQ.o.n aS.o⟩
        exact Qo
       exact Qo
      exact Qo
     exact Qo
    exact Qo
   exact Qo
 have iJ:i=G:=Ia
 subst iJ
 have g1:¬ (i:Int)<(i:Int):=Ia
 go_wp2_with (go_at_call 11;refine (hB.o _ aP.o).mono ?_;rintro e kD ⟨rfl,cM⟩;have dT:=Qq cM;clear cM)
 go_ret
 exact ⟨rfl,bM.o.n (aP.o.n dT.o)⟩
open Go.ChangeShapes Go.WideShapes Go.ChangeAt Go.RowKit
open Go.ChangeMaps (open_string shut_string)
theorem own:ownKnob Tryz.prog.godebug=none:=Ir
theorem Ag:laidOutB Tryz.prog=true:=Ir
theorem M7 {P:Program} {w:World} {nm:String} {ls:List Bs} {g:Nat} {t e:TypeId} (h:Lib.VarReads P w nm (.agg (ls.map λl=>.lit (.string l))))
  (hg:P.globalNamed nm=some g) (ht:(P.globals[g]?).map (·.type)=some t) (hu:P.underlying t=some (.array ls.length e)) (he:P.underlying e=some .string) (hc:P.cellsOf e=1):
  w.rangeAt g 0 (svs ls):=by
 obtain ⟨g',t',cs,M,p,G,J,hv,hd⟩:=h
 obtain rfl:=Qb (hg.symm.trans G)
 obtain rfl:=Qb (ht.symm.trans J)
 intro j v hj
 rw [Nat.zero_add,World.var?_cell hg hv j]
 obtain ⟨l,hl,rfl⟩:∃ l,ls[j]?=some l/\v=sv l:=by
  simp only [svs,List.getElem?_map,Option.map_eq_some_iff] at hj
  obtain ⟨l,h1,h2⟩:=hj
  exact ⟨l,h1,h2.symm⟩
 have I:j<ls.length:=(Qj hl).1
 obtain ⟨f',d,q,A,D⟩:=Lib.array_elem hu hd j I
 rw [hc,Nat.mul_one] at D
 obtain ⟨s,hs,hx,_⟩:=DataW.trod_string he D
 simp only [List.getElem?_map,hl,Option.map_some,Zv] at A
 simp only [Prod.mk.injEq] at hx
 obtain ⟨rfl,_⟩:=hx
 simp only [DataW.lit.injEq,Lit.string.injEq] at A
 subst A
 have h0:((cs.toList.drop j).take 1)[0]?=some (.string s):=by rw [hs];rfl
 rw [List.getElem?_take_of_lt Ia,List.getElem?_drop,Nat.add_zero,Array.getElem?_toList] at h0
 rw [h0]
 rfl
theorem gKws : Tryz.prog.globalNamed "schemalens/lexer.keywords"=some 5:=Ir
theorem tKws:(Tryz.prog.globals[5]?).map (·.type)=some 238:=Ir
set_option maxRecDepth 100000
theorem T2 {w:World} (h:laidMetH Tryz.prog Rows.rowsAgainRow.laid w):Xs w:=by
 rw [MakeChecks.laidMetH_plain _ _ _ Ir] at h
 have h1:Lib.VarReads Tryz.prog w "schemalens/lexer.keywords" Rows.laid_schemalens_lexer_keywords:=Lib.laidMet.reads h (.tail _ (.tail _ (.tail _ (.tail _ (.tail _ (.tail _ (.head _)))))))
 exact M7 (ls:=kws) h1 gKws tKws Tryz.underlying238 Tryz.underlying9 Ir
theorem Bz {H:Type} {enc:TypeId × Value->H} {W:World} {base:Nat} {v:Value} {d:DataW H} {p:List MemPlace} (hv:Value.okWide Tryz.prog W .any base 22 v)
  (h:DataW.Trod enc Tryz.prog W 0 (λ_=>true) true 22 v d p):∃ zs,V5 (λ_=>True) W v zs/\Kz zs:=by
 obtain ⟨a,len,cap,rfl⟩:=okWide_slice Tryz.underlying22 hv
 obtain ⟨aC,hf⟩:=h
 rcases open_ints Tryz.underlying22 Tryz.underlying3 Ir hf with ⟨G,_⟩ | ⟨x,l,c,zs,G,_,hl,hm,Z,_,D,Y⟩
 ·simp [Value.cells] at G
  obtain ⟨rfl,rfl,rfl⟩:=G
  exact ⟨[],⟨none,0,rfl,Ib,λh=>absurd rfl h⟩,λz Z=>by cases Z⟩
 simp [Value.cells] at G
 obtain ⟨rfl,rfl,rfl⟩:=G
 simp only [if_true] at Z
 have A:(zs.take len).length=len:=by simp;omega
 refine ⟨zs.take len,⟨_,cap,by rw [A],by rw [A];unfold maxLen at hm;omega,λV=>?_⟩,λz aB=>?_⟩
 ·have N:0<len:=by
   rw [<- A]
   exact List.length_pos_iff.2 V
  obtain ⟨b,I,O⟩:=x
  have J:O=none:=by simpa [Addr.add] using World.cell?_spot (D 0 Ia)
  subst J
  have M:∀ i z,(zs.take len)[i]?=some z->W.cell? ⟨b,I+i,none⟩=some (.int .i64 z):=λi z T=>by
   have U:i<len:=by have:=(Qj T).1;omega
   rw [List.getElem?_take_of_lt U] at T
   have:=D i Ia
   rw [Qs,T] at this
   rwa [show ((⟨b,I,none⟩:Addr).add i)=⟨b,I+i,none⟩ by unfold Addr.add;split <;> simp_all,Option.getD_some] at this
  obtain ⟨z0,aA⟩:∃ z,(zs.take len)[0]?=some z:=⟨_,Qx (by rw [A];exact N)⟩
  exact ⟨b,I,rfl,trivial,Qv _ _ (M 0 z0 aA),M⟩
 have:=Y z (List.mem_of_mem_take aB)
 simpa [Lit.wf,IntKind.min,IntKind.max,IntKind.signed,IntKind.bits] using this
theorem Qzh:L6:=λS0 S1 s cs lv l w h1 h2 h3 h4 h5 h6=>Sy S0 S1 s cs lv l w h1 h2 h3 h4 h5 h6
theorem B8 (os:Os) (started:os.Started) (H:Type) (enc:TypeId × Value->H):
  ReturnsInHanded {} Tryz.checked os 4 .any (λw args=>(Rows.rowsAgainSpec.pre enc Tryz.prog Tryz.f4 Rows.rowsAgainRow.domain false w args/\laidMetH Tryz.prog Rows.rowsAgainRow.laid w)/\sizedMet enc Tryz.prog Tryz.f4 (OpenSpec.ofChange Rows.rowsAgainSpec) false w args)
   (Rows.rowsAgainSpec.post enc Tryz.prog Tryz.f4 false true false false):=by
 refine returnsInHanded_of_change_and (C:=Tryz.checked) (X:=λw _=>laidMetH Tryz.prog Rows.rowsAgainRow.laid w) (λ_ _ _ hh h=>h.of_heap hh) own started Ir Tryz.func4
  (ChangeSpec.witness_shaped (enc:=enc) (C:=Tryz.checked) (os:=os) (X:=λw _=>laidMetH Tryz.prog Rows.rowsAgainRow.laid w) false (World.laidAll Tryz.prog os Rows.rowsAgainRow.laid) #[Ie,Ie,Ic] 8 (World.laidAll_os _ _ _)
   (World.shaped_of_ZipB Ir Ir) Ir Ir Ir
   (by rw [MakeChecks.laidMetH_plain _ _ _ Ir];exact laidMet_laidAll _ Ir Ir)) ?_
 intro W G args ds gs M D hW _ _ hL _
 have A:∀ (j:Nat) t v,Tryz.f4.params[j]?=some t->args[j]?=some v->Value.okWide Tryz.prog W .any G t v:=D
 have N:=hW
 obtain ⟨p,q,I,hV,rfl,_,_⟩:=hW
 have hA:DataW.TrodAll enc Tryz.prog W 0 (λ_=>true) true Tryz.f4.params.toList args.toList ds p:=I
 rw [Tryz.params4] at hA A
 obtain ⟨v0,aG,d0,aD,p0,q0,O,rfl,rfl,h0,r0⟩:=trodAll_cons hA
 obtain ⟨v1,aH,d1,aE,p1,q1,rfl,rfl,rfl,h1,r1⟩:=trodAll_cons r0
 obtain ⟨v2,aI,d2,aF,p2,q2,rfl,rfl,rfl,h2,r2⟩:=trodAll_cons r1
 obtain ⟨rfl,rfl,rfl⟩:=trodAll_nil r2
 obtain rfl:args=#[v0,v1,v2]:=by cases args;simp_all
 obtain ⟨rfl,rfl⟩:=trodVars_none hV
 have k0:=h0
 have aA:∀ x ∈ p0,x.block<W.heap.size:=by obtain ⟨m,V⟩:=k0;exact DataW.trod_lt m _ _ _ V
 obtain ⟨z0,Y,T⟩:=Bz (A 0 22 v0 rfl rfl) h0
 have k1:=h1
 have aB:∀ x ∈ p1,x.block<W.heap.size:=by obtain ⟨m,V⟩:=k1;exact DataW.trod_lt m _ _ _ V
 obtain ⟨z1,Z,U⟩:=Bz (A 1 22 v1 rfl rfl) h1
 obtain ⟨a2,rfl,rfl,rfl,w2⟩:=open_int Tryz.underlying3 (A 2 3 v2 rfl rfl) h2
 have J:-9223372036854775808<=a2/\a2<=9223372036854775807:=by have:=w2;simpa [Lit.wf,IntKind.min,IntKind.max,IntKind.signed,IntKind.bits] using this
 clear I D
 refine (M3 Qzh _ _ v0 v1 z0 z1 a2 W Y Z T U (T2 hL) J.1 J.2).mono λe W' ⟨he,bel⟩=>?_
 subst he
 exact ⟨_,rfl,_,_,_,[],_,[],N,trodAll_mk1 (shut_bool Tryz.underlying4 _),(trodAll_cons_mk (Below.trod Ag Ir (of_decide_eq_true Ir) k0 bel aA) (trodAll_cons_mk (Below.trod Ag Ir (of_decide_eq_true Ir) k1 bel aB) (trodAll_cons_mk (shut_int Tryz.underlying3 w2) trodAll_mk0))),rfl,bel.frame _,λh=>by cases h⟩
theorem Mb:Rows.RowsAgainSaid:=
 OpenClaim.holds_of_wide 4 Tryz.f4 rfl rfl rfl rfl rfl rfl rfl ⟨rfl,rfl,rfl,rfl,rfl⟩ rfl rfl rfl rfl rfl Ir Tryz.func4 Ir
  (of_decide_eq_true Ir) (by unfold Func.isWrapper;first | (rw [if_pos (by decide +kernel)];kernel_rfl) | (rw [if_neg (by decide +kernel)];exact ⟨rfl,rfl⟩))
  (λos A H enc _=>B8 os A H enc)
theorem rowsAgain_proved:Rows.RowsAgainCardSaid:=
 Claim7.holds_tied_plain_at .later [] [.data,.data,.data,.data,.sentinel,.sentinel,.widerDeep,.data,.pinned] true (true, "e5c056ba93fd9b3a514cbad9ae21f6c2ba113af3755b07dc8a7323f0c854d977") true Mb (λ_ h=>by cases h) Ir (λ_ h=>by cases h) rowsAgain_row_tie rfl ⟨rfl,rfl⟩ Ir rfl
  (λf fn hf D=>by
   obtain rfl:f=4:=Qb ((show Tryz.prog.funcNamed "schemalens/schemalenslaw17.RowsAgain"=some 4 by kernel_rfl).symm.trans hf) |>.symm
   obtain rfl:fn=Tryz.f4:=(Qb (Tryz.func4.symm.trans D)).symm
   exact ⟨Ir,λj t ht=>by
    rw [Tryz.params4] at ht
    have hm:t ∈ [22,22,3]:=by simpa using Array.mem_of_getElem? ht
    have A:([22,22,3].all λu=>!Tryz.prog.wantsStandIn u)=true:=Ir
    exact (show Tryz.prog.wantsStandIn t=false by simpa using List.all_eq_true.1 A t hm)⟩)
  Ir
end Go.Proofs.YtdpibdpbgokmoaaGreatDoor
