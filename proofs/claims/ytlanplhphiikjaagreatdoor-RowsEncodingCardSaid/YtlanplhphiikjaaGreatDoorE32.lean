import Derived.Test.YtlanplhphiikjaaGreatDoorE31
import Derived.Test.YtlanplhphiikjaaGreatDoorE30
set_option maxRecDepth 100000
set_option maxHeartbeats 400000000
namespace Go.Proofs.YtlanplhphiikjaaGreatDoor
open Go.RowKit Go.Shelf Go.Lib Tryz
theorem C9 {T:Type} {r:Rd T} {E:TypeId} {S:Nat->Prop} {B b n:Nat} {w:World} {cells:Array Value} {xs:List T} {css:List (List Value)} (hb:w.heap[b]?=some (.cells cells E (0,0))) (hB:B<=b) (hcs:Cs r (fun x=>S x/\x≠b) w css xs) (hc:css.flatten=cells.toList) (hn:n=xs.length) (hl:xs.length<=1000000):Own r E S B w (.slice (some ⟨b,0,none⟩) n n) xs css:=by
 subst hn
 refine ⟨⟨hcs.flat,.inr ⟨b,xs.length,cells,rfl,hB,hb,Q9 _,by unfold maxLen;omega,?_,?_⟩⟩,hcs.move (.refl _ _) (fun c _ h=>⟨h.1,fun e=>h.2 (Qb e)⟩)⟩
 ·have:=hcs.flat
  rw [hc] at this
  simpa using this
 rw [<- hc,Zj (by rw [hcs.flat];exact Q9 _)]
theorem Ky {g:Nat} {W W':World} {c:Nat} {o:Obj} (h:Below g W W') (hc:c<g) (hg:W.heap[c]?=some o):W'.heap[c]?=some o:=(h.block c hc).trans hg
structure R9 (s:Sc):Prop where
 sums:Jb s.sums
 gen:∀ t ∈ s.tables,Fj t
 ok:∀ t ∈ s.tables,Rp t
 few:s.tables.length<=3
 once:(s.tables.map Tbl.name).Nodup
structure Jq (s:Sc) (c:Nat) (l:List Rel):Prop where
 tabs:l.map Rel.table=s.tables.map Tbl.name
 rows:∀ r ∈ l,∀ v ∈ r.rows,Vo v
 few:∀ r ∈ l,r.rows.length<=c
 up:∀ r ∈ l,UpV r.rows
theorem Jq.len {s:Sc} {c:Nat} {l:List Rel} (h:Jq s c l):l.length=s.tables.length:=by have:=congrArg List.length h.tabs;simpa using this
theorem Jq.mono {s:Sc} {c d:Nat} {l:List Rel} (h:Jq s c l) (hc:c<=d):Jq s d l:=⟨h.tabs,h.rows,fun r hr=>Qc (h.few r hr) hc,h.up⟩
theorem Wd (s:Sc):Jq s 5 (X7 s):=by
 refine ⟨by simp [X7,Function.comp_def],fun r A=>?_,fun r A=>?_,fun r A=>?_⟩
 all_goals
  unfold X7 at A
  obtain ⟨t,_,rfl⟩:=List.mem_map.1 A
  simp [UpV]
theorem Ok {l:List Val} {x y:Val} (h:y ∈ J3 l x):y ∈ l\/y=x:=by
 unfold J3 at h
 split at h
 ·exact .inl h
 rcases Z4.1 h with h | h
 ·exact .inl (List.mem_of_mem_take h)
 rcases Z3.1 h with h | h
 ·exact .inr h
 exact .inl (Zw h)
theorem Ry (l:List Val) (x:Val):(J3 l x).length<=l.length+1:=by
 unfold J3
 split
 ·omega
 rw [Ql,List.length_cons,Qm,Zq];omega
theorem Jq.ins {s:Sc} {c:Nat} {l:List Rel} (h:Jq s c l) (x:Bs) (v:Val) (hv:Vo v) (hc:∀ i r,Vt l x=some i->l[i]?=some r->r.rows.length<c):Jq s c (Js l x v):=by
 cases ha:Vt l x with
 | none=>rw [Bu ha];exact h
 | some i=>
  obtain ⟨r,I⟩:∃ r,l[i]?=some r:=by
   unfold Vt at ha
   have:=(List.findIdx?_eq_some_iff_getElem.1 ha).1
   exact ⟨_,Qx this⟩
  rw [Bt ha I]
  have hm:=Qy I
  have hi:=hc i r ha I
  have D:∀ q ∈ l.set i ⟨r.table,J3 r.rows v⟩,q ∈ l\/q=⟨r.table,J3 r.rows v⟩:=fun q A=>List.mem_or_eq_of_mem_set A
  refine ⟨?_,fun q A u J=>?_,fun q A=>?_,fun q A=>?_⟩
  ·rw [<- h.tabs,List.map_set]
   obtain ⟨h1,rfl⟩:=Qj I
   apply List.ext_getElem?
   intro j
   rw [List.getElem?_set]
   split
   ·rename_i e
    subst e
    simp [h1]
   rfl
  ·rcases D q A with A | rfl
   ·exact h.rows q A u J
   rcases Ok J with J | rfl
   ·exact h.rows r hm u J
   exact hv
  ·rcases D q A with A | rfl
   ·exact h.few q A
   have:=Ry r.rows v
   show (J3 r.rows v).length<=c
   omega
  rcases D q A with A | rfl
  ·exact h.up q A
  exact Qjz (h.up r hm) v
theorem Jq.at_ {s:Sc} {c:Nat} {l:List Rel} (h:Jq s c l) (hd:(s.tables.map Tbl.name).Nodup) {i:Nat} {t:Tbl} (ht:s.tables[i]?=some t):Vt l t.name=some i:=by
 have J:i<l.length:=by rw [h.len];exact (Qj ht).1
 have hn:∀ j (A:j<l.length),(l[j]).table=(s.tables.map Tbl.name)[j]'(by rw [<- h.tabs];simpa using A):=fun j A=>by
  have:(l.map Rel.table)[j]'(by simpa using A)=(l[j]).table:=Qxz
  rw [<- this]
  simp only [h.tabs]
 have I:(s.tables.map Tbl.name)[i]'(by rw [<- h.tabs];simpa using J)=t.name:=by
  obtain ⟨h1,rfl⟩:=Qj ht
  simp
 unfold Vt
 refine List.findIdx?_eq_some_iff_getElem.2 ⟨J,by simp [hn i J,I],fun j A=>?_⟩
 have D:j<l.length:=Qvu
 have:(l[j]).table≠t.name:=by
  rw [hn j D,<- I]
  intro e
  exact (List.pairwise_iff_getElem.1 hd) j i (by rw [<- h.tabs];simpa using D) (by rw [<- h.tabs];simpa using J) A e
 simpa using this
def Qzu (s:Sc) (l:List Rel):Prop:=Uc s l=true/\∀ c i,c<5->i<s.tables.length->(cfR s l c i).code=0
theorem badF_nil {code:Int} {p:Val->Bool}:Xp code p []=Ft.zero:=rfl
theorem Qqo (s:Sc):Qzu s (X7 s):=by
 have A:∀ i,((X7 s).getD i ⟨[],[]⟩).rows=[]:=fun i=>by
  rw [Qs]
  unfold X7
  rw [List.getElem?_map]
  cases s.tables[i]? <;> rfl
 refine ⟨?_,fun c i hc _=>?_⟩
 ·have h:∀ a:List Tbl,eqL (fun (t:Tbl) (r:Rel)=>Ul r.rows&&decide (t.name=r.table)) a (a.map fun t=>⟨t.name,[]⟩)=true:=by
   intro a
   induction a with
   | nil=>rfl
   | cons x a ih=>simp only [List.map_cons,eqL,Ul,Bool.true_and,decide_true,ih]
  exact h s.tables
 have D:∀ rs:List Rf,Yl s (X7 s) [] rs=Ft.zero:=by
  intro rs
  induction rs with
  | nil=>rfl
  | cons r rs ih=>rw [Yl,badF_nil,if_pos (show Ft.zero.code=0 from rfl),ih]
 match c,hc with
 | 0,_=>unfold cfR;rw [A];rfl
 | 1,_=>unfold cfR;rw [A];rfl
 | 2,_=>unfold cfR;rw [A];rfl
 | 3,_=>unfold cfR;rw [A,D];rfl
 | 4,_=>unfold cfR;rw [A];rfl
theorem rf_code {s:Sc} {l:List Rel} {f:Ft} (h:RF s l f) (h0:f.code=0):Qzu s l:=by
 cases hn:Uc s l with
 | false=>rw [h.2 hn] at h0;cases h0
 | true=>
  rcases h.1 hn with ⟨_,hz⟩ | ⟨c,i,_,_,A,rfl,_⟩
  ·exact ⟨hn,hz⟩
  exact absurd h0 A
theorem Ai {s:Sc} {l:List Rel} {w w':World} {e:Ending} (h:Ku w s l (cfR s l) e w'):(∃ (c:Int) (x1 x2 x3 x4 x5 x6 x7 x8 x9 x10 x11:Value),e=.returned (.agg #[c,x1,x2,x3,x4,x5,x6,x7,x8,x9,x10,x11])/\(c=0->Qzu s l))/\Below w w w':=by
 obtain ⟨f,h1,h2,A,rfl,hf,hb⟩:=h
 obtain ⟨p3,k3,p4,k4,q3,l3,q4,l4,rfl,_⟩:=Uu hf
 exact ⟨⟨f.code,_,_,_,_,_,_,_,_,_,_,_,rfl,fun h0=>rf_code ⟨h1,h2⟩ h0⟩,hb⟩
def Kv (s:Sc) (c:Nat) (W0 wr:World) (v:Value) (n:Nat):Prop:=∃ l css,(Jq s c l/\Qzu s l)/\l.length=n/\Own Ym 42 (fun b=>W0<=b) W0 wr v l css
def StateOk (s:Sc) (c:Nat) (w:World) (e:Ending) (w':World):Prop:=∃ l p cap css,e=.returned (.slice p l.length cap)/\Qzu s l/\Jq s c l/\Own Ym 42 (fun b=>w<=b) w w' (.slice p l.length cap) l css/\Below w w w'
def StateIs' (s:Sc) (c:Nat) (w:World) (e:Ending) (w':World):Prop:=∃ l p cap css,e=.returned (.slice p l.length cap)/\Jq s c l/\Own Ym 42 (fun b=>w<=b) w w' (.slice p l.length cap) l css/\Below w w w'
theorem Jb.ok {us:List Sm} (h:Jb us):E9 us:=fun u hu c hc=>(h u hu c hc).1
theorem Kv.grow {s:Sc} {c:Nat} {W0 wr wr':World} {v:Value} {n:Nat} (h:Kv s c W0 wr v n) (hb:Below wr wr wr'):Kv s c W0 wr' v n:=by
 obtain ⟨l,css,h1,h2,h3⟩:=h
 exact ⟨l,css,h1,h2,h3.below hb⟩
theorem Qkp (HCk:Dp) (s:Sc) (hS:R9 s) (S0 S3:Nat->Prop) (cs:List Value) (nv:Value) (ns:List Int) (w:World) (hs:Vj S0 w cs s) (hn0:Xa S3 w nv ns) (hi:Uh ns):
  Calls prog 29 #[cs,nv] w (StateOk s 5 w):=by
 have aA:=Qq (fun W (hW:Below w w W)=>To S0 s cs W (hs.below hW) (Qxj hS.few))
 obtain ⟨bA,eE,D⟩:=Qxn hs hn0 hS
 have bU:=Qq (fun (k:Nat) W (hW:Below w w W)=>Yr S3 nv ns (k+1) 5 W (hn0.below hW) hi Qvu Qvu)
 obtain ⟨uv,tv,rfl,hu,ht⟩:=hs
 obtain ⟨up,uc,rfl,_⟩:=hu.len
 obtain ⟨tp,tc,rfl,_⟩:=ht.len
 obtain ⟨np,nc,rfl,_⟩:=hn0.len
 obtain ⟨n,hn⟩:=eX (s.tables.length)
 have gE:n<=20:=Qxj hS.few
 have he:(X7 s).length=n:=by rw [<- hn];simp [X7]
 unfold Qza at aA
 rw [hn] at ht bA aA |-
 rw [he] at aA
 obtain ⟨HT,HN,HI⟩:=Qxn ht hn hi
 clear hu ht hn0 hn he hS hi
 simp only [Int.natCast_add,Int.cast_ofNat_Int] at bU
 go_enter func29,ntmps29
 go_upto_region 1 with fail
 generalize bH:w.alloc _=W1
 have cR:=eqB bH (Ze _ _)
 have bI:=eqH (b:=w.heap.size) bH (Qw _ _)
 have aX:=Qq cR;have aL:=Qq bI
 obtain ⟨c0,c1⟩:=row2 bI
 clear bH cR bI
 have aG:=Z8 aL.out
 go_upto_region 2 with (go_at_call 76;refine (aA.out _ aX.out).mono ?_;rintro e w2 ⟨p2,cG,cK,rfl,cM,cS⟩;have eF:=Qq cM;have dZ:=Qq (show Below W1 W1 w2 from cS);clear cM cS)
 have dA:Kv s 5 w w2 (.slice p2 n cG) n:=⟨X7 s,cK,⟨Wd s,Qqo s⟩,by rw [<- HN.out];simp [X7],eF.out.weak Qvu (fun b _ h=>by rcases h with h | h;exact h.elim;exact Qvu)⟩
 have eK:=Qq dA
 clear dA aA c0 c1
 go_wp2_with fail
 go_loopw [5,6,7,8,9,10] (fun t5 t6 _ _ _ _ wr=>∃ (k:Nat) (p:Option Addr) (cap:Nat),k<=3/\t5=.slice p n cap/\t6=.int .i64 k/\Aside (Kv s 5 w wr (.slice p n cap) n/\Below W1 W1 wr)) (fun _ t6 _ _ _ _ _=>3 - (intOf t6).toNat)
 case atStart=>exact ⟨0,_,_,Q8 _,rfl,rfl,⟨eK.out,dZ.out⟩⟩
 obtain ⟨ps,pa,cH,fV,rfl,rfl,hA⟩:=hrel
 have aQ:=Qq hA.out.1;have bR:=Qq hA.out.2
 clear hA
 by_cases hps:ps<3
 ·have g1:(ps:Int)<3:=Qvu
  go_upto_region 6 with fail
  go_loopw [5,7,8,9,10] (fun t5 t7 _ _ _ wr=>∃ (k:Nat) (p:Option Addr) (cap:Nat),k<=n/\t5=.slice p n cap/\t7=.int .i64 k/\Aside (Kv s 5 w wr (.slice p n cap) n/\Below W1 W1 wr)) (fun _ t7 _ _ _ _=>n - (intOf t7).toNat)
  case atStart=>exact ⟨0,_,_,Q8 _,rfl,rfl,⟨aQ.out,bR.out⟩⟩
  obtain ⟨i,pb,fU,fY,rfl,rfl,hA⟩:=hrel
  have aR:=Qq hA.out.1;have aY:=Qq hA.out.2
  clear hA
  have cQ:=kE aY.out aG aL.out
  have c1:=rA1 cQ
  clear cQ
  by_cases hin:i<n
  ·have g2:(i:Int)<(n:Int):=Qvu
   have g3:(0:Int)<=(i:Int):=Qvu
   go_upto_region 9 with fail
   clear c1
   go_loopw [5,8,9,10] (fun t5 t8 _ _ wr=>∃ (k:Nat) (p:Option Addr) (cap:Nat),k<=3/\t5=.slice p n cap/\t8=.int .i64 k/\Aside (Kv s 5 w wr (.slice p n cap) n/\Below W1 W1 wr)) (fun _ t8 _ _ _=>3 - (intOf t8).toNat)
   case atStart=>exact ⟨0,_,_,Q8 _,rfl,rfl,⟨aR.out,aY.out⟩⟩
   obtain ⟨k,pc,aC,fZ,rfl,rfl,hA⟩:=hrel
   have J:=Qq hA.out.1;have V:=Qq hA.out.2
   clear hA
   have M:=Qq (aX.out.thn V.out)
   by_cases hk:k<3
   ·have g4:(k:Int)<3:=Qvu
    obtain ⟨l,css,⟨hg,-⟩,cW,hO⟩:=J.out
    have bF:Sl Ym (fun b=>w<=b) wr (.slice pc n aC) l:=by
     have:=hO.sl (S':=fun b=>w<=b) Qvu (fun _ h=>h) Qyv
     exact this
    obtain ⟨r,hr⟩:∃ r,l[i]?=some r:=⟨_,Qx Qvu⟩
    obtain ⟨lb,aW,gG,fC,gD,gC,_,⟨rv,cY,fG,fH,fF⟩,cZ⟩:=bF.elem hr
    subst fC;subst cY
    obtain ⟨q,m,aV,_⟩:=fF
    obtain ⟨mr,bJ⟩:=eX (r.rows.length)
    rw [bJ] at aV
    subst aV
    have e1:=cZ 1 _ rfl
    rw [show Ym.k=2 from rfl] at e1
    obtain ⟨Y,bW,HR,eC⟩:=Qxo hg bF hr bJ
    clear hg hO bF hr cZ fG fH bJ css
    by_cases hm5:mr<5
    ·have g5:(mr:Int)<5:=Qvu
     obtain ⟨a,ha⟩:∃ a:Nat,11*(ps:Int)+5*(i:Int)+3*(k:Int)=(a:Int):=⟨11*ps+5*i+3*k,Qvu⟩
     have eZ:a<=1000:=Qvu
     have aZ:=Qq (bU.out a)
     obtain ⟨z,hz⟩:=eX (Yo ns (a+1) 5)
     rw [hz] at aZ
     clear hz
     go_upto_region 12 with fail
     by_cases hz0:z=0
     ·subst hz0
      go_wp2_with (go_at_call 28;refine (aZ.out _ M.out).mono ?_;rintro e w' ⟨rfl,rfl⟩)
      go_roundw
      case measure=>simp [intOf];omega
      case rel=>exact ⟨k+1,_,_,Qvu,rfl,by go_num,J.out,V.out⟩
     have hq:(z==0)=false:=by rw [<- Qt,beq_iff_eq];exact hz0
     obtain ⟨t,ht⟩:∃ t,s.tables[i]?=some t:=⟨_,Qx (by rw [HN.out];exact hin)⟩
     obtain ⟨tb,U,fW,fJ,gF,_,_,bG,A⟩:=(HT.out.below M.out).elem ht
     subst fJ
     obtain ⟨cJ,cI,dF,dE,dO,dN,k9,dP,n9,dQ,dJ,dG,cD,dK,dH,cE,dL,dI,cF,a9,z9,cU,_⟩:=Yj bG
     simp only [tcs] at cU
     subst cU
     have aF:=kE V.out aG aL.out
     obtain ⟨c0,c1⟩:=row2 aF
     have d0:=A 0 _ rfl;have d1:=A 1 _ rfl;have d2:=A 2 _ rfl;have d3:=A 3 _ rfl;have d4:=A 4 _ rfl;have d5:=A 5 _ rfl;have d6:=A 6 _ rfl;have d7:=A 7 _ rfl;have d8:=A 8 _ rfl;have d9:=A 9 _ rfl;have bB:=A 10 _ rfl;have bC:=A 11 _ rfl;have bD:=A 12 _ rfl
     rw [show Zl.k=13 from rfl] at d0 d1 d2 d3 d4 d5 d6 d7 d8 d9 bB bC bD
     rw [Nat.add_zero] at d0
     try unfold sv at d0
     obtain ⟨eL,cA,eM⟩:=Qxn bG (Qy ht) ht
     clear aF A bG ht e1
     go_upto_region 13 with (go_at_call 28;refine (aZ.out _ M.out).mono ?_;rintro e w' ⟨rfl,rfl⟩)
     refine let_mvar% ?Lq1:=fun w':World=>Qxw w' w 0 (.slice up s.sums.length uc)/\Qxw w' w 1 (Qxa tb U n tc)/\Qyc w' tb (U+i*13) t.name (.slice cJ t.columns.length cI) (.slice dF t.key.length dE) (.slice dO t.refs.length dN) k9 (.string dP) n9 (.string dQ) (.slice dJ dG cD) (.slice dK dH cE) (.slice dL dI cF) a9 z9 (Below wr wr w');?_
     have HS:∀ w',Below wr wr w'->?Lq1 w':=by
      intro w' h
      have O:∀ {b j:Nat} {u:Value},wr.cell? ⟨b,j,none⟩=some u->w'.cell? ⟨b,j,none⟩=some u:=fun hc=>kC h hc
      exact ⟨O c0,O c1,O d0,O d1,O d2,O d3,O d4,O d5,O d6,O d7,O d8,O d9,O bB,O bC,O bD,h⟩
     obtain ⟨bV,eJ,eA,I,dY,aK⟩:=Um HS (fun w' h=>h.2.2.2.2.2.2.2.2.2.2.2.2.2.2.2)
     have HP:=fun w' x0 x1 x2 x3 x4 h=>aK.out (Zp w' wr x0 x1 x2 x3 x4) (Zf (I.out w' h) (Q9 _))
     unfold Zp at HP
     have eI:=Qq HP
     clear HS HP c0 c1 d0 d1 d2 d3 d4 d5 d6 d7 d8 d9 bB bC bD
     have aP:=Qq (fun W' (h':Below wr wr W')=>(rrow_any S0 (fun b=>w<=b) _ S3 s [.slice up s.sums.length uc,Qxa tb U n tc] (.slice (some ⟨lb,aW,none⟩) n aC) l t (Qxg t cJ cI dF dE dO dN k9 dP n9 dQ dJ dG cD dK dH cE dL dI cF a9 z9) (.slice np ns.length nc) ns a W' (bA.out.below (M.out.thn h')) ((bW.out.below h').rel) (Zl.frame eL.out (.of_below h')) (eE.out.below (M.out.thn h')) HI.out eZ (D.out.gen t cA.out) D.out.sums (fun t ht=>(D.out.ok t ht).key) (fun r hr v hv=>⟨(Y.out.rows r hr v hv).good,(Y.out.rows r hr v hv).kids,(Y.out.rows r hr v hv).record⟩)).mono (R':=fun e w2=>∃ v q3 m3 q4 m4,e=.returned (.agg (Qxf v q3 m3 q4 m4))/\Vo v/\Za (fun b=>w<=b) w2 (vcs v q3 m3 q4 m4) v/\Below wr wr w2) (by
      rintro e w2 ⟨v,q3,m3,q4,m4,rfl,x1,x2,x3,x4⟩
      have fI:=h'.size
      have fK:=M.out.size
      have gA:=(D.out.gen t cA.out).few
      exact ⟨v,q3,m3,q4,m4,rfl,⟨x1.good,Qvu,x1.kids,x1.record⟩,x3.move (.refl _ _) (fun b _ h=>h.elim id (fun h=>by show w<=b;omega)),h'.thn x4⟩))
     have aB:=Qq (fun W' v q3 m3 q4 m4 (h':Below wr wr W') (hv:Za (fun b=>w<=b) W' (vcs v q3 m3 q4 m4) v)=>(H7 (fun b=>w<=b) (.slice (some ⟨lb,aW,none⟩) n aC) l t.name v _ W' (bW.out.below h') hv Qvu (fun r hr=>by have:=Y.out.few r hr;omega)).mono (R':=fun e w2=>∃ p cap css,e=.returned (.slice p n cap)/\Own Ym 42 (fun b=>w<=b) w w2 (.slice p n cap) (Js l t.name v) css/\Below wr wr w2) (by
      rintro e w2 ⟨p,cap,css,rfl,x1,x2⟩
      have fI:=h'.size
      have fK:=M.out.size
      rw [Fx,cW] at x1 |-
      exact ⟨p,cap,css,rfl,x1.weak Qvu (fun b _ h=>h.elim id (fun h=>by show w<=b;omega)),h'.thn x2⟩))
     unfold sv vcs at aB
     go_cut [10] from 24 to 73 (fun fM wx=>∃ p cap v css,fM=.slice p n cap/\Vo v/\Own Ym 42 (fun b=>w<=b) w wx (.slice p n cap) (Js l t.name v) css/\Below wr wr wx)
     case first=>
      go_region_held3 ?Lq1 (first | with_reducible exact bV.out | with_reducible exact cP | with_reducible exact cO)
       (first
        | (go_at_call 32;refine (aB.out _ _ _ _ _ _ (I.out _ cO) eN.out).mono ?_;rintro e w3 ⟨p9,N,aD,rfl,cN,fE⟩;have cP:=aK.out _ fE;have eG:=Qq cN;clear cN)
        | (go_at_call 30;refine (aP.out _ (I.out _ Qxy)).mono ?_;rintro e w2 ⟨v,q3,m3,q4,m4,rfl,cV,dC,fD⟩;have cO:=aK.out _ fD;have eB:=Qq cV;have eN:=Qq dC;clear cV dC))
      all_goals
       go_wp2_with fail
       go_meet
       exact ⟨p9,N,v,aD,rfl,eB.out,eG.out,I.out _ cP⟩
     obtain ⟨p9,N,v,aD,rfl,dD,bE,aM⟩:=hcut
     have aN:Jq s 5 (Js l t.name v):=Y.out.ins t.name v dD (fun i' r' h1 h2=>by
      rw [Y.out.at_ D.out.once eM.out] at h1
      cases h1
      rw [HR.out] at h2
      cases h2
      rw [eC.out];exact hm5)
     have T:(Js l t.name v).length=n:=by rw [Fx,cW]
     obtain ⟨fX,Z,cB⟩:=Qxn aN (V.out.thn aM) (M.out.thn aM)
     have bZ:=Qq (show Qzu s (Js l t.name v)->Kv s 5 w wc (.slice p9 n N) n from fun bK=>⟨_,aD,⟨aN,bK⟩,T,bE⟩)
     have aT:Sl Ym (fun b=>w<=b) wc (.slice p9 n N) (Js l t.name v):=by
      have:=bE.sl (S':=(fun b=>w<=b)) Qvu (fun _ h=>h) Qyv
      exact this
     have bS:=Qq ((HCk S0 (fun b=>w<=b) s [.slice up s.sums.length uc,Qxa tb U n tc] (.slice p9 n N) (Js l t.name v) wc (bA.out.below cB.out) aT.rel (by rw [T,HN.out]) D.out.sums.ok D.out.ok aN.rows).mono fun e w' h=>Ai h)
     have aF:=kE Z.out aG aL.out
     obtain ⟨c0,c1⟩:=row2 aF
     have bX:=Qq (J.out.grow aM)
     clear dD bE aN T aT aF aP aB aM
     clear bV eJ eA I dY eI aK
     go_upto_region 15 with (go_at_call 77;refine bS.out.mono ?_;rintro e w4 ⟨⟨fc,x1,x2,x3,x4,x5,x6,x7,x8,x9,fS,fT,rfl,aU⟩,cT⟩;have bT:=Qq aU;clear aU;have gB:∀ W,(Instr.field 69 (.agg #[fc,x1,x2,x3,x4,x5,x6,x7,x8,x9,fS,fT]) 0).run prog W=.ok (.int .i64 fc) W:=(fun W=>by simp [Instr.field,go_sem,part,asAgg]);have aJ:=Qq cT;clear cT)
     focus
      have fA:fc=0:=by first | assumption | (simp_all;done) | omega
      have bY:=Qq (bZ.out (bT.out fA))
      go_wp2_with fail
      go_roundw
      case measure=>simp [intOf];omega
      case rel=>exact ⟨k+1,_,_,Qvu,rfl,by go_num,bY.out.grow aJ.out,Z.out.thn aJ.out⟩
     focus
      exact ⟨⟨k+1,_,_,Qvu,rfl,by go_num,bX.out.grow (by have h:=aJ.out;exact h),Z.out.thn aJ.out⟩,by simp [intOf];omega⟩
    have g5:¬ (mr:Int)<5:=Qvu
    go_wp2_with fail
    go_roundw
    case measure=>simp [intOf];omega
    case rel=>exact ⟨i+1,_,_,Qvu,rfl,by go_num,J.out,V.out⟩
   have fB:k=3:=Qvu
   subst fB
   go_wp2_with fail
   go_roundw
   case measure=>simp [intOf];omega
   case rel=>exact ⟨i+1,_,_,Qvu,rfl,by go_num,J.out,V.out⟩
  have g2:¬ (i:Int)<(n:Int):=Qvu
  go_wp2_with fail
  go_roundw
  case measure=>simp [intOf];omega
  case rel=>exact ⟨ps+1,_,_,Qvu,rfl,by go_num,aR.out,aY.out⟩
 have cX:ps=3:=Qvu
 subst cX
 go_wp2_with fail
 go_ret
 obtain ⟨l,css,⟨hg,bK⟩,hl,hO⟩:=aQ.out
 subst hl
 exact ⟨l,pa,cH,css,rfl,bK,hg,hO,aX.out.thn bR.out⟩
theorem Ab (HCk:Dp) (s:Sc) (hS:R9 s) (S0 S3:Nat->Prop) (cs:List Value) (nv:Value) (ns:List Int) (w:World) (hs:Vj S0 w cs s) (hn0:Xa S3 w nv ns) (hi:Uh ns):
  Calls prog 29 #[cs,nv] w (StateIs' s 5 w):=
 (Qkp HCk s hS S0 S3 cs nv ns w hs hn0 hi).mono fun _ _ ⟨l,p,cap,css,h1,_,h2,h3,h4⟩=>⟨l,p,cap,css,h1,h2,h3,h4⟩
structure Bd (w:World) (g n cap:Nat) (css F:List (List Value)) (k:Nat) (wr:World):Prop where
 gr:w.grownBy wr (some g)
 row:∃ Z:Array Value,wr.heap[g]?=some (.cells Z 48 (0,0))/\Z.size=cap*5/\Z.toList.take (F.length*5)=F.flatten/\∀ m,k*5<=m->m<n*5->Z[m]?=css.flatten[m]?
theorem Nj {w wr w':World} {g:Nat} (h:w.grownBy wr (some g)) (hb:Below wr wr w'):w.grownBy w' (some g):=
 ⟨hb.os.trans h.os,hb.tape.trans h.tape,hb.output.trans h.output,Qc h.size hb.size,fun k hk A=>(hb.block k (Qa hk h.size)).trans (h.block k hk A)⟩
theorem Bd.keep {w wr w':World} {g n cap k:Nat} {css F:List (List Value)} (h:Bd w g n cap css F k wr) (hb:Below wr wr w'):Bd w g n cap css F k w':=by
 obtain ⟨Z,h1,h2⟩:=h.row
 exact ⟨Nj h.gr hb,Z,(hb.block g (Z8 h1)).trans h1,h2⟩
theorem Bd.put {w wr:World} {g n cap k:Nat} {css F:List (List Value)} {c:List Value} (h:Bd w g n cap css F k wr) (hc:c.length=5) (h1:∀ v ∈ c,v.oneCell'=true) (hF:F.length<k) (hk:k<n) (hn:n<=cap):Bd w g n cap css (F++[c]) (k+1) (wr.setCells g (F.length*5) c):=by
 obtain ⟨Z,hZ,hs,ht,hr⟩:=h.row
 have A:Z.toList.length=cap*5:=by simpa using hs
 rw [Oe wr g (F.length*5) c Z _ hZ Qvu h1]
 refine ⟨⟨h.gr.os,h.gr.tape,h.gr.output,by simpa [World.setRow] using h.gr.size,fun j hj D=>(setRow_other _ _ _ _ (fun e=>D (by rw [e]))).trans (h.gr.block j hj D)⟩,_,setRow_heap _ _ _ _ _ _ hZ,?_,?_,fun m hm M=>?_⟩
 ·simp only [List.size_toArray,Ql,Qm,Zq,A,hc];rw [Z0 Qvu];omega
 ·have I:(Z.toList.take (F.length*5)).length=F.length*5:=by rw [Qm,A,Z0 Qvu]
  have J:(F++[c]).length*5=(Z.toList.take (F.length*5)++c).length:=by rw [Ql,Ql,I,hc];simp;omega
  rw [J,List.toList_toArray,List.take_left,ht,List.flatten_append];simp
 have I:(Z.toList.take (F.length*5)++c).length=F.length*5+5:=by rw [Ql,Qm,A,Z0 Qvu,hc]
 rw [<- hr m Qvu M,Qf,Zx (by rw [I];omega),I,List.getElem?_drop,hc,show F.length*5+5+(m - (F.length*5+5))=m by omega]
 simp
theorem Qzm (S:Nat->Prop) (v:Value) (l:List Int) (w:World) (hs:Xa S w v l) (hi:Uh l) (hk:Yo l 0 13=6):
  Calls prog 27 #[v,Qxc] w (J8 w (Gen.check 6)):=by
 have HP:=Qq (fun W (hb:Below w w W)=>Yr S v l 0 13 W (hs.below hb) hi Qvu Qvu)
 rw [hk] at HP
 obtain ⟨p,cap,rfl,_⟩:=hs.len
 clear hs hi hk
 go_enter func27,ntmps27
 go_upto_region 8 with fail
 generalize aI:(((((((w.alloc _).alloc _).alloc _).alloc _).alloc _).alloc _).alloc _).alloc _=W8
 have bD:=eqB aI (Zs (Zs (Zs (Zs (Zs (Zs (Zs (Ze w _) _) _) _) _) _) _) _)
 have bY:W8=w.heap.size+8:=by rw [<- aI];simp
 have r8:=eqH (b:=w.heap.size) aI (Zb (Zb (Zb (Zb (Zb (Zb (Zb (Y3 rfl _) _) _) _) _) _) _) _)
 have D:=(((Xq.row (show W8.heap[w.heap.size+1+1+1+1+1]?=some (.cells #[.int .i64 3,.string ⟨#[101]⟩,Qxc,Qxd,Qxe,Qxe,Qxe,Qxc,Qxc] 59 (0,0)) from by rw [<- aI];exact Zb (Zb (Y3 Qxz _) _) _)).app (Xq.row (show W8.heap[w.heap.size+1+1+1+1+1+1+1]?=some (.cells #[.int .i64 2,Qxd,.int .i64 1,Qxd,Qxe,Qxe,Qxe,Qxc,Qxc] 59 (0,0)) from by rw [<- aI];exact Y3 Qxz _))).app (Xq.row (show W8.heap[w.heap.size+1+1]?=some (.cells #[.int .i64 3,.string ⟨#[98]⟩,Qxc,Qxd,Qxe,Qxe,Qxe,Qxc,Qxc] 59 (0,0)) from by rw [<- aI];exact Zb (Zb (Zb (Zb (Zb (Y3 Qxz _) _) _) _) _) _)))
 have hG:=(Un (Un (X8 (show w<w.heap.size+1+1+1+1+1 by omega) (.int .i64 3) (.string ⟨#[101]⟩) (.int .i64 0) (.string ⟨#[]⟩) (.slice none 0 0) (.slice none 0 0) (.slice none 0 0) (.int .i64 0) (.int .i64 0)) (X8 (show w<w.heap.size+1+1+1+1+1+1+1 by omega) (.int .i64 2) (.string ⟨#[]⟩) (.int .i64 1) (.string ⟨#[]⟩) (.slice none 0 0) (.slice none 0 0) (.slice none 0 0) (.int .i64 0) (.int .i64 0))) (X8 (show w<w.heap.size+1+1 by omega) (.int .i64 3) (.string ⟨#[98]⟩) (.int .i64 0) (.string ⟨#[]⟩) (.slice none 0 0) (.slice none 0 0) (.slice none 0 0) (.int .i64 0) (.int .i64 0)))
 have aV:=Qq bD;have HR:=Qq r8
 clear aI bD r8 bY
 go_upto_region 20 with (go_at_call 28;refine (HP.out _ aV.out).mono ?_;rintro e w' ⟨rfl,rfl⟩)
 refine let_mvar% ?Lq1:=fun w':World=>(Qyw w' (w+1+1+1+1+1) (.int .i64 3) (.string ⟨#[101]⟩) Qxc Qxd Qxe Qxe Qxe Qxc Qxc ((Qyw w' (w+1+1+1+1+1+1+1) (.int .i64 2) Qxd (.int .i64 1) Qxd Qxe Qxe Qxe Qxc Qxc ((Qye w' (w+1+1) (.int .i64 3) (.string ⟨#[98]⟩) Qxc Qxd Qxe Qxe Qxe Qxc Qxc:Prop)):Prop)):Prop);?_
 have HS:=Qq (fun w' (h:Xq (Jn (w+1+1+1+1+1) (.int .i64 3) (.string ⟨#[101]⟩) (.int .i64 0) (.string ⟨#[]⟩) (.slice none 0 0) (.slice none 0 0) (.slice none 0 0) (.int .i64 0) (.int .i64 0)++Jn (w+1+1+1+1+1+1+1) (.int .i64 2) (.string ⟨#[]⟩) (.int .i64 1) (.string ⟨#[]⟩) (.slice none 0 0) (.slice none 0 0) (.slice none 0 0) (.int .i64 0) (.int .i64 0)++Jn (w+1+1) (.int .i64 3) (.string ⟨#[98]⟩) (.int .i64 0) (.string ⟨#[]⟩) (.slice none 0 0) (.slice none 0 0) (.slice none 0 0) (.int .i64 0) (.int .i64 0)) w')=>(show ?Lq1 w' from Xq.spread h))
 have HG:=Qq hG
 have aY:=Qq (fun w' z0 z1 z2 z3 z4 z5 z6 z7 z8 (h:Xq _ w')=>HS.out _ (h.put9 HG.out z0 z1 z2 z3 z4 z5 z6 z7 z8))
 unfold put9 at aY
 have I:=aV
 clear hG
 obtain ⟨aL,aF,aE,aM,aN⟩:=Qxp True.intro True.intro True.intro True.intro True.intro
 go_region_held3 ?Lq1 (first | with_reducible exact HS.out _ D | with_reducible exact HS.out _ D.drew | with_reducible exact HS.out _ (D.alloc _) | with_reducible exact HS.out _ (D.alloc _).drew | with_reducible exact HS.out _ ((D.alloc _).alloc _) | with_reducible exact HS.out _ ((D.alloc _).alloc _).drew | with_reducible exact HS.out _ (((D.alloc _).alloc _).alloc _) | with_reducible exact aY.out _ _ _ _ _ _ _ _ _ _ D)
  (first
   | (have hn:=J.out;clear hn;(repeat (first
      | (have hk:=aF.out;clear aF hk;generalize aC:World.alloc _ (Obj.cells #[.string ⟨#[82,101,100]⟩,.string ⟨#[68,97,114,107]⟩] 9 _)=WN;have Z:=Ve aC;have aQ:=Jr aC;have aS:=Fy aC HR.out;have T:=D.later Z;clear D;have D:=T;clear T;have O:=Qq (Yh Z HR.out);clear HR;have HR:=O;clear O;have M:=Qq (I.out.thn Z);clear I;have I:=M;clear M;(try (have A:=Qq (Yh Z U.out);clear U;have U:=A;clear A));(try (have A:=Qq (Yh Z N.out);clear N;have N:=A;clear A));(try (have A:=Qq (J.out.move (.of_below Z) Qyv);clear J;have J:=A;clear A));obtain ⟨V,aX,aH⟩:=Qxn aQ aS (Gn aC);clear aC Z aQ aS)
      | (have hk:=aE.out;clear aE hk;generalize aB:World.alloc _ (Obj.cells #[Qxd,.string ⟨#[110]⟩] 9 _)=WB;have Y:=Ve aB;have aP:=Jr aB;have aR:=Fy aB HR.out;have T:=D.later Y;clear D;have D:=T;clear T;have O:=Qq (Yh Y HR.out);clear HR;have HR:=O;clear O;have M:=Qq (I.out.thn Y);clear I;have I:=M;clear M;(try (have A:=Qq (Yh Y V.out);clear V;have V:=A;clear A));(try (have A:=Qq (Yh Y N.out);clear N;have N:=A;clear A));(try (have A:=Qq (J.out.move (.of_below Y) Qyv);clear J;have J:=A;clear A));obtain ⟨U,aW,aG⟩:=Qxn aP aR (Gn aB);clear aB Y aP aR)
      | (have hn:=J.out;clear hn;have hk:=aM.out;clear aM hk;generalize aO:World.alloc _ (Obj.cells #[.int .i64 3,.string ⟨#[101]⟩,Qxc,Qxd,Qxe,Qxe,Qxe,Qxc,Qxc,.int .i64 2,Qxd,.int .i64 1,Qxd,Qxe,Qxe,Qxe,Qxc,Qxc,bN,.string bP,bO,.string bQ,.slice bJ bS bV,.slice bK bT bW,.slice bL bU bX,bM,bR] 59 _)=WK;have aJ:=Ve aO;have bE:=Jr aO;have bF:=Fy aO HR.out;have T:=D.later aJ;clear D;have D:=T;clear T;have O:=Qq (Yh aJ HR.out);clear HR;have HR:=O;clear O;have M:=Qq (I.out.thn aJ);clear I;have I:=M;clear M;(try (have A:=Qq (Yh aJ V.out);clear V;have V:=A;clear A));(try (have A:=Qq (Yh aJ U.out);clear U;have U:=A;clear A));(try (have A:=Qq (J.out.move (.of_below aJ) Qyv);clear J;have J:=A;clear A));obtain ⟨N,bI,aK⟩:=Qxn bE bF (Gn aO);clear aO aJ bE bF)
      | fail));have hn:=V.out;clear hn;have hn:=U.out;clear hn;have hn:=N.out;clear hn;have hk:=aN.out;clear aN hk;obtain ⟨⟨f0,f1,f2,f3,f4,f5,f6,f7,f8⟩,y0,y1,y2,y3,y4,y5,y6,y7,y8⟩:=Qvv HR.out;go_simp)
   | (have hk:=aL.out;go_at_call 75;(repeat (first
      | (have hk:=aF.out;clear aF hk;generalize aC:World.alloc _ (Obj.cells #[.string ⟨#[82,101,100]⟩,.string ⟨#[68,97,114,107]⟩] 9 _)=WN;have Z:=Ve aC;have aQ:=Jr aC;have aS:=Fy aC HR.out;have T:=D.later Z;clear D;have D:=T;clear T;have O:=Qq (Yh Z HR.out);clear HR;have HR:=O;clear O;have M:=Qq (I.out.thn Z);clear I;have I:=M;clear M;(try (have A:=Qq (Yh Z U.out);clear U;have U:=A;clear A));(try (have A:=Qq (Yh Z N.out);clear N;have N:=A;clear A));(try (have A:=Qq (J.out.move (.of_below Z) Qyv);clear J;have J:=A;clear A));obtain ⟨V,aX,aH⟩:=Qxn aQ aS (Gn aC);clear aC Z aQ aS)
      | (have hk:=aE.out;clear aE hk;generalize aB:World.alloc _ (Obj.cells #[Qxd,.string ⟨#[110]⟩] 9 _)=WB;have Y:=Ve aB;have aP:=Jr aB;have aR:=Fy aB HR.out;have T:=D.later Y;clear D;have D:=T;clear T;have O:=Qq (Yh Y HR.out);clear HR;have HR:=O;clear O;have M:=Qq (I.out.thn Y);clear I;have I:=M;clear M;(try (have A:=Qq (Yh Y V.out);clear V;have V:=A;clear A));(try (have A:=Qq (Yh Y N.out);clear N;have N:=A;clear A));(try (have A:=Qq (J.out.move (.of_below Y) Qyv);clear J;have J:=A;clear A));obtain ⟨U,aW,aG⟩:=Qxn aP aR (Gn aB);clear aB Y aP aR)
      | fail));refine (Vg w [60] _ _ _ _ _ Qxz (by exact (Yq 3 [110] 0 [] Qxz Qxz)) (by exact (Yq 3 [98] 0 [] Qxz Qxz)) (by exact Z8 HR.out)).mono ?_;rintro e W1 ⟨bN,bP,bO,bQ,bJ,bS,bV,bK,bT,bW,bL,bU,bX,bM,bR,rfl,bG,aD⟩;clear aL hk;(try (have bC:=Vm aD;clear aD;have aD:=bC;clear bC));have T:=D.later aD;clear D;have D:=T;clear T;have O:=Qq (Yh aD HR.out);clear HR;have HR:=O;clear O;have M:=Qq (I.out.thn aD);clear I;have I:=M;clear M;(try (have A:=Qq (Yh aD V.out);clear V;have V:=A;clear A));(try (have A:=Qq (Yh aD U.out);clear U;have U:=A;clear A));(try (have A:=Qq (Yh aD N.out);clear N;have N:=A;clear A));have J:=Qq bG;clear bG aD)
   | fail)
 all_goals
  go_wp2_with fail
  show bodyPost _ _ _ _ _ (put9 _ w (.int .i64 13) Qxd Qxc Qxd (Qxa _ 0 2 2) (Qxa _ 0 2 2) (Qxa _ 0 3 3) Qxc Qxc)
  exact Q7 (v:=.agg #[.int .i64 13,Qxd,Qxc,Qxd,Qxa _ 0 2 2,Qxa _ 0 2 2,Qxa _ 0 3 3,Qxc,Qxc]) (by simp [results,results27,go_sem,Xb HR.out]) rfl (Ug (Xv (nm:=[]) (s:=[]) Qxz Qxz (Y2 (xs:=[[82,101,100],[68,97,114,107]]) (T4 V.out (by have h1:=aH.out;have h2:=aG.out;have h3:=aK.out;omega)) (by have A:=aX.out;have h1:=aH.out;have h2:=aG.out;have h3:=aK.out;show w.heap.size<_;omega) (Pt _ _ [82,101,100] [68,97,114,107] Qxz Qxz) rfl rfl Qxz) (Y2 (xs:=[[],[110]]) (T4 U.out (by have h1:=aH.out;have h2:=aG.out;have h3:=aK.out;omega)) (by have A:=aW.out;have h1:=aH.out;have h2:=aG.out;have h3:=aK.out;show w.heap.size<_;omega) (Pt _ _ [] [110] Qxz Qxz) rfl rfl Qxz) (Y2 (xs:=[Gen.e,Gen.yes,Gen.op [60] [Gen.var [110],Gen.b]]) (T4 N.out (by have h1:=aH.out;have h2:=aG.out;have h3:=aK.out;omega)) (by have A:=bI.out;have h1:=aH.out;have h2:=aG.out;have h3:=aK.out;show w.heap.size<_;omega) (((Cs.one (r:=Vw) (Yq 3 [101] 0 [] Qxz Qxz)).app (Cs.one (r:=Vw) (Yq 2 [] 1 [] Qxz Qxz))).app (Cs.one (r:=Vw) J.out)) rfl rfl Qxz)) I.out rfl)
end Go.Proofs.YtlanplhphiikjaaGreatDoor
