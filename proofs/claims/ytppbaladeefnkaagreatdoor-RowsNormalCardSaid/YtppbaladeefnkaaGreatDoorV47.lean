import Derived.Test.YtppbaladeefnkaaGreatDoorV46
import Derived.Test.YtppbaladeefnkaaGreatDoorV36
set_option maxRecDepth 100000
set_option maxHeartbeats 400000000
namespace Go.Proofs.YtppbaladeefnkaaGreatDoor
open Go.RowKit Go.Shelf Go.Lib Tryz
structure Pv (s:Sc):Prop where
 sums:Vr s.sums
 gen:∀ t ∈ s.tables,Jm t
 ok:∀ t ∈ s.tables,L6 t
 few:s.tables.length≤20
 once:(s.tables.map Tbl.name).Nodup
structure Vn (s:Sc) (c:Nat) (l:List Rel):Prop where
 tabs:l.map Rel.table=s.tables.map Tbl.name
 rows:∀ r ∈ l,∀ v ∈ r.rows,Xu v
 few:∀ r ∈ l,r.rows.length≤c
 up:∀ r ∈ l,UpV r.rows
theorem Vn.len {s:Sc} {c:Nat} {l:List Rel} (h:Vn s c l):l.length=s.tables.length:=by have:=congrArg List.length h.tabs;simpa using this
theorem Vn.mono {s:Sc} {c d:Nat} {l:List Rel} (h:Vn s c l) (hc:c≤d):Vn s d l:=⟨h.tabs,h.rows,fun r hr=>Qc (h.few r hr) hc,h.up⟩
theorem Oz (s:Sc):Vn s 5 (Yh s):=by
 refine ⟨by simp [Yh,Function.comp_def],fun r hr=>?_,fun r hr=>?_,fun r hr=>?_⟩
 all_goals
  unfold Yh at hr
  obtain ⟨t,_,rfl⟩:=List.mem_map.1 hr
  simp [UpV]
theorem Ez {l:List Val} {x y:Val} (h:y ∈ Vc l x):y ∈ l∨y=x:=by
 unfold Vc at h
 split at h
 ·exact .inl h
 rcases List.mem_append.1 h with h | h
 ·exact .inl (List.mem_of_mem_take h)
 rcases List.mem_cons.1 h with h | h
 ·exact .inr h
 exact .inl (List.mem_of_mem_drop h)
theorem M6 (l:List Val) (x:Val):(Vc l x).length≤l.length+1:=by
 unfold Vc
 split
 ·omega
 rw [List.length_append,List.length_cons,List.length_take,List.length_drop];omega
theorem Vn.ins {s:Sc} {c:Nat} {l:List Rel} (h:Vn s c l) (x:Bs) (v:Val) (hv:Xu v) (hc:∀ i r,Ym l x=some i→l[i]?=some r→r.rows.length<c):Vn s c (Uv l x v):=by
 cases ha:Ym l x with
 | none=>rw [D9 ha];exact h
 | some i=>
  obtain ⟨r,hr⟩:∃ r,l[i]?=some r:=by
   unfold Ym at ha
   have:=(List.findIdx?_eq_some_iff_getElem.1 ha).1
   exact ⟨_,Qx this⟩
  rw [Dn ha hr]
  have hm:=Qy hr
  have hi:=hc i r ha hr
  have hmem:∀ q ∈ l.set i ⟨r.table,Vc r.rows v⟩,q ∈ l∨q=⟨r.table,Vc r.rows v⟩:=fun q hq=>List.mem_or_eq_of_mem_set hq
  refine ⟨?_,fun q hq u hu=>?_,fun q hq=>?_,fun q hq=>?_⟩
  ·rw [← h.tabs,List.map_set]
   obtain ⟨h1,rfl⟩:=Qj hr
   apply List.ext_getElem?
   intro j
   rw [List.getElem?_set]
   split
   ·rename_i e
    subst e
    simp [h1]
   rfl
  ·rcases hmem q hq with hq | rfl
   ·exact h.rows q hq u hu
   rcases Ez hu with hu | rfl
   ·exact h.rows r hm u hu
   exact hv
  ·rcases hmem q hq with hq | rfl
   ·exact h.few q hq
   have:=M6 r.rows v
   show (Vc r.rows v).length≤c
   omega
  rcases hmem q hq with hq | rfl
  ·exact h.up q hq
  exact putV_up (h.up r hm) v
theorem Vn.at_ {s:Sc} {c:Nat} {l:List Rel} (h:Vn s c l) (hd:(s.tables.map Tbl.name).Nodup) {i:Nat} {t:Tbl} (ht:s.tables[i]?=some t):Ym l t.name=some i:=by
 have hi:i<l.length:=by rw [h.len];exact (Qj ht).1
 have hn:∀ j (hj:j<l.length),(l[j]).table=(s.tables.map Tbl.name)[j]'(by rw [← h.tabs];simpa using hj):=fun j hj=>by
  have:(l.map Rel.table)[j]'(by simpa using hj)=(l[j]).table:=by simp
  rw [← this]
  simp only [h.tabs]
 have hti:(s.tables.map Tbl.name)[i]'(by rw [← h.tabs];simpa using hi)=t.name:=by
  obtain ⟨h1,rfl⟩:=Qj ht
  simp
 unfold Ym
 refine List.findIdx?_eq_some_iff_getElem.2 ⟨hi,by simp [hn i hi,hti],fun j hj=>?_⟩
 have hjl:j<l.length:=by omega
 have:(l[j]).table≠t.name:=by
  rw [hn j hjl,← hti]
  intro e
  exact (List.pairwise_iff_getElem.1 hd) j i (by rw [← h.tabs];simpa using hjl) (by rw [← h.tabs];simpa using hi) hj e
 simpa using this
def U8 (s:Sc) (c:Nat) (W0 wr:World) (v:Value) (n:Nat):Prop:=∃ l css,Vn s c l∧l.length=n∧Own Zl 57 (fun b=>W0.heap.size≤b) W0.heap.size wr v l css
def StateIs' (s:Sc) (c:Nat) (w:World) (e:Ending) (w':World):Prop:=∃ l p cap css,e=.returned (.slice p l.length cap)∧Vn s c l∧Own Zl 57 (fun b=>w.heap.size≤b) w.heap.size w' (.slice p l.length cap) l css∧Below w.heap.size w w'
theorem Vr.ok {us:List Sm} (h:Vr us):De us:=fun u hu c hc=>(h u hu c hc).1
theorem U8.grow {s:Sc} {c:Nat} {W0 wr wr':World} {v:Value} {n:Nat} (h:U8 s c W0 wr v n) (hb:Below wr.heap.size wr wr'):U8 s c W0 wr' v n:=by
 obtain ⟨l,css,h1,h2,h3⟩:=h
 exact ⟨l,css,h1,h2,h3.below hb⟩
theorem Ng (HCk:Dk) (s:Sc) (hS:Pv s) (S0 S3:Nat→Prop) (cs:List Value) (nv:Value) (ns:List Int) (w:World) (hs:Yn S0 w cs s) (hn0:Y6 S3 w nv ns) (hi:V9 ns):
  Calls prog 31 #[.agg cs.toArray,nv] w (StateIs' s 5 w):=by
 have HEm:=Qq (fun W (hW:Below w.heap.size w W)=>O4 S0 s cs W (hs.below hW) (by have:=hS.few;omega))
 have HSc:=Qq hs;have HNs:=Qq hn0;have HGen:=Qq hS
 have HPk:=Qq (fun (k:Nat) W (hW:Below w.heap.size w W)=>Zt S3 nv ns (k+1) 5 W (hn0.below hW) hi (by omega) (by omega))
 obtain ⟨uv,tv,rfl,hu,ht⟩:=hs
 obtain ⟨up,uc,rfl,_⟩:=hu.len
 obtain ⟨tp,tc,rfl,_⟩:=ht.len
 obtain ⟨np,nc,rfl,_⟩:=hn0.len
 obtain ⟨n,hn⟩:=eX (s.tables.length)
 have hn9:n≤20:=by have:=hS.few;omega
 have he:(Yh s).length=n:=by rw [← hn];simp [Yh]
 unfold Lj at HEm
 rw [hn] at ht HSc HEm ⊢
 rw [he] at HEm
 have HT:=Qq ht;have HN:=Qq hn;have HI:=Qq hi
 clear hu ht hn0 hn he hS hi
 simp only [Int.natCast_add,Int.cast_ofNat_Int] at HPk
 go_enter func31,ntmps31
 go_upto_region 1 with fail
 generalize hW1:w.alloc _=W1
 have hb1:=eqB hW1 (Qn _ _)
 have hX1:=eqH (b:=w.heap.size) hW1 (Qw _ _)
 have HB1:=Qq hb1;have HX1:=Qq hX1
 obtain ⟨c0,c1⟩:=row2 hX1
 clear hW1 hb1 hX1
 have hlt1:=Qf HX1.out
 go_upto_region 2 with (go_at_call 30;refine (HEm.out _ HB1.out).mono ?_;rintro e w2 ⟨p2,cap2,css2,rfl,hO2,hb2⟩;have HO2:=Qq hO2;have HB2:=Qq (show Below W1.heap.size W1 w2 from hb2);clear hO2 hb2)
 have hst:U8 s 5 w w2 (.slice p2 n cap2) n:=⟨Yh s,css2,Oz s,by rw [← HN.out];simp [Yh],HO2.out.weak (by omega) (fun b _ h=>by rcases h with h | h;exact h.elim;exact (by omega))⟩
 have HSt:=Qq hst
 clear hst HEm c0 c1
 go_wp2_with fail
 go_loopw [5,6,7,8,9,10] (fun t5 t6 _ _ _ _ wr=>∃ (k:Nat) (p:Option Addr) (cap:Nat),k≤3∧t5=.slice p n cap∧t6=.int .i64 k∧Aside (U8 s 5 w wr (.slice p n cap) n∧Below W1.heap.size W1 wr)) (fun _ t6 _ _ _ _ _=>3 - (intOf t6).toNat)
 case atStart=>exact ⟨0,_,_,Q8 _,rfl,rfl,⟨HSt.out,HB2.out⟩⟩
 obtain ⟨ps,pa,capa,hbps,rfl,rfl,hA⟩:=hrel
 have HSta:=Qq hA.out.1;have HBa:=Qq hA.out.2
 clear hA
 by_cases hps:ps<3
 ·have g1:(ps:Int)<3:=by omega
  go_upto_region 6 with fail
  go_loopw [5,7,8,9,10] (fun t5 t7 _ _ _ wr=>∃ (k:Nat) (p:Option Addr) (cap:Nat),k≤n∧t5=.slice p n cap∧t7=.int .i64 k∧Aside (U8 s 5 w wr (.slice p n cap) n∧Below W1.heap.size W1 wr)) (fun _ t7 _ _ _ _=>n - (intOf t7).toNat)
  case atStart=>exact ⟨0,_,_,Q8 _,rfl,rfl,⟨HSta.out,HBa.out⟩⟩
  obtain ⟨i,pb,capb,hbi,rfl,rfl,hA⟩:=hrel
  have HStb:=Qq hA.out.1;have HBb:=Qq hA.out.2
  clear hA
  have hXb:=kE HBb.out hlt1 HX1.out
  have c1:=rA1 hXb
  clear hXb
  by_cases hin:i<n
  ·have g2:(i:Int)<(n:Int):=by omega
   have g3:(0:Int)≤(i:Int):=by omega
   go_upto_region 9 with fail
   clear c1
   go_loopw [5,8,9,10] (fun t5 t8 _ _ wr=>∃ (k:Nat) (p:Option Addr) (cap:Nat),k≤3∧t5=.slice p n cap∧t8=.int .i64 k∧Aside (U8 s 5 w wr (.slice p n cap) n∧Below W1.heap.size W1 wr)) (fun _ t8 _ _ _=>3 - (intOf t8).toNat)
   case atStart=>exact ⟨0,_,_,Q8 _,rfl,rfl,⟨HStb.out,HBb.out⟩⟩
   obtain ⟨k,pc,capc,hbk,rfl,rfl,hA⟩:=hrel
   have HStc:=Qq hA.out.1;have HBc:=Qq hA.out.2
   clear hA
   have HWc:=Qq (HB1.out.thn HBc.out)
   by_cases hk:k<3
   ·have g4:(k:Int)<3:=by omega
    obtain ⟨l,css,hg,hll,hO⟩:=HStc.out
    have hSl:Sl Zl (fun b=>w.heap.size≤b) wr (.slice pc n capc) l:=by
     have:=hO.sl (S':=fun b=>w.heap.size≤b) (by omega) (fun _ h=>h) (fun _ _ h=>h)
     exact this
    obtain ⟨r,hr⟩:∃ r,l[i]?=some r:=⟨_,Qx (by omega)⟩
    obtain ⟨lb,loff,rcs,hlp,hlb,hlS,_,⟨rv,hrcs,hrt,hrv,hrc⟩,hrd⟩:=hSl.elem hr
    subst hlp;subst hrcs
    obtain ⟨q,m,hrv',_⟩:=hrc
    obtain ⟨mr,hmr⟩:=eX (r.rows.length)
    rw [hmr] at hrv'
    subst hrv'
    have e1:=hrd 1 _ rfl
    rw [show Zl.k=2 from rfl] at e1
    have HGl:=Qq hg;have HSl:=Qq hSl;have HR:=Qq hr;have HMr:=Qq hmr
    clear hg hO hSl hr hrd hrt hrv hmr css
    by_cases hm5:mr<5
    ·have g5:(mr:Int)<5:=by omega
     obtain ⟨a,ha⟩:∃ a:Nat,11*(ps:Int)+5*(i:Int)+3*(k:Int)=(a:Int):=⟨11*ps+5*i+3*k,by omega⟩
     have ha9:a≤1000:=by omega
     have HPa:=Qq (HPk.out a)
     obtain ⟨z,hz⟩:=eX (Zp ns (a+1) 5)
     rw [hz] at HPa
     clear hz
     go_upto_region 12 with fail
     by_cases hz0:z=0
     ·subst hz0
      go_wp2_with (go_at_call 26;refine (HPa.out _ HWc.out).mono ?_;rintro e w' ⟨rfl,rfl⟩)
      go_roundw
      case measure=>simp [intOf];omega
      case rel=>exact ⟨k+1,_,_,by omega,rfl,by go_num,HStc.out,HBc.out⟩
     have hq:(z==0)=false:=by rw [← Bool.not_eq_true,beq_iff_eq];exact hz0
     obtain ⟨t,ht⟩:∃ t,s.tables[i]?=some t:=⟨_,Qx (by rw [HN.out];exact hin)⟩
     obtain ⟨tb,toff,tcs',htp,htb,_,_,hTR,htc⟩:=(HT.out.below HWc.out).elem ht
     subst htp
     obtain ⟨cp9,cc9,kp9,kc9,rp9,rc9,k9,s19,n9,s29,p19,n19,c19,p29,n29,c29,p39,n39,c39,a9,z9,hcs,_⟩:=Zk hTR
     simp only [tcs] at hcs
     subst hcs
     have hXc:=kE HBc.out hlt1 HX1.out
     obtain ⟨c0,c1⟩:=row2 hXc
     have d0:=htc 0 _ rfl;have d1:=htc 1 _ rfl;have d2:=htc 2 _ rfl;have d3:=htc 3 _ rfl;have d4:=htc 4 _ rfl;have d5:=htc 5 _ rfl;have d6:=htc 6 _ rfl;have d7:=htc 7 _ rfl;have d8:=htc 8 _ rfl;have d9:=htc 9 _ rfl;have d10:=htc 10 _ rfl;have d11:=htc 11 _ rfl;have d12:=htc 12 _ rfl
     rw [show Qt.k=13 from rfl] at d0 d1 d2 d3 d4 d5 d6 d7 d8 d9 d10 d11 d12
     rw [Nat.add_zero] at d0
     try unfold sv at d0
     have HTR:=Qq hTR;have HTm:=Qq (Qy ht);have HTi:=Qq ht
     clear hXc htc hTR ht e1
     go_upto_region 13 with (go_at_call 26;refine (HPa.out _ HWc.out).mono ?_;rintro e w' ⟨rfl,rfl⟩)
     refine let_mvar% ?Lq1:=fun w':World=>w'.cell? ⟨w.heap.size,0,none⟩=some (.slice up s.sums.length uc)∧w'.cell? ⟨w.heap.size,1,none⟩=some (.slice (some ⟨tb,toff,none⟩) n tc)∧w'.cell? ⟨tb,toff+i*13,none⟩=some (.string ⟨t.name.toArray⟩)∧w'.cell? ⟨tb,toff+i*13+1,none⟩=some (.slice cp9 t.columns.length cc9)∧w'.cell? ⟨tb,toff+i*13+2,none⟩=some (.slice kp9 t.key.length kc9)∧w'.cell? ⟨tb,toff+i*13+3,none⟩=some (.slice rp9 t.refs.length rc9)∧w'.cell? ⟨tb,toff+i*13+4,none⟩=some (.int .i64 k9)∧w'.cell? ⟨tb,toff+i*13+5,none⟩=some (.string s19)∧w'.cell? ⟨tb,toff+i*13+6,none⟩=some (.int .i64 n9)∧w'.cell? ⟨tb,toff+i*13+7,none⟩=some (.string s29)∧w'.cell? ⟨tb,toff+i*13+8,none⟩=some (.slice p19 n19 c19)∧w'.cell? ⟨tb,toff+i*13+9,none⟩=some (.slice p29 n29 c29)∧w'.cell? ⟨tb,toff+i*13+10,none⟩=some (.slice p39 n39 c39)∧w'.cell? ⟨tb,toff+i*13+11,none⟩=some (.int .i64 a9)∧w'.cell? ⟨tb,toff+i*13+12,none⟩=some (.int .i64 z9)∧Below wr.heap.size wr w';?_
     have HS:∀ w',Below wr.heap.size wr w'→?Lq1 w':=by
      intro w' h
      have hh:∀ {b j:Nat} {u:Value},wr.cell? ⟨b,j,none⟩=some u→w'.cell? ⟨b,j,none⟩=some u:=fun hc=>kC h hc
      exact ⟨hh c0,hh c1,hh d0,hh d1,hh d2,hh d3,hh d4,hh d5,hh d6,hh d7,hh d8,hh d9,hh d10,hh d11,hh d12,h⟩
     obtain ⟨HS0,HSr,HD',HSB',HA',HSq⟩:=X5 HS (fun w' h=>h.2.2.2.2.2.2.2.2.2.2.2.2.2.2.2)
     have HP:=fun w' x0 x1 x2 x3 x4 h=>HSq.out (Zz w' wr.heap.size x0 x1 x2 x3 x4) (Qo (HSB'.out w' h) (Q9 _))
     unfold Zz at HP
     have HP':=Qq HP
     clear HS HP c0 c1 d0 d1 d2 d3 d4 d5 d6 d7 d8 d9 d10 d11 d12
     have HRow:=Qq (fun W' (h':Below wr.heap.size wr W')=>(rrow_any S0 (fun b=>w.heap.size≤b) _ S3 s [.slice up s.sums.length uc,.slice (some ⟨tb,toff,none⟩) n tc] (.slice (some ⟨lb,loff,none⟩) n capc) l t [.string ⟨t.name.toArray⟩,.slice cp9 t.columns.length cc9,.slice kp9 t.key.length kc9,.slice rp9 t.refs.length rc9,.int .i64 k9,.string s19,.int .i64 n9,.string s29,.slice p19 n19 c19,.slice p29 n29 c29,.slice p39 n39 c39,.int .i64 a9,.int .i64 z9] (.slice np ns.length nc) ns a W' (HSc.out.below (HWc.out.thn h')) ((HSl.out.below h').rel) (Qt.frame HTR.out (.of_below h')) (HNs.out.below (HWc.out.thn h')) HI.out ha9 (HGen.out.gen t HTm.out) HGen.out.sums (fun t ht=>(HGen.out.ok t ht).key) (fun r hr v hv=>(HGl.out.rows r hr v hv).good)).mono (R':=fun e w2=>∃ v q3 m3 q4 m4,e=.returned (.agg #[.int .i64 v.kind,.int .i64 v.n,.string ⟨v.s.toArray⟩,.slice q3 v.names.length m3,.slice q4 v.kids.length m4])∧Xu v∧Qh (fun b=>w.heap.size≤b) w2 (vcs v q3 m3 q4 m4) v∧Below wr.heap.size wr w2) (by
      rintro e w2 ⟨v,q3,m3,q4,m4,rfl,x1,x2,x3,x4⟩
      have hsz:=h'.size
      have hw9:=HWc.out.size
      have hf9:=(HGen.out.gen t HTm.out).few
      exact ⟨v,q3,m3,q4,m4,rfl,⟨x1,by omega⟩,x3.move (.refl _ _) (fun b _ h=>h.elim id (fun h=>by show w.heap.size≤b;omega)),h'.thn x4⟩))
     have HIns:=Qq (fun W' v q3 m3 q4 m4 (h':Below wr.heap.size wr W') (hv:Qh (fun b=>w.heap.size≤b) W' (vcs v q3 m3 q4 m4) v)=>(Jc (fun b=>w.heap.size≤b) (.slice (some ⟨lb,loff,none⟩) n capc) l t.name v _ W' (HSl.out.below h') hv (by omega) (fun r hr=>by have:=HGl.out.few r hr;omega)).mono (R':=fun e w2=>∃ p cap css,e=.returned (.slice p n cap)∧Own Zl 57 (fun b=>w.heap.size≤b) w.heap.size w2 (.slice p n cap) (Uv l t.name v) css∧Below wr.heap.size wr w2) (by
      rintro e w2 ⟨p,cap,css,rfl,x1,x2⟩
      have hsz:=h'.size
      have hw9:=HWc.out.size
      rw [Ut,hll] at x1 ⊢
      exact ⟨p,cap,css,rfl,x1.weak (by omega) (fun b _ h=>h.elim id (fun h=>by show w.heap.size≤b;omega)),h'.thn x2⟩))
     unfold sv vcs at HIns
     go_cut [10] from 24 to 73 (fun t10 wx=>∃ p cap v css,t10=.slice p n cap∧Xu v∧Own Zl 57 (fun b=>w.heap.size≤b) w.heap.size wx (.slice p n cap) (Uv l t.name v) css∧Below wr.heap.size wr wx)
     case first=>
      go_region_held3 ?Lq1 (first | with_reducible exact HS0.out | with_reducible exact hS3 | with_reducible exact hS2)
       (first
        | (go_at_call 23;refine (HIns.out _ _ _ _ _ _ (HSB'.out _ hS2) HV2.out).mono ?_;rintro e w3 ⟨p9,cap9,css9,rfl,hO3,hq3⟩;have hS3:=HSq.out _ hq3;have HO3:=Qq hO3;clear hO3)
        | (go_at_call 36;refine (HRow.out _ (HSB'.out _ (by assumption))).mono ?_;rintro e w2 ⟨v,q3,m3,q4,m4,rfl,hg2,hv2,hq2⟩;have hS2:=HSq.out _ hq2;have HG2:=Qq hg2;have HV2:=Qq hv2;clear hg2 hv2))
      all_goals
       go_wp2_with fail
       go_meet
       exact ⟨p9,cap9,v,css9,rfl,HG2.out,HO3.out,HSB'.out _ hS3⟩
     obtain ⟨p9,cap9,v,css9,rfl,hvo,hO9,hbc⟩:=hcut
     have hg9:Vn s 5 (Uv l t.name v):=HGl.out.ins t.name v hvo (fun i' r' h1 h2=>by
      rw [HGl.out.at_ HGen.out.once HTi.out] at h1
      cases h1
      rw [HR.out] at h2
      cases h2
      rw [HMr.out];exact hm5)
     have hlen9:(Uv l t.name v).length=n:=by rw [Ut,hll]
     have HG9:=Qq hg9;have HBc9:=Qq (HBc.out.thn hbc);have HWc9:=Qq (HWc.out.thn hbc)
     have HSt9:=Qq (show U8 s 5 w wc (.slice p9 n cap9) n from ⟨_,css9,hg9,hlen9,hO9⟩)
     have hSl9:Sl Zl (fun b=>w.heap.size≤b) wc (.slice p9 n cap9) (Uv l t.name v):=by
      have:=hO9.sl (S':=(fun b=>w.heap.size≤b)) (by omega) (fun _ h=>h) (fun _ _ h=>h)
      exact this
     have HCk9:=Qq (HCk S0 (fun b=>w.heap.size≤b) s [.slice up s.sums.length uc,.slice (some ⟨tb,toff,none⟩) n tc] (.slice p9 n cap9) (Uv l t.name v) wc (HSc.out.below HWc9.out) hSl9.rel (by rw [hlen9,HN.out]) HGen.out.sums.ok HGen.out.ok hg9.rows)
     have hXc:=kE HBc9.out hlt1 HX1.out
     obtain ⟨c0,c1⟩:=row2 hXc
     have HSt0:=Qq (HStc.out.grow hbc)
     clear hvo hO9 hg9 hlen9 hSl9 hXc HRow HIns hbc
     clear HS0 HSr HD' HSB' HA' HP' HSq
     go_upto_region 15 with (go_at_call 66;refine HCk9.out.mono ?_;rintro e w4 ⟨⟨fc,x1,x2,x3,x4,x5,x6,x7,x8,x9,x10,x11,rfl⟩,hb4⟩;have hfd:∀ W,(Instr.field 94 (.agg #[.int .i64 fc,x1,x2,x3,x4,x5,x6,x7,x8,x9,x10,x11]) 0).run prog W=.ok (.int .i64 fc) W:=(fun W=>by simp [Instr.field,go_sem,part,asAgg]);have HB4:=Qq hb4;clear hb4)
     focus
      go_wp2_with fail
      go_roundw
      case measure=>simp [intOf];omega
      case rel=>exact ⟨k+1,_,_,by omega,rfl,by go_num,HSt9.out.grow HB4.out,HBc9.out.thn HB4.out⟩
     focus
      exact ⟨⟨k+1,_,_,by omega,rfl,by go_num,HSt0.out.grow (by have h:=HB4.out;exact h),HBc9.out.thn HB4.out⟩,by simp [intOf];omega⟩
    have g5:¬ (mr:Int)<5:=by omega
    go_wp2_with fail
    go_roundw
    case measure=>simp [intOf];omega
    case rel=>exact ⟨i+1,_,_,by omega,rfl,by go_num,HStc.out,HBc.out⟩
   have hk3:k=3:=by omega
   subst hk3
   go_wp2_with fail
   go_roundw
   case measure=>simp [intOf];omega
   case rel=>exact ⟨i+1,_,_,by omega,rfl,by go_num,HStc.out,HBc.out⟩
  have g2:¬ (i:Int)<(n:Int):=by omega
  go_wp2_with fail
  go_roundw
  case measure=>simp [intOf];omega
  case rel=>exact ⟨ps+1,_,_,by omega,rfl,by go_num,HStb.out,HBb.out⟩
 have hps3:ps=3:=by omega
 subst hps3
 go_wp2_with fail
 go_ret
 obtain ⟨l,css,hg,hl,hO⟩:=HSta.out
 subst hl
 exact ⟨l,pa,capa,css,rfl,hg,hO,HB1.out.thn HBa.out⟩
theorem G5 {P:Program} {T:Type} {r:Rd T} (t e:TypeId) (hu:P.underlying t=some (.slice e)) (hz:∀ w,(Go.sizeOf e).run P w=.ok r.k w) {S:Nat→Prop} {w:World} {p:Option Addr} {n cap:Nat} {l:List T} (h:Sl r S w (.slice p n cap) l) (hc:n≤cap) (k:Nat) (hk:k≤n):
  ∃ p2 c2,(∀ W,(Instr.slice t (.slice p n cap) (some (.int .i64 (k:Int))) none none).run P W=.ok (.slice p2 (n - k) c2) W)∧Sl r S w (.slice p2 (n - k) c2) (l.drop k)∧(l.drop k).length=n - k:=by
 have hn:l.length=n:=by
  obtain ⟨p',c',e,_⟩:=h.len
  simp only [Value.slice.injEq] at e
  exact e.2.1.symm
 obtain ⟨V1,V2,_,h2,_,h4⟩:=Xh t e hu hz h ⟨p,cap,by rw [hn],by omega⟩ k (by omega)
 have hl:(l.drop k).length=n - k:=by rw [List.length_drop,hn]
 obtain ⟨p2,c2,rfl,_⟩:=h4.len
 rw [hl] at h2 h4
 exact ⟨p2,c2,h2,h4,hl⟩
structure Ua (s:Sc) (c:Nat) (l:List Rel):Prop where
 tabs:l.map Rel.table=s.tables.map Tbl.name
 rows:∀ r ∈ l,∀ v ∈ r.rows,Xu v
 few:∀ r ∈ l,r.rows.length≤c
theorem Vn.dy {s:Sc} {c:Nat} {l:List Rel} (h:Vn s c l):Ua s c l:=⟨h.tabs,h.rows,h.few⟩
theorem Ua.len {s:Sc} {c:Nat} {l:List Rel} (h:Ua s c l):l.length=s.tables.length:=by have:=congrArg List.length h.tabs;simpa using this
theorem Ua.mono {s:Sc} {c d:Nat} {l:List Rel} (h:Ua s c l) (hc:c≤d):Ua s d l:=⟨h.tabs,h.rows,fun r hr=>Qc (h.few r hr) hc⟩
theorem Ua.set {s:Sc} {c:Nat} {l:List Rel} (h:Ua s c l) {i:Nat} {r:Rel} (hr:l[i]?=some r) (zs:List Val) (hz:∀ v ∈ zs,Xu v) (hc:zs.length≤c):Ua s c (l.set i ⟨r.table,zs⟩):=by
 have hmem:∀ q ∈ l.set i ⟨r.table,zs⟩,q ∈ l∨q=⟨r.table,zs⟩:=fun q hq=>List.mem_or_eq_of_mem_set hq
 refine ⟨?_,fun q hq u hu=>?_,fun q hq=>?_⟩
 ·rw [← h.tabs,List.map_set]
  obtain ⟨h1,rfl⟩:=Qj hr
  apply List.ext_getElem?
  intro j
  rw [List.getElem?_set]
  split
  ·rename_i e
   subst e
   simp [h1]
  rfl
 ·rcases hmem q hq with hq | rfl
  ·exact h.rows q hq u hu
  exact hz u hu
 rcases hmem q hq with hq | rfl
 ·exact h.few q hq
 exact hc
theorem Ua.ins {s:Sc} {c:Nat} {l:List Rel} (h:Ua s c l) (x:Bs) (v:Val) (hv:Xu v):Ua s (c+1) (Uv l x v):=by
 cases ha:Ym l x with
 | none=>rw [D9 ha];exact h.mono (Nat.le_succ c)
 | some i=>
  obtain ⟨r,hr⟩:∃ r,l[i]?=some r:=by
   unfold Ym at ha
   have:=(List.findIdx?_eq_some_iff_getElem.1 ha).1
   exact ⟨_,Qx this⟩
  rw [Dn ha hr]
  have hm:=Qy hr
  refine (h.mono (Nat.le_succ c)).set hr _ (fun u hu=>?_) ?_
  ·rcases Ez hu with hu | rfl
   ·exact h.rows r hm u hu
   exact hv
  have:=M6 r.rows v;have:=h.few r hm;omega
theorem tabs_at {s:Sc} {l:List Rel} (ht:l.map Rel.table=s.tables.map Tbl.name) (hd:(s.tables.map Tbl.name).Nodup) {i:Nat} {t:Tbl} (h:s.tables[i]?=some t):Ym l t.name=some i:=by
 have hl:l.length=s.tables.length:=by have:=congrArg List.length ht;simpa using this
 have hi:i<l.length:=by rw [hl];exact (Qj h).1
 have hn:∀ j (hj:j<l.length),(l[j]).table=(s.tables.map Tbl.name)[j]'(by rw [← ht];simpa using hj):=fun j hj=>by
  have:(l.map Rel.table)[j]'(by simpa using hj)=(l[j]).table:=by simp
  rw [← this]
  simp only [ht]
 have hti:(s.tables.map Tbl.name)[i]'(by rw [← ht];simpa using hi)=t.name:=by
  obtain ⟨h1,rfl⟩:=Qj h
  simp
 unfold Ym
 refine List.findIdx?_eq_some_iff_getElem.2 ⟨hi,by simp [hn i hi,hti],fun j hj=>?_⟩
 have hjl:j<l.length:=by omega
 have:(l[j]).table≠t.name:=by
  rw [hn j hjl,← hti]
  intro e
  exact (List.pairwise_iff_getElem.1 hd) j i (by rw [← ht];simpa using hjl) (by rw [← ht];simpa using hi) hj e
 simpa using this
theorem Xu.dirty {v:Val} (h:Xu v) (hp:0<v.kids.length):Xu (.mk v.kind v.n v.s v.names (.mk 5 0 [] [] []::v.kids.drop 1)):=by
 obtain ⟨hg,hf⟩:=h
 refine ⟨?_,by show (_::_).length≤900;rw [List.length_cons,List.length_drop];have:v.kids.length≤900:=hf;omega⟩
 have hm:∀ kids:List Val,(∀ k ∈ kids,Zr k)→∀ k ∈ (.mk 5 0 [] [] []::kids.drop 1:List Val),Zr k:=fun kids hk k h=>by
  rcases List.mem_cons.1 h with rfl | h
  ·exact .list [] (fun k h=>by cases h)
  exact hk k (List.mem_of_mem_drop h)
 have hL:∀ kids:List Val,0<kids.length→(.mk 5 0 [] [] []::kids.drop 1:List Val).length=kids.length:=fun kids h=>by
  rw [List.length_cons,List.length_drop];omega
 cases hg with
 | int n=>exact absurd hp (Nat.lt_irrefl 0)
 | text s=>exact absurd hp (Nat.lt_irrefl 0)
 | bool n _=>exact absurd hp (Nat.lt_irrefl 0)
 | make s kids hs hl hk=>exact .make s _ hs (Qc (Nat.le_of_eq (hL kids hp)) hl) (hm kids hk)
 | record names kids hl hn hs hk=>exact .record names _ (hl.trans (hL kids hp).symm) hn hs (hm kids hk)
 | list kids hk=>exact .list _ (hm kids hk)
theorem own_relP {E:TypeId} {S:Nat→Prop} {B g n cap:Nat} {w:World} {l:List Rel} {css:List (List Value)} (hl:l.length≤1000000) (hB:∀ b,B≤b→S b) (h:Own Zl E S B w (.slice (some ⟨g,0,none⟩) n cap) l css):Sl (R8 (fun b=>b≠g)) S w (.slice (some ⟨g,0,none⟩) n cap) l:=by
 have hO:Own (R8 (fun b=>b≠g)) E S B w (.slice (some ⟨g,0,none⟩) n cap) l css:=⟨h.row,⟨h.cs.len,fun i c x hc hx=>by
  obtain ⟨v,e,h1,h2,_⟩:=h.cs.R i c x hc hx
  exact ⟨v,e,h1,h2.mono (fun b _ hb=>⟨hb,fun e=>hb.2 (by rw [e];rfl)⟩)⟩⟩⟩
 exact hO.sl hl hB (fun _ _ h=>h)
def Ks (s:Sc) (c:Nat) (W0 wr:World) (v:Value) (n:Nat):Prop:=∃ l css,Ua s c l∧l.length=n∧Own Zl 57 (fun b=>W0.heap.size≤b) W0.heap.size wr v l css
theorem Ks.grow {s:Sc} {c:Nat} {W0 wr wr':World} {v:Value} {n:Nat} (h:Ks s c W0 wr v n) (hb:Below wr.heap.size wr wr'):Ks s c W0 wr' v n:=by
 obtain ⟨l,css,h1,h2,h3⟩:=h
 exact ⟨l,css,h1,h2,h3.below hb⟩
def Om (s:Sc) (w:World) (e:Ending) (w':World):Prop:=∃ l p cap,e=.returned (.slice p l.length cap)∧(∀ r ∈ l,(∀ v ∈ r.rows,Xu v)∧r.rows.length≤8)∧l.length≤s.tables.length∧(∃ d,l.map Rel.table=(s.tables.map Tbl.name).drop d)∧Sl Zl (fun b=>w.heap.size≤b) w' (.slice p l.length cap) l∧Below w.heap.size w w'
theorem Se (S:Nat→Prop) (v:Value) (l:List Int) (w:World) (hs:Y6 S w v l) (hi:V9 l) (hk:Zp l 0 13=8):
  Calls prog 35 #[v,.int .i64 0] w (Vi w (Gen.check 8)):=by
 have HP:=Qq (fun W (hb:Below w.heap.size w W)=>Zt S v l 0 13 W (hs.below hb) hi (by omega) (by omega))
 rw [hk] at HP
 obtain ⟨p,cap,rfl,_⟩:=hs.len
 clear hs hi hk
 go_enter func35,ntmps35
 go_upto_region 8 with fail
 generalize hW8:(((((((w.alloc _).alloc _).alloc _).alloc _).alloc _).alloc _).alloc _).alloc _=W8
 have hb8:=eqB hW8 (Zq (Zq (Zq (Zq (Zq (Zq (Zq (Qn w _) _) _) _) _) _) _) _)
 have hz8:W8.heap.size=w.heap.size+8:=by rw [← hW8];simp
 have r8:=eqH (b:=w.heap.size) hW8 (Qi (Qi (Qi (Qi (Qi (Qi (Qi (Z8 rfl _) _) _) _) _) _) _) _)
 have hS2:=((((Yj.row (show W8.heap[w.heap.size+1]?=some (.cells #[.int .i64 3,.string ⟨#[97]⟩,.int .i64 0,.string ⟨#[]⟩,.slice none 0 0,.slice none 0 0,.slice none 0 0,.int .i64 0,.int .i64 0] 35 (0,0)) from by rw [← hW8];exact Qi (Qi (Qi (Qi (Qi (Qi (Z8 (by simp) _) _) _) _) _) _) _)).app (Yj.row (show W8.heap[w.heap.size+1+1]?=some (.cells #[.int .i64 3,.string ⟨#[98]⟩,.int .i64 0,.string ⟨#[]⟩,.slice none 0 0,.slice none 0 0,.slice none 0 0,.int .i64 0,.int .i64 0] 35 (0,0)) from by rw [← hW8];exact Qi (Qi (Qi (Qi (Qi (Z8 (by simp) _) _) _) _) _) _))).app (Yj.row (show W8.heap[w.heap.size+1+1+1+1+1+1]?=some (.cells #[.int .i64 0,.string ⟨#[]⟩,.int .i64 1,.string ⟨#[]⟩,.slice none 0 0,.slice none 0 0,.slice none 0 0,.int .i64 0,.int .i64 0] 35 (0,0)) from by rw [← hW8];exact Qi (Z8 (by simp) _) _))).app (Yj.row (show W8.heap[w.heap.size+1+1+1+1]?=some (.cells zQ 35 (0,0)) from by rw [← hW8];exact Qi (Qi (Qi (Z8 (by simp) _) _) _) _)))
 have hG:=(Vz (Vz (Vz (Y2 (show w.heap.size<w.heap.size+1 by omega) (.int .i64 3) (.string ⟨#[97]⟩) (.int .i64 0) (.string ⟨#[]⟩) (.slice none 0 0) (.slice none 0 0) (.slice none 0 0) (.int .i64 0) (.int .i64 0)) (Y2 (show w.heap.size<w.heap.size+1+1 by omega) (.int .i64 3) (.string ⟨#[98]⟩) (.int .i64 0) (.string ⟨#[]⟩) (.slice none 0 0) (.slice none 0 0) (.slice none 0 0) (.int .i64 0) (.int .i64 0))) (Y2 (show w.heap.size<w.heap.size+1+1+1+1+1+1 by omega) (.int .i64 0) (.string ⟨#[]⟩) (.int .i64 1) (.string ⟨#[]⟩) (.slice none 0 0) (.slice none 0 0) (.slice none 0 0) (.int .i64 0) (.int .i64 0))) (Y2 (show w.heap.size<w.heap.size+1+1+1+1 by omega) (.int .i64 3) (.string ⟨#[100]⟩) (.int .i64 0) (.string ⟨#[]⟩) (.slice none 0 0) (.slice none 0 0) (.slice none 0 0) (.int .i64 0) (.int .i64 0)))
 have HB8:=Qq hb8;have HR:=Qq r8
 clear hW8 hb8 r8 hz8
 go_upto_region 26 with (go_at_call 26;refine (HP.out _ HB8.out).mono ?_;rintro e w' ⟨rfl,rfl⟩)
 refine let_mvar% ?Lq1:=fun w':World=>w'.cell? ⟨w.heap.size+1,0,none⟩=some (.int .i64 3)∧w'.cell? ⟨w.heap.size+1,1,none⟩=some (.string ⟨#[97]⟩)∧w'.cell? ⟨w.heap.size+1,2,none⟩=some (.int .i64 0)∧w'.cell? ⟨w.heap.size+1,3,none⟩=some (.string ⟨#[]⟩)∧w'.cell? ⟨w.heap.size+1,4,none⟩=some (.slice none 0 0)∧w'.cell? ⟨w.heap.size+1,5,none⟩=some (.slice none 0 0)∧w'.cell? ⟨w.heap.size+1,6,none⟩=some (.slice none 0 0)∧w'.cell? ⟨w.heap.size+1,7,none⟩=some (.int .i64 0)∧w'.cell? ⟨w.heap.size+1,8,none⟩=some (.int .i64 0)∧w'.cell? ⟨w.heap.size+1+1,0,none⟩=some (.int .i64 3)∧w'.cell? ⟨w.heap.size+1+1,1,none⟩=some (.string ⟨#[98]⟩)∧w'.cell? ⟨w.heap.size+1+1,2,none⟩=some (.int .i64 0)∧w'.cell? ⟨w.heap.size+1+1,3,none⟩=some (.string ⟨#[]⟩)∧w'.cell? ⟨w.heap.size+1+1,4,none⟩=some (.slice none 0 0)∧w'.cell? ⟨w.heap.size+1+1,5,none⟩=some (.slice none 0 0)∧w'.cell? ⟨w.heap.size+1+1,6,none⟩=some (.slice none 0 0)∧w'.cell? ⟨w.heap.size+1+1,7,none⟩=some (.int .i64 0)∧w'.cell? ⟨w.heap.size+1+1,8,none⟩=some (.int .i64 0)∧w'.cell? ⟨w.heap.size+1+1+1+1+1+1,0,none⟩=some (.int .i64 0)∧w'.cell? ⟨w.heap.size+1+1+1+1+1+1,1,none⟩=some (.string ⟨#[]⟩)∧w'.cell? ⟨w.heap.size+1+1+1+1+1+1,2,none⟩=some (.int .i64 1)∧w'.cell? ⟨w.heap.size+1+1+1+1+1+1,3,none⟩=some (.string ⟨#[]⟩)∧w'.cell? ⟨w.heap.size+1+1+1+1+1+1,4,none⟩=some (.slice none 0 0)∧w'.cell? ⟨w.heap.size+1+1+1+1+1+1,5,none⟩=some (.slice none 0 0)∧w'.cell? ⟨w.heap.size+1+1+1+1+1+1,6,none⟩=some (.slice none 0 0)∧w'.cell? ⟨w.heap.size+1+1+1+1+1+1,7,none⟩=some (.int .i64 0)∧w'.cell? ⟨w.heap.size+1+1+1+1+1+1,8,none⟩=some (.int .i64 0)∧w'.cell? ⟨w.heap.size+1+1+1+1,0,none⟩=some (.int .i64 3)∧w'.cell? ⟨w.heap.size+1+1+1+1,1,none⟩=some (.string ⟨#[100]⟩)∧w'.cell? ⟨w.heap.size+1+1+1+1,2,none⟩=some (.int .i64 0)∧w'.cell? ⟨w.heap.size+1+1+1+1,3,none⟩=some (.string ⟨#[]⟩)∧w'.cell? ⟨w.heap.size+1+1+1+1,4,none⟩=some (.slice none 0 0)∧w'.cell? ⟨w.heap.size+1+1+1+1,5,none⟩=some (.slice none 0 0)∧w'.cell? ⟨w.heap.size+1+1+1+1,6,none⟩=some (.slice none 0 0)∧w'.cell? ⟨w.heap.size+1+1+1+1,7,none⟩=some (.int .i64 0)∧w'.cell? ⟨w.heap.size+1+1+1+1,8,none⟩=some (.int .i64 0);?_
 have HS:=Qq (fun w' (h:Yj (Vu (w.heap.size+1) (.int .i64 3) (.string ⟨#[97]⟩) (.int .i64 0) (.string ⟨#[]⟩) (.slice none 0 0) (.slice none 0 0) (.slice none 0 0) (.int .i64 0) (.int .i64 0)++Vu (w.heap.size+1+1) (.int .i64 3) (.string ⟨#[98]⟩) (.int .i64 0) (.string ⟨#[]⟩) (.slice none 0 0) (.slice none 0 0) (.slice none 0 0) (.int .i64 0) (.int .i64 0)++Vu (w.heap.size+1+1+1+1+1+1) (.int .i64 0) (.string ⟨#[]⟩) (.int .i64 1) (.string ⟨#[]⟩) (.slice none 0 0) (.slice none 0 0) (.slice none 0 0) (.int .i64 0) (.int .i64 0)++Vu (w.heap.size+1+1+1+1) (.int .i64 3) (.string ⟨#[100]⟩) (.int .i64 0) (.string ⟨#[]⟩) (.slice none 0 0) (.slice none 0 0) (.slice none 0 0) (.int .i64 0) (.int .i64 0)) w')=>(show ?Lq1 w' from Yj.spread h))
 have HG:=Qq hG
 have HPt:=Qq (fun w' z0 z1 z2 z3 z4 z5 z6 z7 z8 (h:Yj _ w')=>HS.out _ (h.put9 HG.out z0 z1 z2 z3 z4 z5 z6 z7 z8))
 unfold put9 at HPt
 have HBc:=HB8
 clear hG
 have hTok1:=Qq True.intro;have hTok2:=Qq True.intro;have hTok3:=Qq True.intro;have hTokD:=Qq True.intro;have hTokK:=Qq True.intro;have hTokL:=Qq True.intro
 go_region_held3 ?Lq1 (first | with_reducible exact HS.out _ hS2 | with_reducible exact HS.out _ hS2.drew | with_reducible exact HS.out _ (hS2.alloc _) | with_reducible exact HS.out _ (hS2.alloc _).drew | with_reducible exact HS.out _ ((hS2.alloc _).alloc _) | with_reducible exact HS.out _ ((hS2.alloc _).alloc _).drew | with_reducible exact HS.out _ (((hS2.alloc _).alloc _).alloc _) | with_reducible exact HPt.out _ _ _ _ _ _ _ _ _ _ hS2)
  (first
   | (have hn:=HX3.out;clear hn;(repeat (first
      | (have hk:=hTokD.out;clear hTokD hk;generalize hWD:World.alloc _ (Obj.cells zQ 35 _)=WD;have hbD:=Xw hWD;have hkD:=Uw hWD;have hlD:=Je hWD HR.out;have hS3:=hS2.later hbD;clear hS2;have hS2:=hS3;clear hS3;have HR0:=Qq (Zi hbD HR.out);clear HR;have HR:=HR0;clear HR0;have HC0:=Qq (HBc.out.thn hbD);clear HBc;have HBc:=HC0;clear HC0;(try (have h0:=Qq (Zi hbD HKK.out);clear HKK;have HKK:=h0;clear h0));(try (have h0:=Qq (HX1.out.move (.of_below hbD) (fun _ _ h=>h));clear HX1;have HX1:=h0;clear h0));(try (have h0:=Qq (HX2.out.move (.of_below hbD) (fun _ _ h=>h));clear HX2;have HX2:=h0;clear h0));(try (have h0:=Qq (HX3.out.move (.of_below hbD) (fun _ _ h=>h));clear HX3;have HX3:=h0;clear h0));(try (have h0:=Qq (HXN.out.move (.of_below hbD) (fun _ _ h=>h));clear HXN;have HXN:=h0;clear h0));have HKD:=Qq hkD;have HLD:=Qq hlD;clear hWD hbD hkD hlD;have hN:=(show Z6 (fun b=>w.heap.size<b) WD [.int .i64 14,.string ⟨#[110,111,116]⟩,.int .i64 0,.string ⟨#[]⟩,.slice none 0 0,.slice none 0 0,.slice (some ⟨_,0,none⟩) 1 1,.int .i64 0,.int .i64 0] (Gen.op [110,111,116] [Gen.d]) from (Yk (nm:=[110,111,116]) (s:=[]) (by simp) (by simp) (Sl.nil _ _ _) (Sl.nil _ _ _) (Z4 (xs:=[Gen.d]) HKD.out HLD.out (Cs.one (r:=Ys) (Zx 3 [100] 0 [] (by simp) (by simp))) rfl rfl (by simp))));have HXN:=Qq hN;clear hN)
      | (have hn:=HX3.out;clear hn;have hk:=hTokK.out;clear hTokK hk;generalize hWK:World.alloc _ (Obj.cells #[.int .i64 ek1,.string es1,.int .i64 en1,.string et1,.slice e11 f11 g11,.slice e21 f21 g21,.slice e31 f31 g31,.int .i64 ea1,.int .i64 ez1,.int .i64 ek3,.string es3,.int .i64 en3,.string et3,.slice e13 f13 g13,.slice e23 f23 g23,.slice e33 f33 g33,.int .i64 ea3,.int .i64 ez3] 35 _)=WK;have hbK:=Xw hWK;have hkK:=Uw hWK;have hlK:=Je hWK HR.out;have hS3:=hS2.later hbK;clear hS2;have hS2:=hS3;clear hS3;have HR0:=Qq (Zi hbK HR.out);clear HR;have HR:=HR0;clear HR0;have HC0:=Qq (HBc.out.thn hbK);clear HBc;have HBc:=HC0;clear HC0;(try (have h0:=Qq (Zi hbK HKD.out);clear HKD;have HKD:=h0;clear h0));(try (have h0:=Qq (HX1.out.move (.of_below hbK) (fun _ _ h=>h));clear HX1;have HX1:=h0;clear h0));(try (have h0:=Qq (HX2.out.move (.of_below hbK) (fun _ _ h=>h));clear HX2;have HX2:=h0;clear h0));(try (have h0:=Qq (HX3.out.move (.of_below hbK) (fun _ _ h=>h));clear HX3;have HX3:=h0;clear h0));(try (have h0:=Qq (HXN.out.move (.of_below hbK) (fun _ _ h=>h));clear HXN;have HXN:=h0;clear h0));have HKK:=Qq hkK;have HLK:=Qq hlK;clear hWK hbK hkK hlK)
      | fail));have hn:=HKK.out;clear hn;have hk:=hTokL.out;clear hTokL hk;obtain ⟨⟨f0,f1,f2,f3,f4,f5,f6,f7,f8⟩,y0,y1,y2,y3,y4,y5,y6,y7,y8⟩:=Rc HR.out;go_simp)
   | (have hk:=hTok1.out;go_at_call 70;(repeat (first
      | (have hk:=hTokD.out;clear hTokD hk;generalize hWD:World.alloc _ (Obj.cells zQ 35 _)=WD;have hbD:=Xw hWD;have hkD:=Uw hWD;have hlD:=Je hWD HR.out;have hS3:=hS2.later hbD;clear hS2;have hS2:=hS3;clear hS3;have HR0:=Qq (Zi hbD HR.out);clear HR;have HR:=HR0;clear HR0;have HC0:=Qq (HBc.out.thn hbD);clear HBc;have HBc:=HC0;clear HC0;(try (have h0:=Qq (Zi hbD HKK.out);clear HKK;have HKK:=h0;clear h0));(try (have h0:=Qq (HX1.out.move (.of_below hbD) (fun _ _ h=>h));clear HX1;have HX1:=h0;clear h0));(try (have h0:=Qq (HX2.out.move (.of_below hbD) (fun _ _ h=>h));clear HX2;have HX2:=h0;clear h0));(try (have h0:=Qq (HX3.out.move (.of_below hbD) (fun _ _ h=>h));clear HX3;have HX3:=h0;clear h0));(try (have h0:=Qq (HXN.out.move (.of_below hbD) (fun _ _ h=>h));clear HXN;have HXN:=h0;clear h0));have HKD:=Qq hkD;have HLD:=Qq hlD;clear hWD hbD hkD hlD;have hN:=(show Z6 (fun b=>w.heap.size<b) WD [.int .i64 14,.string ⟨#[110,111,116]⟩,.int .i64 0,.string ⟨#[]⟩,.slice none 0 0,.slice none 0 0,.slice (some ⟨_,0,none⟩) 1 1,.int .i64 0,.int .i64 0] (Gen.op [110,111,116] [Gen.d]) from (Yk (nm:=[110,111,116]) (s:=[]) (by simp) (by simp) (Sl.nil _ _ _) (Sl.nil _ _ _) (Z4 (xs:=[Gen.d]) HKD.out HLD.out (Cs.one (r:=Ys) (Zx 3 [100] 0 [] (by simp) (by simp))) rfl rfl (by simp))));have HXN:=Qq hN;clear hN)
      | fail));refine (Xx w.heap.size [45] _ _ _ _ _ (by simp) (by exact (Zx 3 [97] 0 [] (by simp) (by simp))) (by exact (Zx 3 [98] 0 [] (by simp) (by simp))) (by exact Qf HR.out)).mono ?_;rintro e W1 ⟨ek1,es1,en1,et1,e11,f11,g11,e21,f21,g21,e31,f31,g31,ea1,ez1,rfl,hx1,hb1⟩;clear hTok1 hk;(try (have hb0:=X8 hb1;clear hb1;have hb1:=hb0;clear hb0));have hS3:=hS2.later hb1;clear hS2;have hS2:=hS3;clear hS3;have HR0:=Qq (Zi hb1 HR.out);clear HR;have HR:=HR0;clear HR0;have HC0:=Qq (HBc.out.thn hb1);clear HBc;have HBc:=HC0;clear HC0;(try (have h0:=Qq (Zi hb1 HKD.out);clear HKD;have HKD:=h0;clear h0));(try (have h0:=Qq (Zi hb1 HKK.out);clear HKK;have HKK:=h0;clear h0));(try (have h0:=Qq (HX2.out.move (.of_below hb1) (fun _ _ h=>h));clear HX2;have HX2:=h0;clear h0));(try (have h0:=Qq (HX3.out.move (.of_below hb1) (fun _ _ h=>h));clear HX3;have HX3:=h0;clear h0));(try (have h0:=Qq (HXN.out.move (.of_below hb1) (fun _ _ h=>h));clear HXN;have HXN:=h0;clear h0));have HX1:=Qq hx1;clear hx1 hb1)
   | (have hn:=HX1.out;clear hn;have hk:=hTok2.out;go_at_call 70;(repeat (first
      | (have hk:=hTokD.out;clear hTokD hk;generalize hWD:World.alloc _ (Obj.cells zQ 35 _)=WD;have hbD:=Xw hWD;have hkD:=Uw hWD;have hlD:=Je hWD HR.out;have hS3:=hS2.later hbD;clear hS2;have hS2:=hS3;clear hS3;have HR0:=Qq (Zi hbD HR.out);clear HR;have HR:=HR0;clear HR0;have HC0:=Qq (HBc.out.thn hbD);clear HBc;have HBc:=HC0;clear HC0;(try (have h0:=Qq (Zi hbD HKK.out);clear HKK;have HKK:=h0;clear h0));(try (have h0:=Qq (HX1.out.move (.of_below hbD) (fun _ _ h=>h));clear HX1;have HX1:=h0;clear h0));(try (have h0:=Qq (HX2.out.move (.of_below hbD) (fun _ _ h=>h));clear HX2;have HX2:=h0;clear h0));(try (have h0:=Qq (HX3.out.move (.of_below hbD) (fun _ _ h=>h));clear HX3;have HX3:=h0;clear h0));(try (have h0:=Qq (HXN.out.move (.of_below hbD) (fun _ _ h=>h));clear HXN;have HXN:=h0;clear h0));have HKD:=Qq hkD;have HLD:=Qq hlD;clear hWD hbD hkD hlD;have hN:=(show Z6 (fun b=>w.heap.size<b) WD [.int .i64 14,.string ⟨#[110,111,116]⟩,.int .i64 0,.string ⟨#[]⟩,.slice none 0 0,.slice none 0 0,.slice (some ⟨_,0,none⟩) 1 1,.int .i64 0,.int .i64 0] (Gen.op [110,111,116] [Gen.d]) from (Yk (nm:=[110,111,116]) (s:=[]) (by simp) (by simp) (Sl.nil _ _ _) (Sl.nil _ _ _) (Z4 (xs:=[Gen.d]) HKD.out HLD.out (Cs.one (r:=Ys) (Zx 3 [100] 0 [] (by simp) (by simp))) rfl rfl (by simp))));have HXN:=Qq hN;clear hN)
      | fail));refine (Xx w.heap.size [60] _ _ _ _ _ (by simp) (by exact (Zx 3 [97] 0 [] (by simp) (by simp))) (by exact (Zx 0 [] 1 [] (by simp) (by simp))) (by exact Qf HR.out)).mono ?_;rintro e W2 ⟨ek2,es2,en2,et2,e12,f12,g12,e22,f22,g22,e32,f32,g32,ea2,ez2,rfl,hx2,hb2⟩;clear hTok2 hk;(try (have hb0:=X8 hb2;clear hb2;have hb2:=hb0;clear hb0));have hS3:=hS2.later hb2;clear hS2;have hS2:=hS3;clear hS3;have HR0:=Qq (Zi hb2 HR.out);clear HR;have HR:=HR0;clear HR0;have HC0:=Qq (HBc.out.thn hb2);clear HBc;have HBc:=HC0;clear HC0;(try (have h0:=Qq (Zi hb2 HKD.out);clear HKD;have HKD:=h0;clear h0));(try (have h0:=Qq (Zi hb2 HKK.out);clear HKK;have HKK:=h0;clear h0));(try (have h0:=Qq (HX1.out.move (.of_below hb2) (fun _ _ h=>h));clear HX1;have HX1:=h0;clear h0));(try (have h0:=Qq (HX3.out.move (.of_below hb2) (fun _ _ h=>h));clear HX3;have HX3:=h0;clear h0));(try (have h0:=Qq (HXN.out.move (.of_below hb2) (fun _ _ h=>h));clear HXN;have HXN:=h0;clear h0));have HX2:=Qq hx2;clear hx2 hb2)
   | (have hn:=HX2.out;clear hn;have hk:=hTok3.out;go_at_call 70;(repeat (first
      | (have hk:=hTokD.out;clear hTokD hk;generalize hWD:World.alloc _ (Obj.cells zQ 35 _)=WD;have hbD:=Xw hWD;have hkD:=Uw hWD;have hlD:=Je hWD HR.out;have hS3:=hS2.later hbD;clear hS2;have hS2:=hS3;clear hS3;have HR0:=Qq (Zi hbD HR.out);clear HR;have HR:=HR0;clear HR0;have HC0:=Qq (HBc.out.thn hbD);clear HBc;have HBc:=HC0;clear HC0;(try (have h0:=Qq (Zi hbD HKK.out);clear HKK;have HKK:=h0;clear h0));(try (have h0:=Qq (HX1.out.move (.of_below hbD) (fun _ _ h=>h));clear HX1;have HX1:=h0;clear h0));(try (have h0:=Qq (HX2.out.move (.of_below hbD) (fun _ _ h=>h));clear HX2;have HX2:=h0;clear h0));(try (have h0:=Qq (HX3.out.move (.of_below hbD) (fun _ _ h=>h));clear HX3;have HX3:=h0;clear h0));(try (have h0:=Qq (HXN.out.move (.of_below hbD) (fun _ _ h=>h));clear HXN;have HXN:=h0;clear h0));have HKD:=Qq hkD;have HLD:=Qq hlD;clear hWD hbD hkD hlD;have hN:=(show Z6 (fun b=>w.heap.size<b) WD [.int .i64 14,.string ⟨#[110,111,116]⟩,.int .i64 0,.string ⟨#[]⟩,.slice none 0 0,.slice none 0 0,.slice (some ⟨_,0,none⟩) 1 1,.int .i64 0,.int .i64 0] (Gen.op [110,111,116] [Gen.d]) from (Yk (nm:=[110,111,116]) (s:=[]) (by simp) (by simp) (Sl.nil _ _ _) (Sl.nil _ _ _) (Z4 (xs:=[Gen.d]) HKD.out HLD.out (Cs.one (r:=Ys) (Zx 3 [100] 0 [] (by simp) (by simp))) rfl rfl (by simp))));have HXN:=Qq hN;clear hN)
      | fail));refine (Xx w.heap.size [97,110,100] _ _ _ _ _ (by simp) (by exact HX2.out) (by exact HXN.out) (by exact Qf HR.out)).mono ?_;rintro e W3 ⟨ek3,es3,en3,et3,e13,f13,g13,e23,f23,g23,e33,f33,g33,ea3,ez3,rfl,hx3,hb3⟩;clear hTok3 hk;(try (have hb0:=X8 hb3;clear hb3;have hb3:=hb0;clear hb0));have hS3:=hS2.later hb3;clear hS2;have hS2:=hS3;clear hS3;have HR0:=Qq (Zi hb3 HR.out);clear HR;have HR:=HR0;clear HR0;have HC0:=Qq (HBc.out.thn hb3);clear HBc;have HBc:=HC0;clear HC0;(try (have h0:=Qq (Zi hb3 HKD.out);clear HKD;have HKD:=h0;clear h0));(try (have h0:=Qq (Zi hb3 HKK.out);clear HKK;have HKK:=h0;clear h0));(try (have h0:=Qq (HX1.out.move (.of_below hb3) (fun _ _ h=>h));clear HX1;have HX1:=h0;clear h0));(try (have h0:=Qq (HX2.out.move (.of_below hb3) (fun _ _ h=>h));clear HX2;have HX2:=h0;clear h0));(try (have h0:=Qq (HXN.out.move (.of_below hb3) (fun _ _ h=>h));clear HXN;have HXN:=h0;clear h0));have HX3:=Qq hx3;clear hx3 hb3)
   | fail)
 all_goals
  go_wp2_with fail
  show bodyPost _ _ _ _ _ (put9 _ w.heap.size (.int .i64 11) (.string ⟨#[97]⟩) (.int .i64 0) (.string ⟨#[]⟩) (.slice none 0 0) (.slice none 0 0) (.slice (some ⟨_,0,none⟩) 2 2) (.int .i64 0) (.int .i64 0))
  exact Q7 (v:=.agg #[.int .i64 11,.string ⟨#[97]⟩,.int .i64 0,.string ⟨#[]⟩,.slice none 0 0,.slice none 0 0,.slice (some ⟨_,0,none⟩) 2 2,.int .i64 0,.int .i64 0]) (by simp [results,results35,go_sem,Y4 HR.out]) rfl (Vy (Yk (nm:=[97]) (s:=[]) (by simp) (by simp) (Sl.nil _ _ _) (Sl.nil _ _ _) (Z4 (xs:=[Gen.op [45] [Gen.a,Gen.b],Gen.op [97,110,100] [Gen.op [60] [Gen.a,Gen.one],Gen.op [110,111,116] [Gen.d]]]) HKK.out HLK.out ((Cs.one (r:=Ys) HX1.out).app (Cs.one (r:=Ys) HX3.out)) rfl rfl (by simp))) HBc.out rfl)
end Go.Proofs.YtppbaladeefnkaaGreatDoor
