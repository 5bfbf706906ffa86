import Derived.Test.YtppbaladeefnkaaGreatDoorV31
set_option maxRecDepth 100000
set_option maxHeartbeats 400000000
namespace Go.Proofs.YtppbaladeefnkaaGreatDoor
open Go.RowKit Go.Shelf Go.Lib Tryz
def Ty.kind:Ty→Int | .mk k _ _ _ _=>k
def Ty.name:Ty→Bs | .mk _ s _ _ _=>s
def Ji (t:Ty):Prop:=t.kind=0∨t.kind=1∨t.kind=2
def Fs (u:Sm) (v:Val):Bool:=match atP (fun c=>decide (c.name=v.s)) u.ctors with
 | none=>false
 | some c=>if c.has then (match v.kids with
  | [x]=>x.kind==c.arg.kind
  | _=>false) else decide (v.kids.length=0)
def sumB (us:List Sm) (v:Val) (nm:Bs):Bool:=(v.kind==3)&&(match atP (fun u=>decide (u.name=nm)) us with
 | none=>false
 | some u=>Fs u v)
theorem Eh (us:List Sm) (v:Val) (t:Ty) (h:Ji t):Ja us v t (v.kind==t.kind):=by
 obtain ⟨k,s,n,names,kids⟩:=t
 exact rhasLeaf us v k h s n names kids
theorem Gr.drn {a b:World} (h:Gr a b) (n:Nat):Gr a (b.drewN n):=h.thn ⟨n,#[],by rw [Sort.grow_empty]⟩
def RMadeAt (us:List Sm) (u:Sm) (v:Val) (b:Bool):Prop:=∀ (S S' S'':Nat→Prop) (cu cv:List Value) (uv:Value) (w:World),Sl Ke S'' w uv us→Ke.R S' w cu u→Qh S w cv v →
 Calls prog 176 #[uv,.agg cu.toArray,.agg cv.toArray] w fun e w'=>e=.returned (.bool b)∧Gr w w'
theorem Rj (us:List Sm) (u:Sm) (v:Val) (hl:∀ c ∈ u.ctors,Ji c.arg):RMadeAt us u v (Fs u v):=by
 intro S S' S'' cu cv uv w hu hsm hv
 obtain ⟨up,uc,rfl,_⟩:=hu.len
 obtain ⟨ctv,rfl,hnl,hct⟩:=hsm
 obtain ⟨cp,cc,rfl,hcl⟩:=hct.len
 obtain ⟨p3,k3,p4,k4,hcv,_,hvk,hvs⟩:=Qh.cells hv
 simp only [vcs] at hcv
 subst hcv
 have mixed:prog.follows .mixedOrders=true:=by kernel_rfl
 obtain ⟨n,hn⟩:=eX (u.ctors.length)
 rw [hn] at hct hcl ⊢
 obtain ⟨r,hr⟩:=eX (Fs u v)
 rw [hr]
 have HR:=Qq hr;have HN:=Qq hn;have HU:=Qq hu;have HC:=Qq hct;have HV:=Qq hvk;have HL:=Qq hl
 clear hu hv hct hvk hl hr hn
 unfold sv
 go_enter func176,ntmps176
 go_wp2_with fail
 generalize hW1:(w.alloc _).alloc _=W1
 have hg1:Gr w W1:=by rw [← hW1];exact X6 _ _ _
 have hS1:=eqH (b:=w.heap.size) hW1 (Q5 _ _ _)
 have hV1:=eqH (b:=w.heap.size+1) hW1 (Q6 _ _ _)
 have HG1:=Qq hg1;have HS1:=Qq hS1;have HV1:=Qq hV1
 have hlt:=Qf hV1
 clear hW1 hg1 hS1 hV1
 go_loopw [7] (fun i wr=>∃ k:Nat,k≤n∧i=.int .i64 k∧Aside (∀ (j:Nat) (y:Ct),j<k→u.ctors[j]?=some y→decide (y.name=v.s)=false)∧Aside (Gr W1 wr)) (fun i _=>n - (intOf i).toNat)
 case atStart=>exact ⟨0,Q8 _,rfl,fun j _ hj=>absurd hj (Nat.not_lt_zero _),Gr.refl _⟩
 obtain ⟨k,hk,rfl,A,hGr⟩:=hrel
 have HGr:=Qq (show Gr W1 wr from hGr)
 have HBw:=Qq (HG1.out.thn HGr.out).bl
 have hSr:=kB HGr.out.bl HS1.out
 have hVr:=kE HGr.out.bl hlt HV1.out
 have HSr:=Qq hSr;have HVr:=Qq hVr
 obtain ⟨a0,a1⟩:=row2 hSr
 clear hGr hSr hVr
 by_cases hlt2:k<n
 ·have hi1:(0:Int)≤(k:Int):=by omega
  have hi2:(k:Int)<(n:Int):=by omega
  obtain ⟨c,hc⟩:∃ c,u.ctors[k]?=some c:=⟨_,Qx (by rw [HN.out];exact hlt2)⟩
  obtain ⟨cb,coff,ccs,rfl,hcb,_,_,⟨tc,rfl,hcn,hcty⟩,hcc⟩:=(HC.out.below HBw.out).elem hc
  obtain ⟨tk,ts,tn,t3,n3,l3,t4,n4,l4,rfl⟩:=hcty.cells
  have d0:=hcc 0 _ rfl;have d1:=hcc 1 _ rfl;have d2:=hcc 2 _ rfl;have d3:=hcc 3 _ rfl;have d4:=hcc 4 _ rfl;have d5:=hcc 5 _ rfl;have d6:=hcc 6 _ rfl
  rw [show Be.k=7 from rfl] at d0 d1 d2 d3 d4 d5 d6
  rw [Nat.add_zero] at d0
  unfold sv at d0
  have b2:=rA2 HVr.out;have b4:=rA4 HVr.out
  have HTy:=Qq hcty;have HLf:=Qq (HL.out c (Qy hc));have HCc:=Qq hc
  clear hc hcc hcty
  by_cases he:c.name=v.s
  ·have hq:(c.name != v.s)=false:=by rw [he];simp
   have hq':(c.name==v.s)=true:=by rw [he];simp
   have hatp:atP (fun c=>decide (c.name=v.s)) u.ctors=some c:=Hm HCc.out (by simpa using he) A.out
   have hrr:(if c.has then (match v.kids with
    | [x]=>x.kind==c.arg.kind
    | _=>false) else decide (v.kids.length=0))=r:=by rw [← HR.out];unfold Fs;rw [hatp]
   have HRR:=Qq hrr
   clear hatp hrr A he
   go_upto_region 4 with fail
   go_quiet (fail)
   obtain ⟨wq,hwq⟩:=eX (wr.drewN nq)
   have hgq:Gr wr wq:=by rw [← hwq];exact (Gr.refl _).drn _
   rw [hwq]
   have HGq:=Qq hgq
   have hh:∀ {b j:Nat} {x:Value},wr.cell? ⟨b,j,none⟩=some x→wq.cell? ⟨b,j,none⟩=some x:=fun hx=>kC hgq.bl hx
   have a1:=hh a1;have b4:=hh b4;have d1:=hh d1;have d2:=hh d2;have d3:=hh d3;have d4:=hh d4;have d5:=hh d5;have d6:=hh d6
   have hcb:=Qa hcb hgq.bl.size
   clear hh hwq hgq hq a0 d0 b2
   cases hhas:c.has with
   | false=>
    rw [hhas] at d1
    have hrr:=HRR.out
    rw [hhas] at hrr
    simp only [Bool.false_eq_true,if_false] at hrr
    by_cases h0:v.kids.length=0
    ·obtain rfl:true=r:=by rw [← hrr];simp [h0]
     have hq0:((v.kids.length:Int)==0)=true:=by rw [beq_iff_eq];omega
     clear hrr h0 d2 d3 d4 d5 d6
     go_wp2_with fail
     go_ret
     exact ⟨rfl,(HG1.out.thn HGr.out).thn HGq.out⟩
    obtain rfl:false=r:=by rw [← hrr];simp [h0]
    have hq0:((v.kids.length:Int)==0)=false:=by rw [← Bool.not_eq_true,beq_iff_eq];omega
    clear hrr h0 d2 d3 d4 d5 d6
    go_wp2_with fail
    go_ret
    exact ⟨rfl,(HG1.out.thn HGr.out).thn HGq.out⟩
   | true=>
    rw [hhas] at d1
    have hrr:=HRR.out
    rw [hhas] at hrr
    simp only [if_true] at hrr
    by_cases h1:v.kids.length=1
    ·obtain ⟨x,hx⟩:=List.length_eq_one_iff.1 h1
     rw [hx] at hrr
     have hx0:v.kids[0]?=some x:=by rw [hx];rfl
     have hwq:Below w.heap.size w wq:=HBw.out.thn HGq.out.bl
     rw [h1] at HV HVr b4
     obtain ⟨ga,oa,x3,m3,x4,m4,rfl,hga,hva,e0,e1,e2,e3,e4⟩:=(HV.out.below hwq).val hx0
     simp only [Nat.zero_mul,Nat.add_zero] at e0 e1 e2 e3 e4
     have hX:=Eh us x c.arg HLf.out
     have hrr':(x.kind==c.arg.kind)=r:=hrr
     rw [hrr'] at hX
     have HX:=Qq hX;have HUu:=Qq (HU.out.below hwq);have HVa:=Qq hva;have HTq:=Qq (HTy.out.move (.of_below HGq.out.bl) (fun _ _ h=>h))
     have hcg:∀ n os,Calls prog 137 #[.slice up us.length uc,.agg (vcs x x3 m3 x4 m4).toArray,.agg #[.int .i64 tk,.string ts,.int .i64 tn,.slice t3 n3 l3,.slice t4 n4 l4]] (Sort.grow (wq.drewN n) os) fun e w'=>e=.returned (.bool r)∧Gr (Sort.grow (wq.drewN n) os) w':=fun n os=>HX.out _ _ _ _ _ _ _ (HUu.out.below (Z7 _ _ _).bl) (HVa.out.move (.of_below (Z7 _ _ _).bl) (fun _ _ h=>h)) (HTq.out.move (.of_below (Z7 _ _ _).bl) (fun _ _ h=>h))
     unfold vcs at hcg
     have hb0':w.heap.size<wq.heap.size:=Qv _ _ a1
     have hb1':w.heap.size+1<wq.heap.size:=Qv _ _ b4
     have E0:=Qs hga e0;have E1:=Qs hga e1;have E2:=Qs hga e2;have E3:=Qs hga e3;have E4:=Qs hga e4
     have D2:=Qs hcb d2;have D3:=Qs hcb d3;have D4:=Qs hcb d4;have D5:=Qs hcb d5;have D6:=Qs hcb d6
     have A1:=Qs hb0' a1;have B4:=Qs hb1' b4
     have hq0:((1:Int)==1)=true:=rfl
     clear hrr hrr' h1 hx hx0 hva hX d2 d3 d4 d5 d6 e0 e1 e2 e3 e4 hwq
     go_wp2_with fail
     go_quiet_grown (first | (go_at_call 137;refine Calls.grown_of (hcg _ _)))
     go_wp2_with fail
     go_ret
     exact ⟨rfl,((HG1.out.thn HGr.out).thn HGq.out).thn (Z7 _ _ _)⟩
    obtain rfl:false=r:=by
     rw [← hrr]
     match hvk:v.kids with
     | []=>rfl
     | [x]=>rw [hvk] at h1;simp at h1
     | _::_::_=>rfl
    have hq0:((v.kids.length:Int)==1)=false:=by rw [← Bool.not_eq_true,beq_iff_eq];omega
    clear hrr h1 d2 d3 d4 d5 d6
    go_wp2_with fail
    go_quiet (fail)
    go_wp2_with fail
    go_ret
    exact ⟨rfl,((HG1.out.thn HGr.out).thn HGq.out).drn _⟩
  have hq:(c.name != v.s)=true:=by rw [bne_iff_ne];exact he
  have hq':(c.name==v.s)=false:=by rw [← Bool.not_eq_true,beq_iff_eq];exact he
  have HE:=Qq he
  clear he
  go_upto_region 4 with fail
  go_quiet (fail)
  go_wp2_with fail
  go_roundw
  case measure=>simp [intOf];omega
  case rel=>
   refine ⟨k+1,by omega,by go_num,(show Aside _ from fun j y hj hy=>?_),HGr.out.drn _⟩
   by_cases e:j=k
   ·subst e
    have:=HCc.out
    rw [this] at hy
    cases hy
    simpa using HE.out
   exact A.out j y (by omega) hy
 have hkn:k=n:=by omega
 subst hkn
 have hatp:atP (fun c=>decide (c.name=v.s)) u.ctors=none:=Fu (fun j y hy=>A.out j y (by have:=(Qj hy).1;have:=HN.out;omega) hy)
 obtain rfl:false=r:=by rw [← HR.out];unfold Fs;rw [hatp]
 clear hatp A
 go_wp2_with fail
 go_ret
 exact ⟨rfl,HG1.out.thn HGr.out⟩
theorem rhasSum (us:List Sm) (v:Val) (s:Bs) (tn:Int) (names:List Bs) (kids:List Ty) (hl:∀ u ∈ us,∀ c ∈ u.ctors,Ji c.arg):Ja us v (.mk 3 s tn names kids) (sumB us v s):=by
 intro S S' S'' cv ct uv w hu hv ht
 obtain ⟨up,uc,rfl,hul⟩:=hu.len
 obtain ⟨p3,k3,p4,k4,hcv,hvn,hvk,hvs⟩:=Qh.cells hv
 have HVV:=Qq hv
 simp only [vcs] at hcv
 subst hcv
 obtain ⟨q3,l3,q4,l4,rfl,_⟩:=ht.cells'
 have mixed:prog.follows .mixedOrders=true:=by kernel_rfl
 obtain ⟨r,hr⟩:=eX (sumB us v s)
 rw [hr]
 obtain ⟨n,hn⟩:=eX (us.length)
 rw [hn] at hu hul ⊢
 have HR:=Qq hr;have HN:=Qq hn;have HU:=Qq hu;have HL:=Qq hl
 clear hu hv ht hvn hvk hl hr hn
 by_cases h3:v.kind=3
 ·have hq:(v.kind != 3)=false:=by rw [h3];rfl
  have hr2:(match atP (fun u=>decide (u.name=s)) us with
   | none=>false
   | some u=>Fs u v)=r:=by rw [← HR.out];unfold sumB;rw [h3];rfl
  have HR2:=Qq hr2
  clear h3 hr2
  go_enter func137,ntmps137
  go_wp2_with fail
  clear hq
  generalize hW1:(w.alloc _).alloc _=W1
  have hg1:Gr w W1:=by rw [← hW1];exact X6 _ _ _
  have hV1:=eqH (b:=w.heap.size) hW1 (Q5 _ _ _)
  have hT1:=eqH (b:=w.heap.size+1) hW1 (Q6 _ _ _)
  have HG1:=Qq hg1;have HT1:=Qq hT1;have HV1:=Qq hV1
  have hlt:=Qf hT1
  clear hW1 hg1 hT1 hV1
  go_loopw [9] (fun i wr=>∃ k:Nat,k≤n∧i=.int .i64 k∧Aside (∀ (j:Nat) (y:Sm),j<k→us[j]?=some y→decide (y.name=s)=false)∧Aside (Gr W1 wr)) (fun i _=>n - (intOf i).toNat)
  case atStart=>exact ⟨0,Q8 _,rfl,fun j _ hj=>absurd hj (Nat.not_lt_zero _),Gr.refl _⟩
  obtain ⟨k,hk,rfl,A,hGr⟩:=hrel
  have HGr:=Qq (show Gr W1 wr from hGr)
  have HBw:=Qq (HG1.out.thn HGr.out).bl
  have hTr:=kE HGr.out.bl hlt HT1.out
  have hVr:=kB HGr.out.bl HV1.out
  have b1:=Qk _ _ 1 _ _ _ hTr;have a0:=rA0 hVr;have a1:=rA1 hVr;have a2:=rA2 hVr;have a3:=rA3 hVr;have a4:=rA4 hVr
  simp only [List.getElem?_toArray,List.getElem?_cons_zero,List.getElem?_cons_succ] at b1
  clear hGr hTr hVr
  by_cases hlt2:k<n
  ·have hi1:(0:Int)≤(k:Int):=by omega
   have hi2:(k:Int)<(n:Int):=by omega
   obtain ⟨u,hu⟩:∃ u,us[k]?=some u:=⟨_,Qx (by rw [HN.out];exact hlt2)⟩
   have hUr:=HU.out.below HBw.out
   have HUr:=Qq hUr
   obtain ⟨ub,uoff,ucs,rfl,hub,_,_,hsm,hcc⟩:=hUr.elem hu
   obtain ⟨ctv,hucs,hnl,hct⟩:=hsm
   subst hucs
   obtain ⟨cp,cc,rfl,hcl⟩:=hct.len
   have d0:=hcc 0 _ rfl;have d1:=hcc 1 _ rfl
   rw [show Ke.k=2 from rfl] at d0 d1
   rw [Nat.add_zero] at d0
   unfold sv at d0
   have HSm:=Qq (show Ke.R S'' wr [sv u.name,.slice cp u.ctors.length cc] u from ⟨_,rfl,hnl,hct⟩);have HLf:=Qq (HL.out u (Qy hu));have HUc:=Qq hu
   clear hu hcc hct hUr
   by_cases he:u.name=s
   ·have hq:(u.name==s)=true:=by rw [he];simp
    have hatp:atP (fun u=>decide (u.name=s)) us=some u:=Hm HUc.out (by simpa using he) A.out
    have hrr:Fs u v=r:=by rw [← HR2.out,hatp]
    have hM:=Rj us u v HLf.out
    rw [hrr] at hM
    have HM:=Qq hM
    clear hatp hrr A he hM
    go_upto_region 30 with fail
    go_quiet (fail)
    obtain ⟨wq,hwq⟩:=eX (wr.drewN nq)
    have hgq:Gr wr wq:=by rw [← hwq];exact (Gr.refl _).drn _
    rw [hwq]
    have HGq:=Qq hgq
    have hh:∀ {b j:Nat} {x:Value},wr.cell? ⟨b,j,none⟩=some x→wq.cell? ⟨b,j,none⟩=some x:=fun hx=>kC hgq.bl hx
    have d0:=hh d0;have d1:=hh d1;have a0:=hh a0;have a1:=hh a1;have a2:=hh a2;have a3:=hh a3;have a4:=hh a4
    have hub:=Qa hub hgq.bl.size
    have hb0':w.heap.size<wq.heap.size:=Qv _ _ a0
    have D0:=Qs hub d0;have D1:=Qs hub d1
    have A0:=Qs hb0' a0;have A1:=Qs hb0' a1;have A2:=Qs hb0' a2;have A3:=Qs hb0' a3;have A4:=Qs hb0' a4
    have hcg:∀ n' os,Calls prog 176 #[.slice (some ⟨ub,uoff,none⟩) n uc,.agg #[.string ⟨u.name.toArray⟩,.slice cp u.ctors.length cc],.agg #[.int .i64 v.kind,.int .i64 v.n,.string ⟨v.s.toArray⟩,.slice p3 v.names.length k3,.slice p4 v.kids.length k4]] (Sort.grow (wq.drewN n') os) fun e w'=>e=.returned (.bool r)∧Gr (Sort.grow (wq.drewN n') os) w':=fun n' os=>HM.out _ _ _ _ _ _ _ (HUr.out.below (HGq.out.thn (Z7 _ _ _)).bl) (Ke.frame HSm.out (.of_below (HGq.out.thn (Z7 _ _ _)).bl)) (HVV.out.move (.of_below ((HG1.out.thn (HGr.out.thn HGq.out)).thn (Z7 _ _ _)).bl) (fun _ _ h=>h))
    clear hh hwq hgq hq a0 a1 a2 a3 a4 d0 d1 b1
    go_wp2_with fail
    go_quiet_grown (first | (go_at_call 176;refine Calls.grown_of (hcg _ _)))
    go_wp2_with fail
    go_ret
    exact ⟨rfl,((HG1.out.thn HGr.out).thn HGq.out).thn (Z7 _ _ _)⟩
   have hq:(u.name==s)=false:=by rw [← Bool.not_eq_true,beq_iff_eq];exact he
   have HE:=Qq he
   clear he
   go_upto_region 30 with fail
   go_quiet (fail)
   go_wp2_with fail
   go_roundw
   case measure=>simp [intOf];omega
   case rel=>
    refine ⟨k+1,by omega,by go_num,(show Aside _ from fun j y hj hy=>?_),HGr.out.drn _⟩
    by_cases e:j=k
    ·subst e
     have:=HUc.out
     rw [this] at hy
     cases hy
     simpa using HE.out
    exact A.out j y (by omega) hy
  have hkn:k=n:=by omega
  subst hkn
  have hatp:atP (fun u=>decide (u.name=s)) us=none:=Fu (fun j y hy=>A.out j y (by have:=(Qj hy).1;have:=HN.out;omega) hy)
  obtain rfl:false=r:=by rw [← HR2.out,hatp]
  clear hatp A
  go_wp2_with fail
  go_ret
  exact ⟨rfl,HG1.out.thn HGr.out⟩
 have hq:(v.kind != 3)=true:=by simpa using h3
 have hq2:(v.kind==3)=false:=by simpa using h3
 obtain rfl:false=r:=by rw [← HR.out];unfold sumB;rw [hq2];rfl
 clear hq2 h3
 go_enter func137,ntmps137
 go_wp2_with fail
 go_ret
 exact ⟨rfl,X6 _ _ _⟩
theorem U1.none {n:Nat} {cf:Nat→Nat→Ft} {nm:Nat→Bs} {f:Ft} (h:U1 n cf nm f) (hz:∀ c i,c<5→i<n→(cf c i).code=0):f=Ft.zero:=by
 rcases h with ⟨h,_⟩ | ⟨c,i,hc,hi,hne,_⟩
 ·exact h
 exact absurd (hz c i hc hi) hne
theorem U1.at {n:Nat} {cf:Nat→Nat→Ft} {nm:Nat→Bs} {f:Ft} (h:U1 n cf nm f) (c0 i0:Nat) (hc0:c0<5) (hi0:i0<n) (hne0:(cf c0 i0).code≠0) (hb0:∀ c i,i<n→(c<c0∨c=c0∧i<i0)→(cf c i).code=0):
  f.code=(cf c0 i0).code∧f.table=nm i0:=by
 rcases h with ⟨_,h⟩ | ⟨c,i,hc,hi,hne,rfl,hb⟩
 ·exact absurd (h c0 i0 hc0 hi0) hne0
 have h1:¬ (c<c0∨c=c0∧i<i0):=fun h=>hne (hb0 c i hi h)
 have h2:¬ (c0<c∨c0=c∧i0<i):=fun h=>hne0 (hb c0 i0 hi0 h)
 have e1:c=c0:=by omega
 have e2:i=i0:=by omega
 subst e1;subst e2
 exact ⟨rfl,rfl⟩
theorem srt_pw {T:Type} {cf:T→T→Int} {xs:List T} (h:xs.Pairwise fun x y=>0≤cf y x):Srt cf xs:=by
 intro i j x y hij hx hy
 obtain ⟨hi,rfl⟩:=Qj hx
 obtain ⟨hj,rfl⟩:=Qj hy
 exact List.pairwise_iff_getElem.1 h i j hi hj hij
def K1 (v:Val):List Int:=match v.kids with
 | x::_=>[x.n]
 | []=>[]
def tyK:Ty→Int | .mk k _ _ _ _=>k
theorem Ea (x:Val) (y:Ty) (h:tyK y=0∨tyK y=1∨tyK y=2):Dz x y (x.kind==tyK y):=by
 obtain ⟨k,s,n,names,kids⟩:=y
 exact hasLeaf x k h s n names kids
namespace Law
def tT:Tbl:=⟨[116],[⟨[97],Gen.whole⟩,⟨[98],Gen.whole⟩],[[97]],[⟨[98],[117]⟩],Gen.op [60] [Gen.a,Gen.b]⟩
def uT:Tbl:=⟨[117],[⟨[107],Gen.whole⟩],[[107]],[],Gen.yes⟩
def sc:Sc:=⟨[],[tT,uT]⟩
def rT (x y:Int):Val:=U0 [[97],[98]] [Xi x,Xi y]
def rU (x:Int):Val:=U0 [[107]] [Xi x]
def st (l:List (Int × Int)):List Rel:=[⟨[116],l.map fun p=>rT p.1 p.2⟩,⟨[117],[rU 3]⟩]
theorem wordA:Xy [97]:=⟨by decide,by decide,by intro c hc;simp at hc;subst hc;decide,by decide,by decide⟩
theorem wordB:Xy [98]:=⟨by decide,by decide,by intro c hc;simp at hc;subst hc;decide,by decide,by decide⟩
theorem wordK:Xy [107]:=⟨by decide,by decide,by intro c hc;simp at hc;subst hc;decide,by decide,by decide⟩
def Ri (v:Val):Bool:=match v.kids with
 | x::y::_=>decide (Z1 x y<0)
 | _=>true
theorem tT_ok (l:List (Int × Int)) (hl:l.length≤1000) (hb:∀ p ∈ l,-1000≤p.1∧p.1≤1000):M8 tT (l.map fun p=>rT p.1 p.2) (fun _=>true) Ri K1 where
 srt:=srt_pw (by decide)
 few:=by decide
 some:=by decide
 typed:=by
  intro x hx
  obtain ⟨p,hp,rfl⟩:=List.mem_map.1 hx
  refine ⟨.record _ _ rfl ?_ ?_ ?_,?_⟩
  ·intro y hy
   simp at hy
   rcases hy with rfl | rfl
   ·exact wordA
   exact wordB
  ·intro i a b ha hb
   match i,ha,hb with
   | 0,ha,hb=>simp at ha hb;subst ha;subst hb;decide
   | i+1,ha,hb=>simp at hb
  ·intro k hk
   simp at hk
   rcases hk with rfl | rfl <;> exact .int _
  have:=hasRec (rT p.1 p.2) [] [[97],[98]] [Gen.whole,Gen.whole] (fun x y=>x.kind==tyK y) (fun x _ y hy=>Ea x y (by
   simp at hy;subst hy;exact .inl rfl))
  exact this
 keys:=⟨fun r hr=>by obtain ⟨p,hp,rfl⟩:=List.mem_map.1 hr;rfl,fun r hr x hx=>by
  obtain ⟨p,hp,rfl⟩:=List.mem_map.1 hr
  have:=hb p hp
  simp [K1,rT,U0,Val.kids,Xi,Val.n] at hx
  subst hx;omega,fun r hr=>by obtain ⟨p,hp,rfl⟩:=List.mem_map.1 hr;exact (by decide:1≤3)⟩
 many:=by rw [List.length_map];omega
 key:=by decide
 simple:=by decide
 check:=by
  intro x hx
  obtain ⟨p,hp,rfl⟩:=List.mem_map.1 hx
  refine ⟨?_,Q9 2⟩
  exact ev_less 0 [] [] [] Gen.a Gen.b 0 0 _ (Xi p.1) (Xi p.2) (ev_var [97] 0 [] [] [] [] 0 0 _ _ rfl) (ev_var [98] 0 [] [] [] [] 0 0 _ _ rfl)
theorem uT_ok:M8 uT [rU 3] (fun _=>true) (fun _=>true) K1 where
 srt:=srt_pw (by decide)
 few:=by decide
 some:=by decide
 typed:=by
  intro x hx
  simp at hx
  subst hx
  refine ⟨.record _ _ rfl ?_ ?_ ?_,?_⟩
  ·intro y hy
   simp at hy
   subst hy
   exact wordK
  ·intro i a b ha hb
   simp at hb
  ·intro k hk
   simp at hk
   subst hk;exact .int _
  have:=hasRec (rU 3) [] [[107]] [Gen.whole] (fun x y=>x.kind==tyK y) (fun x _ y hy=>Ea x y (by
   simp at hy;subst hy;exact .inl rfl))
  exact this
 keys:=⟨fun r hr=>by simp at hr;subst hr;rfl,fun r hr x hx=>by
  simp at hr;subst hr
  simp [K1,rU,U0,Val.kids,Xi,Val.n] at hx
  subst hx;omega,fun r hr=>by simp at hr;subst hr;decide⟩
 many:=by decide
 key:=by decide
 simple:=by decide
 check:=by
  intro x hx
  simp at hx
  subst hx
  refine ⟨?_,by decide⟩
  exact ev_bool [] 1 [] [] [] [] 0 0 _
def cf (l:List (Int × Int)):Nat→Nat→Ft:=cfOf sc (st l) (fun _ _=>true) (fun i=>if i=0 then Ri else fun _=>true) (fun _=>K1)
theorem st_ok (l:List (Int × Int)) (hl:l.length≤1000) (hb:∀ p ∈ l,-1000≤p.1∧p.1≤1000) (i:Nat) (t:Tbl) (r:Rel) (ht:sc.tables[i]?=some t) (hr:(st l)[i]?=some r):
  M8 t r.rows ((fun _ _=>true:Nat→Val→Bool) i) ((fun i=>if i=0 then Ri else fun _=>true:Nat→Val→Bool) i) ((fun _=>K1:Nat→Val→List Int) i):=by
 match i,ht,hr with
 | 0,ht,hr=>
  cases ht;cases hr
  exact tT_ok l hl hb
 | 1,ht,hr=>
  cases ht;cases hr
  exact uT_ok
 | i+2,ht,hr=>simp [sc] at ht
theorem cf_u (l:List (Int × Int)) (c:Nat) (hc:c<5):(cf l c 1).code=0:=by
 match c,hc with
 | 0,_=>show (Mj [rU 3]).code=0;rw [Eb (by decide)];rfl
 | 1,_=>show (Xs 9 (fun _=>true) [rU 3]).code=0;rw [Un (fun _ _=>rfl)];rfl
 | 2,_=>
  show (U7 [rU 3] (ust [rU 3].length ([rU 3].map fun r=>kb (K1 r)) [rU 3].length)).code=0
  rw [Ew rfl (fun i j a b hij ha hb=>by
   have h1:=(Qj hb).1
   simp at h1
   omega)]
  rfl
 | 3,_=>rfl
 | 4,_=>show (Xs 13 (fun _=>true) [rU 3]).code=0;rw [Un (fun _ _=>rfl)];rfl
theorem Pj (l:List (Int × Int)) (hl:l.length≤256):(cf l 0 0).code=0:=by
 show (Mj (l.map fun p=>rT p.1 p.2)).code=0
 rw [Eb (by rw [List.length_map];exact hl)];rfl
theorem Oi (l:List (Int × Int)):(cf l 1 0).code=0:=by
 show (Xs 9 (fun _=>true) (l.map fun p=>rT p.1 p.2)).code=0
 rw [Un (fun _ _=>rfl)];rfl
theorem kb1_inj {a b:Int} (h:kb [a]=kb [b]):a=b:=by
 unfold kb at h
 simp at h
 exact encI_inj h
theorem cf_t2 (l:List (Int × Int)) (hd:(l.map Prod.fst).Pairwise (·≠·)):(cf l 2 0).code=0:=by
 show (U7 (l.map fun p=>rT p.1 p.2) (ust (l.map fun p=>rT p.1 p.2).length ((l.map fun p=>rT p.1 p.2).map fun r=>kb (K1 r)) (l.map fun p=>rT p.1 p.2).length)).code=0
 rw [Ew (by rw [List.length_map]) (fun i j a b hij ha hb=>?_)]
 ·rfl
 rw [List.map_map,List.getElem?_map] at ha hb
 cases hx:l[i]? with
 | none=>rw [hx] at ha;cases ha
 | some x=>
  cases hy:l[j]? with
  | none=>rw [hy] at hb;cases hb
  | some y=>
   rw [hx] at ha;rw [hy] at hb
   cases ha;cases hb
   intro e
   have e1:x.1=y.1:=kb1_inj e
   obtain ⟨hi,hx'⟩:=Qj hx
   obtain ⟨hj,hy'⟩:=Qj hy
   have:=List.pairwise_iff_getElem.1 hd i j (by simpa using hi) (by simpa using hj) hij
   simp only [List.getElem_map] at this
   rw [hx',hy'] at this
   exact this e1
theorem cf_t2d (a x y:Int):(cf [(a,x),(a,y)] 2 0).code=11:=by
 show (U7 [rT a x,rT a y] (ust 2 [kb [a],kb [a]] 2)).code=11
 generalize kb [a]=k
 have:ust 2 [k,k] 2=(0,1):=by
  show Ui [k] (Ui [] (2,0) k) k=(0,1)
  have h1:Y3 [] k=none:=rfl
  have h2:Y3 [k] k=some 0:=by unfold Y3;simp
  unfold Ui
  rw [h1]
  simp only [h2]
  rfl
 rw [this]
 rfl
theorem refT (l:List (Int × Int)) (a y:Int):Gi sc (st l) ⟨[98],[117]⟩ (rT a y)=decide (y=3):=by
 show (U2 sc (st l) [117] [Xi y]).isSome=_
 have h1:U2 sc (st l) [117] [Xi y]=atP (lkP [[107]] [Xi y]) [rU 3]:=rfl
 rw [h1]
 have h2:lkP [[107]] [Xi y] (rU 3)=decide (y=3):=by
  show eqL eqv [Xi 3] [Xi y]=_
  simp only [eqL,Bool.and_true]
  unfold eqv
  rw [decide_eq_decide]
  simp [key,Xi]
  exact eq_comm
 unfold atP
 by_cases h:y=3
 ·subst h;simp [h2]
 simp [h2,h]
theorem cf_t3 (l:List (Int × Int)) (h:∀ p ∈ l,p.2=3):(cf l 3 0).code=0:=by
 show (Yt sc (st l) (l.map fun p=>rT p.1 p.2) [⟨[98],[117]⟩]).code=0
 have:Xs 12 (Gi sc (st l) ⟨[98],[117]⟩) (l.map fun p=>rT p.1 p.2)=Ft.zero:=Un (fun x hx=>by
  obtain ⟨p,hp,rfl⟩:=List.mem_map.1 hx
  rw [refT,h p hp];rfl)
 unfold Yt
 rw [this]
 rfl
theorem cf_t3d (a b y:Int) (hy:y≠3):(cf [(a,3),(b,y)] 3 0).code=12:=by
 show (Yt sc (st [(a,3),(b,y)]) [rT a 3,rT b y] [⟨[98],[117]⟩]).code=12
 have:(Xs 12 (Gi sc (st [(a,3),(b,y)]) ⟨[98],[117]⟩) [rT a 3,rT b y]).code=12:=by
  unfold Xs
  simp [List.findIdx?_cons,refT,hy]
 unfold Yt
 rw [this,if_neg (by decide)]
 exact this
theorem Pe (x y:Int):Ri (rT x y)=decide (x<y):=by
 show decide (Z1 (Xi x) (Xi y)<0)=_
 rw [decide_eq_decide]
 simp [Z1,Xi]
 exact Hk
theorem cf_t4 (l:List (Int × Int)) (h:∀ p ∈ l,p.1<p.2):(cf l 4 0).code=0:=by
 show (Xs 13 Ri (l.map fun p=>rT p.1 p.2)).code=0
 rw [Un (fun x hx=>by
  obtain ⟨p,hp,rfl⟩:=List.mem_map.1 hx
  rw [Pe];exact decide_eq_true (h p hp))]
 rfl
theorem cf_t4d (a b x y:Int) (h1:a<x) (h2:¬ b<y):(cf [(a,x),(b,y)] 4 0).code=13:=by
 show (Xs 13 Ri [rT a x,rT b y]).code=13
 unfold Xs
 simp [List.findIdx?_cons,Pe,h1,h2]
theorem st_norm (l:List (Int × Int)) (h:Jl (l.map fun p=>rT p.1 p.2)=true):Bz sc (st l)=true:=by
 show (Jl (l.map fun p=>rT p.1 p.2)&&decide (([116]:Bs)=[116])&&((Jl [rU 3]&&decide (([117]:Bs)=[117]))&&true))=true
 rw [h];rfl
theorem inc1 (a b:Int):Jl ([(a,b)].map fun p=>rT p.1 p.2)=true:=rfl
theorem cmp_rT (a b c d:Int):Z1 (rT a b) (rT c d)=thn (ord a c) (thn (ord b d) 0):=by
 simp [rT,U0,Xi,Z1,Yl,Ul,Zg,Vd,thn]
theorem inc2 (a b c d:Int) (h:a<c∨a=c∧b<d):Jl ([(a,b),(c,d)].map fun p=>rT p.1 p.2)=true:=by
 show (decide (Z1 (rT a b) (rT c d)<0)&&true)=true
 rw [Bool.and_true,decide_eq_true_eq,cmp_rT]
 rcases h with h | ⟨rfl,h⟩
 ·have:ord a c=-1:=by unfold ord;rw [if_pos h]
  rw [this];show (-1:Int)<0;omega
 rw [Vd,Vg]
 have:ord b d=-1:=by unfold ord;rw [if_pos h]
 rw [this];decide
theorem code0 {f:Ft} (h:U1 sc.tables.length (cf [(1,3)]) (fun i=>((sc.tables[i]?).getD Tbl.zero).name) f):f.code=0:=by
 rw [h.none (fun c i hc hi=>?_)]
 ·rfl
 have hi':i<2:=hi
 match i,hi' with
 | 1,_=>exact cf_u _ c hc
 | 0,_=>
  match c,hc with
  | 0,_=>exact Pj _ (by decide)
  | 1,_=>exact Oi _
  | 2,_=>exact cf_t2 _ (by decide)
  | 3,_=>exact cf_t3 _ (by decide)
  | 4,_=>exact cf_t4 _ (by decide)
theorem code1 {f:Ft} (h:U1 sc.tables.length (cf [(1,3),(1,4)]) (fun i=>((sc.tables[i]?).getD Tbl.zero).name) f):f.code=11:=by
 have h2:=cf_t2d 1 3 4
 rw [(h.at 2 0 (by decide) (by decide) (by rw [h2];decide) (fun c i hi hb=>?_)).1,h2]
 have hi':i<2:=hi
 match i,hi' with
 | 1,_=>exact cf_u _ c (by omega)
 | 0,_=>
  match c,hb with
  | 0,_=>exact Pj _ (by decide)
  | 1,_=>exact Oi _
  | c+2,hb=>omega
theorem code2 {f:Ft} (h:U1 sc.tables.length (cf [(1,3),(2,4)]) (fun i=>((sc.tables[i]?).getD Tbl.zero).name) f):f.code=12:=by
 have h2:=cf_t3d 1 2 4 (by decide)
 rw [(h.at 3 0 (by decide) (by decide) (by rw [h2];decide) (fun c i hi hb=>?_)).1,h2]
 have hi':i<2:=hi
 match i,hi' with
 | 1,_=>exact cf_u _ c (by omega)
 | 0,_=>
  match c,hb with
  | 0,_=>exact Pj _ (by decide)
  | 1,_=>exact Oi _
  | 2,_=>exact cf_t2 _ (by decide)
  | c+3,hb=>omega
theorem code3 {f:Ft} (h:U1 sc.tables.length (cf [(1,3),(5,3)]) (fun i=>((sc.tables[i]?).getD Tbl.zero).name) f):f.code=13:=by
 have h2:=cf_t4d 1 5 3 3 (by decide) (by decide)
 rw [(h.at 4 0 (by decide) (by decide) (by rw [h2];decide) (fun c i hi hb=>?_)).1,h2]
 have hi':i<2:=hi
 match i,hi' with
 | 1,_=>exact cf_u _ c (by omega)
 | 0,_=>
  match c,hb with
  | 0,_=>exact Pj _ (by decide)
  | 1,_=>exact Oi _
  | 2,_=>exact cf_t2 _ (by decide)
  | 3,_=>exact cf_t3 _ (by decide)
  | c+4,hb=>omega
end Law
end Go.Proofs.YtppbaladeefnkaaGreatDoor
