import Derived.Test.YtppbaladeefnkaaGreatDoorV08
set_option maxRecDepth 100000
set_option maxHeartbeats 400000000
namespace Go.Proofs.YtppbaladeefnkaaGreatDoor
open Go.RowKit Go.Shelf Go.Lib Tryz
theorem Qs {w:World} {b o:Nat} {v:Value} (hb:b<w.heap.size) (h:w.cell? ⟨b,o,none⟩=some v):∀ n os,(Sort.grow (w.drewN n) os).cell? ⟨b,o,none⟩=some v:=fun n os=>cell_grown hb h n os
theorem Z7 (w:World) (n:Nat) (os:Array Obj):Gr w (Sort.grow (w.drewN n) os):=⟨n,os,rfl⟩
theorem sortG (W:World) (x y:Val) (cx cy:List Value) (S:Nat→Prop) (hx:Qh S W cx x) (hy:Qh S W cy y):∀ n os,Calls prog 108 #[.agg cx.toArray,.agg cy.toArray] (Sort.grow (W.drewN n) os) fun e w'=>e=.returned (.int .i64 (Z1 x y))∧∃ q os',w'=Sort.grow ((Sort.grow (W.drewN n) os).drewN q) os':=
 fun n os=>R7 _ x y cx cy _ (hx.move (.of_below (Z7 W n os).bl) (fun _ _ h=>h)) (hy.move (.of_below (Z7 W n os).bl) (fun _ _ h=>h))
theorem insVal (S:Nat→Prop) (q:Option Addr) (cap:Nat) (xs:List Val) (w:World) (hV0:Sl Ql S w (.slice q xs.length cap) xs) (ho:Srt Z1 xs) (a b:Nat) (hab:a≤b) (hb:b≤xs.length):
  Calls prog 173 #[.slice q xs.length cap,.int .i64 a,.int .i64 b,.func (.func 108) #[] #[]] w fun e w'=>e=.returned (.tuple #[])∧Gr w w':=by
 have hl:xs.length≤1000000:=by obtain ⟨_,_,_,h⟩:=hV0.len;exact h
 have HV:=Qq hV0;have HO:=Qq ho
 clear hV0 ho
 obtain ⟨n,hn⟩:=eX (xs.length)
 rw [hn] at HV hl hb ⊢
 have HN:=Qq hn
 clear hn
 have eg:=enters_of func108 (by kernel_rfl) rfl
 have mixed:(prog).follows .mixedOrders=true:=by kernel_rfl
 go_enter func173,ntmps173
 go_wp2_with fail
 go_loopw [8] (fun i wr=>∃ k:Nat,a<k∧k≤b+1∧i=.int .i64 k∧Gr w wr) (fun i _=>b+1 - (intOf i).toNat)
 case atStart=>exact ⟨a+1,by omega,by omega,by go_num,Gr.refl _⟩
 obtain ⟨k,hak,hkb,rfl,hG⟩:=hrel
 generalize h6:wr=w6 at *
 have HG:=Qq hG
 clear hG
 by_cases hlt:k<b
 ·have hi2:(k:Int)<(b:Int):=by omega
  go_wp2_with fail
  go_loopw [9] (fun j wr=>j=.int .i64 k∧Gr w wr) (fun _ _=>0)
  case atStart=>exact ⟨rfl,HG.out⟩
  obtain ⟨rfl,hG⟩:=hrel
  have HGr:=Qq hG
  clear hG
  obtain ⟨j,rfl⟩:∃ j,k=j+1:=⟨k - 1,by omega⟩
  obtain ⟨x,hx⟩:∃ x,xs[j]?=some x:=⟨_,Qx (by rw [HN.out];omega)⟩
  obtain ⟨y,hy⟩:∃ y,xs[j+1]?=some y:=⟨_,Qx (by rw [HN.out];omega)⟩
  have hc0:=HO.out j (j+1) x y (by omega) hx hy
  obtain ⟨xb,xoff,p3,k3,p4,k4,rfl,hxb,hvx,d0,d1,d2,d3,d4⟩:=(HV.out.below HGr.out.bl).val hx
  obtain ⟨yb,yoff,q3,l3,q4,l4,he,hyb,hvy,e0,e1,e2,e3,e4⟩:=(HV.out.below HGr.out.bl).val hy
  obtain ⟨rfl,rfl,-⟩:xb=yb∧xoff=yoff∧True:=by simpa using he
  have hcg:=sortG wr y x _ _ _ hvy hvx
  have D0:=Qs hxb d0;have D1:=Qs hxb d1;have D2:=Qs hxb d2;have D3:=Qs hxb d3;have D4:=Qs hxb d4
  have E0:=Qs hxb e0;have E1:=Qs hxb e1;have E2:=Qs hxb e2;have E3:=Qs hxb e3;have E4:=Qs hxb e4
  have hj1:IntKind.i64.wrap (j:Int)=(j:Int):=by rw [IntKind.wrap_i64];omega
  have hj2:(j:Int)<(n:Int):=by omega
  have hj3:(a:Int)<(j:Int)+1:=by omega
  have hj4:(0:Int)≤(j:Int)+1:=by omega
  have hj5:(j:Int)+1<(n:Int):=by omega
  have hj6:(0:Int)≤(j:Int):=by omega
  have hj7:((j:Int)+1).toNat=j+1:=by omega
  unfold vcs at hcg
  generalize hcc:Z1 y x=c at hcg hc0
  have hq:decide (c<0)=false:=by simpa using hc0
  clear hx hy he hvx hvy hyb d0 d1 d2 d3 d4 e0 e1 e2 e3 e4 hcc hc0 hi2
  go_wp2_with fail
  go_quiet_grown (first | (go_at_call 108;refine Calls.grown_of (hcg _ _)))
  go_wp2_with fail
  go_roundw
  case measure=>simp [intOf];omega
  case rel=>exact ⟨j+1+1,by omega,by omega,by go_num,HGr.out.thn (Z7 _ _ _)⟩
 have hi2:¬ (k:Int)<(b:Int):=by omega
 go_wp2_with fail
 go_end0
 exact ⟨rfl,HG.out⟩
open Go.RowKit
theorem Uj (x y:Int) (w:World):Calls Tryz.prog 46 #[.int .i64 x,.int .i64 y] w fun e w'=>e=.returned (.int .i64 (ord x y))∧w=w':=by
 have key:∀ r,ord x y=r→Calls Tryz.prog 46 #[.int .i64 x,.int .i64 y] w fun e w'=>e=.returned (.int .i64 r)∧w=w':=by
  intro r hr
  by_cases h1:x<y
  ·have:r=-1:=by rw [← hr];unfold ord;rw [if_pos h1]
   subst this
   clear hr
   go_enter Tryz.func46,Tryz.ntmps46
   go_wp2_with fail
   go_ret
   exact ⟨rfl,rfl⟩
  by_cases h2:y<x
  ·have:r=1:=by rw [← hr];unfold ord;rw [if_neg h1,if_pos h2]
   subst this
   clear hr
   go_enter Tryz.func46,Tryz.ntmps46
   go_wp2_with fail
   go_ret
   exact ⟨rfl,rfl⟩
  have:r=0:=by rw [← hr];unfold ord;rw [if_neg h1,if_neg h2]
  subst this
  clear hr
  go_enter Tryz.func46,Tryz.ntmps46
  go_wp2_with fail
  go_ret
  exact ⟨rfl,rfl⟩
 exact key _ rfl
theorem Fl (x y:ByteArray) (w:World):Calls Tryz.prog 47 #[.string x,.string y] w fun e w'=>e=.returned (.int .i64 (Zg (bl x) (bl y)))∧w=w':=by
 obtain ⟨h1,h2,h3⟩:=Xj (bl x) (bl y)
 obtain ⟨g1,g2,g3⟩:=Xj (bl y) (bl x)
 have ha:Zg (bl x) (bl y)=- Zg (bl y) (bl x):=by
  have:=Xb (bl x) (bl y) [] []
  have h:=Xb (bl y) (bl x) [] []
  simp only [List.append_nil,lex,Uf] at this h
  rw [← this,← h];exact Jd _ _
 rw [← Jn x,← Jn y] at h1 h2 h3 g1 g2 g3 ha ⊢
 obtain ⟨c,hc⟩:=eX (Zg x.toList y.toList)
 obtain ⟨d,hd⟩:=eX (Zg y.toList x.toList)
 rw [hc] at h1 h2 h3 ha ⊢
 rw [hd] at g1 g2 g3 ha
 have HC:=Qq hc;have HD:=Qq hd
 clear hc hd
 rcases h3 with h3 | h3 | h3 <;> subst h3
 ·have k1:Op.bytesLess x.toList y.toList=true:=h1.trans (by decide)
  clear h1 h2 g1 g2 g3 ha
  go_enter Tryz.func47,Tryz.ntmps47
  go_wp2_with fail
  go_ret
  exact ⟨rfl,rfl⟩
 ·have k1:Op.bytesLess x.toList y.toList=false:=h1.trans (by decide)
  have hd0:d=0:=by omega
  subst hd0
  have k2:(x.toList==y.toList)=true:=h2.trans (by decide)
  clear h1 h2 g1 g2 g3 ha
  go_enter Tryz.func47,Tryz.ntmps47
  go_wp2_with fail
  go_ret
  exact ⟨rfl,rfl⟩
 have k1:Op.bytesLess x.toList y.toList=false:=h1.trans (by decide)
 have hd0:d=-1:=by omega
 subst hd0
 have k2:(x.toList==y.toList)=false:=h2.trans (by decide)
 clear h1 h2 g1 g2 g3 ha
 go_enter Tryz.func47,Tryz.ntmps47
 go_wp2_with fail
 go_ret
 exact ⟨rfl,rfl⟩
theorem cmpN_end {a b:List Bs} {k:Nat} (ha:k≤a.length) (hb:k≤b.length) (h:k=a.length∨k=b.length):Ul (a.drop k) (b.drop k)=ord a.length b.length:=by
 by_cases h1:k=a.length
 ·rw [List.drop_eq_nil_of_le (by omega:a.length≤k)]
  by_cases h2:k=b.length
  ·rw [List.drop_eq_nil_of_le (by omega)];unfold ord;rw [if_neg (by omega),if_neg (by omega)];rfl
  rw [List.drop_eq_getElem_cons (by omega:k<b.length)];unfold ord;rw [if_pos (by omega)];rfl
 have h2:k=b.length:=by omega
 rw [List.drop_eq_nil_of_le (by omega:b.length≤k),List.drop_eq_getElem_cons (by omega:k<a.length)];unfold ord;rw [if_neg (by omega),if_pos (by omega)];rfl
theorem Sa {a b:List Val} {k:Nat} (ha:k≤a.length) (hb:k≤b.length) (h:k=a.length∨k=b.length):Yl (a.drop k) (b.drop k)=ord a.length b.length:=by
 by_cases h1:k=a.length
 ·rw [List.drop_eq_nil_of_le (by omega:a.length≤k)]
  by_cases h2:k=b.length
  ·rw [List.drop_eq_nil_of_le (by omega)];unfold ord;rw [if_neg (by omega),if_neg (by omega)];simp [Yl]
  rw [List.drop_eq_getElem_cons (by omega:k<b.length)];unfold ord;rw [if_pos (by omega)];simp [Yl]
 have h2:k=b.length:=by omega
 rw [List.drop_eq_nil_of_le (by omega:b.length≤k),List.drop_eq_getElem_cons (by omega:k<a.length)];unfold ord;rw [if_neg (by omega),if_pos (by omega)];simp [Yl]
theorem Ok (S S':Nat→Prop) (av bv:Value) (a b:List Bs) (w:World) (ha:Sl Qp S w av a) (hb:Sl Qp S' w bv b):
  Calls Tryz.prog 48 #[av,bv] w fun e w'=>e=.returned (.int .i64 (Ul a b))∧Gr w w':=by
 obtain ⟨pa,ca,rfl,hla⟩:=ha.len
 obtain ⟨pb,cb,rfl,hlb⟩:=hb.len
 have HA:=Qq ha;have HB:=Qq hb
 obtain ⟨r,hr⟩:=eX (Ul a b)
 rw [hr]
 have HR:=Qq hr
 have HO:=Qq (fun W=>Uj a.length b.length W)
 clear ha hb hr
 go_enter Tryz.func48,Tryz.ntmps48
 go_wp2_with fail
 go_loopw [5,6] (fun i _ wr=>∃ k:Nat,k≤a.length∧k≤b.length∧i=.int .i64 k∧Aside (Ul (a.drop k) (b.drop k)=r)∧Aside (Gr w wr)) (fun i _ _=>a.length - (intOf i).toNat)
 case atStart=>exact ⟨0,Q8 _,Q8 _,rfl,HR.out,Gr.refl _⟩
 obtain ⟨k,hka,hkb,rfl,hc,hBl⟩:=hrel
 have HBl:=Qq (show Gr w wr from hBl)
 clear hBl
 by_cases hlt:k<a.length∧k<b.length
 ·obtain ⟨hlt,hlb2⟩:=hlt
  obtain ⟨x,hx⟩:∃ x,a[k]?=some x:=⟨_,Qx hlt⟩
  have hda:a.drop k=x::a.drop (k+1):=by
   rw [List.drop_eq_getElem_cons hlt];rw [Qx hlt] at hx;cases hx;rfl
  obtain ⟨ga,oa,rfl,c1,l1⟩:=(HA.out.below HBl.out.bl).str hx
  obtain ⟨y,hy⟩:∃ y,b[k]?=some y:=⟨_,Qx hlb2⟩
  have hdb:b.drop k=y::b.drop (k+1):=by
   rw [List.drop_eq_getElem_cons hlb2];rw [Qx hlb2] at hy;cases hy;rfl
  obtain ⟨gb,ob,rfl,c2,l2⟩:=(HB.out.below HBl.out.bl).str hy
  have hc1:Ul (a.drop k) (b.drop k)=r:=hc
  rw [hda,hdb] at hc1
  have HS:=Qq (Fl ⟨x.toArray⟩ ⟨y.toArray⟩)
  have hxy:Zg (bl ⟨x.toArray⟩) (bl ⟨y.toArray⟩)=Zg x y:=rfl
  rw [hxy] at HS
  have hc':thn (Zg x y) (Ul (a.drop (k+1)) (b.drop (k+1)))=r:=hc1
  generalize Zg x y=c at HS hc'
  have hi1:(0:Int)≤(k:Int):=by omega
  have hi2:(k:Int)<a.length:=by omega
  have hi3:(k:Int)<b.length:=by omega
  by_cases hc0:c=0
  ·subst hc0
   have HC:=Qq hc'
   clear hc hc' hc1 hda hdb hx hy hxy
   go_wp2_with fail
   go_quiet ((go_at_call 47;exact Calls.quiet_of_same ((HS.out _).mono fun _ _ h=>⟨h.1,h.2.symm⟩)))
   go_wp2_with fail
   go_roundw
   case rel=>exact ⟨k+1,by omega,by omega,by go_num,HC.out,HBl.out.thn ⟨_,#[],by rw [Sort.grow_empty]⟩⟩
   case measure=>simp [intOf];omega
  have hq2:(c != 0)=true:=by rw [bne_iff_ne];exact hc0
  have hcr:c=r:=by rw [← hc'];unfold thn;rw [if_neg hc0]
  subst hcr
  clear hc hc' hc1 hda hdb hx hy hxy hc0
  go_wp2_with fail
  go_quiet ((go_at_call 47;exact Calls.quiet_of_same ((HS.out _).mono fun _ _ h=>⟨h.1,h.2.symm⟩)))
  go_wp2_with fail
  go_ret
  exact ⟨rfl,HBl.out.thn ⟨_,#[],by rw [Sort.grow_empty]⟩⟩
 have hend:k=a.length∨k=b.length:=by omega
 have hr2:r=ord a.length b.length:=by rw [← cmpN_end hka hkb hend];exact (show Ul (a.drop k) (b.drop k)=r from hc).symm
 generalize ord a.length b.length=r2 at hr2 HO
 subst hr2
 rcases hend with hend | hend
 ·have hi2:¬ (k:Int)<a.length:=by omega
  have hi4:decide (k<a.length)=false:=by simp;omega
  clear hc hlt hend
  go_wp2_with (go_at_call 46;refine (HO.out _).mono ?_;rintro e w' ⟨rfl,rfl⟩)
  go_ret
  exact ⟨rfl,HBl.out⟩
 have hi2:¬ (k:Int)<b.length:=by omega
 have hi4:decide (k<b.length)=false:=by simp;omega
 clear hc hlt hend
 go_wp2_with (go_at_call 46;refine (HO.out _).mono ?_;rintro e w' ⟨rfl,rfl⟩)
 all_goals (go_ret;exact ⟨rfl,HBl.out⟩)
def Er (x:Val):Prop:=∀ (y:Val) (S S':Nat→Prop) (cx cy:List Value) (w:World),Qh S w cx x→Qh S' w cy y →
 Calls Tryz.prog 17 #[.agg cx.toArray,.agg cy.toArray] w fun e w'=>e=.returned (.int .i64 (Z1 x y))∧Gr w w'
theorem rkids_of (S S':Nat→Prop) (av bv:Value) (a b:List Val) (hC:∀ x ∈ a,Er x) (w:World) (ha:Sl Ql S w av a) (hb:Sl Ql S' w bv b):
  Calls Tryz.prog 49 #[av,bv] w fun e w'=>e=.returned (.int .i64 (Yl a b))∧Gr w w':=by
 obtain ⟨pa,ca,rfl,hla⟩:=ha.len
 obtain ⟨pb,cb,rfl,hlb⟩:=hb.len
 have HA:=Qq ha;have HB:=Qq hb;have HC:=Qq hC
 obtain ⟨r,hr⟩:=eX (Yl a b)
 rw [hr]
 have HR:=Qq hr
 have HO:=Qq (fun W=>Uj a.length b.length W)
 have mixed:Tryz.prog.follows .mixedOrders=true:=by kernel_rfl
 clear ha hb hr hC
 go_enter Tryz.func49,Tryz.ntmps49
 go_wp2_with fail
 go_loopw [5,6] (fun i _ wr=>∃ k:Nat,k≤a.length∧k≤b.length∧i=.int .i64 k∧Aside (Yl (a.drop k) (b.drop k)=r)∧Aside (Gr w wr)) (fun i _ _=>a.length - (intOf i).toNat)
 case atStart=>exact ⟨0,Q8 _,Q8 _,rfl,HR.out,Gr.refl _⟩
 obtain ⟨k,hka,hkb,rfl,hc,hBl⟩:=hrel
 have HBl:=Qq (show Gr w wr from hBl)
 clear hBl
 by_cases hlt:k<a.length∧k<b.length
 ·obtain ⟨hlt,hlb2⟩:=hlt
  obtain ⟨x,hx⟩:∃ x,a[k]?=some x:=⟨_,Qx hlt⟩
  have hda:a.drop k=x::a.drop (k+1):=by
   rw [List.drop_eq_getElem_cons hlt];rw [Qx hlt] at hx;cases hx;rfl
  obtain ⟨ga,oa,p3,k3,p4,k4,rfl,hga,hva,d0,d1,d2,d3,d4⟩:=(HA.out.below HBl.out.bl).val hx
  obtain ⟨y,hy⟩:∃ y,b[k]?=some y:=⟨_,Qx hlb2⟩
  have hdb:b.drop k=y::b.drop (k+1):=by
   rw [List.drop_eq_getElem_cons hlb2];rw [Qx hlb2] at hy;cases hy;rfl
  obtain ⟨gb,ob,q3,l3,q4,l4,rfl,hgb,hvb,e0,e1,e2,e3,e4⟩:=(HB.out.below HBl.out.bl).val hy
  have hc1:Yl (a.drop k) (b.drop k)=r:=hc
  rw [hda,hdb] at hc1
  have hc':thn (Z1 x y) (Yl (a.drop (k+1)) (b.drop (k+1)))=r:=by simpa [Yl] using hc1
  have HX:=Qq (HC.out x (Qy hx) y S S')
  have HVa:=Qq hva;have HVb:=Qq hvb
  generalize Z1 x y=c at HX hc'
  have hi1:(0:Int)≤(k:Int):=by omega
  have hi2:(k:Int)<a.length:=by omega
  have hi3:(k:Int)<b.length:=by omega
  clear hva hvb hc hc1 hda hdb hx hy
  have hcg:∀ n os,Calls Tryz.prog 17 #[.agg (vcs x p3 k3 p4 k4).toArray,.agg (vcs y q3 l3 q4 l4).toArray] (Sort.grow (wr.drewN n) os) fun e w'=>e=.returned (.int .i64 c)∧Gr (Sort.grow (wr.drewN n) os) w':=fun n os=>HX.out _ _ _ (HVa.out.move (.of_below (Z7 _ _ _).bl) (fun _ _ h=>h)) (HVb.out.move (.of_below (Z7 _ _ _).bl) (fun _ _ h=>h))
  unfold vcs at hcg
  have D0:=Qs hga d0;have D1:=Qs hga d1;have D2:=Qs hga d2;have D3:=Qs hga d3;have D4:=Qs hga d4
  have E0:=Qs hgb e0;have E1:=Qs hgb e1;have E2:=Qs hgb e2;have E3:=Qs hgb e3;have E4:=Qs hgb e4
  clear d0 d1 d2 d3 d4 e0 e1 e2 e3 e4
  by_cases hc0:c=0
  ·subst hc0
   have HC2:=Qq hc'
   clear hc'
   go_wp2_with fail
   go_quiet_grown (first | (go_at_call 17;refine Calls.grown_of (hcg _ _)))
   go_wp2_with fail
   go_roundw
   case rel=>exact ⟨k+1,by omega,by omega,by go_num,HC2.out,HBl.out.thn (Z7 _ _ _)⟩
   case measure=>simp [intOf];omega
  have hq2:(c != 0)=true:=by rw [bne_iff_ne];exact hc0
  have hcr:c=r:=by rw [← hc'];unfold thn;rw [if_neg hc0]
  subst hcr
  clear hc' hc0
  go_wp2_with fail
  go_quiet_grown (first | (go_at_call 17;refine Calls.grown_of (hcg _ _)))
  go_wp2_with fail
  go_ret
  exact ⟨rfl,HBl.out.thn (Z7 _ _ _)⟩
 have hend:k=a.length∨k=b.length:=by omega
 have hr2:r=ord a.length b.length:=by rw [← Sa hka hkb hend];exact (show Yl (a.drop k) (b.drop k)=r from hc).symm
 generalize ord a.length b.length=r2 at hr2 HO
 subst hr2
 rcases hend with hend | hend
 ·have hi2:¬ (k:Int)<a.length:=by omega
  have hi4:decide (k<a.length)=false:=by simp;omega
  clear hc hlt hend
  go_wp2_with (go_at_call 46;refine (HO.out _).mono ?_;rintro e w' ⟨rfl,rfl⟩)
  go_ret
  exact ⟨rfl,HBl.out⟩
 have hi2:¬ (k:Int)<b.length:=by omega
 have hi4:decide (k<b.length)=false:=by simp;omega
 clear hc hlt hend
 go_wp2_with (go_at_call 46;refine (HO.out _).mono ?_;rintro e w' ⟨rfl,rfl⟩)
 all_goals (go_ret;exact ⟨rfl,HBl.out⟩)
theorem Pm (k n:Int) (s:Bs) (ns:List Bs) (ks:List Val) (ih:∀ x ∈ ks,Er x):Er (.mk k n s ns ks):=by
 rintro ⟨k',n',s',ns',ks'⟩ S S' cx cy w hx hy
 obtain ⟨nv,kv,rfl,hs,hn,hk⟩:=Vt.1 hx
 obtain ⟨nv',kv',rfl,hs',hn',hk'⟩:=Vt.1 hy
 have hN:∀ w',Below w.heap.size w w'→Calls Tryz.prog 48 #[nv,nv'] w' fun e w''=>e=.returned (.int .i64 (Ul ns ns'))∧Gr w' w'':=
  fun w' hb=>Ok S S' nv nv' ns ns' w' (hn.below hb) (hn'.below hb)
 have hK:∀ w',Below w.heap.size w w'→Calls Tryz.prog 49 #[kv,kv'] w' fun e w''=>e=.returned (.int .i64 (Yl ks ks'))∧Gr w' w'':=
  fun w' hb=>rkids_of S S' kv kv' ks ks' ih w' (hk.below hb) (hk'.below hb)
 have hS:∀ w',Calls Tryz.prog 47 #[sv s,sv s'] w' fun e w''=>e=.returned (.int .i64 (Zg s s'))∧w'=w'':=fun w'=>Fl _ _ w'
 have HN:=Qq hN;have HK:=Qq hK;have HS:=Qq hS
 obtain ⟨cb,hcb⟩:=eX (Zg s s')
 obtain ⟨cn,hcn⟩:=eX (Ul ns ns')
 obtain ⟨cv,hcv⟩:=eX (Yl ks ks')
 rw [hcb] at HS;rw [hcn] at HN;rw [hcv] at HK
 have hB2:=Qq (fun o1 o2=>Zv w o1 o2)
 clear hN hK hS hx hy ih hn hn' hk hk'
 by_cases hkk:k=k'
 ·subst hkk
  by_cases h0:k=0
  ·subst h0
   rw [show Z1 (.mk 0 n s ns ks) (.mk 0 n' s' ns' ks')=ord n n' by simp [Z1]]
   have HI:=Qq (fun w=>Uj n n' w)
   generalize ord n n'=r at HI ⊢
   clear hcb hcn hcv
   go_enter Tryz.func17,Tryz.ntmps17
   go_wp2_with (go_at_call 46;refine (HI.out _).mono ?_;rintro e w' ⟨rfl,rfl⟩)
   go_ret
   exact ⟨rfl,X6 _ _ _⟩
  by_cases h2:k=2
  ·subst h2
   rw [show Z1 (.mk 2 n s ns ks) (.mk 2 n' s' ns' ks')=ord n n' by simp [Z1]]
   have HI:=Qq (fun w=>Uj n n' w)
   generalize ord n n'=r at HI ⊢
   clear hcb hcn hcv h0
   go_enter Tryz.func17,Tryz.ntmps17
   go_wp2_with (go_at_call 46;refine (HI.out _).mono ?_;rintro e w' ⟨rfl,rfl⟩)
   go_ret
   exact ⟨rfl,X6 _ _ _⟩
  by_cases h1:k=1
  ·subst h1
   rw [show Z1 (.mk 1 n s ns ks) (.mk 1 n' s' ns' ks')=cb by simp [Z1,hcb]]
   clear hcb hcn hcv h0 h2
   go_enter Tryz.func17,Tryz.ntmps17
   go_wp2_with (go_at_call 47;refine (HS.out _).mono ?_;rintro e w' ⟨rfl,rfl⟩)
   go_ret
   exact ⟨rfl,X6 _ _ _⟩
  by_cases h3:k=3
  ·subst h3
   have hv:Z1 (.mk 3 n s ns ks) (.mk 3 n' s' ns' ks')=thn cb cv:=by simp [Z1,hcb,hcv]
   clear hcb hcn hcv h0 h2 h1
   by_cases hz:cb=0
   ·subst hz
    rw [hv,Vg]
    clear hv
    go_enter Tryz.func17,Tryz.ntmps17
    go_wp2_with (first | (go_at_call 47;refine (HS.out _).mono ?_;rintro e w' ⟨rfl,rfl⟩) | (go_at_call 49;refine (HK.out _ (Zv _ _ _)).mono ?_;rintro e w' ⟨rfl,hw⟩;have HW:=Qq ((X6 w _ _).thn hw);clear hw))
    go_ret
    exact ⟨rfl,HW.out⟩
   have hq:(cb != 0)=true:=by rw [bne_iff_ne];exact hz
   have hv':Z1 (.mk 3 n s ns ks) (.mk 3 n' s' ns' ks')=cb:=by rw [hv];unfold thn;rw [if_neg hz]
   rw [hv']
   clear hv hv' hz
   go_enter Tryz.func17,Tryz.ntmps17
   go_wp2_with (go_at_call 47;refine (HS.out _).mono ?_;rintro e w' ⟨rfl,rfl⟩)
   go_ret
   exact ⟨rfl,X6 _ _ _⟩
  by_cases h4:k=4
  ·subst h4
   have hv:Z1 (.mk 4 n s ns ks) (.mk 4 n' s' ns' ks')=thn cn cv:=by simp [Z1,hcn,hcv]
   clear hcb hcn hcv h0 h2 h1 h3
   by_cases hz:cn=0
   ·subst hz
    rw [hv,Vg]
    clear hv
    go_enter Tryz.func17,Tryz.ntmps17
    go_wp2_with (first | (go_at_call 48;refine (HN.out _ (Zv _ _ _)).mono ?_;rintro e wn ⟨rfl,hwn⟩;have HWn:=Qq ((X6 w _ _).thn hwn);obtain ⟨hc9,hf9⟩:=Ma hwn.bl;clear hwn) | (go_at_call 49;refine (HK.out _ HWn.out.bl).mono ?_;rintro e w' ⟨rfl,hw⟩;have HW:=Qq (HWn.out.thn hw);clear hw))
    go_ret
    exact ⟨rfl,HW.out⟩
   have hq:(cn != 0)=true:=by rw [bne_iff_ne];exact hz
   have hv':Z1 (.mk 4 n s ns ks) (.mk 4 n' s' ns' ks')=cn:=by rw [hv];unfold thn;rw [if_neg hz]
   rw [hv']
   clear hv hv' hz
   go_enter Tryz.func17,Tryz.ntmps17
   go_wp2_with (go_at_call 48;refine (HN.out _ (Zv _ _ _)).mono ?_;rintro e wn ⟨rfl,hwn⟩;have HWn:=Qq ((X6 w _ _).thn hwn);obtain ⟨hc9,hf9⟩:=Ma hwn.bl;clear hwn)
   go_ret
   exact ⟨rfl,HWn.out⟩
  by_cases h5:k=5
  ·subst h5
   rw [show Z1 (.mk 5 n s ns ks) (.mk 5 n' s' ns' ks')=cv by simp [Z1,hcv]]
   clear hcb hcn hcv h0 h2 h1 h3 h4
   go_enter Tryz.func17,Tryz.ntmps17
   go_wp2_with (go_at_call 49;refine (HK.out _ (Zv _ _ _)).mono ?_;rintro e w' ⟨rfl,hw⟩;have HW:=Qq ((X6 w _ _).thn hw);clear hw)
   go_ret
   exact ⟨rfl,HW.out⟩
  have hv:Z1 (.mk k n s ns ks) (.mk k n' s' ns' ks')=0:=by simp [Z1,h0,h1,h2,h3,h4,h5]
  rw [hv]
  have q0:(k==0)=false:=by simpa using h0
  have q1:(k==1)=false:=by simpa using h1
  have q2:(k==2)=false:=by simpa using h2
  have q3:(k==3)=false:=by simpa using h3
  have q4:(k==4)=false:=by simpa using h4
  have q5:(k==5)=false:=by simpa using h5
  clear hv hcb hcn hcv h0 h1 h2 h3 h4 h5
  go_enter Tryz.func17,Tryz.ntmps17
  go_wp2_with fail
  go_ret
  exact ⟨rfl,X6 _ _ _⟩
 have hv:Z1 (.mk k n s ns ks) (.mk k' n' s' ns' ks')=ord k k':=by simp [Z1,hkk]
 rw [hv]
 have hq:(k != k')=true:=by rw [bne_iff_ne];exact hkk
 have HI:=Qq (fun w=>Uj k k' w)
 generalize ord k k'=r at HI ⊢
 clear hv hcb hcn hcv hkk
 go_enter Tryz.func17,Tryz.ntmps17
 go_wp2_with (go_at_call 46;refine (HI.out _).mono ?_;rintro e w' ⟨rfl,rfl⟩)
 go_ret
 exact ⟨rfl,X6 _ _ _⟩
theorem rcmpAt:∀ x:Val,Er x
 | .mk k n s ns ks=>Pm k n s ns ks fun x _=>rcmpAt x
termination_by x=>SizeOf.sizeOf x
decreasing_by
 have:=List.sizeOf_lt_of_mem ‹_ ∈ ks›
 simp only [Val.mk.sizeOf_spec]
 omega
theorem B6 (S S':Nat→Prop) (a b:Val) (ca cb:List Value) (w:World) (ha:Qh S w ca a) (hb:Qh S' w cb b):
  Calls Tryz.prog 17 #[.agg ca.toArray,.agg cb.toArray] w fun e w'=>e=.returned (.int .i64 (Z1 a b))∧Gr w w':=rcmpAt a b S S' ca cb w ha hb
def Bb (v:Value) (rvs:List Value):Nat→Prop:=fun b=>v.ownBlock≠some b∧∀ rv ∈ rvs,rv.ownBlock≠some b
def Zc (l:List Rel) (rvs:List Value):List (List Value):=List.zipWith (fun r rv=>[sv r.table,rv]) l rvs
structure Xo (B:Nat) (w:World) (v:Value) (l:List Rel) (rvs:List Value):Prop where
 len:rvs.length=l.length
 row:w.ownsRow B 57 2 v l.length (Zc l rvs).flatten
 tl:∀ r ∈ l,r.table.length≤1000000
 rows:∀ (i:Nat) (r:Rel) (rv:Value),l[i]?=some r→rvs[i]?=some rv→∃ css,Own Ql 44 (Bb v rvs) B w rv r.rows css
 apart:∀ (i j:Nat) (a b:Value) (g:Nat),rvs[i]?=some a→rvs[j]?=some b→a.ownBlock=some g→b.ownBlock=some g→i=j
theorem Uc {l:List Rel} {rvs:List Value}:∀ c ∈ Zc l rvs,c.length=2:=by
 intro c hc
 unfold Zc at hc
 rw [List.mem_iff_getElem?] at hc
 obtain ⟨i,hi⟩:=hc
 rw [List.getElem?_zipWith] at hi
 split at hi
 ·cases hi;rfl
 cases hi
theorem Jw {l:List Rel} {rvs:List Value} {i:Nat} {r:Rel} {rv:Value} (h1:l[i]?=some r) (h2:rvs[i]?=some rv):(Zc l rvs)[i]?=some [sv r.table,rv]:=by
 unfold Zc
 rw [List.getElem?_zipWith,h1,h2]
theorem Va {l:List Rel} {rvs:List Value} (h:rvs.length=l.length):(Zc l rvs).length=l.length:=by
 unfold Zc;rw [List.length_zipWith,h,Nat.min_self]
theorem Ld {l:List Rel} {rvs:List Value} {i:Nat} {r:Rel} (rv':Value) (zs:List Val) (hi:l[i]?=some r) (h:rvs.length=l.length):
  (Zc l rvs).flatten.set (i*2+1) rv'=(Zc (l.set i ⟨r.table,zs⟩) (rvs.set i rv')).flatten:=by
 induction l generalizing i rvs with
 | nil=>simp at hi
 | cons a l ih=>
  cases rvs with
  | nil=>simp at h
  | cons b rvs=>
   cases i with
   | zero=>
    simp at hi;subst hi
    simp [Zc]
   | succ i=>
    have:=ih (rvs:=rvs) (i:=i) (by simpa using hi) (by simpa using h)
    simp only [Zc,List.zipWith_cons_cons,List.flatten_cons,List.set_cons_succ] at this ⊢
    rw [← this,show (i+1)*2+1=([sv a.table,b]:List Value).length+(i*2+1) by simp;omega,List.set_append_right _ _ (Nat.le_add_right _ _),Nat.add_sub_cancel_left]
theorem Xo.below {B:Nat} {w w':World} {v:Value} {l:List Rel} {rvs:List Value} (h:Xo B w v l rvs) (hb:Below w.heap.size w w'):Xo B w' v l rvs:=
 ⟨h.len,Jz h.row hb,h.tl,fun i r rv h1 h2=>(h.rows i r rv h1 h2).imp fun _ ho=>ho.below hb,h.apart⟩
theorem Xo.sl {B:Nat} {w:World} {v:Value} {l:List Rel} {rvs:List Value} (h:Xo B w v l rvs) (hl:l.length≤1000000) (hr:∀ r ∈ l,r.rows.length≤1000000) (S':Nat→Prop) (h1:∀ b,B≤b→S' b) (h2:∀ b,b<w.heap.size→Bb v rvs b→S' b):Sl Z0 S' w v l:=by
 have hcs:Cs Z0 S' w (Zc l rvs) l:=by
  refine ⟨Va h.len,fun i c x hc hx=>?_⟩
  have hi:=(Qj hx).1
  obtain ⟨rv,hrv⟩:∃ rv,rvs[i]?=some rv:=⟨_,Qx (by rw [h.len];exact hi)⟩
  rw [Jw hx hrv] at hc
  cases hc
  obtain ⟨css,ho⟩:=h.rows i x rv hx hrv
  exact ⟨rv,rfl,h.tl x (Qy hx),ho.sl (hr x (Qy hx)) h1 h2⟩
 rcases h.row.2 with ⟨rfl,h0⟩ | ⟨g,cap,cur,rfl,hB,hg,_,_,_,ht⟩
 ·rw [List.eq_nil_of_length_eq_zero h0];exact Sl.nil _ _ _
 refine Sl.of_css (css:=Zc l rvs) hl hcs (h1 g hB) (Array.getElem?_eq_some_iff.1 hg).1 (fun j u hu=>?_)
 rw [Nat.zero_add];exact Fg hg ht hu
theorem Xo.put {B:Nat} {w w1:World} {g cap:Nat} {l:List Rel} {rvs:List Value} {i:Nat} {r:Rel} {rv rv':Value} {zs:List Val} (h:Xo B w (.slice (some ⟨g,0,none⟩) l.length cap) l rvs) (hi:l[i]?=some r) (hrv:rvs[i]?=some rv)
  (ho:∃ css,Own Ql 44 (Bb (.slice (some ⟨g,0,none⟩) l.length cap) rvs) B w1 rv' zs css) (hg:w.grownBy w1 rv.ownBlock) (hat:rv'.ownBlock=rv.ownBlock∨∀ g',rv'.ownBlock=some g'→w.heap.size≤g'):
  Xo B (w1.setCell ⟨g,i*2+1,none⟩ rv') (.slice (some ⟨g,0,none⟩) l.length cap) (l.set i ⟨r.table,zs⟩) (rvs.set i rv'):=by
 have hil:=(Qj hi).1
 have hgv:=(h.row.lt g rfl).2
 have hgB:=(h.row.lt g rfl).1
 obtain ⟨css0,hor⟩:=h.rows i r rv hi hrv
 have hne:some g≠rv.ownBlock:=fun e=>Zs h.row hor.row (by decide) rfl e.symm
 have hne':some g≠rv'.ownBlock:=by
  intro e
  rcases hat with h1 | h1
  ·exact hne (e.trans h1)
  have:=h1 g e.symm
  omega
 have hrow1:w1.ownsRow B 57 2 (.slice (some ⟨g,0,none⟩) l.length cap) l.length (Zc l rvs).flatten:=by
  refine ⟨h.row.1,?_⟩
  rcases h.row.2 with hn | ⟨g',cap',cur,e,hB,hh,rest⟩
  ·exact .inl hn
  simp only [Value.slice.injEq,Option.some.injEq,Addr.mk.injEq] at e
  obtain ⟨⟨rfl,_⟩,_,rfl⟩:=e
  exact .inr ⟨_,_,cur,rfl,hB,(hg.block _ hgv hne).trans hh,rest⟩
 have hfree:∀ b,b<w.heap.size→Bb (.slice (some ⟨g,0,none⟩) l.length cap) rvs b→Bb (.slice (some ⟨g,0,none⟩) l.length cap) (rvs.set i rv') b:=by
  rintro b hb ⟨f1,f2⟩
  refine ⟨f1,fun u hu=>?_⟩
  rcases List.mem_or_eq_of_mem_set hu with h1 | rfl
  ·exact f2 u h1
  intro e
  rcases hat with h1 | h1
  ·exact f2 rv (Qy hrv) (h1 ▸ e)
  have:=h1 b e;omega
 refine ⟨by rw [List.length_set,List.length_set];exact h.len,?_,?_,?_,?_⟩
 ·rw [List.length_set,← Ld rv' zs hi h.len]
  exact (hrow1.stored (i*2+1) rv').1
 ·intro x hx
  rcases List.mem_or_eq_of_mem_set hx with h1 | rfl
  ·exact h.tl x h1
  exact h.tl r (Qy hi)
 ·intro j x u hx hu
  by_cases e:j=i
  ·subst e
   rw [List.getElem?_set_self (by exact hil)] at hx
   rw [List.getElem?_set_self (by rw [h.len];exact hil)] at hu
   cases hx;cases hu
   obtain ⟨css,ho⟩:=ho
   refine ⟨css,⟨?_,?_⟩⟩
   ·refine ⟨ho.row.1,?_⟩
    rcases ho.row.2 with hn | ⟨g',cap',cur,e,hB,hh,rest⟩
    ·exact .inl hn
    refine .inr ⟨g',cap',cur,e,hB,?_,rest⟩
    rw [Qg (by intro e2;subst e;have e3:g'=g:=e2;exact hne' (by rw [← e3];rfl))];exact hh
   refine ho.cs.move (fun b hS hlt=>Qg (fun e=>hS.1.1 (by rw [e];rfl))) (fun b hb hS=>⟨⟨hS.1.1,fun u hu=>?_⟩,hS.2⟩)
   rcases List.mem_or_eq_of_mem_set hu with h1 | rfl
   ·exact hS.1.2 u h1
   exact fun e=>hS.2 e.symm
  rw [List.getElem?_set_ne (Ne.symm e)] at hx hu
  obtain ⟨css,hj⟩:=h.rows j x u hx hu
  have hu1:u.ownBlock≠some g:=Zs h.row hj.row (by decide) rfl
  refine ⟨css,⟨?_,?_⟩⟩
  ·refine ⟨hj.row.1,?_⟩
   rcases hj.row.2 with hn | ⟨g',cap',cur,e1,hB,hh,rest⟩
   ·exact .inl hn
   refine .inr ⟨g',cap',cur,e1,hB,?_,rest⟩
   have hg':g'<w.heap.size:=(Array.getElem?_eq_some_iff.1 hh).1
   rw [Qg (by intro e2;subst e1;have e3:g'=g:=e2;exact hu1 (by rw [← e3];rfl)),hg.block g' hg' (fun e2=>e (h.apart j i u rv g' hu hrv (by rw [e1];rfl) e2.symm))]
   exact hh
  refine hj.cs.move (fun b hS hlt=>?_) (fun b hb hS=>⟨hfree b hb hS.1,hS.2⟩)
  rw [Qg (fun e=>hS.1.1 (by rw [e];rfl)),hg.block b hlt (fun e=>hS.1.2 rv (Qy hrv) e.symm)]
 intro j k a b g' ha hb h1 h2
 by_cases ej:j=i
 ·by_cases ek:k=i
  ·omega
  subst ej
  rw [List.getElem?_set_self (by rw [h.len];exact hil)] at ha
  rw [List.getElem?_set_ne (Ne.symm ek)] at hb
  cases ha
  obtain ⟨x,hx⟩:∃ x,l[k]?=some x:=⟨_,Qx (by rw [← h.len];exact (Qj hb).1)⟩
  obtain ⟨css,hj⟩:=h.rows k x b hx hb
  have:=(hj.row.lt g' h2).2
  rcases hat with h3 | h3
  ·exact h.apart j k rv b g' hrv hb (h3 ▸ h1) h2
  have:=h3 g' h1;omega
 rw [List.getElem?_set_ne (Ne.symm ej)] at ha
 by_cases ek:k=i
 ·subst ek
  rw [List.getElem?_set_self (by rw [h.len];exact hil)] at hb
  cases hb
  obtain ⟨x,hx⟩:∃ x,l[j]?=some x:=⟨_,Qx (by rw [← h.len];exact (Qj ha).1)⟩
  obtain ⟨css,hj⟩:=h.rows j x a hx ha
  have:=(hj.row.lt g' h1).2
  rcases hat with h3 | h3
  ·exact h.apart j k a rv g' ha hrv h1 (h3 ▸ h2)
  have:=h3 g' h2;omega
 rw [List.getElem?_set_ne (Ne.symm ek)] at hb
 exact h.apart j k a b g' ha hb h1 h2
def Xs (code:Int) (p:Val→Bool) (rows:List Val):Ft:=match rows.findIdx? (fun r=>!p r) with
 | none=>Ft.zero
 | some i=>⟨code,[],rows.getD i Val.zero,Val.zero⟩
theorem bad1_any (h:Nat) (lbh:Array Value) (eh:∀ args w,(callFunc h args).run prog w=.ok (.enter h args) w) (G:Nat) (S:Nat→Prop) (rows:List Val) (p:Val→Bool) (w:World) (hp:Xp prog h lbh Ql S rows p w) (hc:w.cell? ⟨G,0,none⟩=some (.func (.func h) #[] lbh)):
  Xp prog 122 #[.pointer (some ⟨G,0,none⟩)] Ql S rows (fun r=>!p r) w:=by
 intro W x cs hb hx hr
 have hc':W.cell? ⟨G,0,none⟩=some (.func (.func h) #[] lbh):=(hb.cell (p:=⟨G,0,none⟩) (Qv w _ hc)).trans hc
 have hlt:=Qv W _ hc'
 have hG:G<W.heap.size:=hlt
 have HP:=Qq (fun W' (h':Below W.heap.size W W')=>hp W' x cs (hb.thn h') hx (Ql.frame hr (.of_below h')))
 obtain ⟨p3,k3,p4,k4,hcs,_⟩:=Qh.cells (show Qh S W cs x from hr)
 simp only [vcs] at hcs
 subst hcs
 show Calls prog 122 #[.agg #[.int .i64 x.kind,.int .i64 x.n,.string ⟨x.s.toArray⟩,.slice p3 x.names.length k3,.slice p4 x.kids.length k4],.pointer (some ⟨G,0,none⟩)] W (fun e w'=>e=.returned (.bool (!p x))∧Below W.heap.size W w')
 generalize p x=b at HP ⊢
 clear hp hc hb hx hr hlt
 go_enter func122,ntmps122
 go_wp2_with (go_at_fn h;refine (HP.out _ (Qn _ _)).mono ?_;rintro e w' ⟨rfl,hw⟩)
 go_ret
 exact ⟨rfl,(Qn _ _).thn hw⟩
theorem Hf (code:Int) (h:Nat) (lbh:Array Value) (eh:∀ args w,(callFunc h args).run prog w=.ok (.enter h args) w) (S0:Nat→Prop) (v:Value) (rows:List Val) (p:Val→Bool) (w:World) (hv0:Sl Ql S0 w v rows) (hp:Xp prog h lbh Ql (fun b=>S0 b∧b<w.heap.size) rows p w):
  Calls prog 87 #[.int .i64 code,v,.func (.func h) #[] lbh] w (Ka S0 w (Xs code p rows)):=by
 have hv:=hv0.up
 obtain ⟨vp,vcap,rfl,hl⟩:=hv.len
 have HI:=Qq (fun W (hb:Below w.heap.size w W) (hc:W.cell? ⟨w.heap.size,0,none⟩=some (.func (.func h) #[] lbh))=>Fz Tryz.ixVal Ql isAgg44 sizeOf44 122 #[.pointer (some ⟨w.heap.size,0,none⟩)] (enters_of func122 (by kernel_rfl) rfl) _ _ rows W _ (hv.below hb)
  (bad1_any h lbh eh w.heap.size _ rows p W (fun W' x cs h1 h2 h3=>hp W' x cs (hb.thn h1) h2 h3) hc))
 have HV:=Qq hv
 clear hv hv0 hp
 have hB:∃ r,Xs code p rows=r:=⟨_,rfl⟩
 obtain ⟨r,hr⟩:=hB
 rw [hr]
 have hidx:Y9 (fun r=>!p r) rows=(match rows.findIdx? (fun r=>!p r) with | some i=>(i:Int) | none=>-1):=by unfold Y9;cases rows.findIdx? (fun r=>!p r) <;> rfl
 cases hf:rows.findIdx? (fun r=>!p r) with
 | none=>
  have hr0:r=Ft.zero:=by rw [← hr];unfold Xs;rw [hf]
  rw [hf] at hidx
  simp only at hidx
  rw [hidx] at HI
  have HR:=Qq hr0
  clear hr0 hr hidx hf
  go_enter func87,ntmps87
  go_wp2_with fail
  refine (HI.out _ (Zv _ _ _) (by simp)).mono ?_
  rintro e w5 ⟨rfl,hw⟩
  have hR5:=(hw.block (w.heap.size+1) (by simp)).trans (Q6 w _ _)
  have fz:=fun j=>frozen_of_row _ _ j _ _ hR5
  have rr:=fun j=>Qk _ _ j _ _ _ hR5
  have f0:=fz 0;have f1:=fz 1;have f2:=fz 2;have f3:=fz 3;have f4:=fz 4;have f5:=fz 5;have f6:=fz 6;have f7:=fz 7;have f8:=fz 8;have f9:=fz 9;have f10:=fz 10;have f11:=fz 11
  have r0:=rr 0;have r1:=rr 1;have r2:=rr 2;have r3:=rr 3;have r4:=rr 4;have r5:=rr 5;have r6:=rr 6;have r7:=rr 7;have r8:=rr 8;have r9:=rr 9;have r10:=rr 10;have r11:=rr 11
  simp only [List.getElem?_toArray,List.getElem?_cons_zero,List.getElem?_cons_succ] at r0 r1 r2 r3 r4 r5 r6 r7 r8 r9 r10 r11
  have HB5:=Qq ((Zv w _ _).thn hw);have HR5:=Qq hR5
  clear fz rr hR5 hw
  go_wp2_with fail
  obtain ⟨W,hW⟩:=eX (Zh w5 (w.heap.size+1) (.int .i64 0) (.string ⟨#[]⟩) (.int .i64 0) (.int .i64 0) (.string ⟨#[]⟩) (.slice none 0 0) (.slice none 0 0) (.int .i64 0) (.int .i64 0) (.string ⟨#[]⟩) (.slice none 0 0) (.slice none 0 0))
  have q:∀ j,W.cell? ⟨w.heap.size+1,j,none⟩=zF[j]?:=fun j=>by rw [← hW];exact Zb HR5.out j
  have hbel:Below w.heap.size w W:=by rw [← hW];exact Z3 HB5.out (by omega)
  show bodyPost _ _ _ _ _ (Zh w5 (w.heap.size+1) (.int .i64 0) (.string ⟨#[]⟩) (.int .i64 0) (.int .i64 0) (.string ⟨#[]⟩) (.slice none 0 0) (.slice none 0 0) (.int .i64 0) (.int .i64 0) (.string ⟨#[]⟩) (.slice none 0 0) (.slice none 0 0))
  rw [hW]
  have HBel:=Qq hbel
  have q0:=q 0;have q1:=q 1;have q2:=q 2;have q3:=q 3;have q4:=q 4;have q5:=q 5;have q6:=q 6;have q7:=q 7;have q8:=q 8;have q9:=q 9;have q10:=q 10;have q11:=q 11
  simp only [List.getElem?_toArray,List.getElem?_cons_zero,List.getElem?_cons_succ] at q0 q1 q2 q3 q4 q5 q6 q7 q8 q9 q10 q11
  clear hW hbel q r0 r1 r2 r3 r4 r5 r6 r7 r8 r9 r10 r11 f0 f1 f2 f3 f4 f5 f6 f7 f8 f9 f10 f11
  refine Q7 (v:=.agg zF) (by simp [results,results87,go_sem,q0,q1,q2,q3,q4,q5,q6,q7,q8,q9,q10,q11]) rfl ⟨[.int .i64 0,.string ⟨#[]⟩,.int .i64 0,.int .i64 0,.string ⟨#[]⟩,.slice none 0 0,.slice none 0 0,.int .i64 0,.int .i64 0,.string ⟨#[]⟩,.slice none 0 0,.slice none 0 0],rfl,by rw [HR.out];exact Ug _ _,HBel.out⟩
 | some i=>
  obtain ⟨hil,_,_⟩:=List.findIdx?_eq_some_iff_getElem.1 hf
  obtain ⟨x,hx⟩:∃ x,rows[i]?=some x:=⟨_,Qx hil⟩
  have hr0:r=⟨code,[],x,Val.zero⟩:=by rw [← hr];unfold Xs;rw [hf];simp only;rw [List.getD_eq_getElem?_getD,hx];rfl
  rw [hf] at hidx
  simp only at hidx
  rw [hidx] at HI
  obtain ⟨xb,xoff,p3,k3,p4,k4,rfl,hxb,hvx,d0,d1,d2,d3,d4⟩:=HV.out.val hx
  have hi1:(0:Int)≤(i:Int):=by omega
  have hi2:(i:Int)<(rows.length:Int):=by omega
  have HR:=Qq hr0;have HVX:=Qq hvx
  clear hr0 hr hidx hf hx hvx
  go_enter func87,ntmps87
  go_wp2_with fail
  refine (HI.out _ (Zv _ _ _) (by simp)).mono ?_
  rintro e w5 ⟨rfl,hw⟩
  have hR5:=(hw.block (w.heap.size+1) (by simp)).trans (Q6 w _ _)
  have hbw:=(Zv w _ _).thn hw
  have e0:=(hbw.cell (p:=⟨xb,xoff+i*5,none⟩) hxb).trans d0;have e1:=(hbw.cell (p:=⟨xb,xoff+i*5+1,none⟩) hxb).trans d1;have e2:=(hbw.cell (p:=⟨xb,xoff+i*5+2,none⟩) hxb).trans d2;have e3:=(hbw.cell (p:=⟨xb,xoff+i*5+3,none⟩) hxb).trans d3;have e4:=(hbw.cell (p:=⟨xb,xoff+i*5+4,none⟩) hxb).trans d4
  have fz:=fun j=>frozen_of_row _ _ j _ _ hR5
  have rr:=fun j=>Qk _ _ j _ _ _ hR5
  have f0:=fz 0;have f1:=fz 1;have f2:=fz 2;have f3:=fz 3;have f4:=fz 4;have f5:=fz 5;have f6:=fz 6;have f7:=fz 7;have f8:=fz 8;have f9:=fz 9;have f10:=fz 10;have f11:=fz 11
  have r0:=rr 0;have r1:=rr 1;have r2:=rr 2;have r3:=rr 3;have r4:=rr 4;have r5:=rr 5;have r6:=rr 6;have r7:=rr 7;have r8:=rr 8;have r9:=rr 9;have r10:=rr 10;have r11:=rr 11
  simp only [List.getElem?_toArray,List.getElem?_cons_zero,List.getElem?_cons_succ] at r0 r1 r2 r3 r4 r5 r6 r7 r8 r9 r10 r11
  have HB5:=Qq hbw;have HR5:=Qq hR5
  clear fz rr hR5 hw hbw d0 d1 d2 d3 d4
  go_wp2_with fail
  obtain ⟨W,hW⟩:=eX (Zh w5 (w.heap.size+1) (.int .i64 code) (.string ⟨#[]⟩) (.int .i64 x.kind) (.int .i64 x.n) (.string ⟨x.s.toArray⟩) (.slice p3 x.names.length k3) (.slice p4 x.kids.length k4) (.int .i64 0) (.int .i64 0) (.string ⟨#[]⟩) (.slice none 0 0) (.slice none 0 0))
  have q:∀ j,W.cell? ⟨w.heap.size+1,j,none⟩=#[.int .i64 code,.string ⟨#[]⟩,.int .i64 x.kind,.int .i64 x.n,.string ⟨x.s.toArray⟩,.slice p3 x.names.length k3,.slice p4 x.kids.length k4,.int .i64 0,.int .i64 0,.string ⟨#[]⟩,.slice none 0 0,.slice none 0 0][j]?:=fun j=>by rw [← hW];exact Zb HR5.out j
  have hoth:∀ b,b<w.heap.size→W.heap[b]?=w5.heap[b]?:=fun b hb=>by rw [← hW];exact Yz (by omega)
  have hbel:Below w.heap.size w W:=by rw [← hW];exact Z3 HB5.out (by omega)
  show bodyPost _ _ _ _ _ (Zh w5 (w.heap.size+1) (.int .i64 code) (.string ⟨#[]⟩) (.int .i64 x.kind) (.int .i64 x.n) (.string ⟨x.s.toArray⟩) (.slice p3 x.names.length k3) (.slice p4 x.kids.length k4) (.int .i64 0) (.int .i64 0) (.string ⟨#[]⟩) (.slice none 0 0) (.slice none 0 0))
  rw [hW]
  have HBel:=Qq hbel;have HOth:=Qq hoth
  have q0:=q 0;have q1:=q 1;have q2:=q 2;have q3:=q 3;have q4:=q 4;have q5:=q 5;have q6:=q 6;have q7:=q 7;have q8:=q 8;have q9:=q 9;have q10:=q 10;have q11:=q 11
  simp only [List.getElem?_toArray,List.getElem?_cons_zero,List.getElem?_cons_succ] at q0 q1 q2 q3 q4 q5 q6 q7 q8 q9 q10 q11
  clear hW hbel hoth q r0 r1 r2 r3 r4 r5 r6 r7 r8 r9 r10 r11 f0 f1 f2 f3 f4 f5 f6 f7 f8 f9 f10 f11 e0 e1 e2 e3 e4
  refine Q7 (v:=.agg #[.int .i64 code,.string ⟨#[]⟩,.int .i64 x.kind,.int .i64 x.n,.string ⟨x.s.toArray⟩,.slice p3 x.names.length k3,.slice p4 x.kids.length k4,.int .i64 0,.int .i64 0,.string ⟨#[]⟩,.slice none 0 0,.slice none 0 0]) (by simp [results,results87,go_sem,q0,q1,q2,q3,q4,q5,q6,q7,q8,q9,q10,q11]) rfl ⟨[.int .i64 code,.string ⟨#[]⟩,.int .i64 x.kind,.int .i64 x.n,.string ⟨x.s.toArray⟩,.slice p3 x.names.length k3,.slice p4 x.kids.length k4,.int .i64 0,.int .i64 0,.string ⟨#[]⟩,.slice none 0 0,.slice none 0 0],rfl,?_,HBel.out⟩
  rw [HR.out]
  refine ⟨vcs x p3 k3 p4 k4,_,rfl,by simp,?_,Zo _ _⟩
  exact Qh.move (S':=S0) HVX.out (fun b hb hlt=>(HOth.out b hb.2).trans (HB5.out.block b hlt)) (fun _ _ h=>h.1)
theorem E8 {T:Type} {l:List T} {k:Nat} {x:T} (h:l[k]?=some x):l.take (k+1)=l.take k++[x]:=by
 rw [List.take_add_one,h];rfl
theorem Ox (S S':Nat→Prop) (av bv:Value) (a b:List Bs) (w:World) (ha:Sl Qp S w av a) (hb:Sl Qp S' w bv b):
  Calls prog 175 #[av,bv] w fun e w'=>e=.returned (.bool (decide (a=b)))∧Gr w w':=by
 obtain ⟨pa,ca,rfl,hla⟩:=ha.len
 obtain ⟨pb,cb,rfl,hlb⟩:=hb.len
 have HA:=Qq ha;have HB:=Qq hb
 clear ha hb
 obtain ⟨r,hr⟩:=eX (decide (a=b))
 rw [hr]
 have HR:=Qq hr
 clear hr
 by_cases hl:a.length=b.length
 ·have hl0:((a.length:Int) != (b.length:Int))=false:=by simp [hl]
  have HL:=Qq hl
  obtain ⟨n,hn⟩:=eX (a.length)
  have hm:b.length=n:=by omega
  rw [hn] at HA hla;rw [hm] at HB hlb
  rw [hn,hm] at hl0
  have HN:=Qq hn;have HM:=Qq hm
  rw [hn,hm]
  clear hl hn hm
  go_enter func175,ntmps175
  go_wp2_with fail
  clear hl0
  go_loopw [5] (fun i wr=>∃ k:Nat,k≤n∧i=.int .i64 k∧Aside (a.take k=b.take k)∧Aside (Gr w wr)) (fun i _=>n - (intOf i).toNat)
  case atStart=>exact ⟨0,Q8 _,rfl,rfl,Gr.refl _⟩
  obtain ⟨k,hk,rfl,ht,hBl⟩:=hrel
  have HBl:=Qq (show Gr w wr from hBl);have HT:=Qq (show a.take k=b.take k from ht)
  clear hBl ht
  by_cases hlt:k<n
  ·obtain ⟨x,hx⟩:∃ x,a[k]?=some x:=⟨_,Qx (by rw [HN.out];exact hlt)⟩
   obtain ⟨y,hy⟩:∃ y,b[k]?=some y:=⟨_,Qx (by rw [HM.out];exact hlt)⟩
   obtain ⟨ga,oa,rfl,c1,l1⟩:=(HA.out.below HBl.out.bl).str hx
   obtain ⟨gb,ob,rfl,c2,l2⟩:=(HB.out.below HBl.out.bl).str hy
   have HX:=Qq hx;have HY:=Qq hy
   have hi1:(0:Int)≤(k:Int):=by omega
   have hi2:(k:Int)<n:=by omega
   by_cases he:x=y
   ·subst he
    clear hx hy
    go_wp2_with fail
    go_quiet (fail)
    go_wp2_with fail
    go_roundw
    case rel=>exact ⟨k+1,by omega,by go_num,(show Aside _ from by show _=_;rw [E8 HX.out,E8 HY.out,HT.out]),HBl.out.thn ⟨_,#[],by rw [Sort.grow_empty]⟩⟩
    case measure=>simp [intOf];omega
   have hq:(x==y)=false:=by rw [beq_eq_false_iff_ne];exact he
   have hq2:(x != y)=true:=by rw [bne_iff_ne];exact he
   have hrf:r=false:=by
    rw [← HR.out,decide_eq_false_iff_not]
    intro e;subst e;rw [hx] at hy;exact he (Qb hy)
   subst hrf
   clear hx hy he
   go_wp2_with fail
   go_quiet (fail)
   go_wp2_with fail
   go_ret
   exact ⟨rfl,HBl.out.thn ⟨_,#[],by rw [Sort.grow_empty]⟩⟩
  have hkn:k=n:=by omega
  subst hkn
  have hrt:r=true:=by
   rw [← HR.out,decide_eq_true_eq]
   have:=HT.out
   rw [List.take_of_length_le (by rw [HN.out];exact Q9 _),List.take_of_length_le (by rw [HM.out];exact Q9 _)] at this
   exact this
  subst hrt
  go_wp2_with fail
  go_ret
  exact ⟨rfl,HBl.out⟩
 have hl0:((a.length:Int) != (b.length:Int))=true:=by rw [bne_iff_ne];omega
 have hrf:r=false:=by
  rw [← HR.out,decide_eq_false_iff_not]
  intro e;exact hl (by rw [e])
 subst hrf
 go_enter func175,ntmps175
 go_wp2_with fail
 go_ret
 exact ⟨rfl,Gr.refl _⟩
end Go.Proofs.YtppbaladeefnkaaGreatDoor
