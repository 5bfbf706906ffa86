import Derived.Test.YtppbaladeefnkaaGreatDoorV02
import Derived.Test.YtppbaladeefnkaaGreatDoorV01
set_option maxRecDepth 100000
set_option maxHeartbeats 400000000
namespace Go.Proofs.YtppbaladeefnkaaGreatDoor
open Go.RowKit
theorem cmpB_lib (a b:Bs):Lib.compareBytes a b=Zg a b:=by
 induction a generalizing b with
 | nil=>cases b <;> rfl
 | cons x s ih=>
  cases b with
  | nil=>rfl
  | cons y t=>
   have h1:x<y↔(x.toNat:Int)<y.toNat:=by rw [UInt8.lt_iff_toNat_lt];omega
   have h2:y<x↔(y.toNat:Int)<x.toNat:=by rw [UInt8.lt_iff_toNat_lt];omega
   show (if x<y then -1 else if y<x then 1 else Lib.compareBytes s t)=thn (ord x.toNat y.toNat) (Zg s t)
   by_cases a1:x<y
   ·have e:ord x.toNat y.toNat=-1:=by unfold ord;rw [if_pos (h1.1 a1)]
    rw [if_pos a1,e];rfl
   rw [if_neg a1]
   by_cases a2:y<x
   ·have e:ord x.toNat y.toNat=1:=by unfold ord;rw [if_neg (fun h=>a1 (h1.2 h)),if_pos (h2.1 a2)]
    rw [if_pos a2,e];rfl
   have e:ord x.toNat y.toNat=0:=by unfold ord;rw [if_neg (fun h=>a1 (h1.2 h)),if_neg (fun h=>a2 (h2.2 h))]
   rw [if_neg a2,e,ih t];rfl
theorem Mv (a b:ByteArray) (w:World):Calls Tryz.prog 99 #[.string a,.string b] w fun e w'=>e=.returned (.int .i64 (Zg (bl a) (bl b)))∧w=w':=by
 refine (Tryz.strings_Compare a b w).mono ?_
 rintro e w' ⟨rfl,rfl⟩
 exact ⟨by rw [cmpB_lib],rfl⟩
theorem B5 (x:ByteArray) (w:World):Calls Tryz.prog 171 #[.string x] w fun e w'=>e=.returned (.bool false)∧w=w':=by
 go_enter Tryz.func171,Tryz.ntmps171
 go_wp2
 go_ret
 exact ⟨by simp,rfl⟩
theorem Xj (a b:Bs):Op.bytesLess a b=decide (Zg a b<0)∧((a==b)=decide (Zg a b=0))∧(Zg a b=-1∨Zg a b=0∨Zg a b=1):=by
 induction a generalizing b with
 | nil=>cases b <;> simp [Op.bytesLess,Zg]
 | cons x s ih=>
  cases b with
  | nil=>simp [Op.bytesLess,Zg]
  | cons y t=>
   obtain ⟨i1,i2,i3⟩:=ih t
   have h1:x<y↔(x.toNat:Int)<y.toNat:=by rw [UInt8.lt_iff_toNat_lt];omega
   have h2:y<x↔(y.toNat:Int)<x.toNat:=by rw [UInt8.lt_iff_toNat_lt];omega
   have he:x=y↔(x.toNat:Int)=y.toNat:=⟨fun h=>by rw [h],fun h=>UInt8.toNat_inj.1 (by omega)⟩
   simp only [Op.bytesLess,Zg,List.cons_beq_cons]
   by_cases a1:x<y
   ·have e:ord x.toNat y.toNat=-1:=by unfold ord;rw [if_pos (h1.1 a1)]
    have hne:(x==y)=false:=by rw [← Bool.not_eq_true,beq_iff_eq,he];have:=h1.1 a1;omega
    simp [e,thn,a1,hne]
   by_cases a2:y<x
   ·have e:ord x.toNat y.toNat=1:=by unfold ord;rw [if_neg (fun h=>a1 (h1.2 h)),if_pos (h2.1 a2)]
    have hne:(x==y)=false:=by rw [← Bool.not_eq_true,beq_iff_eq,he];have:=h2.1 a2;omega
    simp [e,thn,a1,hne]
   have n1:¬ ((x.toNat:Int)<y.toNat):=fun h=>a1 (h1.2 h)
   have n2:¬ ((y.toNat:Int)<x.toNat):=fun h=>a2 (h2.2 h)
   have hxy:x=y:=by rw [he];omega
   subst hxy
   simp [Vd,thn,i1,i2,i3]
theorem Jn (x:ByteArray):x.toList=bl x:=Lib.toList_data x
theorem Rq (x y:ByteArray) (w:World):Calls Tryz.prog 133 #[.string x,.string y] w fun e w'=>e=.returned (.int .i64 (Zg (bl x) (bl y)))∧w=w':=by
 obtain ⟨h1,h2,h3⟩:=Xj (bl x) (bl y)
 obtain ⟨g1,g2,g3⟩:=Xj (bl y) (bl x)
 have ha:Zg (bl x) (bl y)=- Zg (bl y) (bl x):=by
  have:=Xb (bl x) (bl y) [] []
  have h:=Xb (bl y) (bl x) [] []
  simp only [List.append_nil,lex,Uf] at this h
  rw [← this,← h];exact Jd _ _
 rw [← Jn x,← Jn y] at h1 h2 h3 g1 g2 g3 ha ⊢
 obtain ⟨c,hc⟩:=eX (Zg x.toList y.toList)
 rw [hc] at h1 h2 h3 ha ⊢
 have HC:=Qq hc
 clear hc ha g1 g2 g3
 rcases h3 with h3 | h3 | h3 <;> subst h3
 ·have k1:Op.bytesLess x.toList y.toList=true:=h1.trans (by decide)
  have k2:(x.toList==y.toList)=false:=h2.trans (by decide)
  clear h1 h2
  go_enter Tryz.func133,Tryz.ntmps133
  go_wp2_with (go_at_call 171;refine (B5 _ _).mono ?_;rintro e w' ⟨rfl,rfl⟩)
  go_ret
  exact ⟨rfl,rfl⟩
 ·have k1:Op.bytesLess x.toList y.toList=false:=h1.trans (by decide)
  have k2:(x.toList==y.toList)=true:=h2.trans (by decide)
  clear h1 h2
  go_enter Tryz.func133,Tryz.ntmps133
  go_wp2_with (go_at_call 171;refine (B5 _ _).mono ?_;rintro e w' ⟨rfl,rfl⟩)
  go_ret
  exact ⟨rfl,rfl⟩
 have k1:Op.bytesLess x.toList y.toList=false:=h1.trans (by decide)
 have k2:(x.toList==y.toList)=false:=h2.trans (by decide)
 clear h1 h2
 go_enter Tryz.func133,Tryz.ntmps133
 go_wp2_with (go_at_call 171;refine (B5 _ _).mono ?_;rintro e w' ⟨rfl,rfl⟩)
 go_ret
 exact ⟨rfl,rfl⟩
theorem Sl.str {S:Nat→Prop} {w:World} {p:Option Addr} {n cap:Nat} {xs:List Bs} (h:Sl Qp S w (.slice p n cap) xs) {i:Nat} {x:Bs} (hx:xs[i]?=some x):
  ∃ b off,p=some ⟨b,off,none⟩∧w.cell? ⟨b,off+i,none⟩=some (.string ⟨x.toArray⟩)∧x.length≤1000000:=by
 obtain ⟨p',c',h1,_,h3⟩:=h
 simp only [Value.slice.injEq] at h1
 obtain ⟨rfl,_,_⟩:=h1
 obtain ⟨b,off,e,_,_,hc⟩:=h3 (by intro e;subst e;simp at hx)
 obtain ⟨cs,h4,h5,h6⟩:=hc i x hx
 refine ⟨b,off,e,?_,h6⟩
 have:=h4 0 (sv x) (by rw [h5];rfl)
 rwa [Nat.add_zero,show Qp.k=1 from rfl,Nat.mul_one] at this
theorem cmpN_any (S:Nat→Prop) (av bv:Value) (a b:List Bs) (w:World) (ha:Sl Qp S w av a) (hb:Sl Qp S w bv b):
  Calls Tryz.prog 100 #[av,bv] w fun e w'=>e=.returned (.int .i64 (Ul a b))∧w=w':=by
 obtain ⟨pa,ca,rfl,hla⟩:=ha.len
 obtain ⟨pb,cb,rfl,hlb⟩:=hb.len
 have HA:=Qq ha;have HB:=Qq hb
 obtain ⟨r,hr⟩:=eX (Ul a b)
 rw [hr]
 have HR:=Qq hr
 clear ha hb hr
 go_enter Tryz.func100,Tryz.ntmps100
 go_wp2_with fail
 go_loop [11] (fun i=>∃ k:Nat,k≤a.length∧k≤b.length∧i=.int .i64 k∧Ul (a.drop k) (b.drop k)=r) (fun i=>a.length - (intOf i).toNat)
 case atStart=>exact ⟨0,Q8 _,Q8 _,rfl,HR.out⟩
 obtain ⟨k,hka,hkb,rfl,hc⟩:=hrel
 by_cases hlt:k<a.length
 ·obtain ⟨x,hx⟩:∃ x,a[k]?=some x:=⟨_,Qx hlt⟩
  have hda:a.drop k=x::a.drop (k+1):=by
   rw [List.drop_eq_getElem_cons hlt];rw [Qx hlt] at hx;cases hx;rfl
  obtain ⟨ga,oa,rfl,c1,l1⟩:=HA.out.str hx
  by_cases hlb2:k<b.length
  ·obtain ⟨y,hy⟩:∃ y,b[k]?=some y:=⟨_,Qx hlb2⟩
   have hdb:b.drop k=y::b.drop (k+1):=by
    rw [List.drop_eq_getElem_cons hlb2];rw [Qx hlb2] at hy;cases hy;rfl
   obtain ⟨gb,ob,rfl,c2,l2⟩:=HB.out.str hy
   rw [hda,hdb] at hc
   have HS:=Qq (Rq ⟨x.toArray⟩ ⟨y.toArray⟩)
   have hxy:Zg (bl ⟨x.toArray⟩) (bl ⟨y.toArray⟩)=Zg x y:=rfl
   rw [hxy] at HS
   have hc':thn (Zg x y) (Ul (a.drop (k+1)) (b.drop (k+1)))=r:=hc
   generalize Zg x y=c at HS hc'
   have hi1:(0:Int)≤(k:Int):=by omega
   have hi2:(k:Int)<a.length:=by omega
   have hi3:(k:Int)<b.length:=by omega
   have hq:decide (b.length≤k)=false:=by simp;omega
   by_cases hc0:c=0
   ·subst hc0
    have HC:=Qq hc'
    clear hc hc' hda hdb hx hy hxy
    go_wp2_with (go_at_call 133;refine (HS.out _).mono ?_;rintro e w' ⟨rfl,rfl⟩)
    go_round
    case rel=>exact ⟨k+1,by omega,by omega,by go_num,HC.out⟩
    case measure=>simp [intOf];omega
   have hq2:(c != 0)=true:=by rw [bne_iff_ne];exact hc0
   have hcr:c=r:=by rw [← hc'];unfold thn;rw [if_neg hc0]
   subst hcr
   clear hc hc' hda hdb hx hy hxy hc0
   go_wp2_with (go_at_call 133;refine (HS.out _).mono ?_;rintro e w' ⟨rfl,rfl⟩)
   go_ret
   exact ⟨rfl,rfl⟩
  have hdb:b.drop k=[]:=List.drop_eq_nil_of_le (by omega)
  rw [hda,hdb] at hc
  have hr1:r=1:=by rw [← hc];rfl
  subst hr1
  have hi1:(0:Int)≤(k:Int):=by omega
  have hi2:(k:Int)<a.length:=by omega
  have hq:decide (b.length≤k)=true:=by simp;omega
  clear hc hda hdb hx
  go_wp2_with fail
  go_ret
  exact ⟨rfl,rfl⟩
 have hda:a.drop k=[]:=List.drop_eq_nil_of_le (by omega)
 rw [hda] at hc
 by_cases hlb2:a.length<b.length
 ·obtain ⟨y,t,hyt⟩:∃ y t,b.drop k=y::t:=by
   have:(b.drop k).length≠0:=by rw [List.length_drop];omega
   cases hd:b.drop k with
   | nil=>rw [hd] at this;exact absurd rfl this
   | cons y t=>exact ⟨y,t,rfl⟩
  rw [hyt] at hc
  have hr1:r=-1:=by rw [← hc];rfl
  subst hr1
  clear hc hda hyt
  go_wp2_with fail
  go_ret
  exact ⟨rfl,rfl⟩
 have hdb:b.drop k=[]:=List.drop_eq_nil_of_le (by omega)
 rw [hdb] at hc
 have hr1:r=0:=by rw [← hc];rfl
 subst hr1
 clear hc hda hdb
 go_wp2_with fail
 go_ret
 exact ⟨rfl,rfl⟩
theorem _root_.Go.RowKit.Below.thn {B:Nat} {a b c:World} (h:Below B a b) (k:Below b.heap.size b c) (hB:B≤a.heap.size:=by exact Q9 _):Below B a c:=h.trans (k.mono (Qc hB h.size))
theorem Qn (w:World) (o:Obj):Below w.heap.size w (w.alloc o):=(Qz _ _).alloc (Q9 _) _
theorem Zv (w:World) (o p:Obj):Below w.heap.size w ((w.alloc o).alloc p):=(Qn w o).alloc (Qn w o).size _
def Gr (w w':World):Prop:=∃ q os,w'=Sort.grow (w.drewN q) os
theorem Gr.refl (w:World):Gr w w:=⟨0,#[],by rw [Sort.grow_empty];rfl⟩
theorem Gr.thn {a b c:World} (h:Gr a b) (k:Gr b c):Gr a c:=by
 obtain ⟨q,os,rfl⟩:=h
 obtain ⟨q',os',rfl⟩:=k
 refine ⟨q+q',os++os',?_⟩
 show Sort.grow (Sort.grow ((a.drewN q).drewN q') os) os'=_
 rw [Sort.grow_grow,World.drewN_drewN]
theorem Gr.alloc {a b:World} (h:Gr a b) (o:Obj):Gr a (b.alloc o):=h.thn ⟨0,#[o],by rw [Sort.alloc_eq_grow];rfl⟩
theorem gal1 (w:World) (o:Obj):Gr w (w.alloc o):=(Gr.refl w).alloc o
theorem X6 (w:World) (o p:Obj):Gr w ((w.alloc o).alloc p):=(gal1 w o).alloc p
theorem Gr.bl {w w':World} (h:Gr w w'):Below w.heap.size w w':=by
 obtain ⟨q,os,rfl⟩:=h
 refine ⟨rfl,rfl,rfl,by simp [Sort.grow],fun k hk=>?_⟩
 show (w.heap++os)[k]?=_
 rw [Array.getElem?_append_left hk]
def Py (x:Val):Prop:=∀ (y:Val) (S:Nat→Prop) (cx cy:List Value) (w:World),Qh S w cx x→Qh S w cy y →
 Calls Tryz.prog 57 #[.agg cx.toArray,.agg cy.toArray] w fun e w'=>e=.returned (.int .i64 (Z1 x y))∧Gr w w'
def vcs (x:Val) (p3:Option Addr) (k3:Nat) (p4:Option Addr) (k4:Nat):List Value:=[.int .i64 x.kind,.int .i64 x.n,.string ⟨x.s.toArray⟩,.slice p3 x.names.length k3,.slice p4 x.kids.length k4]
theorem Qh.cells {S:Nat→Prop} {w:World} {cs:List Value} {x:Val} (h:Qh S w cs x):∃ p3 k3 p4 k4,cs=vcs x p3 k3 p4 k4∧Sl Qp S w (.slice p3 x.names.length k3) x.names∧Sl Ql S w (.slice p4 x.kids.length k4) x.kids∧x.s.length≤1000000:=by
 obtain ⟨k,n,s,names,kids⟩:=x
 obtain ⟨nv,kv,rfl,hs,hn,hk⟩:=Vt.1 h
 obtain ⟨p3,k3,rfl,_⟩:=hn.len
 obtain ⟨p4,k4,rfl,_⟩:=hk.len
 exact ⟨p3,k3,p4,k4,rfl,hn,hk,hs⟩
theorem Sl.val {S:Nat→Prop} {w:World} {p:Option Addr} {n cap:Nat} {xs:List Val} (h:Sl Ql S w (.slice p n cap) xs) {i:Nat} {x:Val} (hx:xs[i]?=some x):
  ∃ b off p3 k3 p4 k4,p=some ⟨b,off,none⟩∧b<w.heap.size∧Qh S w (vcs x p3 k3 p4 k4) x∧w.cell? ⟨b,off+i*5,none⟩=some (.int .i64 x.kind)∧w.cell? ⟨b,off+i*5+1,none⟩=some (.int .i64 x.n)∧w.cell? ⟨b,off+i*5+2,none⟩=some (.string ⟨x.s.toArray⟩) ∧
   w.cell? ⟨b,off+i*5+3,none⟩=some (.slice p3 x.names.length k3)∧w.cell? ⟨b,off+i*5+4,none⟩=some (.slice p4 x.kids.length k4):=by
 obtain ⟨p',c',h1,_,h3⟩:=h
 simp only [Value.slice.injEq] at h1
 obtain ⟨rfl,_,_⟩:=h1
 obtain ⟨b,off,e,_,hb,hc⟩:=h3 (by intro e;subst e;simp at hx)
 obtain ⟨cs,h4,h5⟩:=hc i x hx
 obtain ⟨p3,k3,p4,k4,rfl,_⟩:=Qh.cells h5
 exact ⟨b,off,p3,k3,p4,k4,e,hb,h5,h4 0 _ rfl,h4 1 _ rfl,h4 2 _ rfl,h4 3 _ rfl,h4 4 _ rfl⟩
theorem cmpVs_of (S:Nat→Prop) (av bv:Value) (a b:List Val) (hC:∀ x ∈ a,Py x) (w:World) (ha:Sl Ql S w av a) (hb:Sl Ql S w bv b):
  Calls Tryz.prog 101 #[av,bv,.func (.func 57) #[] #[]] w fun e w'=>e=.returned (.int .i64 (Yl a b))∧Gr w w':=by
 obtain ⟨pa,ca,rfl,hla⟩:=ha.len
 obtain ⟨pb,cb,rfl,hlb⟩:=hb.len
 have HA:=Qq ha;have HB:=Qq hb;have HC:=Qq hC
 obtain ⟨r,hr⟩:=eX (Yl a b)
 rw [hr]
 have HR:=Qq hr
 clear ha hb hr hC
 go_enter Tryz.func101,Tryz.ntmps101
 go_wp2_with fail
 go_loopw [13] (fun i wr=>∃ k:Nat,k≤a.length∧k≤b.length∧i=.int .i64 k∧Yl (a.drop k) (b.drop k)=r∧Gr w wr) (fun i _=>a.length - (intOf i).toNat)
 case atStart=>exact ⟨0,Q8 _,Q8 _,rfl,HR.out,Gr.refl _⟩
 obtain ⟨k,hka,hkb,rfl,hc,hBl⟩:=hrel
 have HBl:=Qq hBl
 clear hBl
 by_cases hlt:k<a.length
 ·obtain ⟨x,hx⟩:∃ x,a[k]?=some x:=⟨_,Qx hlt⟩
  have hda:a.drop k=x::a.drop (k+1):=by
   rw [List.drop_eq_getElem_cons hlt];rw [Qx hlt] at hx;cases hx;rfl
  obtain ⟨ga,oa,p3,k3,p4,k4,rfl,hga,hva,d0,d1,d2,d3,d4⟩:=(HA.out.below HBl.out.bl).val hx
  by_cases hlb2:k<b.length
  ·obtain ⟨y,hy⟩:∃ y,b[k]?=some y:=⟨_,Qx hlb2⟩
   have hdb:b.drop k=y::b.drop (k+1):=by
    rw [List.drop_eq_getElem_cons hlb2];rw [Qx hlb2] at hy;cases hy;rfl
   obtain ⟨gb,ob,q3,l3,q4,l4,rfl,hgb,hvb,e0,e1,e2,e3,e4⟩:=(HB.out.below HBl.out.bl).val hy
   rw [hda,hdb] at hc
   have hc':thn (Z1 x y) (Yl (a.drop (k+1)) (b.drop (k+1)))=r:=hc
   have HX:=Qq (HC.out x (Qy hx) y S)
   have HVa:=Qq hva;have HVb:=Qq hvb
   generalize Z1 x y=c at HX hc'
   have hi1:(0:Int)≤(k:Int):=by omega
   have hi2:(k:Int)<a.length:=by omega
   have hi3:(k:Int)<b.length:=by omega
   have hq:decide (b.length≤k)=false:=by simp;omega
   clear hva hvb hc hda hdb hx hy
   go_wp2_with fail
   refine (HX.out (vcs x p3 k3 p4 k4) (vcs y q3 l3 q4 l4) _ (HVa.out.move (.of_below (Zv _ _ _)) (fun _ _ h=>h)) (HVb.out.move (.of_below (Zv _ _ _)) (fun _ _ h=>h))).mono ?_
   rintro e w' ⟨rfl,hw⟩
   have HBw:=Qq (HBl.out.thn ((X6 wr _ _).thn hw))
   clear hw
   by_cases hc0:c=0
   ·subst hc0
    have HC2:=Qq hc'
    clear hc'
    go_wp2_with fail
    go_roundw
    case rel=>exact ⟨k+1,by omega,by omega,by go_num,HC2.out,HBw.out⟩
    case measure=>simp [intOf];omega
   have hq2:(c != 0)=true:=by rw [bne_iff_ne];exact hc0
   have hcr:c=r:=by rw [← hc'];unfold thn;rw [if_neg hc0]
   subst hcr
   clear hc' hc0
   go_wp2_with fail
   go_ret
   exact ⟨rfl,HBw.out⟩
  have hdb:b.drop k=[]:=List.drop_eq_nil_of_le (by omega)
  rw [hda,hdb] at hc
  have hr1:r=1:=by rw [← hc];rfl
  subst hr1
  have hi1:(0:Int)≤(k:Int):=by omega
  have hi2:(k:Int)<a.length:=by omega
  have hq:decide (b.length≤k)=true:=by simp;omega
  clear hc hda hdb hx hva
  go_wp2_with fail
  go_ret
  exact ⟨rfl,HBl.out.thn (gal1 _ _)⟩
 have hda:a.drop k=[]:=List.drop_eq_nil_of_le (by omega)
 rw [hda] at hc
 by_cases hlb2:a.length<b.length
 ·obtain ⟨y,t,hyt⟩:∃ y t,b.drop k=y::t:=by
   have:(b.drop k).length≠0:=by rw [List.length_drop];omega
   cases hd:b.drop k with
   | nil=>rw [hd] at this;exact absurd rfl this
   | cons y t=>exact ⟨y,t,rfl⟩
  rw [hyt] at hc
  have hr1:r=-1:=by rw [← hc];rfl
  subst hr1
  clear hc hda hyt
  go_wp2_with fail
  go_ret
  exact ⟨rfl,HBl.out⟩
 have hdb:b.drop k=[]:=List.drop_eq_nil_of_le (by omega)
 rw [hdb] at hc
 have hr1:r=0:=by rw [← hc];rfl
 subst hr1
 clear hc hda hdb
 go_wp2_with fail
 go_ret
 exact ⟨rfl,HBl.out⟩
theorem cmpAt_of (k n:Int) (s:Bs) (ns:List Bs) (ks:List Val) (ih:∀ x ∈ ks,Py x):Py (.mk k n s ns ks):=by
 rintro ⟨k',n',s',ns',ks'⟩ S cx cy w hx hy
 obtain ⟨nv,kv,rfl,hs,hn,hk⟩:=Vt.1 hx
 obtain ⟨nv',kv',rfl,hs',hn',hk'⟩:=Vt.1 hy
 have hN:∀ w',Below w.heap.size w w'→Calls Tryz.prog 100 #[nv,nv'] w' fun e w''=>e=.returned (.int .i64 (Ul ns ns'))∧w'=w'':=
  fun w' hb=>cmpN_any S nv nv' ns ns' w' (hn.below hb) (hn'.below hb)
 have hK:∀ w',Below w.heap.size w w'→Calls Tryz.prog 101 #[kv,kv',.func (.func 57) #[] #[]] w' fun e w''=>e=.returned (.int .i64 (Yl ks ks'))∧Gr w' w'':=
  fun w' hb=>cmpVs_of S kv kv' ks ks' ih w' (hk.below hb) (hk'.below hb)
 have hS:∀ w',Calls Tryz.prog 99 #[sv s,sv s'] w' fun e w''=>e=.returned (.int .i64 (Zg s s'))∧w'=w'':=fun w'=>Mv _ _ w'
 have HN:=Qq hN;have HK:=Qq hK;have HS:=Qq hS
 obtain ⟨cb,hcb⟩:=eX (Zg s s')
 obtain ⟨cn,hcn⟩:=eX (Ul ns ns')
 obtain ⟨cv,hcv⟩:=eX (Yl ks ks')
 rw [hcb] at HS;rw [hcn] at HN;rw [hcv] at HK
 have hB2:=Qq (fun o1 o2=>Zv w o1 o2)
 clear hN hK hS hx hy ih hn hn' hk hk'
 by_cases hkk:k=k'
 ·subst hkk
  by_cases h0:k=0
  ·subst h0
   rw [show Z1 (.mk 0 n s ns ks) (.mk 0 n' s' ns' ks')=ord n n' by simp [Z1]]
   have HI:=Qq (fun w=>B3 n n' w)
   generalize ord n n'=r at HI ⊢
   clear hcb hcn hcv
   go_enter Tryz.func57,Tryz.ntmps57
   go_wp2_with (go_at_call 98;refine (HI.out _).mono ?_;rintro e w' ⟨rfl,rfl⟩)
   go_ret
   exact ⟨rfl,X6 _ _ _⟩
  by_cases h2:k=2
  ·subst h2
   rw [show Z1 (.mk 2 n s ns ks) (.mk 2 n' s' ns' ks')=ord n n' by simp [Z1]]
   have HI:=Qq (fun w=>B3 n n' w)
   generalize ord n n'=r at HI ⊢
   clear hcb hcn hcv h0
   go_enter Tryz.func57,Tryz.ntmps57
   go_wp2_with (go_at_call 98;refine (HI.out _).mono ?_;rintro e w' ⟨rfl,rfl⟩)
   go_ret
   exact ⟨rfl,X6 _ _ _⟩
  by_cases h1:k=1
  ·subst h1
   rw [show Z1 (.mk 1 n s ns ks) (.mk 1 n' s' ns' ks')=cb by simp [Z1,hcb]]
   clear hcb hcn hcv h0 h2
   go_enter Tryz.func57,Tryz.ntmps57
   go_wp2_with (go_at_call 99;refine (HS.out _).mono ?_;rintro e w' ⟨rfl,rfl⟩)
   go_ret
   exact ⟨rfl,X6 _ _ _⟩
  by_cases h3:k=3
  ·subst h3
   have hv:Z1 (.mk 3 n s ns ks) (.mk 3 n' s' ns' ks')=thn cb cv:=by simp [Z1,hcb,hcv]
   clear hcb hcn hcv h0 h2 h1
   by_cases hz:cb=0
   ·subst hz
    rw [hv,Vg]
    clear hv
    go_enter Tryz.func57,Tryz.ntmps57
    go_wp2_with (first | (go_at_call 99;refine (HS.out _).mono ?_;rintro e w' ⟨rfl,rfl⟩) | (go_at_call 101;refine (HK.out _ (Zv _ _ _)).mono ?_;rintro e w' ⟨rfl,hw⟩;have HW:=Qq ((X6 w _ _).thn hw);clear hw))
    go_ret
    exact ⟨rfl,HW.out⟩
   have hq:(cb != 0)=true:=by rw [bne_iff_ne];exact hz
   have hv':Z1 (.mk 3 n s ns ks) (.mk 3 n' s' ns' ks')=cb:=by rw [hv];unfold thn;rw [if_neg hz]
   rw [hv']
   clear hv hv' hz
   go_enter Tryz.func57,Tryz.ntmps57
   go_wp2_with (go_at_call 99;refine (HS.out _).mono ?_;rintro e w' ⟨rfl,rfl⟩)
   go_ret
   exact ⟨rfl,X6 _ _ _⟩
  by_cases h4:k=4
  ·subst h4
   have hv:Z1 (.mk 4 n s ns ks) (.mk 4 n' s' ns' ks')=thn cn cv:=by simp [Z1,hcn,hcv]
   clear hcb hcn hcv h0 h2 h1 h3
   by_cases hz:cn=0
   ·subst hz
    rw [hv,Vg]
    clear hv
    go_enter Tryz.func57,Tryz.ntmps57
    go_wp2_with (first | (go_at_call 100;refine (HN.out _ (Zv _ _ _)).mono ?_;rintro e w' ⟨rfl,rfl⟩) | (go_at_call 101;refine (HK.out _ (Zv _ _ _)).mono ?_;rintro e w' ⟨rfl,hw⟩;have HW:=Qq ((X6 w _ _).thn hw);clear hw))
    go_ret
    exact ⟨rfl,HW.out⟩
   have hq:(cn != 0)=true:=by rw [bne_iff_ne];exact hz
   have hv':Z1 (.mk 4 n s ns ks) (.mk 4 n' s' ns' ks')=cn:=by rw [hv];unfold thn;rw [if_neg hz]
   rw [hv']
   clear hv hv' hz
   go_enter Tryz.func57,Tryz.ntmps57
   go_wp2_with (go_at_call 100;refine (HN.out _ (Zv _ _ _)).mono ?_;rintro e w' ⟨rfl,rfl⟩)
   go_ret
   exact ⟨rfl,X6 _ _ _⟩
  by_cases h5:k=5
  ·subst h5
   rw [show Z1 (.mk 5 n s ns ks) (.mk 5 n' s' ns' ks')=cv by simp [Z1,hcv]]
   clear hcb hcn hcv h0 h2 h1 h3 h4
   go_enter Tryz.func57,Tryz.ntmps57
   go_wp2_with (go_at_call 101;refine (HK.out _ (Zv _ _ _)).mono ?_;rintro e w' ⟨rfl,hw⟩;have HW:=Qq ((X6 w _ _).thn hw);clear hw)
   go_ret
   exact ⟨rfl,HW.out⟩
  have hv:Z1 (.mk k n s ns ks) (.mk k n' s' ns' ks')=0:=by simp [Z1,h0,h1,h2,h3,h4,h5]
  rw [hv]
  have q0:(k==0)=false:=by simpa using h0
  have q1:(k==1)=false:=by simpa using h1
  have q2:(k==2)=false:=by simpa using h2
  have q3:(k==3)=false:=by simpa using h3
  have q4:(k==4)=false:=by simpa using h4
  have q5:(k==5)=false:=by simpa using h5
  clear hv hcb hcn hcv h0 h1 h2 h3 h4 h5
  go_enter Tryz.func57,Tryz.ntmps57
  go_wp2_with fail
  go_ret
  exact ⟨rfl,X6 _ _ _⟩
 have hv:Z1 (.mk k n s ns ks) (.mk k' n' s' ns' ks')=ord k k':=by simp [Z1,hkk]
 rw [hv]
 have hq:(k != k')=true:=by rw [bne_iff_ne];exact hkk
 have HI:=Qq (fun w=>B3 k k' w)
 generalize ord k k'=r at HI ⊢
 clear hv hcb hcn hcv hkk
 go_enter Tryz.func57,Tryz.ntmps57
 go_wp2_with (go_at_call 98;refine (HI.out _).mono ?_;rintro e w' ⟨rfl,rfl⟩)
 go_ret
 exact ⟨rfl,X6 _ _ _⟩
theorem cmpAt:∀ x:Val,Py x
 | .mk k n s ns ks=>cmpAt_of k n s ns ks fun x _=>cmpAt x
termination_by x=>SizeOf.sizeOf x
decreasing_by
 have:=List.sizeOf_lt_of_mem ‹_ ∈ ks›
 simp only [Val.mk.sizeOf_spec]
 omega
end Go.Proofs.YtppbaladeefnkaaGreatDoor
namespace Go.Proofs
open Go.Shelf
shelf_try shelf_lay_g SlLaysH0.n6 Slgf 6 at Tryz 81 as Tryz.ixRel
shelf_try shelf_lay_g SlLaysH0.n6 Slgf 6 at Tryz 42 as Tryz.ixVal
shelf_try shelf_lay_g SlLaysH0.n6 Slgf 6 at Tryz 152 as Tryz.ixSum
shelf_try shelf_lay_g SlLaysH0.n6 Slgf 6 at Tryz 154 as Tryz.ixCtor
shelf_try shelf_lay_g SlLaysH0.n8 Slgf 8 at Tryz 54 as Tryz.cfVal
shelf_try shelf_lay_g SlLaysH0.n8 Slgf 8 at Tryz 159 as Tryz.cfExpr
shelf_try shelf_lay_g SlLaysE0.n41 Slgn 41 at Tryz 52 as Tryz.clVal
shelf_try shelf_lay_g SlLaysE0.n41 Slgn 41 at Tryz 78 as Tryz.clCol
shelf_try shelf_lay_g SlLaysE0.n41 Slgn 41 at Tryz 79 as Tryz.clStr
shelf_try shelf_lay_g SlLaysE0.n41 Slgn 41 at Tryz 97 as Tryz.clRel
shelf_try shelf_lay_g SlLaysE0.n41 Slgn 41 at Tryz 80 as Tryz.clRef
shelf_try shelf_lay_g SlLaysE0.n41 Slgn 41 at Tryz 190 as Tryz.clByte
shelf_tried
end Go.Proofs
namespace Go.Proofs.YtppbaladeefnkaaGreatDoor
open Go.RowKit Go.Shelf Go.Lib Tryz
def Y9 {T:Type} (p:T→Bool) (xs:List T):Int:=match xs.findIdx? p with
 | some i=>i
 | none=>-1
theorem Vb {T:Type} {p:T→Bool} {xs:List T} {k:Nat} {x:T} (hx:xs[k]?=some x) (hp:p x=true) (hne:∀ (j:Nat) (y:T),j<k→xs[j]?=some y→p y=false):Y9 p xs=k:=by
 have:xs.findIdx? p=some k:=by
  obtain ⟨hk,rfl⟩:=Qj hx
  rw [List.findIdx?_eq_some_iff_getElem]
  exact ⟨hk,hp,fun j hj=>by simpa using hne j _ hj (Qx (by omega))⟩
 unfold Y9;rw [this]
theorem Xf {T:Type} {p:T→Bool} {xs:List T} (hne:∀ (j:Nat) (y:T),xs[j]?=some y→p y=false):Y9 p xs=-1:=by
 have:xs.findIdx? p=none:=by
  rw [List.findIdx?_eq_none_iff]
  intro y hy
  obtain ⟨j,hj⟩:=List.getElem?_of_mem hy
  exact hne j y hj
 unfold Y9;rw [this]
theorem Dr {T:Type} (p:T→Bool) (xs:List T):decide (0≤Y9 p xs)=xs.any p:=by
 unfold Y9
 cases h:xs.findIdx? p with
 | none=>
  rw [List.findIdx?_eq_none_iff] at h
  have:xs.any p=false:=by rw [List.any_eq_false];intro x hx;simp [h x hx]
  rw [this];rfl
 | some i=>
  rw [List.findIdx?_eq_some_iff_getElem] at h
  obtain ⟨hi,hp,_⟩:=h
  have:xs.any p=true:=List.any_eq_true.2 ⟨_,Qd hi,hp⟩
  rw [this];simp
def Xp {T:Type} (P:Program) (g:Nat) (lb:Array Value) (r:Rd T) (S:Nat→Prop) (xs:List T) (p:T→Bool) (w:World):Prop:=
 ∀ (W:World) (x:T) (cs:List Value),Below w.heap.size w W→x ∈ xs→r.R S W cs x →
  Calls P g (#[.agg cs.toArray]++lb) W fun e w'=>e=.returned (.bool (p x))∧Below W.heap.size W w'
theorem Sl.elem {T:Type} {r:Rd T} {S:Nat→Prop} {w:World} {p:Option Addr} {n cap:Nat} {xs:List T} (h:Sl r S w (.slice p n cap) xs) {i:Nat} {x:T} (hx:xs[i]?=some x):
  ∃ b off cs,p=some ⟨b,off,none⟩∧b<w.heap.size∧S b∧cs.length=r.k∧r.R S w cs x∧∀ j u,cs[j]?=some u→w.cell? ⟨b,off+i*r.k+j,none⟩=some u:=by
 obtain ⟨p',c',h1,_,h3⟩:=h
 simp only [Value.slice.injEq] at h1
 obtain ⟨rfl,_,_⟩:=h1
 obtain ⟨b,off,e,hS,hb,hc⟩:=h3 (by intro e;subst e;simp at hx)
 obtain ⟨cs,h4,h5⟩:=hc i x hx
 exact ⟨b,off,cs,e,hb,hS,r.len h5,h5,h4⟩
section
variable {P:Program} {ρ:Ren} {T:Type}
theorem Fz (L:SlLaysH0.n6 P ρ) (r:Rd T) (aE:∀ w,(isAgg (ρ.t 23)).run P w=.ok true w) (zE:∀ w,(Go.sizeOf (ρ.t 23)).run P w=.ok r.k w) (g:Nat) (lb:Array Value)
  (eg:∀ args w,(callFunc g args).run P w=.ok (.enter g args) w) (S:Nat→Prop) (v:Value) (xs:List T) (w:World) (p:T→Bool) (hs:Sl r S w v xs) (hp:Xp P g lb r S xs p w):
  Calls P (ρ.f 6) #[v,.func (.func g) #[] lb] w fun e w'=>e=.returned (.int .i64 (Y9 p xs))∧Below w.heap.size w w':=by
 obtain ⟨q,cap,rfl,hl⟩:=hs.len
 have mixed:=L.mixed;have t0:=L.t0;have a0:=L.a0;have z0:=L.z0;have v0:=L.v0;have t3:=L.t3;have a3:=L.a3;have z3:=L.z3;have v3:=L.v3;have t4:=L.t4;have a4:=L.a4;have z4:=L.z4;have v4:=L.v4;have t22:=L.t22;have a22:=L.a22;have z22:=L.z22;have v22:=L.v22;have t25:=L.t25;have a25:=L.a25;have z25:=L.z25;have v25:=L.v25
 obtain ⟨_,_,FG⟩:=L.f6
 have HS:=Qq hs;have HP:=Qq hp
 clear hs hp
 obtain ⟨n,hn⟩:=eX (xs.length)
 rw [hn] at HS hl
 rw [hn]
 have HN:=Qq hn
 clear hn
 go_enter FG,SlBodyH.n6_ntmps ρ
 go_wp2
 go_loopg [5,8] n (fun gg _ s8 wr=>∃ kk:Nat,kk≤n∧n - kk≤gg∧s8=.int .i64 kk∧Aside (Below w.heap.size w wr)∧Aside (∀ (j:Nat) (y:T),j<kk→xs[j]?=some y→p y=false))
 case atStart=>exact ⟨0,Q8 _,by omega,rfl,Qz _ w,fun j _ hj=>absurd hj (Nat.not_lt_zero _)⟩
 obtain ⟨kk,hkk,hg,rfl,BW,A⟩:=hrel
 by_cases hlt:kk<n
 ·have hltz:(kk:Int)<(n:Int):=by omega
  have hx:=Qx (l:=xs) (i:=kk) (by rw [HN.out];exact hlt)
  generalize xs[kk]'_=x at hx
  obtain ⟨b,off,cs,rfl,hb,-,hk,hR,hc⟩:=(HS.out.below BW.out).elem hx
  have l2:Sem.run P (loadCellsFrom ⟨b,off+kk*r.k,none⟩ 0 r.k #[]) wr=.ok cs.toArray wr:=
   run_loadCellsFrom_list P _ _ cs r.k hk (fun i u hi=>by rw [Addr.add_lit];exact hc i u hi)
  have hcall:=HP.out wr x cs BW.out (Qy hx) hR
  have HX:=Qq hx
  clear hc hR hx
  cases hq:p x with
  | true=>
   rw [hq] at hcall
   go_wp2_with (go_at_fn g;refine hcall.mono ?_;rintro e w' ⟨rfl,hb'⟩)
   go_ret
   refine ⟨?_,BW.out.thn hb'⟩
   rw [Vb HX.out hq A.out]
   rfl
  | false=>
   rw [hq] at hcall
   go_wp2_with (go_at_fn g;refine hcall.mono ?_;rintro e w' ⟨rfl,hb'⟩)
   go_roundg (n - (kk+1))
   case measure=>omega
   case rel=>
    refine ⟨kk+1,by omega,by omega,by go_num,BW.out.thn hb',(show Aside _ from fun j y hj hy=>?_)⟩
    by_cases e:j=kk
    ·subst e
     have:=HX.out
     rw [this] at hy
     cases hy
     exact hq
    exact A.out j y (by omega) hy
 have hltz:¬ (kk:Int)<(n:Int):=by omega
 have:kk=n:=by omega
 subst this
 go_wp2
 go_ret
 refine ⟨?_,BW.out⟩
 rw [Xf (fun j y hy=>A.out j y (by have:=(Qj hy).1;have:=HN.out;omega) hy)]
 rfl
theorem L2 (L:SlLaysH0.n8 P ρ) (r:Rd T) (aE:∀ w,(isAgg (ρ.t 23)).run P w=.ok true w) (zE:∀ w,(Go.sizeOf (ρ.t 23)).run P w=.ok r.k w) (g:Nat) (lb:Array Value)
  (eg:∀ args w,(callFunc g args).run P w=.ok (.enter g args) w) (S:Nat→Prop) (v:Value) (xs:List T) (w:World) (p:T→Bool) (hs:Sl r S w v xs) (hp:Xp P g lb r S xs p w):
  Calls P (ρ.f 8) #[v,.func (.func g) #[] lb] w fun e w'=>e=.returned (.bool (xs.any p))∧Below w.heap.size w w':=by
 rw [← Dr]
 have mixed:=L.mixed;have t0:=L.t0;have a0:=L.a0;have z0:=L.z0;have v0:=L.v0;have t3:=L.t3;have a3:=L.a3;have z3:=L.z3;have v3:=L.v3;have t4:=L.t4;have a4:=L.a4;have z4:=L.z4;have v4:=L.v4;have t22:=L.t22;have a22:=L.a22;have z22:=L.z22;have v22:=L.v22;have t25:=L.t25;have a25:=L.a25;have z25:=L.z25;have v25:=L.v25
 have e6:∀ args w,(callFunc (ρ.f 6) args).run P w=.ok (.enter (ρ.f 6) args) w:=L.f6.enters rfl
 have hC:=Qq (Fz { L with } r aE zE g lb eg S v xs w p hs hp)
 obtain ⟨_,_,FG⟩:=L.f8
 generalize Y9 p xs=i at hC ⊢
 clear hs hp
 go_enter FG,SlBodyH.n8_ntmps ρ
 go_wp2_with (go_at_fn (ρ.f 6);refine hC.out.mono ?_;rintro e w' ⟨rfl,hb'⟩)
 go_ret
 exact ⟨rfl,hb'⟩
theorem M4 (L:SlLaysE0.n41 P ρ) (i0:TypeInfo) (z:Value) (size bytes:Nat) (hi:P.info? (ρ.t 23)=some i0) (hz0:i0.zero=some z) (hz1:i0.size=size) (hz2:i0.bytes=bytes) (hzs:z.cells.size=size) (hsz:0<size)
  (z23:∀ w,(Go.sizeOf (ρ.t 23)).run P w=.ok size w) (ad:Addr) (c:Nat) (w:World):
  Calls P (ρ.f 41) #[.slice (some ad) 0 c] w fun e w'=>∃ v',e=.returned v'∧w'.ownsRow w.heap.size (ρ.t 23) size v' 0 []∧Below w.heap.size w w':=by
 have mixed:=L.mixed;have t4:=L.t4;have a4:=L.a4;have z4:=L.z4;have v4:=L.v4;have t22:=L.t22;have a22:=L.a22;have z22:=L.z22;have v22:=L.v22
 have q22:∀ (w:World) (a:Option Addr) (n c n' c':Nat),(binOp .eql (ρ.t 22) (.slice a n c) (.slice none n' c')).run P w=.ok (.bool a.isNone) w:=fun w a n c n' c'=>Lib.run_eql_slice_nil w _ _ a n c n' c' L.t22
 have u22:∀ w,Sem.run P (underlying (ρ.t 22)) w=.ok (TypeDesc.slice (ρ.t 23)) w:=run_underlying t22
 obtain ⟨_,_,FG⟩:=L.f41
 go_enter FG,SlBodyN.n41_ntmps ρ
 go_wp2_with (at_builtin;refine wpList_append_own _ rfl _ _ (ρ.t 22) rfl w.heap.size (ρ.t 23) i0 z size bytes t22 hi hz0 hz1 hz2 hzs hsz _ _ _ rfl (World.ownsRow_made w #[] 0 (Q9 _) (Q8 _) (by simp)) ad 0 c [] rfl (by simp) (by simp) (by simp) (by unfold maxLen;omega) (by simp) (by simp) ?_)
 intro v' w1 hown hgrow hnil
 go_wp2
 go_ret
 refine ⟨v',rfl,by simpa using hown,?_⟩
 exact ((Qz _ w).alloc (Q9 _) _).grown hgrow (by simp) (by intro k hk;simp [Value.ownBlock] at hk;omega)
def U3 (r:Rd T) (E:TypeId) (S:Nat→Prop) (w:World) (xs:List T) (e:Ending) (w':World):Prop:=
 ∃ p cap css,e=.returned (.slice p xs.length cap)∧Own r E S w.heap.size w' (.slice p xs.length cap) xs css∧Below w.heap.size w w'
theorem Own.form {r:Rd T} {E:TypeId} {S:Nat→Prop} {B:Nat} {w:World} {v:Value} {xs:List T} {css:List (List Value)} (h:Own r E S B w v xs css):∃ p cap,v=.slice p xs.length cap:=by
 rcases h.row.2 with ⟨rfl,h0⟩ | ⟨g,cap,cur,rfl,_⟩
 ·exact ⟨none,0,by rw [h0]⟩
 exact ⟨_,_,rfl⟩
theorem Dh {r:Rd T} {E:TypeId} {S:Nat→Prop} {w w':World} {v:Value} {xs:List T} {css:List (List Value)} (h:Own r E S w.heap.size w' v xs css) (hb:Below w.heap.size w w'):U3 r E S w xs (.returned v) w':=by
 obtain ⟨p,cap,rfl⟩:=h.form
 exact ⟨p,cap,css,rfl,h,hb⟩
theorem Jo (L:SlLaysE0.n41 P ρ) (r:Rd T) (hk:0<r.k) (bytes:Nat) (i0:TypeInfo) (z:Value) (hi:P.info? (ρ.t 23)=some i0) (hz0:i0.zero=some z) (hz1:i0.size=r.k) (hz2:i0.bytes=bytes) (hzs:z.cells.size=r.k)
  (z23:∀ w,(Go.sizeOf (ρ.t 23)).run P w=.ok r.k w) (hby:bytes≤1000) (h1:∀ S w cs x,r.R S w cs x→∀ u ∈ cs,u.oneCell'=true) (S:Nat→Prop) (v:Value) (xs:List T) (w:World) (hs:Sl r S w v xs):
  Calls P (ρ.f 41) #[v] w (U3 r (ρ.t 23) S w xs):=by
 obtain ⟨p,cap,css,rfl,hCs,hne⟩:=hs.css hk
 obtain ⟨_,_,_,hl⟩:=hs.len
 have hown:∀ w' v',Below w.heap.size w w'→w'.ownsRow w.heap.size (ρ.t 23) r.k v' xs.length css.flatten→Own r (ρ.t 23) S w.heap.size w' v' xs css:=by
  intro w' v' hb ho
  refine ⟨ho,hCs.move (.of_below hb) (fun b hb h=>⟨h,fun e=>?_⟩)⟩
  have:=(ho.lt b e.symm).1
  omega
 by_cases hx:xs=[]
 ·subst hx
  have hcs0:css=[]:=List.eq_nil_of_length_eq_zero hCs.len
  subst hcs0
  rcases p with _ | ad
  ·refine (AnyE.slices_Clone_nil L 0 cap w).mono ?_
   rintro e w' ⟨rfl,rfl⟩
   exact Dh (hown _ _ (Qz _ _) (by simpa using World.ownsRow_nil w' w'.heap.size (ρ.t 23) r.k)) (Qz _ _)
  refine (M4 L i0 z r.k bytes hi hz0 hz1 hz2 hzs hk z23 ad cap w).mono ?_
  rintro e w' ⟨v',rfl,ho,hb'⟩
  exact Dh (hown _ _ hb' (by simpa using ho)) hb'
 obtain ⟨b,off,rfl,hS,hb,hc⟩:=hne hx
 refine (AnyE.slices_Clone L i0 z r.k bytes hi hz0 hz1 hz2 hzs hk z23 b off xs.length cap css.flatten w hCs.flat (by unfold maxLen;omega) (by
  have:=Nat.mul_le_mul hl hby;omega) hc (fun u hu=>?_)).mono ?_
 ·obtain ⟨c,hcm,huc⟩:=List.mem_flatten.1 hu
  obtain ⟨i,hi⟩:=List.getElem?_of_mem hcm
  have hil:=(Qj hi).1
  exact h1 S w c _ (hCs.R i c _ hi (Qx (by rw [← hCs.len];exact hil))) u huc
 rintro e w' ⟨v',rfl,ho,_,hb'⟩
 exact Dh (hown _ _ hb' ho) hb'
end
end Go.Proofs.YtppbaladeefnkaaGreatDoor
