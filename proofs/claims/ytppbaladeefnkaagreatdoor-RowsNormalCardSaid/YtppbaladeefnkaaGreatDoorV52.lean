import Derived.Test.YtppbaladeefnkaaGreatDoorV35
import Derived.Test.YtppbaladeefnkaaGreatDoorV28
import Derived.Sort.LotA
import Derived.BigQuiet
set_option maxRecDepth 100000
set_option maxHeartbeats 400000000
namespace Go.Proofs.YtppbaladeefnkaaGreatDoor
open Go.RowKit Go.Shelf Go.Lib Tryz
def sameVs (a b:List Val):Bool:=decide (a.map key=b.map key)
theorem sameVs_cons (a b:Val) (s t:List Val):sameVs (a::s) (b::t)=(eqv a b&&sameVs s t):=by
 unfold sameVs eqv
 rw [← Bool.decide_and,decide_eq_decide]
 simp
theorem symVal (S:Nat→Prop) (q:Option Addr) (cap:Nat) (xs:List Val) (ho:Srt Z1 xs):∀ (d a m b:Nat) (w:World),b - a≤d→a<m→m<b→b≤xs.length→Sl Ql S w (.slice q xs.length cap) xs →
  Calls Tryz.prog 174 #[.slice q xs.length cap,.int .i64 a,.int .i64 m,.int .i64 b,.func (.func 108) #[] #[]] w fun e w'=>e=.returned (.tuple #[])∧Gr w w':=by
 intro d
 induction d with
 | zero=>intro a m b w h1 h2 h3;omega
 | succ d ih=>
  intro a m b w hd ham hmb hb hV0
  have hl:xs.length≤1000000:=by obtain ⟨_,_,_,h⟩:=hV0.len;exact h
  have HV:=Qq hV0;have HO:=Qq ho;have IH:=Qq (fun a m b w' h1 h2 h3 h4 (hg:Gr w w')=>ih a m b w' h1 h2 h3 h4 (hV0.below hg.bl))
  clear hV0 ho ih
  obtain ⟨n,hn⟩:=eX (xs.length)
  rw [hn] at HV hl hb IH ⊢
  have HN:=Qq hn
  clear hn
  have mixed:(Tryz.prog).follows .mixedOrders=true:=by kernel_rfl
  have b1:(a:Int)<(m:Int):=by omega
  have b2:(m:Int)<(b:Int):=by omega
  have b3:(b:Int)≤(n:Int):=by omega
  have b4:(n:Int)≤1000000:=by omega
  by_cases h1:m=a+1
  ·have q1:((m:Int) - (a:Int)==1)=true:=by simp;omega
   have q3:((m:Int) - 1)=(a:Int):=by omega
   have q4:¬ (a:Int)<(a:Int):=by omega
   clear h1
   go_enter Tryz.func174,Tryz.ntmps174
   go_wp2_with fail
   go_loopw [10,11] (fun i j wr=>i=.int .i64 m∧∃ k:Nat,m≤k∧k≤b∧j=.int .i64 k∧Gr w wr) (fun _ j _=>(intOf j).toNat - m)
   case atStart=>exact ⟨rfl,b,by omega,Q9 _,rfl,Gr.refl _⟩
   obtain ⟨rfl,k,hmk,hkb,rfl,hG⟩:=hrel
   have HGr:=Qq hG
   clear hG
   by_cases hlt:m<k
   ·have c1:(m:Int)<(k:Int):=by omega
    have c2:(k:Int)≤(b:Int):=by omega
    obtain ⟨h,hh0⟩:∃ h,h=(m+k) / 2:=⟨_,rfl⟩
    have hh:((m:Int)+(k:Int)) / 2=(h:Int):=by omega
    have hmh:m≤h:=by omega
    have hhk:h<k:=by omega
    obtain ⟨y,hy⟩:∃ y,xs[a]?=some y:=⟨_,Qx (by rw [HN.out];omega)⟩
    obtain ⟨x,hx⟩:∃ x,xs[h]?=some x:=⟨_,Qx (by rw [HN.out];omega)⟩
    have hc0:=HO.out a h y x (by omega) hy hx
    have g1:(0:Int)≤(a:Int):=by omega
    have g2:(a:Int)<(n:Int):=by omega
    have g3:(0:Int)≤(h:Int):=by omega
    have g4:(h:Int)<(n:Int):=by omega
    clear hh0
    obtain ⟨xb,xoff,p3,k3,p4,k4,rfl,hxb,hvx,d0,d1,d2,d3,d4⟩:=(HV.out.below HGr.out.bl).val hx
    obtain ⟨yb,yoff,q3,l3,q4,l4,he,hyb,hvy,e0,e1,e2,e3,e4⟩:=(HV.out.below HGr.out.bl).val hy
    obtain ⟨rfl,rfl,-⟩:xb=yb∧xoff=yoff∧True:=by simpa using he
    have hcg:=sortG wr x y _ _ _ hvx hvy
    have D0:=Qs hxb d0;have D1:=Qs hxb d1;have D2:=Qs hxb d2;have D3:=Qs hxb d3;have D4:=Qs hxb d4
    have E0:=Qs hxb e0;have E1:=Qs hxb e1;have E2:=Qs hxb e2;have E3:=Qs hxb e3;have E4:=Qs hxb e4
    unfold vcs at hcg
    generalize hcc:Z1 x y=c at hcg hc0
    have hq:decide (c<0)=false:=by simpa using hc0
    clear hx hy he hvx hvy hyb d0 d1 d2 d3 d4 e0 e1 e2 e3 e4 hcc hc0
    go_wp2_with fail
    go_quiet_grown (first | (go_at_call 108;refine Calls.grown_of (hcg _ _)))
    go_wp2_with fail
    go_roundw
    case measure=>simp [intOf];omega
    case rel=>exact ⟨rfl,h,by omega,by omega,rfl,HGr.out.thn (Z7 _ _ _)⟩
   obtain rfl:k=m:=by omega
   have c1:¬ (k:Int)<(k:Int):=by omega
   go_wp2_with fail
   go_loopw [13] (fun i wr=>i=.int .i64 a∧Gr w wr) (fun _ _=>0)
   case atStart=>exact ⟨rfl,HGr.out⟩
   obtain ⟨rfl,hG⟩:=hrel
   have HG2:=Qq hG
   clear hG
   go_wp2_with fail
   exact Q7 (results_none (by rfl) _ _ _) rfl ⟨rfl,HG2.out⟩
  have q1:((m:Int) - (a:Int)==1)=false:=by rw [← Bool.not_eq_true,beq_iff_eq];omega
  by_cases h2:b=m+1
  ·have q2:((b:Int) - (m:Int)==1)=true:=by simp;omega
   clear h2 h1
   go_enter Tryz.func174,Tryz.ntmps174
   go_wp2_with fail
   go_loopw [14,15] (fun i j wr=>j=.int .i64 m∧∃ k:Nat,a≤k∧k≤m∧i=.int .i64 k∧Gr w wr) (fun i _ _=>m - (intOf i).toNat)
   case atStart=>exact ⟨rfl,a,Q9 _,by omega,rfl,Gr.refl _⟩
   obtain ⟨rfl,k,hak,hkm,rfl,hG⟩:=hrel
   have HGr:=Qq hG
   clear hG
   by_cases hlt:k<m
   ·have c1:(k:Int)<(m:Int):=by omega
    obtain ⟨h,hh0⟩:∃ h,h=(k+m) / 2:=⟨_,rfl⟩
    have hh:((k:Int)+(m:Int)) / 2=(h:Int):=by omega
    have hmh:k≤h:=by omega
    have hhk:h<m:=by omega
    obtain ⟨y,hy⟩:∃ y,xs[h]?=some y:=⟨_,Qx (by rw [HN.out];omega)⟩
    obtain ⟨x,hx⟩:∃ x,xs[m]?=some x:=⟨_,Qx (by rw [HN.out];omega)⟩
    have hc0:=HO.out h m y x (by omega) hy hx
    have g1:(0:Int)≤(h:Int):=by omega
    have g2:(h:Int)<(n:Int):=by omega
    have g3:(0:Int)≤(m:Int):=by omega
    have g4:(m:Int)<(n:Int):=by omega
    clear hh0
    obtain ⟨xb,xoff,p3,k3,p4,k4,rfl,hxb,hvx,d0,d1,d2,d3,d4⟩:=(HV.out.below HGr.out.bl).val hx
    obtain ⟨yb,yoff,q3,l3,q4,l4,he,hyb,hvy,e0,e1,e2,e3,e4⟩:=(HV.out.below HGr.out.bl).val hy
    obtain ⟨rfl,rfl,-⟩:xb=yb∧xoff=yoff∧True:=by simpa using he
    have hcg:=sortG wr x y _ _ _ hvx hvy
    have D0:=Qs hxb d0;have D1:=Qs hxb d1;have D2:=Qs hxb d2;have D3:=Qs hxb d3;have D4:=Qs hxb d4
    have E0:=Qs hxb e0;have E1:=Qs hxb e1;have E2:=Qs hxb e2;have E3:=Qs hxb e3;have E4:=Qs hxb e4
    unfold vcs at hcg
    generalize hcc:Z1 x y=c at hcg hc0
    have hq:decide (c<0)=false:=by simpa using hc0
    clear hx hy he hvx hvy hyb d0 d1 d2 d3 d4 e0 e1 e2 e3 e4 hcc hc0
    go_wp2_with fail
    go_quiet_grown (first | (go_at_call 108;refine Calls.grown_of (hcg _ _)))
    go_wp2_with fail
    go_roundw
    case measure=>simp [intOf];omega
    case rel=>exact ⟨rfl,h+1,by omega,by omega,by go_num,HGr.out.thn (Z7 _ _ _)⟩
   obtain rfl:k=m:=by omega
   have c1:¬ (k:Int)<(k:Int):=by omega
   go_wp2_with fail
   go_loopw [17] (fun i wr=>i=.int .i64 k∧Gr w wr) (fun _ _=>0)
   case atStart=>exact ⟨rfl,HGr.out⟩
   obtain ⟨rfl,hG⟩:=hrel
   have HG2:=Qq hG
   clear hG
   go_wp2_with fail
   exact Q7 (results_none (by rfl) _ _ _) rfl ⟨rfl,HG2.out⟩
  have q2:((b:Int) - (m:Int)==1)=false:=by rw [← Bool.not_eq_true,beq_iff_eq];omega
  obtain ⟨mid,hmid⟩:∃ mid,mid=(a+b) / 2:=⟨_,rfl⟩
  have hmid2:((a:Int)+(b:Int)) / 2=(mid:Int):=by omega
  have m1:a<mid:=by omega
  have m2:mid<b:=by omega
  obtain ⟨pp,hpp⟩:∃ pp,pp=mid+m - 1:=⟨_,rfl⟩
  have hpp2:(mid:Int)+(m:Int) - 1=(pp:Int):=by omega
  have b5:(mid:Int)<(b:Int):=by omega
  have b6:(0:Int)≤(mid:Int):=by omega
  have b7:(a:Int)<(mid:Int):=by omega
  have t2:¬ (m:Int)<(m:Int):=by omega
  have t3:¬ (mid:Int)<(mid:Int):=by omega
  by_cases h3:mid<m
  ·have t1:(mid:Int)<(m:Int):=by omega
   obtain ⟨st,hst⟩:∃ st,st=mid+m - b:=⟨_,rfl⟩
   have hst2:(mid:Int)+(m:Int) - (b:Int)=(st:Int):=by omega
   have f2:st≤mid:=by omega
   have F:=Qq (show ∀ c,st≤c→c<mid→c<pp - c∧pp - c<n∧c≤pp from fun c h1 h2=>by omega)
   have t4:(mid:Int)+(m:Int) - (mid:Int)=(m:Int):=by omega
   have HR:=Qq (fun w' (hg:Gr w w')=>IH.out mid m b w' (by omega) h3 hmb hb hg)
   clear hmid hpp hst IH h1 h2
   go_enter Tryz.func174,Tryz.ntmps174
   go_wp2_with fail
   go_loopw [20,21] (fun s r wr=>r=.int .i64 mid∧∃ k:Nat,st≤k∧k≤mid∧s=.int .i64 k∧Gr w wr) (fun s _ _=>mid - (intOf s).toNat)
   case atStart=>exact ⟨rfl,st,Q9 _,f2,rfl,Gr.refl _⟩
   obtain ⟨rfl,k,hsk,hkr,rfl,hG⟩:=hrel
   have HGr:=Qq hG
   clear hG
   by_cases hlt:k<mid
   ·have c1:(k:Int)<(mid:Int):=by omega
    obtain ⟨c,hc⟩:∃ c,c=(k+mid) / 2:=⟨_,rfl⟩
    have hh:((k:Int)+(mid:Int)) / 2=(c:Int):=by omega
    obtain ⟨e,hee⟩:∃ e,e=pp - c:=⟨_,rfl⟩
    have hcr:c<mid:=by omega
    have hkc:k≤c:=by omega
    have hF:=F.out c (by omega) hcr
    have hce:c<e∧e<n∧c≤pp:=by omega
    have he2:(pp:Int) - (c:Int)=(e:Int):=by omega
    have he3:IntKind.i64.wrap (e:Int)=(e:Int):=by rw [IntKind.wrap_i64];omega
    obtain ⟨y,hy⟩:∃ y,xs[c]?=some y:=⟨_,Qx (by rw [HN.out];omega)⟩
    obtain ⟨x,hx⟩:∃ x,xs[e]?=some x:=⟨_,Qx (by rw [HN.out];omega)⟩
    have hc0:=HO.out c e y x hce.1 hy hx
    have g1:(0:Int)≤(c:Int):=by omega
    have g2:(c:Int)<(n:Int):=by omega
    have g3:(0:Int)≤(e:Int):=by omega
    have g4:(e:Int)<(n:Int):=by omega
    clear hc hee hF hce
    obtain ⟨xb,xoff,p3,k3,p4,k4,rfl,hxb,hvx,d0,d1,d2,d3,d4⟩:=(HV.out.below HGr.out.bl).val hx
    obtain ⟨yb,yoff,q3,l3,q4,l4,he,hyb,hvy,e0,e1,e2,e3,e4⟩:=(HV.out.below HGr.out.bl).val hy
    obtain ⟨rfl,rfl,-⟩:xb=yb∧xoff=yoff∧True:=by simpa using he
    have hcg:=sortG wr x y _ _ _ hvx hvy
    have D0:=Qs hxb d0;have D1:=Qs hxb d1;have D2:=Qs hxb d2;have D3:=Qs hxb d3;have D4:=Qs hxb d4
    have E0:=Qs hxb e0;have E1:=Qs hxb e1;have E2:=Qs hxb e2;have E3:=Qs hxb e3;have E4:=Qs hxb e4
    unfold vcs at hcg
    generalize hcc:Z1 x y=cr at hcg hc0
    have hq:decide (cr<0)=false:=by simpa using hc0
    clear hx hy he hvx hvy hyb d0 d1 d2 d3 d4 e0 e1 e2 e3 e4 hcc hc0
    go_wp2_with fail
    go_quiet_grown (first | (go_at_call 108;refine Calls.grown_of (hcg _ _)))
    go_wp2_with fail
    go_roundw
    case measure=>simp [intOf];omega
    case rel=>exact ⟨rfl,c+1,by omega,by omega,by go_num,HGr.out.thn (Z7 _ _ _)⟩
   obtain rfl:k=mid:=by omega
   have c1:¬ (k:Int)<(k:Int):=by omega
   go_wp2_with (go_at_call 174;refine (HR.out _ HGr.out).mono ?_;rintro e w' ⟨rfl,hw⟩)
   go_end0
   exact ⟨rfl,HGr.out.thn hw⟩
  have t1:¬ (mid:Int)<(m:Int):=by omega
  have f2:a≤m:=by omega
  have F:=Qq (show ∀ c,a≤c→c<m→c<pp - c∧pp - c<n∧c≤pp from fun c h1 h2=>by omega)
  have t4:(mid:Int)+(m:Int) - (m:Int)=(mid:Int):=by omega
  by_cases h5:m<mid
  ·have t5:(m:Int)<(mid:Int):=by omega
   have HR:=Qq (fun w' (hg:Gr w w')=>IH.out a m mid w' (by omega) ham h5 (by omega) hg)
   clear hmid hpp IH h1 h2
   go_enter Tryz.func174,Tryz.ntmps174
   go_wp2_with fail
   go_loopw [20,21] (fun s r wr=>r=.int .i64 m∧∃ k:Nat,a≤k∧k≤m∧s=.int .i64 k∧Gr w wr) (fun s _ _=>m - (intOf s).toNat)
   case atStart=>exact ⟨rfl,a,Q9 _,f2,rfl,Gr.refl _⟩
   obtain ⟨rfl,k,hsk,hkr,rfl,hG⟩:=hrel
   have HGr:=Qq hG
   clear hG
   by_cases hlt:k<m
   ·have c1:(k:Int)<(m:Int):=by omega
    obtain ⟨c,hc⟩:∃ c,c=(k+m) / 2:=⟨_,rfl⟩
    have hh:((k:Int)+(m:Int)) / 2=(c:Int):=by omega
    obtain ⟨e,hee⟩:∃ e,e=pp - c:=⟨_,rfl⟩
    have hcr:c<m:=by omega
    have hkc:k≤c:=by omega
    have hF:=F.out c (by omega) hcr
    have hce:c<e∧e<n∧c≤pp:=by omega
    have he2:(pp:Int) - (c:Int)=(e:Int):=by omega
    have he3:IntKind.i64.wrap (e:Int)=(e:Int):=by rw [IntKind.wrap_i64];omega
    obtain ⟨y,hy⟩:∃ y,xs[c]?=some y:=⟨_,Qx (by rw [HN.out];omega)⟩
    obtain ⟨x,hx⟩:∃ x,xs[e]?=some x:=⟨_,Qx (by rw [HN.out];omega)⟩
    have hc0:=HO.out c e y x hce.1 hy hx
    have g1:(0:Int)≤(c:Int):=by omega
    have g2:(c:Int)<(n:Int):=by omega
    have g3:(0:Int)≤(e:Int):=by omega
    have g4:(e:Int)<(n:Int):=by omega
    clear hc hee hF hce
    obtain ⟨xb,xoff,p3,k3,p4,k4,rfl,hxb,hvx,d0,d1,d2,d3,d4⟩:=(HV.out.below HGr.out.bl).val hx
    obtain ⟨yb,yoff,q3,l3,q4,l4,he,hyb,hvy,e0,e1,e2,e3,e4⟩:=(HV.out.below HGr.out.bl).val hy
    obtain ⟨rfl,rfl,-⟩:xb=yb∧xoff=yoff∧True:=by simpa using he
    have hcg:=sortG wr x y _ _ _ hvx hvy
    have D0:=Qs hxb d0;have D1:=Qs hxb d1;have D2:=Qs hxb d2;have D3:=Qs hxb d3;have D4:=Qs hxb d4
    have E0:=Qs hxb e0;have E1:=Qs hxb e1;have E2:=Qs hxb e2;have E3:=Qs hxb e3;have E4:=Qs hxb e4
    unfold vcs at hcg
    generalize hcc:Z1 x y=cr at hcg hc0
    have hq:decide (cr<0)=false:=by simpa using hc0
    clear hx hy he hvx hvy hyb d0 d1 d2 d3 d4 e0 e1 e2 e3 e4 hcc hc0
    go_wp2_with fail
    go_quiet_grown (first | (go_at_call 108;refine Calls.grown_of (hcg _ _)))
    go_wp2_with fail
    go_roundw
    case measure=>simp [intOf];omega
    case rel=>exact ⟨rfl,c+1,by omega,by omega,by go_num,HGr.out.thn (Z7 _ _ _)⟩
   obtain rfl:k=m:=by omega
   have c1:¬ (k:Int)<(k:Int):=by omega
   go_wp2_with (go_at_call 174;refine (HR.out _ HGr.out).mono ?_;rintro e w' ⟨rfl,hw⟩)
   go_end0
   exact ⟨rfl,HGr.out.thn hw⟩
  have t5:¬ (m:Int)<(mid:Int):=by omega
  clear hmid hpp IH h1 h2
  go_enter Tryz.func174,Tryz.ntmps174
  go_wp2_with fail
  go_loopw [20,21] (fun s r wr=>r=.int .i64 m∧∃ k:Nat,a≤k∧k≤m∧s=.int .i64 k∧Gr w wr) (fun s _ _=>m - (intOf s).toNat)
  case atStart=>exact ⟨rfl,a,Q9 _,f2,rfl,Gr.refl _⟩
  obtain ⟨rfl,k,hsk,hkr,rfl,hG⟩:=hrel
  have HGr:=Qq hG
  clear hG
  by_cases hlt:k<m
  ·have c1:(k:Int)<(m:Int):=by omega
   obtain ⟨c,hc⟩:∃ c,c=(k+m) / 2:=⟨_,rfl⟩
   have hh:((k:Int)+(m:Int)) / 2=(c:Int):=by omega
   obtain ⟨e,hee⟩:∃ e,e=pp - c:=⟨_,rfl⟩
   have hcr:c<m:=by omega
   have hkc:k≤c:=by omega
   have hF:=F.out c (by omega) hcr
   have hce:c<e∧e<n∧c≤pp:=by omega
   have he2:(pp:Int) - (c:Int)=(e:Int):=by omega
   have he3:IntKind.i64.wrap (e:Int)=(e:Int):=by rw [IntKind.wrap_i64];omega
   obtain ⟨y,hy⟩:∃ y,xs[c]?=some y:=⟨_,Qx (by rw [HN.out];omega)⟩
   obtain ⟨x,hx⟩:∃ x,xs[e]?=some x:=⟨_,Qx (by rw [HN.out];omega)⟩
   have hc0:=HO.out c e y x hce.1 hy hx
   have g1:(0:Int)≤(c:Int):=by omega
   have g2:(c:Int)<(n:Int):=by omega
   have g3:(0:Int)≤(e:Int):=by omega
   have g4:(e:Int)<(n:Int):=by omega
   clear hc hee hF hce
   obtain ⟨xb,xoff,p3,k3,p4,k4,rfl,hxb,hvx,d0,d1,d2,d3,d4⟩:=(HV.out.below HGr.out.bl).val hx
   obtain ⟨yb,yoff,q3,l3,q4,l4,he,hyb,hvy,e0,e1,e2,e3,e4⟩:=(HV.out.below HGr.out.bl).val hy
   obtain ⟨rfl,rfl,-⟩:xb=yb∧xoff=yoff∧True:=by simpa using he
   have hcg:=sortG wr x y _ _ _ hvx hvy
   have D0:=Qs hxb d0;have D1:=Qs hxb d1;have D2:=Qs hxb d2;have D3:=Qs hxb d3;have D4:=Qs hxb d4
   have E0:=Qs hxb e0;have E1:=Qs hxb e1;have E2:=Qs hxb e2;have E3:=Qs hxb e3;have E4:=Qs hxb e4
   unfold vcs at hcg
   generalize hcc:Z1 x y=cr at hcg hc0
   have hq:decide (cr<0)=false:=by simpa using hc0
   clear hx hy he hvx hvy hyb d0 d1 d2 d3 d4 e0 e1 e2 e3 e4 hcc hc0
   go_wp2_with fail
   go_quiet_grown (first | (go_at_call 108;refine Calls.grown_of (hcg _ _)))
   go_wp2_with fail
   go_roundw
   case measure=>simp [intOf];omega
   case rel=>exact ⟨rfl,c+1,by omega,by omega,by go_num,HGr.out.thn (Z7 _ _ _)⟩
  obtain rfl:k=m:=by omega
  have c1:¬ (k:Int)<(k:Int):=by omega
  go_wp2_with fail
  go_end0
  exact ⟨rfl,HGr.out⟩
theorem stableVal (S:Nat→Prop) (q:Option Addr) (cap:Nat) (xs:List Val) (w:World) (hV:Sl Ql S w (.slice q xs.length cap) xs) (ho:Srt Z1 xs):
  Calls Tryz.prog 135 #[.slice q xs.length cap,.int .i64 xs.length,.func (.func 108) #[] #[]] w fun e w'=>e=.returned (.tuple #[])∧Gr w w':=by
 have hl:xs.length≤1000000:=by obtain ⟨_,_,_,h⟩:=hV.len;exact h
 have HI:=Qq (fun a b w' h1 h2 (hg:Gr w w')=>insVal S q cap xs w' (hV.below hg.bl) ho a b h1 h2)
 have HS:=Qq (fun a m b w' h1 h2 h3 (hg:Gr w w')=>symVal S q cap xs ho (b - a) a m b w' (Q9 _) h1 h2 h3 (hV.below hg.bl))
 clear hV ho
 generalize xs.length=n at HI HS hl ⊢
 go_enter Tryz.func135,Tryz.ntmps135
 go_wp2_with fail
 go_loopw [7,8] (fun a b wr=>∃ A B:Nat,a=.int .i64 A∧b=.int .i64 B∧Aside (B=A+20)∧A≤n∧Gr w wr) (fun a _ _=>n - (intOf a).toNat)
 case atStart=>exact ⟨0,20,rfl,rfl,rfl,Q8 _,Gr.refl _⟩
 obtain ⟨A,B,rfl,rfl,hAB,hAn,hG⟩:=hrel
 have HAB:=Qq hAB.out;have HG:=Qq hG
 clear hAB hG
 have b0:(A:Int)≤(n:Int):=by omega
 have b1:(n:Int)≤1000000:=by omega
 have b2:(B:Int)≤1000020:=by have:=HAB.out;omega
 by_cases hlt:B≤n
 ·have c1:(B:Int)≤(n:Int):=by omega
  go_wp2_with (go_at_call 173;refine (HI.out _ _ _ (by have:=HAB.out;omega) hlt HG.out).mono ?_;rintro e w' ⟨rfl,hw⟩)
  go_roundw
  case measure=>have:=HAB.out;simp [intOf];omega
  case rel=>exact ⟨B,B+20,rfl,by go_num,rfl,hlt,HG.out.thn hw⟩
 have c1:¬ (B:Int)≤(n:Int):=by omega
 go_wp2_with (go_at_call 173;refine (HI.out _ _ _ hAn (Q9 _) HG.out).mono ?_;rintro e w1 ⟨rfl,hw⟩)
 have HG1:=Qq (HG.out.thn hw)
 clear hw
 go_loopw [6] (fun s wr=>∃ z:Nat,s=.int .i64 z∧20≤z∧z≤2000000∧Gr w wr) (fun s _=>n - (intOf s).toNat)
 case atStart=>exact ⟨20,rfl,Q9 _,by omega,HG1.out⟩
 obtain ⟨z,rfl,hz1,hz2,hG⟩:=hrel
 generalize h6:wr=w6 at *
 have HG2:=Qq hG
 clear hG
 have d0:(20:Int)≤(z:Int):=by omega
 have d1:(z:Int)≤2000000:=by omega
 by_cases hzn:z<n
 ·have d2:(z:Int)<(n:Int):=by omega
  go_wp2_with fail
  go_loopw [7,8] (fun a b wr=>∃ A B:Nat,a=.int .i64 A∧b=.int .i64 B∧Aside (B=A+2*z)∧A≤n∧Gr w wr) (fun a _ _=>n - (intOf a).toNat)
  case atStart=>exact ⟨0,2*z,rfl,by go_num,by show _=_;omega,Q8 _,HG2.out⟩
  obtain ⟨A2,B2,rfl,rfl,hAB2,hAn2,hG⟩:=hrel
  have HAB2:=Qq hAB2.out;have HG3:=Qq hG
  clear hAB2 hG
  have e0:(A2:Int)≤(n:Int):=by omega
  have e1:(B2:Int)≤5000000:=by have:=HAB2.out;omega
  obtain ⟨M,hM⟩:∃ M,M=A2+z:=⟨_,rfl⟩
  have hMz:(A2:Int)+(z:Int)=(M:Int):=by omega
  have HM:=Qq hM
  clear hM
  by_cases hlt2:B2≤n
  ·have e2:(B2:Int)≤(n:Int):=by omega
   go_wp2_with (go_at_call 174;refine (HS.out _ _ _ _ (by have:=HM.out;omega) (by have:=HM.out;have:=HAB2.out;omega) hlt2 HG3.out).mono ?_;rintro e w' ⟨rfl,hw⟩)
   go_roundw
   case measure=>have:=HAB2.out;simp [intOf];omega
   case rel=>exact ⟨B2,B2+2*z,rfl,by go_num,rfl,hlt2,HG3.out.thn hw⟩
  have e2:¬ (B2:Int)≤(n:Int):=by omega
  by_cases hMn:M<n
  ·have e3:(M:Int)<(n:Int):=by omega
   go_wp2_with (go_at_call 174;refine (HS.out _ _ _ _ (by have:=HM.out;omega) hMn (Q9 _) HG3.out).mono ?_;rintro e w' ⟨rfl,hw⟩)
   go_roundw
   case measure=>simp [intOf];omega
   case rel=>exact ⟨z*2,by go_num,by omega,by omega,HG3.out.thn hw⟩
  have e3:¬ (M:Int)<(n:Int):=by omega
  go_wp2_with fail
  go_roundw
  case measure=>simp [intOf];omega
  case rel=>exact ⟨z*2,by go_num,by omega,by omega,HG3.out⟩
 have d2:¬ (z:Int)<(n:Int):=by omega
 go_wp2_with fail
 go_end0
 exact ⟨rfl,HG2.out⟩
theorem sortStableVal (S:Nat→Prop) (q:Option Addr) (cap:Nat) (xs:List Val) (w:World) (hV:Sl Ql S w (.slice q xs.length cap) xs) (ho:Srt Z1 xs):
  Calls Tryz.prog 107 #[.slice q xs.length cap,.func (.func 108) #[] #[]] w fun e w'=>e=.returned (.tuple #[])∧Gr w w':=by
 have HI:=Qq (stableVal S q cap xs w hV ho)
 clear hV ho
 generalize xs.length=n at HI ⊢
 go_enter Tryz.func107,Tryz.ntmps107
 go_wp2_with (go_at_call 135;refine HI.out.mono ?_;rintro e w' ⟨rfl,hw⟩)
 go_end0
 exact ⟨rfl,hw⟩
def ValsIs (w:World) (xs:List Val) (e:Ending) (w':World):Prop:=∃ p cap,e=.returned (.slice p xs.length cap)∧Sl Ql (fun b=>w.heap.size≤b) w' (.slice p xs.length cap) xs∧Below w.heap.size w w'
theorem field4 (a b c d e:Value) (w:World):(Instr.field 44 (.agg #[a,b,c,d,e]) 4).run Tryz.prog w=.ok e w:=by
 simp [Instr.field,go_sem,part,asAgg]
theorem distinct1_gr (S:Nat→Prop) (a b:Val) (ca cb:List Value) (w:World) (ha:Qh S w ca a) (hb:Qh S w cb b):
  Calls Tryz.prog 106 #[.agg ca.toArray,.agg cb.toArray] w fun e w'=>e=.returned (.bool (eqv a b))∧Gr w w':=by
 rw [← Hi]
 have HC:=Qq (fun W (h:Below w.heap.size w W)=>Dw S a b ca cb W (ha.move (.of_below h) (fun _ _ h=>h)) (hb.move (.of_below h) (fun _ _ h=>h)))
 obtain ⟨p3,k3,p4,k4,hca,_⟩:=Qh.cells ha
 obtain ⟨q3,l3,q4,l4,hcb,_⟩:=Qh.cells hb
 simp only [vcs] at hca hcb
 subst hca;subst hcb
 clear ha hb
 generalize Z1 a b=c at HC ⊢
 go_enter Tryz.func106,Tryz.ntmps106
 go_wp2_with (go_at_call 57;refine (HC.out _ (Zv _ _ _)).mono ?_;rintro e w' ⟨rfl,hw⟩;have HW:=Qq ((X6 w _ _).thn hw);clear hw)
 go_ret
 exact ⟨rfl,HW.out⟩
theorem distG (W:World) (x y:Val) (cx cy:List Value) (S:Nat→Prop) (hx:Qh S W cx x) (hy:Qh S W cy y):∀ n os,Calls Tryz.prog 106 #[.agg cx.toArray,.agg cy.toArray] (Sort.grow (W.drewN n) os) fun e w'=>e=.returned (.bool (eqv x y))∧∃ q os',w'=Sort.grow ((Sort.grow (W.drewN n) os).drewN q) os':=
 fun n os=>distinct1_gr _ x y cx cy _ (hx.move (.of_below (Z7 W n os).bl) (fun _ _ h=>h)) (hy.move (.of_below (Z7 W n os).bl) (fun _ _ h=>h))
theorem compactVal (S:Nat→Prop) (v:Value) (xs:List Val) (w:World) (hV0:Sl Ql S w v xs) (ho:∀ (j:Nat) (x y:Val),xs[j]?=some x→xs[j+1]?=some y→eqv y x=false):
  Calls Tryz.prog 105 #[v,.func (.func 106) #[] #[]] w fun e w'=>e=.returned v∧Gr w w':=by
 obtain ⟨q,cap,rfl,hl⟩:=hV0.len
 have HV:=Qq hV0;have HO:=Qq ho
 clear hV0 ho
 obtain ⟨n,hn⟩:=eX (xs.length)
 rw [hn] at HV hl ⊢
 have HN:=Qq hn
 clear hn
 have mixed:(Tryz.prog).follows .mixedOrders=true:=by kernel_rfl
 by_cases h2:n<2
 ·have b1:(n:Int)<2:=by omega
  clear h2
  go_enter Tryz.func105,Tryz.ntmps105
  go_wp2_with fail
  go_ret
  exact ⟨rfl,Gr.refl _⟩
 have b1:¬ (n:Int)<2:=by omega
 go_enter Tryz.func105,Tryz.ntmps105
 go_wp2_with fail
 go_loopw [5] (fun i wr=>∃ k:Nat,1≤k∧k≤n∧i=.int .i64 k∧Gr w wr) (fun i _=>n - (intOf i).toNat)
 case atStart=>exact ⟨1,Q9 _,by omega,rfl,Gr.refl _⟩
 obtain ⟨k,hk1,hkn,rfl,hG⟩:=hrel
 have HGr:=Qq hG
 clear hG
 by_cases hlt:k<n
 ·obtain ⟨j,rfl⟩:∃ j,k=j+1:=⟨k - 1,by omega⟩
  obtain ⟨x,hx⟩:∃ x,xs[j]?=some x:=⟨_,Qx (by rw [HN.out];omega)⟩
  obtain ⟨y,hy⟩:∃ y,xs[j+1]?=some y:=⟨_,Qx (by rw [HN.out];omega)⟩
  have hc0:=HO.out j x y hx hy
  obtain ⟨xb,xoff,p3,k3,p4,k4,rfl,hxb,hvx,d0,d1,d2,d3,d4⟩:=(HV.out.below HGr.out.bl).val hx
  obtain ⟨yb,yoff,q3,l3,q4,l4,he,hyb,hvy,e0,e1,e2,e3,e4⟩:=(HV.out.below HGr.out.bl).val hy
  obtain ⟨rfl,rfl,-⟩:xb=yb∧xoff=yoff∧True:=by simpa using he
  have hcg:=distG wr y x _ _ _ hvy hvx
  rw [hc0] at hcg
  have D0:=Qs hxb d0;have D1:=Qs hxb d1;have D2:=Qs hxb d2;have D3:=Qs hxb d3;have D4:=Qs hxb d4
  have E0:=Qs hxb e0;have E1:=Qs hxb e1;have E2:=Qs hxb e2;have E3:=Qs hxb e3;have E4:=Qs hxb e4
  have hj1:IntKind.i64.wrap (j:Int)=(j:Int):=by rw [IntKind.wrap_i64];omega
  have hj2:(j:Int)<(n:Int):=by omega
  have hj4:(0:Int)≤(j:Int)+1:=by omega
  have hj5:(j:Int)+1<(n:Int):=by omega
  have hj6:(0:Int)≤(j:Int):=by omega
  have hj7:((j:Int)+1).toNat=j+1:=by omega
  unfold vcs at hcg
  clear hx hy he hvx hvy hyb d0 d1 d2 d3 d4 e0 e1 e2 e3 e4 hc0
  go_wp2_with fail
  go_quiet_grown (first | (go_at_call 106;refine Calls.grown_of (hcg _ _)))
  go_wp2_with fail
  go_roundw
  case measure=>simp [intOf];omega
  case rel=>exact ⟨j+1+1,by omega,by omega,by go_num,HGr.out.thn (Z7 _ _ _)⟩
 have hkn':¬ (k:Int)<(n:Int):=by omega
 go_wp2_with fail
 go_ret
 exact ⟨rfl,HGr.out⟩
def nrm1:List Rel→List Rel→Option (List Rel)
 | out,[]=>some out
 | out,r::l=>match out.findIdx? (fun x=>decide (x.table=r.table)) with
  | none=>none
  | some i=>nrm1 (out.set i ⟨(out.getD i ⟨[],[]⟩).table,(out.getD i ⟨[],[]⟩).rows++r.rows⟩) l
def DistOk (xs ys:List Val):Prop:=∃ zs,(∀ (S:Nat→Prop) (v:Value) (W:World),Sl Ql S W v xs→Calls Tryz.prog 65 #[v] W (ValsIs W zs))∧(∀ (S:Nat→Prop) (v:Value) (W:World),Sl Ql S W v zs→Calls Tryz.prog 64 #[v] W (ValsIs W ys))
def tooMany (dst:List Val→List Val) (r:Rel):Bool:=decide (256<(dst r.rows).length)
def normalF (dst:List Val→List Val) (s:Sc) (l:List Rel):Int × List Rel:=match nrm1 (Yh s) l with
 | none=>(7,[])
 | some o=>if o.any (tooMany dst) then (4,[]) else (0,o.map fun r=>⟨r.table,dst r.rows⟩)
def NormalIs (w:World) (q:Int × List Rel) (e:Ending) (w':World):Prop:=∃ p cap,e=.returned (.tuple #[.slice p q.2.length cap,.int .i64 q.1])∧Sl Z0 (fun _=>True) w' (.slice p q.2.length cap) q.2∧Below w.heap.size w w'
theorem idxP_find {T:Type} (p:T→Bool) (xs:List T):(xs.findIdx? p=none∧Y9 p xs=-1)∨∃ (i:Nat) (x:T),xs.findIdx? p=some i∧Y9 p xs=i∧xs[i]?=some x:=by
 unfold Y9
 cases h:xs.findIdx? p with
 | none=>exact .inl ⟨rfl,rfl⟩
 | some i=>
  obtain ⟨hi,_,_⟩:=List.findIdx?_eq_some_iff_getElem.1 h
  exact .inr ⟨i,xs[i],rfl,rfl,Qx hi⟩
theorem grown_drew {w w1:World} {row:Option Nat} (h:w.drew.grownBy w1 row):w.grownBy w1 row:=
 ⟨h.os,h.tape,h.output,h.size,h.block⟩
theorem rel_set {B:Nat} {w:World} {g n cap:Nat} {l:List Rel} {css:List (List Value)} {i:Nat} {x:Rel} {rv':Value} {zs:List Val} (hn:l.length=n) (h:Own Z0 57 (fun _=>True) B w (.slice (some ⟨g,0,none⟩) n cap) l css) (hi:l[i]?=some x)
  (hs:Sl Ql (But (fun _=>True) (.slice (some ⟨g,0,none⟩) n cap)) w rv' zs):
  ∃ css',Own Z0 57 (fun _=>True) B (w.setCell ⟨g,i*2+1,none⟩ rv') (.slice (some ⟨g,0,none⟩) n cap) (l.set i ⟨x.table,zs⟩) css':=by
 subst hn
 have hil:=(Qj hi).1
 obtain ⟨c,hc⟩:∃ c,css[i]?=some c:=⟨_,Qx (by rw [h.cs.len];exact hil)⟩
 obtain ⟨rv,rfl,htl,_⟩:=h.cs.R i c x hc hi
 have hA:Vm (But (fun _=>True) (.slice (some ⟨g,0,none⟩) l.length cap)) w (w.setCell ⟨g,i*2+1,none⟩ rv'):=fun b hS _=>Qg (fun e=>hS.2 (by rw [e];rfl))
 refine ⟨css.set i [sv x.table,rv'],⟨?_,⟨by rw [List.length_set,List.length_set];exact h.cs.len,fun j d y hd hy=>?_⟩⟩⟩
 ·rw [List.length_set,← Em css i _ rv rv' h.cs.all hc]
  exact (h.row.stored (i*2+1) rv').1
 by_cases e:j=i
 ·subst e
  rw [List.getElem?_set_self hil] at hy
  rw [List.getElem?_set_self (by rw [h.cs.len];exact hil)] at hd
  cases hd;cases hy
  exact ⟨rv',rfl,htl,hs.frame hA⟩
 rw [List.getElem?_set_ne (Ne.symm e)] at hd hy
 exact Z0.frame (h.cs.R j d y hd hy) hA
theorem normal'_any (S0 S1:Nat→Prop) (s:Sc) (cs:List Value) (lv:Value) (l:List Rel) (dst:List Val→List Val) (w:World) (hs:Yn S0 w cs s) (hl0:Sl Z0 S1 w lv l) (hnl:∀ t ∈ s.tables,t.name.length≤1000000) (htl0:s.tables.length≤1000)
  (hll:l.length≤1000) (hrl:∀ r ∈ l,r.rows.length≤1000) (hD:∀ o,nrm1 (Yh s) l=some o→∀ r ∈ o,DistOk r.rows (dst r.rows)):
  Calls Tryz.prog 27 #[.agg cs.toArray,lv] w (NormalIs w (normalF dst s l)):=by
 have HEm:=Qq (fun W (hb:Below w.heap.size w W)=>Tz S0 s cs W (hs.below hb) hnl htl0)
 obtain ⟨uv,tv,rfl,hu,ht0⟩:=hs
 have hl:Sl Z0 (fun b=>b<w.heap.size) w lv l:=hl0.mono (fun b hb _=>hb)
 obtain ⟨up,uc,rfl,_⟩:=hu.len
 obtain ⟨tp,tc,rfl,_⟩:=ht0.len
 obtain ⟨lp,lc,rfl,_⟩:=hl.len
 have HL:=Qq hl;have HRL:=Qq hrl;have HD:=Qq hD
 obtain ⟨i0,j1,j2,j3,j4⟩:=Za (P:=Tryz.prog) (t:=44) (z:=.agg zV) (n:=5) (b:=80) (by kernel_rfl)
 have HJ:=Qq j1;have HJ2:=Qq j2;have HJ3:=Qq j3;have HJ4:=Qq j4
 clear hu ht0 hl0 hl hrl hD hnl j1 j2 j3 j4
 obtain ⟨m,hm⟩:=eX (l.length)
 rw [hm] at HL hll
 rw [hm]
 have HM:=Qq hm
 clear hm
 obtain ⟨Q,hQ⟩:=eX (normalF dst s l)
 rw [hQ]
 have HQ:=Qq hQ
 clear hQ
 obtain ⟨n,hn⟩:=eX (s.tables.length)
 unfold Pa at HEm
 rw [hn] at HEm htl0
 rw [hn]
 have HN:=Qq hn
 clear hn
 have mixed:(Tryz.prog).follows .mixedOrders=true:=by kernel_rfl
 go_enter Tryz.func27,Tryz.ntmps27
 go_wp2_with fail
 refine (HEm.out _ (Qn _ _)).mono ?_
 rintro e w1 ⟨p,cap,rfl,hSt1,hb1⟩
 obtain ⟨W0,hW0⟩:=eX (w.alloc (.cells #[.slice up s.sums.length uc,.slice tp n tc] 26))
 rw [hW0] at hSt1 hb1
 have HB0:=Qq (show Below w.heap.size w W0 by rw [← hW0];exact Qn _ _)
 have HB1:=Qq hb1;have HSt1:=Qq hSt1
 clear hb1 hSt1 hW0 HEm
 go_wp2_with fail
 go_loopw [16] (fun i wr=>∃ (k:Nat) (out:List Rel) (rvs:List Value),k≤m∧i=.int .i64 k∧Aside (nrm1 out (l.drop k)=nrm1 (Yh s) l)∧Aside (out.length=n)∧Aside (∀ x ∈ out,x.rows.length≤1000*k)∧Xo W0.heap.size wr (.slice p n cap) out rvs∧Below W0.heap.size W0 wr) (fun i _=>m - (intOf i).toNat)
 case atStart=>exact ⟨0,Yh s,_,Q8 _,rfl,rfl,(by show _=_;unfold Yh;rw [List.length_map];exact HN.out),(by intro x hx;unfold Yh at hx;obtain ⟨t,_,rfl⟩:=List.mem_map.1 hx;simp),HSt1.out,HB1.out⟩
 obtain ⟨k,out,rvs,hkm,rfl,hE,hol,hrw,hSt,hBr⟩:=hrel
 have hE:=hE.out;have hol:=hol.out;have hrw:=hrw.out
 have HBr:=Qq hBr;have HBw:=Qq (HB0.out.trans (hBr.mono HB0.out.size))
 have hslr:Sl Z0 (fun _=>True) wr (.slice p n cap) out:=hSt.sl (by rw [hol];omega) (fun x hx=>by have:=hrw x hx;omega) _ (fun _ _=>trivial) (fun _ _ _=>trivial)
 have HSl:=Qq hslr;have HSt:=Qq hSt;have HOL:=Qq hol;have HE:=Qq hE;have HRW:=Qq hrw
 clear hBr hslr hSt hol hE hrw
 by_cases hlt:k<m
 ·have hi1:(0:Int)≤(k:Int):=by omega
  have hi2:(k:Int)<(m:Int):=by omega
  obtain ⟨r,hr⟩:∃ r,l[k]?=some r:=⟨_,Qx (by rw [HM.out];exact hlt)⟩
  obtain ⟨lb,loff,cl,rfl,hlb,_,hllen,hlR,hlc⟩:=(HL.out.below HBw.out).elem hr
  obtain ⟨rv,rfl,htn,hrv⟩:=hlR
  obtain ⟨rp,rc,rfl,_⟩:=hrv.len
  have l0:=hlc 0 _ rfl
  have l1:=hlc 1 _ rfl
  simp only [show Z0.k=2 from rfl,Nat.add_zero] at l0 l1
  unfold sv at l0
  have HRv:=Qq hrv;have HRi:=Qq hr
  clear hr hlc hllen hrv hlb
  go_upto_region 5 with fail
  obtain ⟨W5,hW5⟩:=eX (wr.alloc (.cells #[.string ⟨r.table.toArray⟩,.slice rp r.rows.length rc] 57))
  rw [hW5]
  have hb5:=eqB hW5 (Qn _ _)
  have hX5:=eqH (b:=wr.heap.size) hW5 (Qw _ _)
  have x0:=rA0 hX5
  have HX5:=Qq hX5;have HB5:=Qq hb5
  have HIx:=Qq (Xg _ _ out r.table W5 (HSl.out.below hb5))
  unfold sv at HIx
  clear hW5 hb5 hX5 l0 l1
  obtain ⟨ix,hix⟩:∃ ix,Y9 (fun x=>decide (x.table=r.table)) out=ix:=⟨_,rfl⟩
  rw [hix] at HIx
  rcases idxP_find (fun x:Rel=>decide (x.table=r.table)) out with ⟨hf,hm1⟩ | ⟨i,o,hf,hm1,ho⟩
  ·rw [hix] at hm1
   subst hm1
   have HF:=Qq hf
   clear hix hf
   go_wp2_with fail
   refine HIx.out.mono ?_
   rintro e w6 ⟨rfl,hb6⟩
   go_wp2_with fail
   go_ret2
   have hQ:Q=(7,[]):=by
    rw [← HQ.out]
    unfold normalF
    rw [← HE.out,List.drop_eq_getElem_cons (by rw [HM.out];exact hlt)]
    have hr:=HRi.out
    rw [Qx (by rw [HM.out];exact hlt)] at hr
    rw [Qb hr]
    unfold nrm1
    rw [HF.out]
   rw [hQ]
   exact ⟨none,0,rfl,Sl.nil _ _ _,HBw.out.thn (HB5.out.thn hb6)⟩
  rw [hix] at hm1
  subst hm1
  have hin:i<n:=by rw [← HOL.out];exact (Qj ho).1
  obtain ⟨rvi,hrvi⟩:∃ rvi,rvs[i]?=some rvi:=⟨_,Qx (by rw [HSt.out.len,HOL.out];exact hin)⟩
  obtain ⟨css,hOwn⟩:=HSt.out.rows i o rvi ho hrvi
  obtain ⟨rpi,rci,rfl⟩:=hOwn.form
  obtain ⟨g,cap',hv,hgB,hgs⟩:=HSt.out.row.form (by rw [HOL.out];omega)
  simp only [Value.slice.injEq] at hv
  obtain ⟨rfl,-,rfl⟩:=hv
  have hi3:(0:Int)≤(i:Int):=by omega
  have hi4:(i:Int)<(n:Int):=by omega
  have hi5:decide ((i:Int)<0)=false:=by simp
  have HF:=Qq hf;have HO:=Qq ho;have HRvi:=Qq hrvi
  have hor:=HRW.out o (Qy ho)
  have hrr:=HRL.out r (Qy HRi.out)
  clear hix hf ho hOwn hrvi
  go_wp2_with fail
  refine HIx.out.mono ?_
  rintro e w6 ⟨rfl,hb6⟩
  have hSt6:=(HSt.out.below HB5.out).below hb6
  obtain ⟨cur,hcur,_,hci⟩:=hSt6.at HO.out HRvi.out
  obtain ⟨css,hOwn⟩:=hSt6.rows i o _ HO.out HRvi.out
  have c1:=Qk _ _ (i*2+1) _ _ _ hcur
  rw [hci] at c1
  have x1:=rA1 ((kB hb6 HX5.out))
  have HB6:=Qq (HB5.out.thn hb6)
  have hy:Sl Ql (But (Bb (.slice (some ⟨g,0,none⟩) n cap) rvs) (.slice rpi o.rows.length rci)) w6.drew (.slice rp r.rows.length rc) r.rows:=by
   have h1:Sl Ql (fun b=>b<w.heap.size) wr (.slice rp r.rows.length rc) r.rows:=HRv.out
   refine ((h1.below HB6.out).mono (fun b _ hb=>?_)).frame (fun b _ _=>rfl)
   have hb':b<w.heap.size:=hb
   have hB0:=HB0.out.size
   refine ⟨⟨fun e=>?_,fun u hu e=>?_⟩,fun e=>?_⟩
   ·have:g=b:=Qb e
    have:=(HSt.out.row.lt g rfl).1
    omega
   ·obtain ⟨j,hj⟩:=List.getElem?_of_mem hu
    obtain ⟨x,hx⟩:∃ x,out[j]?=some x:=⟨_,Qx (by rw [← HSt.out.len];exact (Qj hj).1)⟩
    obtain ⟨_,ho2⟩:=HSt.out.rows j x u hx hj
    have:=(ho2.row.lt b e).1
    omega
   have:=(hOwn.row.lt b e.symm).1
   omega
  have hne6:some g≠(Value.slice rpi o.rows.length rci).ownBlock:=fun e=>Zs hSt6.row hOwn.row (by decide) rfl e.symm
  have HSt6:=Qq hSt6;have HOwn:=Qq (hOwn.below ((Qz _ _).drew));have HY:=Qq hy;have HCur:=Qq hcur;have HCi:=Qq hci
  have hsz6:W0.heap.size≤w6.heap.size:=by have:=HBr.out.size;have:=HB6.out.size;omega
  clear hSt6 hOwn hy hcur hci hb6
  go_wp2_with fail
  go_region_law ((refine step_cat (r:=Ql) (by decide) (by rfl) (.tmp 32) (.tmp 34) 40 (by rfl) 44 i0 (.agg zV) 80 Tryz.underlying40 HJ.out HJ2.out HJ3.out HJ4.out rfl (by omega) (Bb (.slice (some ⟨g,0,none⟩) n cap) rvs) W0.heap.size w6.drew (.slice rpi o.rows.length rci) o.rows css r.rows rp r.rows.length rc (by rfl) HOwn.out (by rfl) HY.out Zu (by omega) hsz6 ?_;intro p7 cap7 css7 w7 hO7 hg7 hat7;have hc7:=(hg7.block g (Qf HCur.out) hne6).trans HCur.out;have f7:=frozen_of_row _ _ (i*2+1) _ _ hc7;have k7:=Qk _ _ (i*2+1) _ _ _ hc7;rw [HCi.out] at k7;have HC7:=Qq hc7;have HG7:=Qq hg7;have HO7:=Qq hO7;have HA7:=Qq hat7;clear hc7 hg7 hO7 hat7))
  all_goals
   go_wp2_with fail
   go_roundw
   case measure=>simp [intOf];omega
   case rel=>
    refine ⟨k+1,out.set i ⟨o.table,o.rows++r.rows⟩,rvs.set i (.slice p7 (o.rows.length+r.rows.length) cap7),by omega,by go_num,(show Aside _ from ?_),(show Aside _ from ?_),(show Aside _ from ?_),HSt6.out.put' HOL.out HO.out HRvi.out ⟨css7,HO7.out⟩ (grown_drew HG7.out) ?_,?_⟩
    ·show _=_
     rw [← HE.out,List.drop_eq_getElem_cons (i:=k) (by rw [HM.out];exact hlt)]
     have hr:=HRi.out
     rw [Qx (by rw [HM.out];exact hlt)] at hr
     rw [Qb hr]
     conv=>rhs;unfold nrm1
     rw [HF.out]
     simp only [List.getD_eq_getElem?_getD,HO.out,Option.getD_some]
    ·show _=_
     rw [List.length_set];exact HOL.out
    ·intro x hx
     rcases List.mem_or_eq_of_mem_set hx with h1 | rfl
     ·have:=HRW.out x h1;omega
     rw [List.length_append];omega
    ·rcases HA7.out with h1 | h1
     ·exact .inl h1
     exact .inr fun g' e=>by rw [h1] at e;have:=Qb e;exact Nat.le_of_eq this
    exact ((HBr.out.trans (HB6.out.mono HBr.out.size)).grown (grown_drew HG7.out) hsz6 (fun b hb=>(HOwn.out.row.lt b hb).1)).setCell (p:=⟨g,i*2+1,none⟩) hgB _
 obtain rfl:k=m:=by omega
 have hi2:¬ (k:Int)<(k:Int):=by omega
 have hE:=HE.out
 rw [List.drop_eq_nil_of_le (by rw [HM.out];exact Q9 _)] at hE
 have HN1:=Qq (show nrm1 (Yh s) l=some out from hE.symm)
 have hQ:Q=if out.any (tooMany dst) then (4,[]) else (0,out.map fun r=>⟨r.table,dst r.rows⟩):=by
  rw [← HQ.out];unfold normalF;rw [HN1.out]
 have HQ2:=Qq hQ
 clear hE hQ
 have HOw:=Qq (HSt.out.own (fun x hx=>by have:=HRW.out x hx;omega))
 go_wp2_with fail
 go_loopw [41] (fun i wv=>∃ (k:Nat) (xs:List Rel) (css:List (List Value)),k≤n∧i=.int .i64 k∧xs.length=n∧Aside (∀ (j:Nat) (x:Rel),xs[j]?=some x→∃ o,out[j]?=some o∧x=if j<k then ⟨o.table,dst o.rows⟩ else o)∧Aside (∀ (j:Nat) (o:Rel),j<k→out[j]?=some o→tooMany dst o=false) ∧
  Own Z0 57 (fun _=>True) W0.heap.size wv (.slice p n cap) xs css∧Below W0.heap.size W0 wv) (fun i _=>n - (intOf i).toNat)
 case atStart=>exact ⟨0,out,_,Q8 _,rfl,HOL.out,(fun j x hx=>⟨x,hx,by simp⟩),(fun j o hj=>absurd hj (Nat.not_lt_zero _)),HOw.out,HBr.out⟩
 obtain ⟨j,xs,css,hjn,rfl,hxl,hxs,hno,hO,hBv⟩:=hrel
 have HXs:=Qq hxs.out;have HNo:=Qq hno.out;have HXL:=Qq hxl
 have HBv:=Qq hBv;have HBw2:=Qq (HB0.out.trans (hBv.mono HB0.out.size));have HOv:=Qq hO
 clear hxs hno hxl hBv hO
 by_cases hlt:j<n
 ·have hi1:(0:Int)≤(j:Int):=by omega
  have hi3:(j:Int)<(n:Int):=by omega
  obtain ⟨x,hx⟩:∃ x,xs[j]?=some x:=⟨_,Qx (by rw [HXL.out];exact hlt)⟩
  obtain ⟨o,ho,hxo⟩:=HXs.out j x hx
  rw [if_neg (Nat.lt_irrefl _)] at hxo
  subst hxo
  obtain ⟨g,cap',hv,hgB,hgs⟩:=HOv.out.row.form (by rw [HXL.out];omega)
  simp only [Value.slice.injEq] at hv
  obtain ⟨rfl,-,rfl⟩:=hv
  obtain ⟨c,hc⟩:∃ c,css[j]?=some c:=⟨_,Qx (by rw [HOv.out.cs.len,HXL.out];exact hlt)⟩
  obtain ⟨rv,rfl,_,hrv⟩:=HOv.out.cs.R j c x hc hx
  obtain ⟨rp,rc,rfl,_⟩:=hrv.len
  have hrow:=HOv.out.row
  rw [HXL.out] at hrow
  have l0:=hrow.cellAt (j*2) (by show j*2<n*2;omega)
  have l1:=hrow.cellAt (j*2+1) (by show j*2+1<n*2;omega)
  rw [show css.flatten[j*2]?=some (sv x.table) from Yg (k:=2) HOv.out.cs.all hc (j:=0) rfl] at l0
  rw [show css.flatten[j*2+1]?=some (.slice rp x.rows.length rc) from Yg (k:=2) HOv.out.cs.all hc (j:=1) rfl] at l1
  unfold sv at l0
  obtain ⟨zs,hsort,hdist⟩:=HD.out out HN1.out x (Qy ho)
  have HSo:=Qq hsort;have HDi:=Qq hdist;have HX:=Qq hx;have HOo:=Qq ho;have HRv:=Qq hrv;have HC:=Qq (show css.flatten[j*2+1]?=some (.slice rp x.rows.length rc) from Yg (k:=2) HOv.out.cs.all hc (j:=1) rfl)
  clear hx ho hc hrv hsort hdist
  go_upto_region 13 with fail
  obtain ⟨W5,hW5⟩:=eX (wr.alloc (.cells #[.string ⟨x.table.toArray⟩,.slice rp x.rows.length rc] 57))
  rw [hW5]
  have hb5:=eqB hW5 (Qn _ _)
  have hX5:=eqH (b:=wr.heap.size) hW5 (Qw _ _)
  have x1:=rA1 hX5
  have HB5:=Qq hb5
  have HS5:=Qq (HSo.out _ _ W5 (HRv.out.below hb5))
  clear hW5 hb5 hX5 l0 l1 hrow
  go_wp2_with fail
  refine HS5.out.mono ?_
  rintro e w6 ⟨p6,c6,rfl,hs6,hb6⟩
  have HS6:=Qq (HDi.out _ _ w6 hs6)
  have HB6:=Qq (HB5.out.thn hb6)
  clear hs6 hb6 x1
  go_wp2_with fail
  refine HS6.out.mono ?_
  rintro e w7 ⟨p7,c7,rfl,hs7,hb7⟩
  have hb7':=HB6.out.thn hb7
  have hO7:=HOv.out.below hb7'
  have hrow:=hO7.row
  rw [HXL.out] at hrow
  have f7:=hrow.frozenAt (j*2+1)
  have k7:=hrow.cellAt (j*2+1) (by show j*2+1<n*2;omega)
  rw [HC.out] at k7
  have hs7':Sl Ql (But (fun _=>True) (.slice (some ⟨g,0,none⟩) n cap)) w7 (.slice p7 (dst x.rows).length c7) (dst x.rows):=hs7.mono (fun b _ hb=>⟨trivial,fun e=>by
   have h1:b=g:=Qb e
   have h2:w6.heap.size≤b:=hb
   have:=HB6.out.size
   omega⟩)
  obtain ⟨css',hO8⟩:=rel_set HXL.out hO7 HX.out hs7'
  have hb8:Below W0.heap.size W0 (w7.setCell ⟨g,j*2+1,none⟩ (.slice p7 (dst x.rows).length c7)):=(HBv.out.trans (hb7'.mono HBv.out.size)).setCell (p:=⟨g,j*2+1,none⟩) hgB _
  have HO8:=Qq hO8;have HB8:=Qq hb8
  clear hs7 hb7 hb7' hO7 hrow hs7' hO8 hb8
  by_cases h256:256<(dst x.rows).length
  ·have hz:(256:Int)<((dst x.rows).length:Int):=by omega
   have HT:=Qq (show tooMany dst x=true from decide_eq_true h256)
   clear h256
   go_wp2_with fail
   go_ret2
   have hQ:Q=(4,[]):=by
    rw [HQ2.out,if_pos (List.any_eq_true.2 ⟨x,Qy HOo.out,HT.out⟩)]
   rw [hQ]
   exact ⟨none,0,rfl,Sl.nil _ _ _,HB0.out.trans (HB8.out.mono HB0.out.size)⟩
  have hz:¬ (256:Int)<((dst x.rows).length:Int):=by omega
  have HT:=Qq (show tooMany dst x=false from decide_eq_false h256)
  clear h256
  go_wp2_with fail
  go_roundw
  case measure=>simp [intOf];omega
  case rel=>
   refine ⟨j+1,xs.set j ⟨x.table,dst x.rows⟩,css',by omega,by go_num,by rw [List.length_set];exact HXL.out,(show Aside _ from fun i y hy=>?_),(show Aside _ from fun i y hi hy=>?_),HO8.out,HB8.out⟩
   ·by_cases e:i=j
    ·subst e
     rw [List.getElem?_set_self (by rw [HXL.out];exact hlt)] at hy
     cases hy
     exact ⟨x,HOo.out,by rw [if_pos (Nat.lt_succ_self _)]⟩
    rw [List.getElem?_set_ne (Ne.symm e)] at hy
    obtain ⟨o,h1,h2⟩:=HXs.out i y hy
    refine ⟨o,h1,?_⟩
    rw [h2]
    by_cases e2:i<j
    ·rw [if_pos e2,if_pos (by omega)]
    rw [if_neg e2,if_neg (by omega)]
   by_cases e:i=j
   ·subst e
    have:=HOo.out
    rw [hy] at this
    cases this
    exact HT.out
   exact HNo.out i y (by omega) hy
 obtain rfl:j=n:=by omega
 have hi3:¬ (j:Int)<(j:Int):=by omega
 go_wp2_with fail
 go_ret2
 have hQ:Q=(0,out.map fun r=>⟨r.table,dst r.rows⟩):=by
  rw [HQ2.out,if_neg]
  rw [Bool.not_eq_true,List.any_eq_false]
  intro y hy
  obtain ⟨i,hi⟩:=List.getElem?_of_mem hy
  rw [HNo.out i y (by have:=(Qj hi).1;have:=HOL.out;omega) hi]
  decide
 have hxs:xs=out.map fun r=>⟨r.table,dst r.rows⟩:=by
  apply List.ext_getElem?
  intro i
  by_cases hi:i<xs.length
  ·have hy:=Qx hi
   obtain ⟨o,h1,h2⟩:=HXs.out i _ hy
   rw [hy,h2,if_pos (by have:=HXL.out;omega),List.getElem?_map,h1];rfl
  rw [List.getElem?_eq_none (by omega),List.getElem?_eq_none (by rw [List.length_map,HOL.out];have:=HXL.out;omega)]
 rw [hQ]
 have hlm:(out.map fun r=>(⟨r.table,dst r.rows⟩:Rel)).length=j:=by rw [List.length_map];exact HOL.out
 refine ⟨p,cap,?_,?_,HBw2.out⟩
 ·show _=Ending.returned (.tuple #[.slice p (out.map fun r=>(⟨r.table,dst r.rows⟩:Rel)).length cap,.int .i64 0])
  rw [hlm];rfl
 show Sl Z0 _ _ (.slice p (out.map fun r=>(⟨r.table,dst r.rows⟩:Rel)).length cap) (out.map fun r=>(⟨r.table,dst r.rows⟩:Rel))
 rw [hlm,← hxs]
 exact HOv.out.sl' (by rw [HXL.out];omega) (fun _ _=>trivial) (fun _ _ _=>trivial)
namespace Inc
def Up (l:List (List Int)):Prop:=l.Pairwise (fun a b=>lex a b<0)
end Inc
namespace Inc
theorem irr (a:List Int):¬ lex a a<0:=by rw [lex_self];omega
end Inc
namespace Inc
theorem asymm {a b:List Int} (h:lex a b<0):¬ lex b a<0:=by rw [Jd];omega
end Inc
namespace Inc
theorem uniq:∀ (a b:List (List Int)),Up a→Up b→(∀ x,x ∈ a↔x ∈ b)→a=b
 | [],b,_,_,h=>by
  cases b with
  | nil=>rfl
  | cons y b=>exact absurd ((h y).2 List.mem_cons_self) List.not_mem_nil
 | x::a,[],_,_,h=>absurd ((h x).1 List.mem_cons_self) List.not_mem_nil
 | x::a,y::b,ha,hb,h=>by
  have hx:=List.pairwise_cons.1 ha
  have hy:=List.pairwise_cons.1 hb
  have hxy:x=y:=by
   rcases List.mem_cons.1 ((h x).1 List.mem_cons_self) with h1 | h1
   ·exact h1
   rcases List.mem_cons.1 ((h y).2 List.mem_cons_self) with h2 | h2
   ·exact h2.symm
   exact absurd (hx.1 y h2) (asymm (hy.1 x h1))
  subst hxy
  rw [uniq a b hx.2 hy.2 (fun z=>?_)]
  constructor
  ·intro hz
   rcases List.mem_cons.1 ((h z).1 (List.mem_cons_of_mem _ hz)) with h1 | h1
   ·subst h1;exact absurd (hx.1 z hz) (irr z)
   exact h1
  intro hz
  rcases List.mem_cons.1 ((h z).2 (List.mem_cons_of_mem _ hz)) with h1 | h1
  ·subst h1;exact absurd (hy.1 z hz) (irr z)
  exact h1
end Inc
theorem upV_keys {l:List Val}:UpV l↔Inc.Up (l.map key):=by
 unfold UpV Inc.Up
 rw [List.pairwise_map]
 simp only [Kp]
theorem upV_same {a b:List Val} (ha:UpV a) (hb:UpV b) (h:∀ k,k ∈ a.map key↔k ∈ b.map key):sameVs a b=true:=by
 unfold sameVs
 exact decide_eq_true (Inc.uniq _ _ (upV_keys.1 ha) (upV_keys.1 hb) h)
theorem putV_mem (l:List Val) (x:Val) (k:List Int):k ∈ (Vc l x).map key↔k=key x∨k ∈ l.map key:=by
 unfold Vc
 split
 ·rename_i h
  have:=hasV_iff.1 h
  constructor
  ·exact .inr
  rintro (rfl | h)
  ·exact this
  exact h
 have:l.map key=(l.take (Yy l x)).map key++(l.drop (Yy l x)).map key:=by rw [← List.map_append,List.take_append_drop]
 rw [this]
 simp only [List.map_append,List.map_cons,List.mem_append,List.mem_cons]
 constructor
 ·rintro (h | h | h)
  ·exact .inr (.inl h)
  ·exact .inl h
  exact .inr (.inr h)
 rintro (h | h | h)
 ·exact .inr (.inl h)
 ·exact .inl h
 exact .inr (.inr h)
theorem putAll_up (xs:List Val):∀ l,UpV l→UpV (xs.foldl Vc l):=by
 induction xs with
 | nil=>intro l h;exact h
 | cons x xs ih=>intro l h;exact ih _ (putV_up h x)
theorem putAll_mem (xs:List Val):∀ (l:List Val) (k:List Int),k ∈ (xs.foldl Vc l).map key↔k ∈ xs.map key∨k ∈ l.map key:=by
 induction xs with
 | nil=>intro l k;simp
 | cons x xs ih=>
  intro l k
  rw [List.foldl_cons,ih,putV_mem,List.map_cons,List.mem_cons]
  constructor
  ·rintro (h | h | h)
   ·exact .inl (.inr h)
   ·exact .inl (.inl h)
   exact .inr h
  rintro ((h | h) | h)
  ·exact .inr (.inl h)
  ·exact .inl h
  exact .inr (.inr h)
def Ca (l:List Val):Prop:=l.Pairwise (fun a b=>Z1 a b≤0)
def Aw:Val→List Val→List Val
 | _,[]=>[]
 | a,b::l=>if eqv b a then Aw b l else b::Aw b l
def A6:List Val→List Val
 | []=>[]
 | a::l=>a::Aw a l
theorem Cd {a b c:Val} (h1:Z1 a b≤0) (h2:Z1 b c≤0):Z1 a c≤0:=by
 rw [Kp] at *
 by_cases e1:key a=key b
 ·rw [e1];exact h2
 by_cases e2:key b=key c
 ·rw [← e2];exact h1
 have h3:lex (key a) (key b)<0:=by
  have:lex (key a) (key b)≠0:=fun h=>e1 (lex_zero h)
  omega
 have h4:lex (key b) (key c)<0:=by
  have:lex (key b) (key c)≠0:=fun h=>e2 (lex_zero h)
  omega
 exact Int.le_of_lt (Ev h3 h4)
theorem Cv:∀ (l:List Val) (a:Val) (k:List Int),(k=key a∨k ∈ (Aw a l).map key)↔(k=key a∨k ∈ l.map key)
 | [],a,k=>by simp [Aw]
 | b::l,a,k=>by
  unfold Aw
  have ih:=Cv l b k
  by_cases h:eqv b a=true
  ·rw [if_pos h]
   have hk:=Pd.1 h
   rw [hk] at ih
   rw [ih,List.map_cons,List.mem_cons,hk]
   constructor
   ·rintro (h | h)
    ·exact .inl h
    exact .inr (.inr h)
   rintro (h | h | h)
   ·exact .inl h
   ·exact .inl h
   exact .inr h
  rw [if_neg h,List.map_cons,List.map_cons,List.mem_cons,List.mem_cons,ih]
theorem Ah:∀ (l:List Val) (a:Val),Ca (a::l)→∀ y ∈ Aw a l,Z1 a y<0
 | [],a,_,y,hy=>by simp [Aw] at hy
 | b::l,a,h,y,hy=>by
  have h1:=List.pairwise_cons.1 h
  unfold Aw at hy
  by_cases hb:eqv b a=true
  ·rw [if_pos hb] at hy
   have:=Ah l b h1.2 y hy
   rw [Kp] at this ⊢
   rw [Pd.1 hb] at this
   exact this
  rw [if_neg hb] at hy
  have hab:Z1 a b<0:=by
   have h2:=h1.1 b List.mem_cons_self
   have h3:Z1 a b≠0:=fun h=>hb (Pd.2 (Bu.1 h).symm)
   omega
  rcases List.mem_cons.1 hy with rfl | hy
  ·exact hab
  have:=Ah l b h1.2 y hy
  rw [Kp] at *
  exact Ev hab this
theorem Cq:∀ (l:List Val) (a:Val),Ca (a::l)→UpV (Aw a l)
 | [],a,_=>by unfold Aw;exact List.Pairwise.nil
 | b::l,a,h=>by
  have h1:=List.pairwise_cons.1 h
  unfold Aw
  by_cases hb:eqv b a=true
  ·rw [if_pos hb];exact Cq l b h1.2
  rw [if_neg hb];exact List.pairwise_cons.2 ⟨Ah l b h1.2,Cq l b h1.2⟩
theorem compV_up {l:List Val} (h:Ca l):UpV (A6 l):=by
 cases l with
 | nil=>exact List.Pairwise.nil
 | cons a l=>exact List.pairwise_cons.2 ⟨Ah l a h,Cq l a h⟩
theorem Qjq (l:List Val) (k:List Int):k ∈ (A6 l).map key↔k ∈ l.map key:=by
 cases l with
 | nil=>rfl
 | cons a l=>
  show k ∈ key a::(Aw a l).map key↔k ∈ key a::l.map key
  rw [List.mem_cons,List.mem_cons]
  exact Cv l a k
theorem Cf {xs ys:List Val} (hs:Ca ys) (hp:ys.Perm xs):sameVs (A6 ys) (xs.foldl Vc [])=true:=by
 refine upV_same (compV_up hs) (putAll_up xs [] List.Pairwise.nil) (fun k=>?_)
 rw [Qjq,putAll_mem]
 have:=(hp.map key).mem_iff (a:=k)
 rw [this]
 simp
theorem Qjj {a b:List Val} (h:sameVs a b=true):a.length=b.length:=by
 have:=of_decide_eq_true h
 have:=congrArg List.length this
 simpa using this
open Go.Sort
section
variable {α β:Type} [Inhabited α] [Inhabited β] (f:α→β) (lt:β→β→Bool)
theorem Al (d:Array α) (i:Nat) (h:i<d.size):(d.map f)[i]! = f d[i]! := by
 rw [getElem!_pos (d.map f) i (by simpa using h),getElem!_pos d i h,Array.getElem_map]
theorem swp_map (d:Array α) (i j:Nat) (hi:i<d.size) (hj:j<d.size):(swp d i j).map f=swp (d.map f) i j:=by
 apply Array.ext
 ·simp [swp]
 intro k h1 h2
 have hk:k<d.size:=by simpa [swp] using h1
 have e1:=Al f (swp d i j) k (by rw [swp_size];exact hk)
 have e2:=swp_get d hi hj k
 have e3:=swp_get (d.map f) (i:=i) (j:=j) (by simpa using hi) (by simpa using hj) k
 rw [getElem!_pos _ k h1] at e1
 rw [getElem!_pos _ k h2] at e3
 rw [e1,e2,e3,Al f d i hi,Al f d j hj,Al f d k hk]
 split
 ·rfl
 split <;> rfl
theorem As (a:Nat):∀ (j:Nat) (d:Array α),j<d.size→(insInner (fun x y=>lt (f x) (f y)) a j d).map f=insInner lt a j (d.map f)
 | 0,d,_=>by unfold insInner;rfl
 | j+1,d,h=>by
  unfold insInner
  rw [Al f d (j+1) h,Al f d j (by omega)]
  split
  ·rw [As a j _ (by rw [swp_size];omega),swp_map f d _ _ h (by omega)]
  rfl
theorem Am (lt:α→α→Bool) (a:Nat):∀ (j:Nat) (d:Array α),(insInner lt a j d).size=d.size
 | 0,d=>by unfold insInner;rfl
 | j+1,d=>by
  unfold insInner
  split
  ·rw [Am lt a j,swp_size]
  rfl
theorem Ar (a b:Nat):∀ (n i:Nat) (d:Array α),b - i=n→b≤d.size→(insOuter (fun x y=>lt (f x) (f y)) a b i d).map f=insOuter lt a b i (d.map f)
 | 0,i,d,hn,hb=>by
  rw [insOuter,if_neg (by omega),insOuter,if_neg (by omega)]
 | n+1,i,d,hn,hb=>by
  rw [insOuter,if_pos (by omega),Ar a b n (i+1) _ (by omega) (by rw [Am];exact hb),As f lt a i d (by omega)]
  conv=>rhs;rw [insOuter,if_pos (show i<b by omega)]
theorem At (d:Array α) (a b:Nat) (hb:b≤d.size):(insertionSort (fun x y=>lt (f x) (f y)) d a b).map f=insertionSort lt (d.map f) a b:=by
 unfold insertionSort
 exact Ar f lt a b _ _ d rfl hb
end
def Qjk {T:Type} [Inhabited T] (cf:T→T→Int) (xs:List T):List T:=(insertionSort (ltOf cf) xs.toArray 0 xs.length).toList
theorem C9 (w:World) (q:Nat) (F cur:Array Value) (E:TypeId) (fz:Nat × Nat) (h:w.heap[q]?=some (.cells cur E fz)):(Sort.putRow id w q 0 F).heap[q]?=some (.cells (Sort.putCells id 0 F cur) E fz):=by
 unfold Sort.putRow Sort.mapBlock
 simp only [Array.getElem?_modify,if_true,h,Option.map_some,Sort.onCells]
section
variable {P:Program} {ρ:Ren} {T:Type} [Inhabited T]
theorem insGen (L:SlLaysF0.n20 P ρ) (r:Rd T) (hk0:0<r.k) (E:TypeId) (aE:∀ w,(isAgg (ρ.t 24)).run P w=.ok true w) (zE:∀ w,(Go.sizeOf (ρ.t 24)).run P w=.ok r.k w) (h1:∀ S w cs x,r.R S w cs x→∀ u ∈ cs,u.oneCell'=true)
  (cf:T→T→Int) (g:Nat) (eg:∀ args w,(callFunc g args).run P w=.ok (.enter g args) w) (S:Nat→Prop) (B:Nat) (w:World) (q cap:Nat) (xs:List T) (css:List (List Value)) (hO:Own r E S B w (.slice (some ⟨q,0,none⟩) xs.length cap) xs css)
  (hne:xs≠[]) (hc:CmpOn P g r (But S (.slice (some ⟨q,0,none⟩) xs.length cap)) cf) (hS:Sort.SWO (fun x y:T=>decide (cf x y<0))) (hl:xs.length≤1000000):
  Calls P (ρ.f 20) #[.slice (some ⟨q,0,none⟩) xs.length cap,.int .i64 (0:Nat),.int .i64 xs.length,.func (.func g) #[] #[]] w fun e w'=>e=.returned (.tuple #[])∧∃ ys css',ys=Qjk cf xs∧ys.Perm xs∧ys.Pairwise (fun a b=>0≤cf b a) ∧
   Own r E S B w' (.slice (some ⟨q,0,none⟩) xs.length cap) ys css'∧Below B w w'∧w.heap.size≤w'.heap.size∧∀ b,b<w.heap.size→b≠q→w'.heap[b]?=w.heap[b]?:=by
 obtain ⟨l,hll,hlat⟩:=F8 xs.length (fun i (e:El r (But S (.slice (some ⟨q,0,none⟩) xs.length cap)) w)=>css[i]?=some e.1.1∧xs[i]?=some e.1.2) (fun i hi=>by
  have h1:=Qx (l:=css) (i:=i) (by rw [hO.cs.len];exact hi)
  have h2:=Qx hi
  exact ⟨⟨(_,_),hO.cs.R i _ _ h1 h2⟩,h1,h2⟩)
 have hpos:0<xs.length:=List.length_pos_iff.2 hne
 haveI:Inhabited (El r (But S (.slice (some ⟨q,0,none⟩) xs.length cap)) w):=⟨l[0]'(by omega)⟩
 have hsz:l.toArray.size=xs.length:=by simpa using hll
 have hget:∀ i,i<xs.length→css[i]?=some (l.toArray[i]!).1.1∧xs[i]?=some (l.toArray[i]!).1.2:=by
  intro i hi
  refine hlat i _ ?_
  rw [Qx (by omega)]
  simp [hll,hi]
 have hq:=(hO.row.lt q rfl).2
 have hH:Sort.HoldsK (fun e:El r (But S (.slice (some ⟨q,0,none⟩) xs.length cap)) w=>e.1.1) r.k w q 0 l.toArray:=by
  intro j hj
  rw [Sort.size_flatK,hsz] at hj
  have hjk:j / r.k<xs.length:=Nat.div_lt_of_lt_mul (by rwa [Nat.mul_comm])
  have hg:=hget _ hjk
  refine ⟨?_,by rw [Nat.zero_add];exact hO.row.frozenAt j⟩
  rw [Nat.zero_add,hO.row.cellAt j hj]
  have hmod:j % r.k<(l.toArray[j / r.k]!).1.1.length:=by rw [r.len (l.toArray[j / r.k]!).2];exact Nat.mod_lt _ hk0
  have:=Yg hO.cs.all hg.1 (Qx hmod)
  rw [Nat.div_add_mod' j r.k] at this
  rw [this,Sort.get_flatK _ _ _ _ (by rw [hsz];exact hj),getElem!_pos ((l.toArray[j / r.k]!).1.1) (j % r.k) hmod]
  rfl
 have hcmp:CmpLays P g #[] (fun e:El r (But S (.slice (some ⟨q,0,none⟩) xs.length cap)) w=>e.1.1) r.k (fun x y=>cf x.1.2 y.1.2) q 0 l.toArray.size w:=by
  intro m os dk _ x y
  have hA:Vm (But S (.slice (some ⟨q,0,none⟩) xs.length cap)) w (sortWorldK (fun e:El r (But S (.slice (some ⟨q,0,none⟩) xs.length cap)) w=>e.1.1) r.k w q 0 m dk os):=fun b hb hlt=>Fa _ _ _ _ _ _ _ b hlt (fun e=>hb.2 (by rw [e];rfl))
  exact hc _ x.1.2 y.1.2 _ _ (r.frame x.2 hA) (r.frame y.2 hA)
 have hcon:=AnyQ.insertionSortCmpFunc (ρ:=ρ) L r.k aE zE (fun e:El r (But S (.slice (some ⟨q,0,none⟩) xs.length cap)) w=>e.1.1) (fun e=>r.len e.2) (fun e=>h1 _ _ _ _ e.2) (fun x y=>cf x.1.2 y.1.2) g #[] q 0 cap 0 xs.length l.toArray w eg hcmp hH hq (Q8 _) (by rw [hsz];exact Q9 _) (by rw [hsz];omega)
 rw [hsz] at hcon
 have hswo:Sort.SWO (ltOf fun (x y:El r (But S (.slice (some ⟨q,0,none⟩) xs.length cap)) w)=>cf x.1.2 y.1.2):=⟨fun x=>hS.irrefl _,fun x y z=>hS.trans _ _ _,fun x y z=>hS.ntrans _ _ _⟩
 obtain ⟨hperm,hsorted⟩:=Sort.insertionSort_holds hswo l.toArray 0 xs.length (Q8 _) (by rw [hsz];exact Q9 _)
 have hmap:=At (fun e:El r (But S (.slice (some ⟨q,0,none⟩) xs.length cap)) w=>e.1.2) (ltOf cf) l.toArray 0 xs.length (by rw [hsz];exact Q9 _)
 change (Sort.insertionSort (ltOf fun (x y:El r (But S (.slice (some ⟨q,0,none⟩) xs.length cap)) w)=>cf x.1.2 y.1.2) l.toArray 0 xs.length).map _=_ at hmap
 generalize Sort.insertionSort (ltOf fun (x y:El r (But S (.slice (some ⟨q,0,none⟩) xs.length cap)) w)=>cf x.1.2 y.1.2) l.toArray 0 xs.length=d at hcon hperm hsorted hmap
 have hdn:d.size=xs.length:=hperm.1.trans hsz
 have hpl:d.toList.Perm l:=by
  have:=hperm.2.2
  rwa [Array.extract_eq_self_of_le (by rw [hdn];exact Q9 _),Array.extract_eq_self_of_le (by rw [hsz];exact Q9 _)] at this
 have hlx:l.map (fun e=>e.1.2)=xs:=by
  apply List.ext_getElem?
  intro i
  by_cases hi:i<xs.length
  ·rw [(hget i hi).2,List.getElem?_map,Qx (by omega)]
   simp [hll,hi]
  rw [List.getElem?_eq_none (by rw [List.length_map];omega),List.getElem?_eq_none (by omega)]
 refine hcon.mono ?_
 rintro e w' ⟨rfl,m,os,rfl⟩
 have hdl:d.toList.length=xs.length:=by rw [Array.length_toList];exact hdn
 have hother:∀ b,b<w.heap.size→b≠q→(sortWorldK (fun e:El r (But S (.slice (some ⟨q,0,none⟩) xs.length cap)) w=>e.1.1) r.k w q 0 m d os).heap[b]?=w.heap[b]?:=fun b hb hne=>Fa _ _ _ _ _ _ _ b hb hne
 have hA:Vm (But S (.slice (some ⟨q,0,none⟩) xs.length cap)) w (sortWorldK (fun e:El r (But S (.slice (some ⟨q,0,none⟩) xs.length cap)) w=>e.1.1) r.k w q 0 m d os):=fun b hb hlt=>hother b hlt (fun e=>hb.2 (by rw [e];rfl))
 have hcs:Cs r (But S (.slice (some ⟨q,0,none⟩) xs.length cap)) (sortWorldK (fun e:El r (But S (.slice (some ⟨q,0,none⟩) xs.length cap)) w=>e.1.1) r.k w q 0 m d os) (d.toList.map fun e=>e.1.1) (d.toList.map fun e=>e.1.2):=by
  refine ⟨by simp,fun i c x hc hx=>?_⟩
  rw [List.getElem?_map] at hc hx
  cases hd:d.toList[i]? with
  | none=>rw [hd] at hc;cases hc
  | some e0=>
   rw [hd] at hc hx
   cases hc;cases hx
   exact r.frame e0.2 hA
 refine ⟨rfl,d.toList.map (fun e=>e.1.2),d.toList.map (fun e=>e.1.1),?_,hlx ▸ hpl.map _,?_,⟨?_,hcs⟩,?_,?_,hother⟩
 ·rw [← Array.toList_map,hmap]
  unfold Qjk
  rw [List.map_toArray,hlx]
 ·rw [List.pairwise_map,List.pairwise_iff_getElem]
  intro i j hi hj hij
  have hjn:j<xs.length:=by rw [← hdl];exact hj
  have:=hsorted i j (Q8 _) hij hjn
  rw [getElem!_pos d i (by omega),getElem!_pos d j (by omega)] at this
  simp only [ltOf,decide_eq_false_iff_not] at this
  simp only [Array.getElem_toList]
  omega
 ·rcases hO.row.2 with ⟨h,_⟩ | ⟨g',cap',cur,he,hB,hg,hcap,hmax,hcsz,ht⟩
  ·cases h
  simp only [Value.slice.injEq,Option.some.injEq,Addr.mk.injEq,and_true,true_and] at he
  obtain ⟨rfl,rfl⟩:=he
  have hflen:=hcs.flat
  rw [List.length_map,hdl] at hflen
  refine ⟨by rw [List.length_map,hdl];exact hflen,.inr ⟨q,cap,Sort.putCells id 0 (Sort.flatK (fun e:El r (But S (.slice (some ⟨q,0,none⟩) xs.length cap)) w=>e.1.1) r.k d) cur,by rw [List.length_map,hdl],hB,?_,by rw [List.length_map,hdl];exact hcap,hmax,?_,?_⟩⟩
  ·unfold sortWorldK Sort.putRowK Sort.grow
   rw [Array.getElem?_append_left (by unfold Sort.putRow Sort.mapBlock Sort.ahead;simpa using hq)]
   exact C9 _ _ _ _ _ _ hg
  ·rw [show (Sort.putCells id 0 (Sort.flatK (fun e:El r (But S (.slice (some ⟨q,0,none⟩) xs.length cap)) w=>e.1.1) r.k d) cur).size=cur.size by simp [Sort.putCells]]
   exact hcsz
  rw [List.length_map,hdl]
  have hle:xs.length*r.k≤cur.size:=by rw [hcsz];exact Nat.mul_le_mul_right _ hcap
  apply List.ext_getElem?
  intro j
  by_cases hj:j<xs.length*r.k
  ·rw [List.getElem?_take_of_lt hj,Array.getElem?_toList,Sort.putCells,Array.getElem?_mapIdx,Array.getElem?_eq_getElem (by omega)]
   have hjk:j / r.k<xs.length:=Nat.div_lt_of_lt_mul (by rwa [Nat.mul_comm])
   have hmod:j % r.k<(d[j / r.k]!).1.1.length:=by rw [r.len (d[j / r.k]!).2];exact Nat.mod_lt _ hk0
   have hci:(d.toList.map fun e=>e.1.1)[j / r.k]?=some (d[j / r.k]!).1.1:=by
    rw [List.getElem?_map,Array.getElem?_toList,Array.getElem?_eq_getElem (by omega),getElem!_pos d _ (by omega)]
    rfl
   have:=Yg hcs.all hci (Qx hmod)
   rw [Nat.div_add_mod' j r.k] at this
   rw [this]
   simp only [Option.map_some,Q8,true_and,Nat.zero_add,Sort.size_flatK,hdn,hj,if_true,id,Nat.sub_zero,Option.some.injEq]
   rw [Sort.get_flatK _ _ _ _ (by rw [hdn];exact hj),getElem!_pos ((d[j / r.k]!).1.1) (j % r.k) hmod]
  rw [List.getElem?_eq_none (by rw [List.length_take];omega),List.getElem?_eq_none (by rw [hflen];omega)]
 ·have hBq:=(hO.row.lt q rfl).1
  refine ⟨rfl,rfl,rfl,?_,fun b hb=>hother b (by omega) (by omega)⟩
  unfold sortWorldK Sort.putRowK Sort.putRow Sort.mapBlock Sort.grow Sort.ahead
  simp
 unfold sortWorldK Sort.putRowK Sort.putRow Sort.mapBlock Sort.grow Sort.ahead
 simp
end
theorem swoV:Sort.SWO (fun x y:Val=>decide (Z1 x y<0)):=by
 refine ⟨fun x=>?_,fun x y z h1 h2=>?_,fun x y z h1 h2=>?_⟩
 ·rw [Kp,lex_self];rfl
 ·simp only [decide_eq_true_eq] at *
  rw [Kp] at *
  exact Ev h1 h2
 simp only [decide_eq_false_iff_not] at *
 have a1:Z1 y x≤0:=by rw [Kp,Jd,← Kp];omega
 have a2:Z1 z y≤0:=by rw [Kp,Jd,← Kp];omega
 have a3:=Cd a2 a1
 have:Z1 x z=- Z1 z x:=by rw [Kp,Jd,← Kp]
 omega
instance:Inhabited Val:=⟨Val.zero⟩
def A9 (xs:List Val):List Val:=Qjk Z1 xs
def C1 (S:Nat→Prop) (B:Nat) (w:World) (v:Value) (q:Nat) (xs:List Val) (e:Ending) (w':World):Prop:=
 e=.returned (.tuple #[])∧∃ ys css',ys=A9 xs∧ys.Perm xs∧Ca ys∧Own Ql 44 S B w' v ys css'∧Below B w w'∧w.heap.size≤w'.heap.size∧∀ b,b<w.heap.size→b≠q→w'.heap[b]?=w.heap[b]?
theorem insV (S:Nat→Prop) (B:Nat) (w:World) (q cap:Nat) (xs:List Val) (css:List (List Value)) (hO:Own Ql 44 S B w (.slice (some ⟨q,0,none⟩) xs.length cap) xs css) (hne:xs≠[]) (hl:xs.length≤1000000):
  Calls prog 173 #[.slice (some ⟨q,0,none⟩) xs.length cap,.int .i64 0,.int .i64 xs.length,.func (.func 108) #[] #[]] w (C1 S B w (.slice (some ⟨q,0,none⟩) xs.length cap) q xs):=by
 refine (insGen Tryz.insVal Ql (by decide) 44 isAgg44 sizeOf44 Zu Z1 108 (enters_of func108 (by kernel_rfl) rfl) S B w q cap xs css hO hne (fun W x y cx cy hx hy=>R7 _ x y cx cy W hx hy) swoV hl).mono ?_
 rintro e w' ⟨rfl,ys,css',hy,hp,hs,h⟩
 refine ⟨rfl,ys,css',hy,hp,hs.imp (fun {a b} h=>?_),h⟩
 rw [Kp,Jd,← Kp];omega
theorem stableV (S:Nat→Prop) (B:Nat) (w:World) (q cap:Nat) (xs:List Val) (css:List (List Value)) (hO:Own Ql 44 S B w (.slice (some ⟨q,0,none⟩) xs.length cap) xs css) (hne:xs≠[]) (hl:xs.length≤19):
  Calls prog 107 #[.slice (some ⟨q,0,none⟩) xs.length cap,.func (.func 108) #[] #[]] w (C1 S B w (.slice (some ⟨q,0,none⟩) xs.length cap) q xs):=by
 have HI:=Qq (insV S B w q cap xs css hO hne (by omega))
 clear hO hne
 generalize hR:C1 S B w (.slice (some ⟨q,0,none⟩) xs.length cap) q xs=R at HI ⊢
 have hR':∀ e w',R e w'→e=.returned (.tuple #[]):=by rw [← hR];rintro e w' ⟨h,_⟩;exact h
 clear hR
 generalize xs.length=n at HI hl ⊢
 have HR:=Qq hR'
 clear hR'
 have c1:¬ (20:Int)≤(n:Int):=by omega
 have c2:¬ (20:Int)<(n:Int):=by omega
 have hSt:Calls prog 135 #[.slice (some ⟨q,0,none⟩) n cap,.int .i64 n,.func (.func 108) #[] #[]] w R:=by
  go_enter func135,ntmps135
  go_wp2_with fail
  go_loopw [7,8] (fun a b wr=>a=.int .i64 0∧b=.int .i64 20∧wr=w) (fun _ _ _=>0)
  case atStart=>exact ⟨rfl,rfl,rfl⟩
  obtain ⟨rfl,rfl,hw⟩:=hrel
  subst hw
  go_wp2_with (go_at_call 173;refine HI.out.mono ?_;intro e w1 hw1;obtain rfl:=HR.out _ _ hw1)
  have HW1:=Qq hw1
  clear hw1
  go_loopw [6] (fun s wr=>s=.int .i64 20∧wr=w1) (fun _ _=>0)
  case atStart=>exact ⟨rfl,rfl⟩
  obtain ⟨rfl,hw⟩:=hrel
  subst hw
  go_wp2_with fail
  go_end0
  exact HW1.out
 have HS:=Qq hSt
 clear hSt
 go_enter func107,ntmps107
 go_wp2_with (go_at_call 135;refine HS.out.mono ?_;intro e w' hw;obtain rfl:=HR.out _ _ hw)
 go_end0
 exact hw
theorem Own.wide {T:Type} {r:Rd T} {E:TypeId} {S S':Nat→Prop} {B:Nat} {w:World} {v:Value} {xs:List T} {css:List (List Value)} (h:Own r E S B w v xs css) (hS:∀ b,b<w.heap.size→S b→S' b):Own r E S' B w v xs css:=
 ⟨h.row,h.cs.move (.refl _ _) (fun b hb h=>⟨hS b hb h.1,h.2⟩)⟩
def CloneOwn (k n:Int) (s:Bs) (ns:List Bs) (ks:List Val) (w:World) (e:Ending) (w':World):Prop:=
 ∃ np ncap kp kcap css,e=.returned (.agg #[.int .i64 k,.int .i64 n,.string ⟨s.toArray⟩,.slice np ns.length ncap,.slice kp ks.length kcap])∧Own Ql 44 (fun b=>w.heap.size≤b) w.heap.size w' (.slice kp ks.length kcap) ks css∧Below w.heap.size w w'
theorem cloneOwn (k n:Int) (s:Bs) (ns:List Bs) (ks:List Val) (S0:Nat→Prop) (cs:List Value) (w:World) (hx0:Qh S0 w cs (.mk k n s ns ks)):Calls prog 75 #[.agg cs.toArray] w (CloneOwn k n s ns ks w):=by
 have ih:∀ x ∈ ks,Hl x:=fun x _=>P0 x
 have hx:Qh (fun b=>b<w.heap.size) w cs (.mk k n s ns ks):=hx0.move (.refl _ _) (fun b hb _=>hb)
 clear hx0
 obtain ⟨nv,kv,rfl,hs,hn,hk⟩:=Vt.1 hx
 have hln:ns.length≤1000000:=by obtain ⟨_,_,_,h⟩:=hn.len;exact h
 have hlk:ks.length≤1000000:=by obtain ⟨_,_,_,h⟩:=hk.len;exact h
 have HN:=Qq hn;have HK:=Qq hk;have HI:=Qq ih
 clear hx hn hk ih
 unfold sv
 go_enter func75,ntmps75
 go_upto_region 1 with fail
 go_cut [12] (fun _ wx=>∃ np ncap kp kcap kcs,J6 w k n s ns ks np ncap kp kcap kcs 0 wx∧Cs Ql (fun b=>b<w.heap.size) w kcs ks)
 case first=>
  go_region_with (first | (go_at_call 79;refine (Mz _ nv ns _ (HN.out.below (by first | exact (Zv _ _ _).drew | exact (Zv _ _ _).drew.thn HB1.out | exact (Zv _ _ _).drew.thn HB2.out))).mono ?_;rintro e w1 ⟨np,ncap,ncs,rfl,ho1,hb1⟩;obtain ⟨hc1,hf1⟩:=Ma hb1;have hz1:=hb1.size;have HB1:=Qq hb1;have HO1:=Qq ho1;clear hb1 ho1;(try simp at hz1);have hg1:w.heap.size<w1.heap.size:=(by omega);have hk1:w.heap.size+1<w1.heap.size:=(by omega);have c13:w1.cell? ⟨w.heap.size,3,none⟩=some nv:=(by first | (rw [hc1 _ _ (by simp;omega)];simp) | (rw [hc1 _ _ (by assumption)];assumption));have f13:w1.frozen? ⟨w.heap.size,3,none⟩=false:=(by first | (rw [hf1 _ _ (by simp;omega)];simp) | (rw [hf1 _ _ (by assumption)];assumption));have c14:w1.cell? ⟨w.heap.size,4,none⟩=some kv:=(by first | (rw [hc1 _ _ (by simp;omega)];simp) | (rw [hc1 _ _ (by assumption)];assumption));have f14:w1.frozen? ⟨w.heap.size,4,none⟩=false:=(by first | (rw [hf1 _ _ (by simp;omega)];simp) | (rw [hf1 _ _ (by assumption)];assumption));clear hc1 hf1) | (go_at_call 52;refine (Gb _ kv ks _ (HK.out.below (by first | exact (Zv _ _ _).drew | exact (Zv _ _ _).drew.thn HB1.out | exact (Zv _ _ _).drew.thn HB2.out))).mono ?_;rintro e w2 ⟨kp,kcap,kcs,rfl,ho2,hb2⟩;obtain ⟨hc2,hf2⟩:=Ma hb2;have hz2:=hb2.size;have HB2:=Qq hb2;have HO2:=Qq ho2;clear hb2 ho2;(try simp only [World.size_drew,World.size_alloc] at hz2);have hg2:w.heap.size<w2.heap.size:=(by omega);have hk2:w.heap.size+1<w2.heap.size:=(by omega);have c23:w2.cell? ⟨w.heap.size,3,none⟩=some nv:=(by first | (rw [hc2 _ _ (by simp;omega)];simp) | (rw [hc2 _ _ (by assumption)];assumption));have f23:w2.frozen? ⟨w.heap.size,3,none⟩=false:=(by first | (rw [hf2 _ _ (by simp;omega)];simp) | (rw [hf2 _ _ (by assumption)];assumption));have c24:w2.cell? ⟨w.heap.size,4,none⟩=some kv:=(by first | (rw [hc2 _ _ (by simp;omega)];simp) | (rw [hc2 _ _ (by assumption)];assumption));have f24:w2.frozen? ⟨w.heap.size,4,none⟩=false:=(by first | (rw [hf2 _ _ (by simp;omega)];simp) | (rw [hf2 _ _ (by assumption)];assumption));clear hc2 hf2))
  all_goals
   go_wp2_with fail
   go_meet
   have b1:=HB1.out
   have b2:=HB2.out
   have hG1:=b1.block w.heap.size (by simp;omega)
   have hG1':=b1.block (w.heap.size+1) (by simp)
   rw [heap_drew,Q5] at hG1
   rw [heap_drew,Q6] at hG1'
   have hG2:=kE b2 hg1 hG1
   have hG2':=kE b2 hk1 hG1'
   have hbw:Below w.heap.size w w2:=(Zv _ _ _).drew.thn (b1.thn b2)
   refine ⟨np,ncap,kp,kcap,kcs,⟨(hbw.setCell (p:=⟨w.heap.size,3,none⟩) (Q9 _) _).setCell (p:=⟨w.heap.size,4,none⟩) (Q9 _) _,?_,?_,?_,⟨[],rfl,?_,⟨rfl,fun i c x hc=>by simp at hc⟩⟩⟩,?_⟩
   ·exact heap_setCell_same _ _ _ _ _ _ (heap_setCell_same _ _ _ _ _ _ hG2)
   ·rw [Qg (by simp),Qg (by simp)];exact hG2'
   ·refine ((sl_str HO1.out hln (by simp)).mono (S':=fun b=>w.heap.size+2≤b∧some b≠(Value.slice kp ks.length kcap).ownBlock) (fun b hb h=>⟨h,fun e=>?_⟩)).frame (fun b hb hlt=>?_)
    ·have:=(HO2.out.row.lt b e.symm).1
     omega
    rw [Qg (by show b≠w.heap.size;omega),Qg (by show b≠w.heap.size;omega)]
    exact b2.block b hlt
   ·refine X7 HO2.out.row (by omega) (fun b hb hlt=>?_)
    rw [Qg (by show b≠w.heap.size;omega),Qg (by show b≠w.heap.size;omega)]
   exact (HO2.out.cs.move (S':=fun b=>b<w.heap.size) (.refl _ _) (fun b _ h=>h.1)).move (fun b hb _=>(hbw.block b hb).symm) (fun b _ h=>h)
 obtain ⟨np,ncap,kp,kcap,kcs,hM,hCs⟩:=hcut
 have HC:=Qq hCs;have HM:=Qq hM
 obtain ⟨c0,c1,c2,c3,c4⟩:=row5 hM.box
 clear hCs hM
 go_wp2_with fail
 go_loopw [16] (fun i wr=>∃ kk:Nat,kk≤ks.length∧i=.int .i64 kk∧J6 w k n s ns ks np ncap kp kcap kcs kk wr) (fun i _=>ks.length - (intOf i).toNat)
 case atStart=>exact ⟨0,Q8 _,rfl,HM.out⟩
 obtain ⟨kk,hkk,rfl,hM⟩:=hrel
 have c0:=Qk _ _ 0 _ _ _ hM.box;have c1:=Qk _ _ 1 _ _ _ hM.box;have c2:=Qk _ _ 2 _ _ _ hM.box;have c3:=Qk _ _ 3 _ _ _ hM.box;have c4:=Qk _ _ 4 _ _ _ hM.box
 have r0:=Qk _ _ 0 _ _ _ hM.res;have r1:=Qk _ _ 1 _ _ _ hM.res;have r2:=Qk _ _ 2 _ _ _ hM.res;have r3:=Qk _ _ 3 _ _ _ hM.res;have r4:=Qk _ _ 4 _ _ _ hM.res
 have fr:=fun j=>frozen_of_row _ _ j _ _ hM.res
 have hlt1:=(Array.getElem?_eq_some_iff.1 hM.res).1
 simp only [List.getElem?_toArray,List.getElem?_cons_zero,List.getElem?_cons_succ] at c0 c1 c2 c3 c4 r0 r1 r2 r3 r4
 have HM1:=Qq hM
 by_cases hlt:kk<ks.length
 ·obtain ⟨x,hx⟩:∃ x,ks[kk]?=some x:=⟨_,Qx hlt⟩
  obtain ⟨news,hnl,hrow,hnews⟩:=hM.kids
  obtain ⟨g,cap,hkp,hgB,hgs⟩:=hrow.form (by omega)
  simp only [Value.slice.injEq] at hkp
  obtain ⟨rfl,-,rfl⟩:=hkp
  obtain ⟨oc,hoc⟩:∃ oc,kcs[kk]?=some oc:=⟨_,Qx (by rw [HC.out.len];exact hlt)⟩
  have hvx:=HC.out.R kk oc x hoc hx
  obtain ⟨p3,k3,p4,k4,rfl,_⟩:=Qh.cells (show Qh _ w oc x from hvx)
  have hall:∀ y ∈ news++kcs.drop kk,y.length=5:=by
   intro y hy
   rcases List.mem_append.1 hy with h | h
   ·exact hnews.all y h
   exact HC.out.all y (List.mem_of_mem_drop h)
  have hat:(news++kcs.drop kk)[kk]?=some (vcs x p3 k3 p4 k4):=by
   rw [List.getElem?_append_right (by omega),List.getElem?_drop,hnl,Nat.sub_self,Nat.add_zero];exact hoc
  have hcell:∀ (j:Nat) u,(vcs x p3 k3 p4 k4)[j]?=some u→wr.cell? ⟨g,kk*5+j,none⟩=some u:=by
   intro j u hu
   have h5:j<5:=(Qj hu).1
   rw [hrow.cellAt _ (by omega)]
   exact Yg hall hat hu
  have d0:=hcell 0 _ rfl;have d1:=hcell 1 _ rfl;have d2:=hcell 2 _ rfl;have d3:=hcell 3 _ rfl;have d4:=hcell 4 _ rfl
  rw [Nat.add_zero] at d0
  have fz:=fun j=>hrow.frozenAt j
  have hi1:(0:Int)≤(kk:Int):=by omega
  have hi2:(kk:Int)<(ks.length:Int):=by omega
  have hne1:w.heap.size≠wr.heap.size:=by omega
  have hne2:w.heap.size+1≠wr.heap.size:=by omega
  have hne3:g≠wr.heap.size:=by omega
  have HX:=Qq hx;have HV:=Qq hvx;have HA:=Qq hall;have HAt:=Qq hat;have HR:=Qq hrow;have HN2:=Qq hnews;have HL:=Qq hnl;have HFz:=Qq fz;have HFr:=Qq fr
  clear hx hvx hall hat hrow hnews hnl hcell hoc hM fz fr r0 r1 r2 r3 r4 c0 c1 c2 c3
  go_upto_region 5 with fail
  obtain ⟨W5,hW5⟩:=eX (wr.alloc (.cells #[.int .i64 x.kind,.int .i64 x.n,.string ⟨x.s.toArray⟩,.slice p3 x.names.length k3,.slice p4 x.kids.length k4] 44))
  have hb5:=eqB hW5 (Qn _ _)
  have hx5:=eqH (b:=wr.heap.size) hW5 (Qw _ _)
  rw [hW5]
  obtain ⟨x0,x1,x2,x3,x4⟩:=row5 hx5
  have c5:=(hb5.cell (p:=⟨w.heap.size,4,none⟩) (show w.heap.size<wr.heap.size by omega)).trans c4
  have HB5:=Qq hb5
  have c4':=c4
  clear hW5 hb5 hx5 c4
  go_region_with (first | (go_at_call 75;refine (HI.out x (Qy HX.out) _ (vcs x p3 k3 p4 k4) _ (Qh.move HV.out (.of_below (HM1.out.below.thn HB5.out.drew)) (fun _ _ h=>h))).mono ?_;rintro e w4 ⟨cs',rfl,hv4,hb4⟩;obtain ⟨q3,l3,q4,l4,hcs,_⟩:=Qh.cells hv4;simp only [vcs] at hcs;subst hcs;have HB4:=Qq (HB5.out.drew.thn hb4);have HV4:=Qq hv4;clear hv4 hb4;have e4:=(HB4.out.cell (p:=⟨w.heap.size,4,none⟩) (show w.heap.size<wr.heap.size by omega)).trans c4';have g0:=(HB4.out.cell (p:=⟨g,kk*5,none⟩) hgs).trans d0;have g1:=(HB4.out.cell (p:=⟨g,kk*5+1,none⟩) hgs).trans d1;have g2:=(HB4.out.cell (p:=⟨g,kk*5+2,none⟩) hgs).trans d2;have g3:=(HB4.out.cell (p:=⟨g,kk*5+3,none⟩) hgs).trans d3;have g4:=(HB4.out.cell (p:=⟨g,kk*5+4,none⟩) hgs).trans d4;have f0:=(HB4.out.frozen (p:=⟨g,kk*5,none⟩) hgs).trans (HFz.out (kk*5));have f1:=(HB4.out.frozen (p:=⟨g,kk*5+1,none⟩) hgs).trans (HFz.out (kk*5+1));have f2:=(HB4.out.frozen (p:=⟨g,kk*5+2,none⟩) hgs).trans (HFz.out (kk*5+2));have f3:=(HB4.out.frozen (p:=⟨g,kk*5+3,none⟩) hgs).trans (HFz.out (kk*5+3));have f4:=(HB4.out.frozen (p:=⟨g,kk*5+4,none⟩) hgs).trans (HFz.out (kk*5+4))))
  all_goals
   go_wp2_with fail
   go_roundw
   case measure=>simp [intOf];omega
   case rel=>exact ⟨kk+1,by omega,by go_num,HM1.out.next HX.out HC.out HB4.out (HB5.out.size) HV4.out⟩
 obtain rfl:kk=ks.length:=by omega
 have fz0:=fr 0;have fz1:=fr 1;have fz2:=fr 2;have fz3:=fr 3;have fz4:=fr 4
 clear fr
 go_wp2_with fail
 have hWF:=heap_setCell_same _ _ 4 _ _ (.slice kp ks.length kcap) (heap_setCell_same _ _ 3 _ _ (.slice np ns.length ncap) (heap_setCell_same _ _ 2 _ _ (.string ⟨s.toArray⟩) (heap_setCell_same _ _ 1 _ _ (.int .i64 n) (heap_setCell_same _ _ 0 _ _ (.int .i64 k) HM1.out.res))))
 have q0:=Qk _ _ 0 _ _ _ hWF;have q1:=Qk _ _ 1 _ _ _ hWF;have q2:=Qk _ _ 2 _ _ _ hWF;have q3:=Qk _ _ 3 _ _ _ hWF;have q4:=Qk _ _ 4 _ _ _ hWF
 simp only [List.setIfInBounds_toArray,List.set_cons_zero,List.set_cons_succ,List.getElem?_toArray,List.getElem?_cons_zero,List.getElem?_cons_succ] at q0 q1 q2 q3 q4
 obtain ⟨news,hnl,hrow,hnews⟩:=HM1.out.kids
 rw [List.drop_eq_nil_of_le (by rw [HC.out.len];exact Q9 _),List.append_nil] at hrow
 rw [List.take_of_length_le (Q9 _)] at hnews
 have HOw:Hid (Own Ql 44 (fun b=>w.heap.size+2≤b) (w.heap.size+2) wr (.slice kp ks.length kcap) ks news):=Qq ⟨hrow,hnews⟩
 clear hnl hrow hnews
 obtain ⟨WF,hWF'⟩:=eX ((((((wr.setCell ⟨w.heap.size+1,0,none⟩ (.int .i64 k)).setCell ⟨w.heap.size+1,1,none⟩ (.int .i64 n)).setCell ⟨w.heap.size+1,2,none⟩ (.string ⟨s.toArray⟩)).setCell ⟨w.heap.size+1,3,none⟩ (.slice np ns.length ncap)).setCell ⟨w.heap.size+1,4,none⟩ (.slice kp ks.length kcap)))
 rw [hWF'] at q0 q1 q2 q3 q4 ⊢
 have HWF:=Qq hWF'
 clear hWF hWF' c0 c1 c2 c3 c4 r0 r1 r2 r3 r4 fz0 fz1 fz2 fz3 fz4
 refine Q7 (v:=.agg #[.int .i64 k,.int .i64 n,.string ⟨s.toArray⟩,.slice np ns.length ncap,.slice kp ks.length kcap]) (by simp [results,results75,go_sem,q0,q1,q2,q3,q4]) rfl ⟨np,ncap,kp,kcap,news,rfl,?_,?_⟩
 all_goals rw [← HWF.out]
 ·refine HOw.out.move (by omega) (fun b hb h=>?_) |>.wide (fun b _ h=>?_)
  ·exact Yp (by
    rcases h with h | h
    ·have:w.heap.size+2≤b:=h
     omega
    have:=(HOw.out.row.lt b h).1
    omega)
  have:w.heap.size+2≤b:=h
  show w.heap.size≤b
  omega
 exact ((((HM1.out.below.setCell (p:=⟨w.heap.size+1,0,none⟩) (Nat.le_succ _) _).setCell (p:=⟨w.heap.size+1,1,none⟩) (Nat.le_succ _) _).setCell (p:=⟨w.heap.size+1,2,none⟩) (Nat.le_succ _) _).setCell (p:=⟨w.heap.size+1,3,none⟩) (Nat.le_succ _) _).setCell (p:=⟨w.heap.size+1,4,none⟩) (Nat.le_succ _) _
def SortIs (w:World) (xs:List Val) (e:Ending) (w':World):Prop:=
 ∃ ys p cap css,e=.returned (.slice p xs.length cap)∧ys=A9 xs∧ys.Perm xs∧Ca ys∧Own Ql 44 (fun b=>w.heap.size≤b) w.heap.size w' (.slice p xs.length cap) ys css∧Below w.heap.size w w'
theorem Qjx (S:Nat→Prop) (v:Value) (xs:List Val) (w:World) (hV:Sl Ql S w v xs) (hl19:xs.length≤19):
  Calls prog 65 #[v] w (SortIs w xs):=by
 obtain ⟨p,cap,rfl,hl⟩:=hV.len
 have HC:Hid (Calls prog 75 #[.agg #[.int .i64 0,.int .i64 0,.string ⟨#[]⟩,.slice none 0 0,.slice p xs.length cap]] w fun e w'=>∃ p3 k3 p4 k4 css,e=.returned (.agg #[.int .i64 0,.int .i64 0,.string ⟨#[]⟩,.slice p3 0 k3,.slice p4 xs.length k4])∧Own Ql 44 (fun b=>w.heap.size≤b) w.heap.size w' (.slice p4 xs.length k4) xs css∧Below w.heap.size w w'):=Qq (cloneOwn 0 0 [] [] xs S [.int .i64 0,.int .i64 0,.string ⟨#[]⟩,.slice none 0 0,.slice p xs.length cap] w (Zn (s:=[]) (by simp) (Sl.nil _ _ _) hV))
 have HS:Hid (∀ (q:Option Addr) (c:Nat) (css:List (List Value)) (W:World),Own Ql 44 (fun b=>w.heap.size≤b) w.heap.size W (.slice q xs.length c) xs css→Below w.heap.size w W →
   Calls prog 107 #[.slice q xs.length c,.func (.func 108) #[] #[]] W fun e W'=>e=.returned (.tuple #[])∧∃ ys css',ys=A9 xs∧ys.Perm xs∧Ca ys∧Own Ql 44 (fun b=>w.heap.size≤b) w.heap.size W' (.slice q xs.length c) ys css'∧Below w.heap.size w W'):=Qq (by
  intro q c css W hO hB
  by_cases hne:xs=[]
  ·subst hne
   refine (sortStableVal (fun _=>True) q c [] W (hO.sl' (by simp) (fun _ _=>trivial) (fun _ _ _=>trivial)) (fun i j x y _ h=>by simp at h)).mono ?_
   rintro e W' ⟨rfl,hg⟩
   exact ⟨rfl,[],css,by simp [A9,Qjk,Sort.insertionSort,insOuter_stop],.refl _,List.Pairwise.nil,hO.below hg.bl,hB.thn hg.bl⟩
  obtain ⟨g,rfl⟩:∃ g,q=some ⟨g,0,none⟩:=by
   rcases hO.row.2 with ⟨h,h0⟩ | ⟨g,c',cur,h,_⟩
   ·exact absurd (List.eq_nil_of_length_eq_zero h0) hne
   simp only [Value.slice.injEq] at h
   exact ⟨g,h.1⟩
  refine (stableV _ _ W g c xs css hO hne hl19).mono ?_
  rintro e W' ⟨rfl,ys,css',hy,hp,hs,ho,hb,_⟩
  exact ⟨rfl,ys,css',hy,hp,hs,ho,hB.trans hb⟩)
 clear hV
 generalize hR:SortIs w xs=R
 generalize hn:xs.length=n at HC HS hl hl19 ⊢
 have HN:=Qq hn
 clear hn
 go_enter func65,ntmps65
 go_upto_region 1 with fail
 go_wp2_with fail
 refine HC.out.mono ?_
 rintro e w1 ⟨p3,k3,p4,k4,css,rfl,hO1,hb1⟩
 have HO:=Qq hO1;have HB1:=Qq hb1
 have hfd:=fun W=>field4 (.int .i64 0) (.int .i64 0) (.string ⟨#[]⟩) (.slice p3 0 k3) (.slice p4 n k4) W
 clear hO1 hb1
 go_wp2_with (go_at_call 107;refine (HS.out p4 k4 _ _ HO.out HB1.out).mono ?_;rintro e w2 ⟨rfl,hg⟩)
 show R (.returned (.slice p4 n k4)) w2
 obtain ⟨ys,css',h0,h1,h2,h3,h4⟩:=hg
 rw [← hR]
 exact ⟨ys,p4,k4,css',by rw [HN.out],h0,h1,h2,by rw [HN.out];exact h3,h4⟩
def flg:Val→List Val→List Bool
 | _,[]=>[]
 | a,b::l=>eqv b a::flg b l
def Ag:List Val→List Bool
 | []=>[]
 | a::l=>false::flg a l
theorem Qjv:∀ (a:Val) (l:List Val),(flg a l).length=l.length
 | _,[]=>rfl
 | _,b::l=>by unfold flg;rw [List.length_cons,List.length_cons,Qjv b l]
theorem Qjb (l:List Val):(Ag l).length=l.length:=by
 cases l with
 | nil=>rfl
 | cons a l=>unfold Ag;rw [List.length_cons,List.length_cons,Qjv]
theorem Qjz:∀ (l:List Val) (a x y:Val) (k:Nat),(a::l)[k]?=some x→l[k]?=some y→(flg a l)[k]?=some (eqv y x)
 | [],_,_,_,_,_,h=>by simp at h
 | b::l,a,x,y,0,hx,hy=>by
  simp at hx hy
  subst hx;subst hy
  rfl
 | b::l,a,x,y,k+1,hx,hy=>by
  unfold flg
  rw [List.getElem?_cons_succ] at hx hy ⊢
  exact Qjz l b x y k hx hy
theorem C6 {l:List Val} {x y:Val} {j:Nat} (hx:l[j]?=some x) (hy:l[j+1]?=some y):(Ag l)[j+1]?=some (eqv y x):=by
 cases l with
 | nil=>simp at hx
 | cons a l=>
  show (flg a l)[j]?=_
  exact Qjz l a x y j hx (by rwa [List.getElem?_cons_succ] at hy)
theorem Cr {l:List Val} (h:0<l.length):(Ag l)[0]?=some false:=by
 cases l with
 | nil=>simp at h
 | cons a l=>rfl
def A5 {α:Type} (fl:List Bool) (l:List α) (k:Nat):List α:=(((l.zip fl).take k).filter (fun q=>!q.2)).map (·.1)
theorem Ad {α:Type} {fl:List Bool} {l:List α} {k:Nat} {b:Bool} {c:α} (hc:l[k]?=some c) (hb:fl[k]?=some b):A5 fl l (k+1)=A5 fl l k++(if b then [] else [c]):=by
 have hz:(l.zip fl)[k]?=some (c,b):=by rw [List.getElem?_zip_eq_some];exact ⟨hc,hb⟩
 have ht:(l.zip fl).take (k+1)=(l.zip fl).take k++[(c,b)]:=by rw [List.take_add_one,hz];rfl
 unfold A5
 rw [ht,List.filter_append,List.map_append]
 congr 1
 cases b <;> simp
theorem Cj {α:Type} {fl:List Bool} {l:List α}:∀ (k:Nat),k≤l.length→(∀ j,j<k→fl[j]?=some false)→A5 fl l k=l.take k
 | 0,_,_=>by simp [A5]
 | k+1,hk,h=>by
  have hc:=Qx (l:=l) (i:=k) (by omega)
  rw [Ad hc (h k (by omega)),Cj k (by omega) (fun j hj=>h j (by omega)),List.take_add_one,hc];rfl
theorem Qjc {fl:List Bool} {css:List (List Value)} {xs:List Val} {S:Nat→Prop} {w:World} (hf:fl.length=xs.length) (h:Cs Ql S w css xs) (k:Nat):Cs Ql S w (A5 fl css k) (A5 fl xs k):=by
 induction k with
 | zero=>exact ⟨by simp [A5],fun i c x hc _=>by simp [A5] at hc⟩
 | succ k ih=>
  by_cases hk:k<xs.length
  ·have hx:=Qx hk
   have hc:=Qx (l:=css) (i:=k) (by rw [h.len];exact hk)
   have hb:=Qx (l:=fl) (i:=k) (by rw [hf];exact hk)
   rw [Ad hc hb,Ad hx hb]
   refine ih.app ?_
   cases fl[k]'(by rw [hf];exact hk)
   ·simp;exact Cs.one (h.R k _ _ hc hx)
   simp;exact Cs.nil _ _ _
  have e1:A5 fl css (k+1)=A5 fl css k:=by unfold A5;rw [List.take_of_length_le (by simp [h.len,hf];omega),List.take_of_length_le (by simp [h.len,hf];omega)]
  have e2:A5 fl xs (k+1)=A5 fl xs k:=by unfold A5;rw [List.take_of_length_le (by simp [hf];omega),List.take_of_length_le (by simp [hf];omega)]
  rw [e1,e2]
  exact ih
theorem Cx:∀ (l:List Val) (a:Val),((l.zip (flg a l)).filter (fun q=>!q.2)).map (·.1)=Aw a l
 | [],_=>rfl
 | b::l,a=>by
  unfold flg Aw
  rw [List.zip_cons_cons,List.filter_cons,← Cx l b]
  cases eqv b a <;> simp
theorem Cw (xs:List Val):A5 (Ag xs) xs xs.length=A6 xs:=by
 unfold A5
 rw [List.take_of_length_le (by rw [List.length_zip];exact Nat.min_le_left _ _)]
 cases xs with
 | nil=>rfl
 | cons a l=>
  show (((a::l).zip (false::flg a l)).filter (fun q=>!q.2)).map (·.1)=a::Aw a l
  rw [List.zip_cons_cons,List.filter_cons,← Cx l a];simp
theorem Ce {xs:List Val} (h:xs.length<2):A6 xs=xs:=by
 match xs,h with
 | [],_=>rfl
 | [a],_=>rfl
theorem U4.put2 {w wr:World} {g n cap k:Nat} {css F:List (List Value)} {c:List Value} (h:U4 w g n cap css F k wr) (hc:c.length=5) (h1:∀ v ∈ c,v.oneCell'=true) (hF:F.length<k) (hk:k≤n) (hn:n≤cap):U4 w g n cap css (F++[c]) k (wr.setCells g (F.length*5) c):=by
 obtain ⟨Z,hZ,hs,ht,hr⟩:=h.row
 have hZl:Z.toList.length=cap*5:=by simpa using hs
 rw [Hr wr g (F.length*5) c Z _ hZ (by omega) h1]
 refine ⟨⟨h.gr.os,h.gr.tape,h.gr.output,by simpa [World.setRow] using h.gr.size,fun j hj hne=>(setRow_other _ _ _ _ (fun e=>hne (by rw [e]))).trans (h.gr.block j hj hne)⟩,_,setRow_heap _ _ _ _ _ _ hZ,?_,?_,fun m hm hmn=>?_⟩
 ·simp only [List.size_toArray,List.length_append,List.length_take,List.length_drop,hZl,hc];rw [Nat.min_eq_left (by omega)];omega
 ·have hl:(Z.toList.take (F.length*5)).length=F.length*5:=by rw [List.length_take,hZl,Nat.min_eq_left (by omega)]
  have hl2:(F++[c]).length*5=(Z.toList.take (F.length*5)++c).length:=by rw [List.length_append,List.length_append,hl,hc];simp;omega
  rw [hl2,List.toList_toArray,List.take_left,ht,List.flatten_append];simp
 have hl:(Z.toList.take (F.length*5)++c).length=F.length*5+5:=by rw [List.length_append,List.length_take,hZl,Nat.min_eq_left (by omega),hc]
 rw [← hr m (by omega) hmn,List.getElem?_toArray,List.getElem?_append_right (by rw [hl];omega),hl,List.getElem?_drop,hc,show F.length*5+5+(m - (F.length*5+5))=m by omega]
 simp
theorem compGen (S:Nat→Prop) (B:Nat) (w:World) (g n cap:Nat) (xs:List Val) (css:List (List Value)) (hO:Own Ql 44 S B w (.slice (some ⟨g,0,none⟩) n cap) xs css) (hn:xs.length=n) (hl:n≤100000):
  Calls prog 105 #[.slice (some ⟨g,0,none⟩) n cap,.func (.func 106) #[] #[]] w fun e w'=>
   ∃ css',e=.returned (.slice (some ⟨g,0,none⟩) (A6 xs).length cap)∧Own Ql 44 S B w' (.slice (some ⟨g,0,none⟩) (A6 xs).length cap) (A6 xs) css'∧w.grownBy w' (some g):=by
 have hbelow:∀ W,Below w.heap.size w W→w.grownBy W (some g):=fun W hb=>⟨hb.os,hb.tape,hb.output,hb.size,fun k hk _=>hb.block k hk⟩
 have mixed:(prog).follows .mixedOrders=true:=by kernel_rfl
 by_cases h2:n<2
 ·have b1:(n:Int)<2:=by omega
  have HO:=Qq hO;have HBe:=Qq hbelow
  rw [Ce (by omega),hn]
  clear hO hbelow h2
  go_enter func105,ntmps105
  go_wp2_with fail
  go_ret
  exact ⟨css,rfl,HO.out,HBe.out _ (Qz _ _)⟩
 have b1:¬ (n:Int)<2:=by omega
 rcases hO.row.2 with ⟨h,_⟩ | ⟨g',cap',cur,hv,hgB,hgc,hnc,hcm,hcs,htk⟩
 ·cases h
 simp only [Value.slice.injEq,Option.some.injEq,Addr.mk.injEq] at hv
 obtain ⟨⟨rfl,-,-⟩,-,rfl⟩:=hv
 have hk5:Ql.k=5:=rfl
 rw [hk5] at hcs htk
 rw [hn] at hnc htk
 have hcl:css.length=n:=by rw [hO.cs.len,hn]
 have hfl:(Ag xs).length=xs.length:=Qjb xs
 have HO:=Qq hO;have HN:=Qq hn;have HFl0:=Qq hfl
 have HBe:=Qq hbelow
 have hM0:∀ W k0,k0<n→Below w.heap.size w W→U4 w g n cap css (css.take k0) k0 W:=by
  intro W k0 hk0 hb
  have hF0l:(css.take k0).length=k0:=by rw [List.length_take];omega
  refine ⟨hbelow W hb,cur,(hb.block g (Qf hgc)).trans hgc,hcs,?_,fun m _ hm=>?_⟩
  ·rw [hF0l]
   have h5:(cur.toList.take (n*5)).take (k0*5)=(css.take k0).flatten:=by
    rw [htk,← List.take_append_drop k0 css,List.flatten_append,List.take_append_of_le_length (by rw [Xn (fun c hc=>hO.cs.all c (List.mem_of_mem_take hc)),List.length_take,hk5];omega),List.take_of_length_le (by rw [Xn (fun c hc=>hO.cs.all c (List.mem_of_mem_take hc)),List.length_take,hk5];omega)]
    simp
   rwa [List.take_take,Nat.min_eq_left (by omega)] at h5
  rw [← htk,List.getElem?_take,if_pos hm];simp
 have HM0:=Qq hM0
 have HCss:=Qq (fun (k:Nat) (hk:k<n)=>(show ∃ c,css[k]?=some c from ⟨_,Qx (by omega)⟩))
 have HXs:=Qq (fun (k:Nat) (hk:k<n)=>(show ∃ y,xs[k]?=some y from ⟨_,Qx (by omega)⟩))
 have hSl:Sl Ql (fun _=>True) w (.slice (some ⟨g,0,none⟩) n cap) xs:=by rw [← hn] at hO ⊢;exact hO.sl (by omega) (fun _ _=>trivial) (fun _ _ _=>trivial)
 have HV:=Qq hSl
 clear hO htk hcs hgc hbelow hM0 hSl hfl hcl
 go_enter func105,ntmps105
 go_wp2_with fail
 go_loopw [5] (fun i wr=>∃ k:Nat,1≤k∧k≤n∧i=.int .i64 k∧Aside (∀ j,j<k→(Ag xs)[j]?=some false)∧Gr w wr) (fun i _=>n - (intOf i).toNat)
 case atStart=>exact ⟨1,Q9 _,by omega,rfl,(show Aside _ from fun j hj=>by obtain rfl:j=0:=(by omega);exact Cr (by rw [HN.out];omega)),Gr.refl _⟩
 obtain ⟨k,hk1,hkn,rfl,hpre,hG⟩:=hrel
 have HGr:=Qq hG;have HPre:=Qq hpre.out
 clear hG hpre
 by_cases hlt:k<n
 ·obtain ⟨j,rfl⟩:∃ j,k=j+1:=⟨k - 1,by omega⟩
  obtain ⟨x,hx⟩:=HXs.out j (by omega)
  obtain ⟨y,hy⟩:=HXs.out (j+1) (by omega)
  have hfg:=C6 hx hy
  obtain ⟨xb,xoff,p3,k3,p4,k4,hxe,hxb,hvx,d0,d1,d2,d3,d4⟩:=(HV.out.below HGr.out.bl).val hx
  obtain ⟨yb,yoff,q3,l3,q4,l4,he,hyb,hvy,e0,e1,e2,e3,e4⟩:=(HV.out.below HGr.out.bl).val hy
  simp only [Option.some.injEq,Addr.mk.injEq,and_true] at hxe he
  obtain ⟨rfl,rfl⟩:=hxe
  obtain ⟨rfl,rfl⟩:=he
  rw [Nat.zero_add] at d0 d1 d2 d3 d4 e0 e1 e2 e3 e4
  have hcg:=distG wr y x _ _ _ hvy hvx
  have D0:=Qs hxb d0;have D1:=Qs hxb d1;have D2:=Qs hxb d2;have D3:=Qs hxb d3;have D4:=Qs hxb d4
  have E0:=Qs hxb e0;have E1:=Qs hxb e1;have E2:=Qs hxb e2;have E3:=Qs hxb e3;have E4:=Qs hxb e4
  have hj1:IntKind.i64.wrap (j:Int)=(j:Int):=by rw [IntKind.wrap_i64];omega
  have hj2:(j:Int)<(n:Int):=by omega
  have hj4:(0:Int)≤(j:Int)+1:=by omega
  have hj5:(j:Int)+1<(n:Int):=by omega
  have hj6:(0:Int)≤(j:Int):=by omega
  have hj7:((j:Int)+1).toNat=j+1:=by omega
  have HFg:=Qq hfg
  unfold vcs at hcg
  clear hx hy hvx hvy hyb d0 d1 d2 d3 d4 e0 e1 e2 e3 e4 hfg
  obtain ⟨b,hb⟩:=eX (eqv y x)
  rw [hb] at hcg HFg
  clear hb
  cases b
  ·go_wp2_with fail
   go_quiet_grown (first | (go_at_call 106;refine Calls.grown_of (hcg _ _)))
   go_wp2_with fail
   go_roundw
   case measure=>simp [intOf];omega
   case rel=>exact ⟨j+1+1,by omega,by omega,by go_num,(show Aside _ from fun i hi=>by by_cases hij:i<j+1;exact HPre.out i hij;obtain rfl:i=j+1:=(by omega);exact HFg.out),HGr.out.thn (Z7 _ _ _)⟩
  have hF0:A5 (Ag xs) css (j+1+1)=css.take (j+1):=by
   obtain ⟨c0,hc0⟩:=HCss.out (j+1) hlt
   rw [Ad hc0 HFg.out,Cj (j+1) (by rw [HO.out.cs.len,HN.out];omega) HPre.out];simp
  have hF0l:(A5 (Ag xs) css (j+1+1)).length=j+1:=by rw [hF0,List.length_take,HO.out.cs.len,HN.out];omega
  have HF0:=Qq hF0;have HF0l:=Qq hF0l
  clear hF0 hF0l
  go_wp2_with fail
  go_quiet_grown (first | (go_at_call 106;refine Calls.grown_of (hcg _ _)))
  generalize hW4:Sort.grow _ _=w4
  have hb4:Below wr.heap.size wr w4:=by rw [← hW4];exact (Z7 _ _ _).bl
  have hM:=HM0.out w4 (j+1) hlt (HGr.out.bl.thn hb4)
  rw [← HF0.out] at hM
  have HM1:=Qq hM
  clear hW4 hb4 hM D0 D1 D2 D3 D4 E0 E1 E2 E3 E4 hcg
  have z1:(j:Int)+1≤(n:Int):=by omega
  have z2:¬ (cap=j+1):=by omega
  have z3:(j:Int)+1≤(cap:Int):=by omega
  have z4:¬ (cap=0):=by omega
  have z5:((n - (j+1):Nat):Int)=(n:Int) - ((j:Int)+1):=by omega
  obtain ⟨w3,hw3⟩:∃ w3,w3=wr:=⟨_,rfl⟩
  subst hw3
  go_wp2_with fail
  go_loopw [5,7] (fun a i wr=>∃ T A:Nat,1≤T∧j+1+T≤n∧i=.int .i64 T∧a=.int .i64 A∧A<j+1+T∧Aside ((A5 (Ag xs) css (j+1+T)).length=A∧U4 w g n cap css (A5 (Ag xs) css (j+1+T)) (j+T) wr)) (fun _ i _=>n - (intOf i).toNat)
  case atStart=>exact ⟨1,j+1,Q9 _,by omega,rfl,by go_num,by omega,HF0l.out,HM1.out⟩
  obtain ⟨T,A,hT1,hTn,rfl,rfl,hAT,hFM⟩:=hrel
  obtain ⟨hFl,hM⟩:=hFM.out
  have HM:=Qq hM;have HFl:=Qq hFl
  clear hFM hFl hM
  obtain ⟨t,rfl⟩:∃ t,T=t+1:=⟨T - 1,by omega⟩
  by_cases hlt2:j+1+(t+1)<n
  ·have i1:(t:Int)+1<((n - (j+1):Nat):Int):=by omega
   have i2:(t:Int)<((n - (j+1):Nat):Int):=by omega
   have i9:(t:Int)<(n:Int) - ((j:Int)+1):=by omega
   have i10:(t:Int)+1<(n:Int) - ((j:Int)+1):=by omega
   have i3:(0:Int)≤(t:Int):=by omega
   have i4:(0:Int)≤(t:Int)+1:=by omega
   have i5:IntKind.i64.wrap (t:Int)=(t:Int):=by rw [IntKind.wrap_i64];omega
   have i6:((t:Int)+1).toNat=t+1:=by omega
   have i7:(0:Int)≤(A:Int):=by omega
   have i8:(A:Int)<(n:Int):=by omega
   obtain ⟨c,hc⟩:=HCss.out (j+1+(t+1)) hlt2
   obtain ⟨d,hd⟩:=HCss.out (j+1+t) (by omega)
   obtain ⟨y,hy⟩:=HXs.out (j+1+(t+1)) hlt2
   obtain ⟨x,hx⟩:=HXs.out (j+1+t) (by omega)
   have hfg:=C6 hx hy
   have hmv:∀ (i:Nat) (c:List Value) (y:Val),css[i]?=some c→xs[i]?=some y→Qh (But S (.slice (some ⟨g,0,none⟩) n cap)) wr c y:=fun i c y h1 h2=>Qh.move (show Qh _ w c y from HO.out.cs.R i c y h1 h2) (fun b hb hlt=>HM.out.gr.block b hlt (fun e=>hb.2 (by rw [e];rfl))) (fun _ _ h=>h)
   have hvy:=hmv _ c y hc hy
   have hvx:=hmv _ d x hd hx
   have hc5:c.length=5:=Ql.len hvy
   have h1c:∀ v ∈ c,v.oneCell'=true:=Zu _ wr c y hvy
   obtain ⟨Z,hZ,hZs,_,hZr⟩:=HM.out.row
   have hzc:∀ (q:Nat) (c:List Value),j+(t+1)≤q→q<n→css[q]?=some c→∀ i u,c[i]?=some u→i<5→wr.cell? ⟨g,q*5+i,none⟩=some u:=by
    intro q c hq1 hq2 hc i u hu hi
    rw [Qk _ _ _ _ _ _ hZ,hZr _ (by omega) (by omega)]
    exact Yg HO.out.cs.all hc hu
   have hgz:=Qf hZ
   obtain ⟨q3,l3,q4,l4,hcc,_⟩:=Qh.cells hvy
   obtain ⟨p3',k3',p4',k4',hdd,_⟩:=Qh.cells hvx
   simp only [vcs] at hcc hdd
   subst hcc;subst hdd
   have hcg2:=distG wr y x _ _ _ hvy hvx
   have hY:=hzc _ _ (by omega) hlt2 hc;have hX:=hzc _ _ (by omega) (by omega) hd
   rw [show (j+1+(t+1))*5=(j+1)*5+(t+1)*5 by omega] at hY
   rw [show (j+1+t)*5=(j+1)*5+t*5 by omega] at hX
   have y0:=hY 0 _ rfl (by omega);have y1:=hY 1 _ rfl (by omega);have y2:=hY 2 _ rfl (by omega);have y3:=hY 3 _ rfl (by omega);have y4:=hY 4 _ rfl (by omega)
   have x0:=hX 0 _ rfl (by omega);have x1:=hX 1 _ rfl (by omega);have x2:=hX 2 _ rfl (by omega);have x3:=hX 3 _ rfl (by omega);have x4:=hX 4 _ rfl (by omega)
   rw [Nat.add_zero] at x0 y0
   have X0:=Qs hgz x0;have X1:=Qs hgz x1;have X2:=Qs hgz x2;have X3:=Qs hgz x3;have X4:=Qs hgz x4
   have Y0:=Qs hgz y0;have Y1:=Qs hgz y1;have Y2:=Qs hgz y2;have Y3:=Qs hgz y3;have Y4:=Qs hgz y4
   have HYc:=Qq (fun W (hb:Below wr.heap.size wr W)=>Qe (kD hb hgz y0) (Qe (kD hb hgz y1) (Qe (kD hb hgz y2) (Qe (kD hb hgz y3) (kD hb hgz y4)))))
   have HStep:=Qq (Ad hc (by rw [show j+1+(t+1)=j+1+t+1 by omega];exact hfg))
   have HKeep:=Qq (fun W (hb:Below wr.heap.size wr W)=>HM.out.keep hb)
   have HPut:=Qq (fun W (hb:Below wr.heap.size wr W)=>((HM.out.keep hb).skip).put2 hc5 h1c (by rw [HFl.out];omega) (by omega) hnc)
   have HZa:=Qq (fun W (hb:Below wr.heap.size wr W) (i:Nat) (hi:i<5)=>(show ∃ u,W.cell? ⟨g,A*5+i,none⟩=some u∧W.frozen? ⟨g,A*5+i,none⟩=false from by
    have hW:=(hb.block g (Qf hZ)).trans hZ
    refine ⟨_,(Qk _ _ _ _ _ _ hW).trans (Array.getElem?_eq_getElem (by rw [hZs];omega)),frozen_of_row _ _ _ _ _ hW⟩))
   clear hvy hvx hmv hZr hZ hzc hY hX hc hd hx hy h1c hfg x0 x1 x2 x3 x4 y0 y1 y2 y3 y4 hc5 hZs
   obtain ⟨b,hbv⟩:=eX (eqv y x)
   rw [hbv] at hcg2 HStep
   clear hbv
   cases b
   ·go_wp2_with fail
    go_quiet_grown (first | (go_at_call 106;refine Calls.grown_of (hcg2 _ _)))
    generalize hW5:Sort.grow _ _=w5
    have hb5:Below wr.heap.size wr w5:=by rw [← hW5];exact (Z7 _ _ _).bl
    obtain ⟨y0,y1,y2,y3,y4⟩:=HYc.out w5 hb5
    obtain ⟨s0,e0,f0⟩:=HZa.out w5 hb5 0 (by omega)
    obtain ⟨s1,e1,f1⟩:=HZa.out w5 hb5 1 (by omega)
    obtain ⟨s2,e2,f2⟩:=HZa.out w5 hb5 2 (by omega)
    obtain ⟨s3,e3,f3⟩:=HZa.out w5 hb5 3 (by omega)
    obtain ⟨s4,e4,f4⟩:=HZa.out w5 hb5 4 (by omega)
    rw [Nat.add_zero] at e0 f0
    have HB5:=Qq hb5
    clear hW5 hb5 X0 X1 X2 X3 X4 Y0 Y1 Y2 Y3 Y4 hcg2
    have hw6:IntKind.i64.wrap ((A:Int)+1)=((A+1:Nat):Int):=by rw [IntKind.wrap_i64];omega
    have hw7:IntKind.i64.wrap ((t:Int)+1+1)=((t+1+1:Nat):Int):=by rw [IntKind.wrap_i64];omega
    go_wp2_with fail
    go_roundw
    case measure=>simp [intOf];omega
    case rel=>
     have hst:=HStep.out
     simp only [Bool.false_eq_true,if_false] at hst
     have hput:=HPut.out w5 HB5.out
     rw [HFl.out,← hst] at hput
     exact ⟨t+1+1,A+1,by omega,by omega,by go_num,by go_num,by omega,(show Aside _ from ⟨by rw [show j+1+(t+1+1)=j+1+(t+1)+1 by omega,hst,List.length_append,HFl.out];rfl,hput⟩)⟩
   go_wp2_with fail
   go_quiet_grown (first | (go_at_call 106;refine Calls.grown_of (hcg2 _ _)))
   have hw7:IntKind.i64.wrap ((t:Int)+1+1)=((t+1+1:Nat):Int):=by rw [IntKind.wrap_i64];omega
   go_wp2_with fail
   go_roundw
   case measure=>simp [intOf];omega
   case rel=>
    have hst:=HStep.out
    simp only [if_true,List.append_nil] at hst
    exact ⟨t+1+1,A,by omega,by omega,by go_num,rfl,by omega,(show Aside _ from ⟨by rw [show j+1+(t+1+1)=j+1+(t+1)+1 by omega,hst];exact HFl.out,by rw [show j+1+(t+1+1)=j+1+(t+1)+1 by omega,hst];exact (HKeep.out _ (Z7 _ _ _).bl).skip⟩)⟩
  have i1:¬ ((t:Int)+1<((n - (j+1):Nat):Int)):=by omega
  have hK:j+1+(t+1)=n:=by omega
  obtain ⟨Z,hZ,hZs,hZt,_⟩:=HM.out.row
  have hFl:=HFl.out
  rw [hK] at hZt hFl
  have hAn:A<n:=by omega
  have hcl:∀ ty,(Builtin.clear_ #[40] ty #[.slice (some ⟨g,A*5,none⟩) (n - A) (cap - A)]).run prog wr=.ok (.tuple #[]) (wr.setRow g (Z.toList.take (A*5)++(Builtin.zeroCells zc5 (n - A)).toList++Z.toList.drop (A*5+(n - A)*5)).toArray):=fun ty=>Gp wr ty g (A*5) (n - A) (cap - A) Z _ (by omega) hZ (by rw [hZs];omega)
  have hrow:∀ X,X=(Z.toList.take (A*5)++(Builtin.zeroCells zc5 (n - A)).toList++Z.toList.drop (A*5+(n - A)*5)).toArray→X.size=cap*5∧X.toList.take (A*5)=(A5 (Ag xs) css n).flatten:=by
   intro X hX
   have hZl:Z.toList.length=cap*5:=by simpa using hZs
   have ht:(Z.toList.take (A*5)).length=A*5:=by rw [List.length_take,hZl,Nat.min_eq_left (by omega)]
   refine ⟨by rw [hX];simp only [List.size_toArray,List.length_append,ht,Hu,List.length_drop,hZl];omega,?_⟩
   rw [hX,List.toList_toArray,List.append_assoc,List.take_append_of_le_length (by rw [ht];exact Q9 _),List.take_of_length_le (by rw [ht];exact Q9 _),← hFl,hZt]
  obtain ⟨X,hX⟩:∃ X,X=(Z.toList.take (A*5)++(Builtin.zeroCells zc5 (n - A)).toList++Z.toList.drop (A*5+(n - A)*5)).toArray:=⟨_,rfl⟩
  obtain ⟨hXs,hXt⟩:=hrow X hX
  rw [← hX] at hcl
  have hWg:(wr.setRow g X).heap[g]?=some (.cells X 44 (0,0)):=setRow_heap _ _ _ _ _ _ hZ
  have hgr:w.grownBy (wr.setRow g X) (some g):=⟨HM.out.gr.os,HM.out.gr.tape,HM.out.gr.output,by simpa [World.setRow] using HM.out.gr.size,fun j hj hne=>(setRow_other _ _ _ _ (fun e=>hne (by rw [e]))).trans (HM.out.gr.block j hj hne)⟩
  have hC:=Qjc HFl0.out HO.out.cs n
  have hcv:A5 (Ag xs) xs n=A6 xs:=by rw [← Cw,HN.out]
  rw [hcv] at hC
  have hD:Own Ql 44 S B (wr.setRow g X) (.slice (some ⟨g,0,none⟩) A cap) (A6 xs) (A5 (Ag xs) css n):=by
   have hdl:(A6 xs).length=A:=by rw [← hFl];exact hC.len.symm
   refine ⟨?_,hC.move (fun b hb hlt=>hgr.block b hlt (fun e=>hb.2 (by rw [e];rfl))) (fun _ _ h=>h)⟩
   rw [hdl]
   exact ⟨by rw [Xn (fun c hc=>hC.all c hc),hFl],.inr ⟨g,cap,X,rfl,hgB,hWg,by omega,hcm,hXs,hXt⟩⟩
  have hdl:(A6 xs).length=A:=by rw [← hFl];exact hC.len.symm
  have HDl:=Qq hdl
  have HD:=Qq hD;have HGq:=Qq hgr
  generalize wr.setRow g X=W9 at hcl HD HGq
  have hb0:(0:Int)≤(A:Int):=by omega
  have hb1:(A:Int)≤(n:Int):=by omega
  have hb2:¬ (cap=A):=by omega
  have hb3:(A:Int)≤(cap:Int):=by omega
  clear hZ hZs hZt hrow hX hXs hXt hWg hgr hC hD hdl hcv hFl
  go_wp2_with fail
  go_ret
  have hD:=HD.out
  rw [HDl.out]
  exact ⟨rfl,⟨_,hD⟩,HGq.out⟩
 have hkn':¬ (k:Int)<(n:Int):=by omega
 obtain rfl:k=n:=by omega
 have hfin:A6 xs=xs:=by
  rw [← Cw,HN.out,Cj _ (by rw [HN.out];exact Q9 _) HPre.out,List.take_of_length_le (by rw [HN.out];exact Q9 _)]
 have HFin:=Qq hfin
 clear hfin
 go_wp2_with fail
 go_ret
 rw [HFin.out,HN.out]
 exact ⟨rfl,⟨css,HO.out.below HGr.out.bl⟩,HBe.out _ HGr.out.bl⟩
theorem Ab (xs:List Val):(A9 xs).Perm xs:=by
 obtain ⟨h,_⟩:=Sort.insertionSort_holds swoV xs.toArray 0 xs.length (Q8 _) (Q9 _)
 have h3:=h.2.2
 have hs:(Sort.insertionSort (fun x y:Val=>decide (Z1 x y<0)) xs.toArray 0 xs.length).size=xs.length:=h.1
 rw [Array.extract_eq_self_of_le (by rw [hs];exact Q9 _),show xs.toArray.extract 0 xs.length=xs.toArray by simp] at h3
 exact h3
theorem Qjw (xs:List Val):Ca (A9 xs):=by
 obtain ⟨h,hs⟩:=Sort.insertionSort_holds swoV xs.toArray 0 xs.length (Q8 _) (Q9 _)
 have hz:(Sort.insertionSort (fun x y:Val=>decide (Z1 x y<0)) xs.toArray 0 xs.length).size=xs.length:=h.1
 unfold Ca
 rw [List.pairwise_iff_getElem]
 intro i j hi hj hij
 have hl:(A9 xs).length=xs.length:=(Ab xs).length_eq
 have:=hs i j (Q8 _) hij (by omega)
 rw [getElem!_pos _ j (by rw [hz];omega),getElem!_pos _ i (by rw [hz];omega)] at this
 have h2:¬ Z1 (A9 xs)[j] (A9 xs)[i]<0:=of_decide_eq_false this
 rw [Kp,Jd,← Kp] at h2
 omega
def Cm (xs:List Val):List Val:=A6 (A9 (A9 xs))
theorem C7 (xs:List Val):sameVs (Cm xs) (xs.foldl Vc [])=true:=Cf (Qjw _) ((Ab _).trans (Ab _))
theorem Cn (S:Nat→Prop) (B:Nat) (w:World) (v:Value) (xs:List Val) (css:List (List Value)) (hO:Own Ql 44 S B w v xs css) (hl:xs.length≤100000):
  Calls prog 105 #[v,.func (.func 106) #[] #[]] w fun e w'=>
   ∃ q cap css',e=.returned (.slice q (A6 xs).length cap)∧Own Ql 44 S B w' (.slice q (A6 xs).length cap) (A6 xs) css'∧w.grownBy w' v.ownBlock:=by
 rcases hO.row.2 with ⟨rfl,h0⟩ | ⟨g,cap,cur,rfl,_,_⟩
 ·have h0':xs=[]:=List.eq_nil_of_length_eq_zero h0
  subst h0'
  refine (compactVal (fun _=>True) (.slice none 0 0) [] w (Sl.nil _ _ _) (fun j x y hx=>by simp at hx)).mono ?_
  rintro e w' ⟨rfl,hg⟩
  exact ⟨none,0,css,rfl,hO.below hg.bl,Di hg.bl⟩
 refine (compGen S B w g xs.length cap xs css hO rfl hl).mono ?_
 rintro e w' ⟨css',rfl,h1,h2⟩
 exact ⟨_,cap,css',rfl,h1,h2⟩
theorem Cl (S:Nat→Prop) (v:Value) (xs:List Val) (w:World) (hV:Sl Ql S w v xs) (hl:xs.length≤19):
  Calls prog 64 #[v] w (ValsIs w (A6 (A9 xs))):=by
 obtain ⟨p,cap,rfl,_⟩:=hV.len
 have HS:=Qq (Qjx S _ xs w hV hl)
 have HC:=Qq (fun v css W (h:Own Ql 44 (fun b=>w.heap.size≤b) w.heap.size W v (A9 xs) css)=>Cn _ _ W v _ css h (by rw [(Ab xs).length_eq];omega))
 have hcl:(A6 (A9 xs)).length≤1000000:=by
  have h1:∀ (l:List Val) (a:Val),(Aw a l).length≤l.length:=by
   intro l
   induction l with
   | nil=>intro a;exact Q9 _
   | cons b l ih=>intro a;unfold Aw;have:=ih b;split <;> simp <;> omega
  have h2:(A6 (A9 xs)).length≤(A9 xs).length:=by
   cases A9 xs with
   | nil=>exact Q9 _
   | cons a l=>have:=h1 l a;show (a::Aw a l).length≤_;simp;omega
  rw [(Ab xs).length_eq] at h2
  omega
 have HCl:=Qq hcl
 clear hV hl hcl
 go_enter func64,ntmps64
 go_wp2_with fail
 refine HS.out.mono ?_
 rintro e w1 ⟨ys,q,c,css,rfl,rfl,_,_,hO,hb1⟩
 have HB1:=Qq hb1;have HC2:=Qq (HC.out _ css _ hO)
 have hne:=fun b (e:(Value.slice q xs.length c).ownBlock=some b)=>(hO.row.lt b e).1
 have HNe:=Qq hne
 clear hO hb1 HC HS hne
 go_wp2_with fail
 refine HC2.out.mono ?_
 rintro e w2 ⟨q2,c2,css2,rfl,hO2,hg⟩
 go_wp2_with fail
 go_ret
 exact ⟨q2,c2,rfl,hO2.sl' HCl.out (fun b hb=>(hO2.row.lt b hb).1) (fun b _ h=>h),HB1.out.grown hg HB1.out.size (fun b hb=>HNe.out b hb)⟩
theorem Cu (xs:List Val) (hl:xs.length≤19):DistOk xs (Cm xs):=
 ⟨A9 xs,fun S v W h=>(Qjx S v xs W h hl).mono (by
  rintro e w' ⟨ys,p,cap,css,rfl,rfl,hp,_,hO,hb⟩
  exact ⟨p,cap,by rw [hp.length_eq],by rw [hp.length_eq];exact hO.sl' (by rw [hp.length_eq];omega) (fun b hb=>(hO.row.lt b hb).1) (fun b _ h=>h),hb⟩),
  fun S v W h=>Cl S v (A9 xs) W h (by rw [(Ab xs).length_eq];exact hl)⟩
theorem Ti (l:List Rel) (t:Bs):Ym l t=(l.map Rel.table).findIdx? (fun y=>decide (y=t)):=by
 unfold Ym;rw [List.findIdx?_map];rfl
theorem Tc {l:List Rel} {t:Bs} {i:Nat} (h:Ym l t=some i):∃ r,l[i]?=some r∧r.table=t:=by
 unfold Ym at h
 obtain ⟨h1,h2,_⟩:=List.findIdx?_eq_some_iff_getElem.1 h
 exact ⟨_,Qx h1,of_decide_eq_true h2⟩
theorem Tn {l:List Rel} {i:Nat} (zs:List Val):(l.set i ⟨(l.getD i ⟨[],[]⟩).table,zs⟩).map Rel.table=l.map Rel.table:=by
 apply List.ext_getElem?
 intro j
 simp only [List.getElem?_map,List.getElem?_set]
 by_cases hj:i=j
 ·subst hj
  rw [if_pos rfl]
  by_cases hl:i<l.length
  ·rw [if_pos hl];simp [List.getD_eq_getElem?_getD,Qx hl]
  rw [if_neg hl,List.getElem?_eq_none (by omega)]
 rw [if_neg hj]
theorem To (l:List Rel) (t:Bs) (x:Val):(Uv l t x).map Rel.table=l.map Rel.table:=by
 unfold Uv;cases Ym l t with
 | none=>rfl
 | some i=>exact Tn _
theorem We {p q:List Val→Prop} {l:List Rel} (h:∀ r ∈ l,p r.rows) (t:Bs) (x:Val) (hp:∀ xs,p xs→q (Vc xs x)) (hq:∀ xs,p xs→q xs):∀ r ∈ Uv l t x,q r.rows:=by
 unfold Uv
 cases e:Ym l t with
 | none=>exact fun r hr=>hq _ (h r hr)
 | some i=>
  obtain ⟨r0,hr0,_⟩:=Tc e
  intro r hr
  rcases List.mem_or_eq_of_mem_set hr with hr | rfl
  ·exact hq _ (h r hr)
  show q (Vc _ x)
  rw [show (l.getD i ⟨[],[]⟩).rows=r0.rows by simp [List.getD_eq_getElem?_getD,hr0]]
  exact hp _ (h r0 (Qy hr0))
structure Ta (T:List Bs) (c:Nat) (l:List Rel):Prop where
 tabs:l.map Rel.table=T
 up:∀ r ∈ l,UpV r.rows
 few:∀ r ∈ l,r.rows.length≤c
theorem Ak (l:List Val) (x:Val):(Vc l x).length≤l.length+1:=by
 unfold Vc
 split
 ·omega
 simp [List.length_take,List.length_drop];omega
theorem Ta.ins {T:List Bs} {c:Nat} {l:List Rel} (h:Ta T c l) (t:Bs) (x:Val):Ta T (c+1) (Uv l t x):=
 ⟨by rw [To];exact h.tabs,We h.up t x (fun xs hx=>putV_up hx x) (fun _ h=>h),We (p:=fun xs=>xs.length≤c) (q:=fun xs=>xs.length≤c+1) h.few t x (fun xs hx=>Qc (Ak xs x) (by omega)) (fun xs hx=>by omega)⟩
theorem Tg {l:List Rel} (hd:(l.map Rel.table).Nodup) {i:Nat} {r:Rel} (h:l[i]?=some r):Ym l r.table=some i:=by
 obtain ⟨hi,he⟩:=Qj h
 rw [Ti,List.findIdx?_eq_some_iff_getElem]
 refine ⟨by simpa using hi,by simp [he],fun j hj=>?_⟩
 simp only [List.getElem_map,Bool.not_eq_true,decide_eq_false_iff_not]
 intro e
 rw [← he] at e
 exact (List.pairwise_iff_getElem.1 hd) j i (by simpa using (by omega:j<l.length)) (by simpa using hi) hj (by simpa using e)
theorem Wj:∀ {a b:List Val},sameVs a b=true→eqL eqv a b=true
 | [],[],_=>rfl
 | [],_::_,h=>by simp [sameVs] at h
 | _::_,[],h=>by simp [sameVs] at h
 | x::s,y::t,h=>by
  rw [sameVs_cons,Bool.and_eq_true] at h
  unfold eqL
  rw [h.1,Wj h.2];rfl
theorem Ts {A B:Type} {p:A→B→Bool}:∀ {a:List A} {b:List B},a.length=b.length→(∀ (i:Nat) (x:A) (y:B),a[i]?=some x→b[i]?=some y→p x y=true)→eqL p a b=true
 | [],[],_,_=>rfl
 | [],_::_,h,_=>by simp at h
 | _::_,[],h,_=>by simp at h
 | x::s,y::t,h,hp=>by
  unfold eqL
  rw [hp 0 x y rfl rfl,Ts (by simpa using h) (fun i x' y' h1 h2=>hp (i+1) x' y' (by simpa using h1) (by simpa using h2))];rfl
def A8 (l:List Rel) (t:Bs):List Val:=l.flatMap (fun r=>if r.table=t then r.rows else [])
theorem Ac (r:Rel) (l:List Rel) (t:Bs):A8 (r::l) t=(if r.table=t then r.rows else [])++A8 l t:=by unfold A8;rw [List.flatMap_cons]
theorem Au (a b:List Rel) (t:Bs):A8 (a++b) t=A8 a t++A8 b t:=by unfold A8;rw [List.flatMap_append]
theorem Qjy {l:List Rel} {i:Nat} {r:Rel} (h:l[i]?=some r) (t:Bs):A8 (l.take (i+1)) t=A8 (l.take i) t++(if r.table=t then r.rows else []):=by
 rw [List.take_add_one,h,Au]
 show _++A8 [r] t=_
 rw [Ac]
 show _++((if r.table=t then r.rows else [])++[])=_
 rw [List.append_nil]
theorem Qja (l:List Rel) (i:Nat) (t:Bs):(A8 (l.take i) t).length≤(A8 l t).length:=by
 conv=>rhs;rw [← List.take_append_drop i l,Au,List.length_append]
 omega
theorem Ch {l:List Rel} {t:Bs} (h:t ∉ l.map Rel.table):A8 l t=[]:=by
 induction l with
 | nil=>rfl
 | cons r l ih=>
  rw [List.map_cons,List.mem_cons] at h
  rw [Ac,if_neg (fun e=>h (.inl e.symm)),ih (fun h'=>h (.inr h'))];rfl
theorem Cg {l:List Rel} {c:Nat} (hd:(l.map Rel.table).Nodup) (h:∀ r ∈ l,r.rows.length≤c) (t:Bs):(A8 l t).length≤c:=by
 induction l with
 | nil=>exact Q8 _
 | cons r l ih=>
  rw [List.map_cons,List.nodup_cons] at hd
  rw [Ac]
  by_cases ht:r.table=t
  ·rw [if_pos ht,Ch (by rw [← ht];exact hd.1),List.append_nil]
   exact h r (by simp)
  rw [if_neg ht,List.nil_append]
  exact ih hd.2 (fun x hx=>h x (by simp [hx]))
theorem Ck:∀ (l out:List Rel),(out.map Rel.table).Nodup→(∀ r ∈ l,r.table ∈ out.map Rel.table)→nrm1 out l=some (out.map fun o=>⟨o.table,o.rows++A8 l o.table⟩)
 | [],out,_,_=>by
  unfold nrm1
  congr 1
  conv=>lhs;rw [← List.map_id out]
  apply List.map_congr_left
  intro o _
  show o=(⟨o.table,o.rows++[]⟩:Rel)
  rw [List.append_nil]
 | r::l,out,hd,hin=>by
  unfold nrm1
  have hf:Ym out r.table=out.findIdx? (fun x=>decide (x.table=r.table)):=rfl
  cases h:Ym out r.table with
  | none=>
   rw [Ti,List.findIdx?_eq_none_iff] at h
   exact absurd (h r.table (hin r (by simp))) (by simp)
  | some i=>
   rw [← hf,h]
   show nrm1 (out.set i ⟨(out.getD i ⟨[],[]⟩).table,(out.getD i ⟨[],[]⟩).rows++r.rows⟩) l=_
   rw [Ck l _ (by rw [Tn];exact hd) (fun x hx=>by rw [Tn];exact hin x (by simp [hx]))]
   congr 1
   obtain ⟨o,ho,hot⟩:=Tc h
   apply List.ext_getElem?
   intro j
   rw [List.getElem?_map,List.getElem?_map,List.getElem?_set]
   by_cases hij:i=j
   ·subst hij
    rw [if_pos rfl,if_pos (Qj ho).1,ho]
    simp only [Option.map_some,List.getD_eq_getElem?_getD,ho,Option.getD_some]
    rw [Ac,if_pos hot.symm,List.append_assoc]
   rw [if_neg hij]
   cases hj:out[j]? with
   | none=>rfl
   | some q=>
    simp only [Option.map_some]
    rw [Ac,if_neg,List.nil_append]
    intro e
    have h1:=Tg hd hj
    rw [← e,h] at h1
    exact hij (Qb h1)
theorem Cz:∀ (l out:List Rel),(∃ r ∈ l,r.table ∉ out.map Rel.table)→nrm1 out l=none
 | [],_,h=>by obtain ⟨_,h,_⟩:=h;cases h
 | r::l,out,h=>by
  unfold nrm1
  have hf:Ym out r.table=out.findIdx? (fun x=>decide (x.table=r.table)):=rfl
  rw [← hf]
  cases e:Ym out r.table with
  | none=>rfl
  | some i=>
   obtain ⟨q,hq,hn⟩:=h
   show nrm1 (out.set i ⟨(out.getD i ⟨[],[]⟩).table,(out.getD i ⟨[],[]⟩).rows++r.rows⟩) l=none
   refine Cz l _ ⟨q,?_,by rw [Tn];exact hn⟩
   rcases List.mem_cons.1 hq with rfl | hq
   ·obtain ⟨o,ho,hot⟩:=Tc e
    exact absurd (List.mem_map.2 ⟨o,Qy ho,hot⟩) hn
   exact hq
def Ae (s:Sc) (l:List Rel):Bool:=l.any (fun r=>(Ym (Yh s) r.table).isNone)
theorem Af {s:Sc} {l:List Rel}:Ae s l=true↔∃ r ∈ l,r.table ∉ (Yh s).map Rel.table:=by
 unfold Ae
 rw [List.any_eq_true]
 constructor
 ·rintro ⟨r,hr,h⟩
  refine ⟨r,hr,fun hm=>?_⟩
  rw [Option.isNone_iff_eq_none,Ti,List.findIdx?_eq_none_iff] at h
  exact absurd (h _ hm) (by simp)
 rintro ⟨r,hr,h⟩
 refine ⟨r,hr,?_⟩
 rw [Option.isNone_iff_eq_none,Ti,List.findIdx?_eq_none_iff]
 intro x hx
 exact decide_eq_false (fun e=>h (e ▸ hx))
def Ai (l:List Rel) (t:Bs):List Val:=(A8 l t).foldl Vc []
def C8 (s:Sc) (l:List Rel):List Rel:=(Yh s).map fun o=>⟨o.table,Ai l o.table⟩
def C5 (s:Sc) (l:List Rel):Int × List Rel:=if Ae s l=true then (7,[]) else (0,C8 s l)
theorem An (xs:List Val):∀ l:List Val,(xs.foldl Vc l).length≤l.length+xs.length:=by
 induction xs with
 | nil=>intro l;exact Q9 _
 | cons x xs ih=>intro l;have h1:=ih (Vc l x);have h2:=Ak l x;rw [List.foldl_cons,List.length_cons];omega
theorem A7 {s:Sc} {o:Rel} (h:o ∈ Yh s):o.rows=[]:=by
 unfold Yh at h
 obtain ⟨t,_,rfl⟩:=List.mem_map.1 h
 rfl
theorem Cb {s:Sc} {l:List Rel} (hd:((Yh s).map Rel.table).Nodup) (hc:∀ t,(A8 l t).length≤19):
  (normalF Cm s l).1=(C5 s l).1∧eqL Ju (normalF Cm s l).2 (C5 s l).2=true:=by
 unfold normalF C5
 by_cases hst:Ae s l=true
 ·rw [if_pos hst,Cz l _ (Af.1 hst)]
  exact ⟨rfl,rfl⟩
 rw [if_neg hst,Ck l _ hd (fun r hr=>Classical.byContradiction fun hn=>hst (Af.2 ⟨r,hr,hn⟩))]
 have hmany:((Yh s).map fun o=>(⟨o.table,o.rows++A8 l o.table⟩:Rel)).any (tooMany Cm)=false:=by
  rw [List.any_eq_false]
  intro x hx
  obtain ⟨o,ho,rfl⟩:=List.mem_map.1 hx
  unfold tooMany
  have h1:=Qjj (C7 ([]++A8 l o.table))
  have h2:=An (A8 l o.table) []
  have h3:=hc o.table
  simp only [A7 ho,List.nil_append,decide_eq_true_eq] at h1 ⊢
  simp only [List.length_nil] at h2
  omega
 dsimp only
 rw [hmany]
 simp only [Bool.false_eq_true,if_false]
 refine ⟨trivial,Ts (by simp [C8]) (fun i x y hx hy=>?_)⟩
 unfold C8 at hy
 simp only [List.getElem?_map,Option.map_map] at hx hy
 cases ho:(Yh s)[i]? with
 | none=>rw [ho] at hx;cases hx
 | some o=>
  rw [ho] at hx hy
  simp only [Option.map_some,Function.comp,Option.some.injEq] at hx hy
  subst hx;subst hy
  have h1:=A7 (Qy ho)
  unfold Ju
  simp only [h1,List.nil_append,decide_true,Bool.and_true]
  exact Wj (C7 _)
theorem Cc {s:Sc} {l:List Rel} (hd:((Yh s).map Rel.table).Nodup) (hc:∀ t,(A8 l t).length≤19) (o:List Rel) (h:nrm1 (Yh s) l=some o):∀ r ∈ o,r.rows.length≤19:=by
 by_cases hst:Ae s l=true
 ·rw [Cz l _ (Af.1 hst)] at h;cases h
 rw [Ck l _ hd (fun r hr=>Classical.byContradiction fun hn=>hst (Af.2 ⟨r,hr,hn⟩))] at h
 cases h
 intro r hr
 obtain ⟨e,he,rfl⟩:=List.mem_map.1 hr
 simp only [A7 he,List.nil_append]
 exact hc _
structure Ao (s:Sc) (l:List Rel) (k:Nat) (xs:List Val) (out:List Rel):Prop where
 tabs:out.map Rel.table=(Yh s).map Rel.table
 done:∀ j,j<k→out[j]?=(C8 s l)[j]?
 cur:∀ o,out[k]?=some o→o.rows=xs
 rest:∀ j o,k<j→out[j]?=some o→o.rows=[]
theorem Ao.len {s:Sc} {l:List Rel} {k:Nat} {xs:List Val} {out:List Rel} (h:Ao s l k xs out):out.length=s.tables.length:=by have:=congrArg List.length h.tabs;simpa [Yh] using this
theorem Co (s:Sc) (l:List Rel):Ao s l 0 [] (Yh s):=
 ⟨rfl,fun _ hj=>absurd hj (Nat.not_lt_zero _),fun _ ho=>A7 (Qy ho),fun _ _ _ ho=>A7 (Qy ho)⟩
theorem Ao.put {s:Sc} {l:List Rel} {k:Nat} {xs:List Val} {out:List Rel} (h:Ao s l k xs out) {o:Rel} (ho:out[k]?=some o) (zs:List Val):Ao s l k zs (out.set k ⟨o.table,zs⟩):=by
 have hk:=(Qj ho).1
 refine ⟨?_,fun j hj=>?_,fun o' ho'=>?_,fun j o' hj ho'=>?_⟩
 ·rw [← h.tabs,List.map_set]
  apply List.ext_getElem?
  intro j
  rw [List.getElem?_set]
  by_cases hj:k=j
  ·subst hj;rw [if_pos rfl,List.length_map,if_pos hk,List.getElem?_map,ho];rfl
  rw [if_neg hj]
 ·rw [List.getElem?_set_ne (by omega)];exact h.done j hj
 ·rw [List.getElem?_set_self hk] at ho';cases ho';rfl
 rw [List.getElem?_set_ne (by omega)] at ho';exact h.rest j o' hj ho'
theorem Ao.next {s:Sc} {l:List Rel} {k:Nat} {xs:List Val} {out:List Rel} (h:Ao s l k xs out) {o:Rel} (ho:out[k]?=some o) (hx:xs=Ai l o.table):Ao s l (k+1) [] out:=by
 refine ⟨h.tabs,fun j hj=>?_,fun o' ho'=>h.rest _ o' (Nat.lt_succ_self _) ho',fun j o' hj ho'=>h.rest j o' (by omega) ho'⟩
 by_cases hjk:j=k
 ·subst hjk
  have ht:=congrArg (·[j]?) h.tabs
  simp only [List.getElem?_map,ho,Option.map_some] at ht
  unfold C8
  rw [List.getElem?_map,ho]
  cases he:(Yh s)[j]? with
  | none=>rw [he] at ht;cases ht
  | some e=>
   rw [he] at ht
   have ht':o.table=e.table:=Qb ht
   simp only [Option.map_some]
   rw [← ht',← hx,← h.cur o ho]
 exact h.done j (by omega)
theorem Ao.fin {s:Sc} {l:List Rel} {k:Nat} {xs:List Val} {out:List Rel} (h:Ao s l k xs out) (hk:s.tables.length≤k):out=C8 s l:=by
 have hr:(C8 s l).length=s.tables.length:=by simp [C8,Yh]
 apply List.ext_getElem?
 intro j
 by_cases hj:j<k
 ·exact h.done j hj
 rw [List.getElem?_eq_none (by rw [h.len];omega),List.getElem?_eq_none (by rw [hr];omega)]
theorem Ao.tab {s:Sc} {l:List Rel} {k:Nat} {xs:List Val} {out:List Rel} (h:Ao s l k xs out) {t:Tbl} (ht:s.tables[k]?=some t):∃ o,out[k]?=some o∧o.table=t.name∧o.rows=xs:=by
 obtain ⟨o,ho⟩:∃ o,out[k]?=some o:=⟨_,Qx (by rw [h.len];exact (Qj ht).1)⟩
 have h1:=congrArg (·[k]?) h.tabs
 simp only [Yh,List.getElem?_map,ho,ht,Option.map_some] at h1
 exact ⟨o,ho,Qb h1,h.cur o ho⟩
def Aa (W0 wr:World) (v:Value) (s:Sc) (l:List Rel) (k:Nat) (xs:List Val):Prop:=∃ out css,Ao s l k xs out∧Own Zl 57 (fun _=>True) W0.heap.size wr v out css
theorem Aa.grow {W0 wr wr':World} {v:Value} {s:Sc} {l:List Rel} {k:Nat} {xs:List Val} (h:Aa W0 wr v s l k xs) (hb:Below wr.heap.size wr wr'):Aa W0 wr' v s l k xs:=by
 obtain ⟨out,css,h1,h2⟩:=h
 exact ⟨out,css,h1,h2.below hb⟩
theorem Ci (S0 S1:Nat→Prop) (s:Sc) (cs:List Value) (lv:Value) (l:List Rel) (w:World) (hs:Yn S0 w cs s) (hl0:Sl Z0 S1 w lv l) (htl:s.tables.length≤1000) (hll:l.length≤1000) (hrl:∀ r ∈ l,r.rows.length≤1000) (hsm:∀ t,(A8 l t).length≤200):
  Calls prog 28 #[.agg cs.toArray,lv] w (NormalIs w (C5 s l)):=by
 have HEm:=Qq (fun W (hb:Below w.heap.size w W)=>O4 S0 s cs W (hs.below hb) htl)
 obtain ⟨uv,tv,rfl,hu,ht0⟩:=hs
 have HL:=Qq (hl0.mono (S':=fun b=>b<w.heap.size) (fun b hb _=>hb))
 obtain ⟨up,uc,rfl,_⟩:=hu.len
 obtain ⟨tp,tc,rfl,_⟩:=ht0.len
 obtain ⟨lp,lc,rfl,_⟩:=hl0.len
 have HSm:=Qq hsm;have HRl:=Qq hrl
 have mixed:(prog).follows .mixedOrders=true:=by kernel_rfl
 obtain ⟨m,hm⟩:=eX (l.length)
 obtain ⟨n,hn⟩:=eX (s.tables.length)
 have he:(Yh s).length=n:=by rw [← hn];simp [Yh]
 unfold Lj at HEm
 rw [hm] at HL hll ⊢
 rw [hn] at HEm htl ⊢
 rw [he] at HEm
 have HM:=Qq hm;have HN:=Qq hn;have HE:=Qq he
 clear hu ht0 hl0 hsm hm hn he hrl
 go_enter func28,ntmps28
 go_wp2_with fail
 refine (HEm.out _ (Qn _ _)).mono ?_
 rintro e w1 ⟨p,cap,css0,rfl,hO1,hb1⟩
 obtain ⟨W0,hW0⟩:=eX (w.alloc (.cells #[.slice up s.sums.length uc,.slice tp n tc] 26))
 rw [hW0] at hO1 hb1
 have HB0:=Qq (show Below w.heap.size w W0 by rw [← hW0];exact Qn _ _)
 have HB1:=Qq hb1
 have hO1':Own Zl 57 (fun _=>True) W0.heap.size w1 (.slice p n cap) (Yh s) css0:=hO1.weak (Q9 _) (fun _ _ _=>trivial)
 have HO1:=Qq hO1'
 have HSl:=Qq (hO1'.rel.sl' (S':=fun _=>True) (by rw [HE.out];omega) (fun _ _=>trivial) (fun _ _ _=>trivial))
 clear hb1 hO1 hO1' hW0 HEm
 go_wp2_with fail
 go_loopw [7] (fun i wr=>∃ k:Nat,k≤m∧i=.int .i64 k∧Aside (∀ j r,j<k→l[j]?=some r→(Ym (Yh s) r.table).isNone=false)∧wr=w1) (fun i _=>m - (intOf i).toNat)
 case atStart=>exact ⟨0,Q8 _,rfl,(show Aside _ from fun _ _ hj=>absurd hj (Nat.not_lt_zero _)),rfl⟩
 obtain ⟨k,hk,rfl,hok,rfl⟩:=hrel
 have HOk:=Qq hok.out
 clear hok
 by_cases hlt:k<m
 ·have hi1:(0:Int)≤(k:Int):=by omega
  have hi2:(k:Int)<(m:Int):=by omega
  obtain ⟨r,hr⟩:∃ r,l[k]?=some r:=⟨_,Qx (by rw [HM.out];exact hlt)⟩
  obtain ⟨ga,oa,_,le,hga,_,_,⟨va,rfl,htl',hva⟩,hca⟩:=(HL.out.below (HB0.out.thn HB1.out)).elem hr
  subst le
  have d0:=hca 0 _ rfl
  rw [show Z0.k=2 from rfl,Nat.add_zero] at d0
  unfold sv at d0
  have HF:=Qq (Uh (fun _=>True) (.slice p n cap) (Yh s) r.table wr HSl.out)
  unfold sv at HF
  have HR:=Qq hr
  rcases Vk (Yh s) r.table with ⟨hr1,hi⟩ | ⟨i,o,hr1,hi,_⟩
  ·have HR1:=Qq hr1
   rw [hi] at HF
   clear hr hr1 hi hva hca
   go_wp2_with (go_at_call 37;refine HF.out.mono ?_;rintro e w' ⟨rfl,rfl⟩)
   go_ret2
   have hq:C5 s l=(7,[]):=by
    unfold C5 Ae
    rw [if_pos]
    rw [List.any_eq_true]
    exact ⟨r,Qy HR.out,by rw [HR1.out];rfl⟩
   rw [hq]
   exact ⟨none,0,rfl,Sl.nil _ _ _,HB0.out.thn HB1.out⟩
  have HR1:=Qq hr1
  rw [hi] at HF
  have hi3:¬ ((i:Int)<0):=by omega
  clear hr hr1 hi hva hca
  go_wp2_with (go_at_call 37;refine HF.out.mono ?_;rintro e w' ⟨rfl,rfl⟩)
  go_roundw
  case measure=>simp [intOf];omega
  case rel=>exact ⟨k+1,by omega,by go_num,(show Aside _ from fun j r' hj hr'=>by
   by_cases hjk:j<k
   ·exact HOk.out j r' hjk hr'
   obtain rfl:j=k:=by omega
   rw [HR.out] at hr'
   cases hr'
   rw [HR1.out];rfl),trivial⟩
 have hltz:¬ (k:Int)<(m:Int):=by omega
 obtain rfl:m=k:=by omega
 have hnst:Ae s l=false:=by
  unfold Ae
  rw [List.any_eq_false]
  intro r hr
  obtain ⟨j,hj⟩:=List.mem_iff_getElem?.1 hr
  rw [HOk.out j r (by rw [← HM.out];exact (Qj hj).1) hj]
  simp
 have hq:C5 s l=(0,C8 s l):=by unfold C5;rw [hnst];rfl
 have HQ:=Qq hq
 have HSt:=Qq (show Aa W0 wr (.slice p n cap) s l 0 [] from ⟨_,_,Co s l,HO1.out⟩)
 obtain ⟨w1,hw1⟩:∃ w1,w1=wr:=⟨_,rfl⟩
 subst hw1
 clear HOk hlt hk hnst hq HSl HO1
 go_wp2_with fail
 go_loopw [8,9,10] (fun a _ _ wr=>∃ k:Nat,k≤n∧a=.int .i64 k∧Aside (Aa W0 wr (.slice p n cap) s l k [])∧Aside (Below W0.heap.size W0 wr)) (fun a _ _ _=>n - (intOf a).toNat)
 case atStart=>exact ⟨0,Q8 _,rfl,HSt.out,HB1.out⟩
 obtain ⟨k',hk,rfl,hH,hB⟩:=hrel
 have HH:=Qq (show Aa W0 wr (.slice p n cap) s l k' [] from hH);have HBk:=Qq (show Below W0.heap.size W0 wr from hB)
 clear hH hB
 by_cases hlt:k'<n
 ·have hk1:(0:Int)≤(k':Int):=by omega
  have hk2:(k':Int)<(n:Int):=by omega
  obtain ⟨t,ht⟩:∃ t,s.tables[k']?=some t:=⟨_,Qx (by rw [HN.out];exact hlt)⟩
  have HT:=Qq ht
  obtain ⟨g,rfl⟩:∃ g,p=some ⟨g,0,none⟩:=by
   obtain ⟨out,css,hmid,hO⟩:=HH.out
   have hol:=hmid.len
   rw [HN.out] at hol
   obtain ⟨g,cap',hpv,_,_⟩:=hO.row.form (by omega)
   simp only [Value.slice.injEq] at hpv
   exact ⟨g,hpv.1⟩
  have HCell:=Qq (fun W xs (hH:Aa W0 W (.slice (some ⟨g,0,none⟩) n cap) s l k' xs)=>(show ∃ q qc,xs.length≤qc∧Sl Ql (fun b=>b≠g) W (.slice q xs.length qc) xs∧W.cell? ⟨g,k'*2,none⟩=some (.string ⟨t.name.toArray⟩)∧W.cell? ⟨g,k'*2+1,none⟩=some (.slice q xs.length qc)∧W.frozen? ⟨g,k'*2+1,none⟩=false∧W0.heap.size≤g∧g<W.heap.size from by
   obtain ⟨out,css,hmid,hO⟩:=hH
   have hol:=hmid.len
   rw [HN.out] at hol
   obtain ⟨o,ho,hot,hor⟩:=hmid.tab HT.out
   obtain ⟨g',cap',hpv,hgB,hgs⟩:=hO.row.form (by omega)
   simp only [Value.slice.injEq,Option.some.injEq,Addr.mk.injEq] at hpv
   obtain ⟨⟨rfl,-,-⟩,-,rfl⟩:=hpv
   have hsh:W.ownsRow W0.heap.size 57 2 (.slice (some ⟨g,0,none⟩) n cap) n css.flatten:=by have h:=hO.row;rw [hol] at h;exact h
   obtain ⟨c,hc⟩:∃ c,css[k']?=some c:=⟨_,Qx (by rw [hO.cs.len,hol];exact hlt)⟩
   obtain ⟨rv,rfl,htl,hrv,hcap⟩:=hO.cs.R k' c o hc ho
   have l0:=hsh.cellAt (k'*2) (by omega)
   have l1:=hsh.cellAt (k'*2+1) (by omega)
   have e0:=Yg (k:=2) hO.cs.all hc (j:=0) rfl
   rw [Nat.add_zero] at e0
   rw [show css.flatten[k'*2]?=some (sv o.table) from e0] at l0
   rw [show css.flatten[k'*2+1]?=some rv from Yg (k:=2) hO.cs.all hc (j:=1) rfl] at l1
   obtain ⟨q,qc,rfl,hqc⟩:=hcap
   rw [hor] at l1 hrv hqc
   rw [hot] at l0
   exact ⟨q,qc,hqc,hrv.mono (fun b _ hb e=>hb.2 (by rw [e];rfl)),l0,l1,hsh.frozenAt _,hgB,hgs⟩))
  have HSet:=Qq (fun W xs zs (hH:Aa W0 W (.slice (some ⟨g,0,none⟩) n cap) s l k' xs) rv (hs:Sl Ql (fun b=>b≠g) W rv zs) (hc:CapV rv zs.length)=>(show Aa W0 (W.setCell ⟨g,k'*2+1,none⟩ rv) (.slice (some ⟨g,0,none⟩) n cap) s l k' zs from by
   obtain ⟨out,css,hmid,hO⟩:=hH
   obtain ⟨o,ho,hot,hor⟩:=hmid.tab HT.out
   obtain ⟨css',hO'⟩:=Gh (zs:=zs) (by rw [hmid.len,HN.out]) hO ho (rv':=rv) (hs.mono (fun b _ hb=>⟨trivial,fun e=>hb (Qb e)⟩)) hc
   exact ⟨_,css',hmid.put ho zs,hO'⟩))
  have HRel:=Qq (fun W (hW:Below W0.heap.size W0 W) i r (hr:l[i]?=some r)=>(show ∃ ga oa qa qca,lp=some ⟨ga,oa,none⟩∧ga<w.heap.size∧W.cell? ⟨ga,oa+i*2,none⟩=some (.string ⟨r.table.toArray⟩)∧W.cell? ⟨ga,oa+i*2+1,none⟩=some (.slice qa r.rows.length qca)∧Sl Ql (fun b=>b<w.heap.size) W (.slice qa r.rows.length qca) r.rows from by
   obtain ⟨ga,oa,_,le,hga,hgs,_,⟨va,rfl,htl',hva⟩,hca⟩:=(HL.out.below (HB0.out.thn hW)).elem hr
   have d0:=hca 0 _ rfl;have d1:=hca 1 _ rfl
   rw [show Z0.k=2 from rfl] at d0 d1
   rw [Nat.add_zero] at d0
   obtain ⟨qa,qca,rfl,_⟩:=hva.len
   exact ⟨ga,oa,qa,qca,le,hgs,d0,d1,hva⟩))
  clear ht
  obtain ⟨w2,hw2⟩:∃ w2,w2=wr:=⟨_,rfl⟩
  subst hw2
  go_wp2_with fail
  go_loopw [9,10] (fun a _ wr=>∃ i:Nat,i≤m∧a=.int .i64 i∧Aside (Aa W0 wr (.slice (some ⟨g,0,none⟩) n cap) s l k' ((A8 (l.take i) t.name).foldl Vc []))∧Aside (Below W0.heap.size W0 wr)) (fun a _ _=>m - (intOf a).toNat)
  case atStart=>exact ⟨0,Q8 _,rfl,HH.out,HBk.out⟩
  obtain ⟨i,hi,rfl,hH,hB⟩:=hrel
  have HHi:=Qq (show Aa W0 wr (.slice (some ⟨g,0,none⟩) n cap) s l k' ((A8 (l.take i) t.name).foldl Vc []) from hH);have HBi:=Qq (show Below W0.heap.size W0 wr from hB)
  clear hH hB
  by_cases hlm:i<m
  ·have hi1:(0:Int)≤(i:Int):=by omega
   have hi2:(i:Int)<(m:Int):=by omega
   obtain ⟨r,hr⟩:∃ r,l[i]?=some r:=⟨_,Qx (by rw [HM.out];exact hlm)⟩
   have hstep:=Qjy hr t.name
   have HR:=Qq hr
   have hrl:=HRl.out r (Qy hr)
   have hC9:=Qc (Qja l (i+1) t.name) (HSm.out t.name)
   obtain ⟨w3,hw3⟩:∃ w3,w3=wr:=⟨_,rfl⟩
   subst hw3
   by_cases heq:r.table=t.name
   ·rw [if_pos heq] at hstep
    rw [hstep,List.length_append] at hC9
    have HStep:=Qq hstep
    obtain ⟨C,hC⟩:=eX (A8 (l.take i) t.name)
    rw [hC] at HHi HStep hC9
    have hq:(r.table==t.name)=true:=by rw [beq_iff_eq];exact heq
    clear hr hstep heq
    go_wp2_with fail
    go_loopw [10] (fun b wr=>∃ j:Nat,j≤r.rows.length∧b=.int .i64 j∧Aside (Aa W0 wr (.slice (some ⟨g,0,none⟩) n cap) s l k' ((C++r.rows.take j).foldl Vc []))∧Aside (Below W0.heap.size W0 wr)) (fun b _=>r.rows.length - (intOf b).toNat)
    case atStart=>exact ⟨0,Q8 _,rfl,(show Aside _ from by rw [List.take_zero,List.append_nil];exact HHi.out),HBi.out⟩
    obtain ⟨j,hj,rfl,hH,hB⟩:=hrel
    have HHj:=Qq (show Aa W0 wr (.slice (some ⟨g,0,none⟩) n cap) s l k' ((C++r.rows.take j).foldl Vc []) from hH);have HBj:=Qq (show Below W0.heap.size W0 wr from hB)
    clear hH hB
    obtain ⟨Xs,hXs⟩:=eX ((C++r.rows.take j).foldl Vc [])
    have hXl:Xs.length≤200:=by
     rw [← hXs]
     have h1:=An (C++r.rows.take j) []
     have h2:=List.length_take_le j r.rows
     have h3:=List.length_take_le' j r.rows
     rw [List.length_append,List.length_nil] at h1
     omega
    rw [hXs] at HHj
    obtain ⟨q,qc,hqc,hsq,l0,l1,f1,hgB,hgs⟩:=HCell.out wr Xs HHj.out
    obtain ⟨ga,oa,qa,qca,hle,hgw,d0,d1,hva⟩:=HRel.out wr HBj.out i r HR.out
    subst hle
    have hw0:=HB0.out.size
    have hga:ga≠g:=by omega
    have hgas:ga<wr.heap.size:=by omega
    by_cases hlj:j<r.rows.length
    ·have hj1:(0:Int)≤(j:Int):=by omega
     have hj2:(j:Int)<(r.rows.length:Int):=by omega
     obtain ⟨y,hy⟩:∃ y,r.rows[j]?=some y:=⟨_,Qx hlj⟩
     obtain ⟨fb,foff,y3,y3c,y4,y4c,hfp,hfb,hvy,e0,e1,e2,e3,e4⟩:=hva.val hy
     subst hfp
     have hnx:(C++r.rows.take (j+1)).foldl Vc []=Vc Xs y:=by
      rw [List.take_add_one,hy,← List.append_assoc,List.foldl_append,hXs];rfl
     have HNx:=Qq hnx
     have HFs:=Qq (fun W (hb:Below wr.heap.size wr W)=>Qe ((hb.cell (p:=⟨g,k'*2+1,none⟩) hgs).trans l1) (Qe ((hb.frozen (p:=⟨g,k'*2+1,none⟩) hgs).trans f1) (Qe (kD hb hgas d1) (Qe (kD hb hfb e0) (Qe (kD hb hfb e1) (Qe (kD hb hfb e2) (Qe (kD hb hfb e3) (kD hb hfb e4))))))))
     have HPut:=Qq (fun W (hb:Below wr.heap.size wr W)=>put_any (fun b=>b≠g) (.slice q Xs.length qc) Xs y (vcs y y3 y3c y4 y4c) W (hsq.below hb) ⟨q,qc,rfl,hqc⟩ (Qh.move hvy (.of_below hb) (fun b _ h=>by have h':b<w.heap.size:=h;show b≠g;omega)) (by omega))
     unfold vcs at HPut
     have hrb:(j:Int)<9223372036854775807:=by omega
     clear hva hvy hy hsq e0 e1 e2 e3 e4 hnx hXs
     go_wp2_with fail
     go_quiet (fail)
     generalize hW5:World.drewN _ _=w5
     have hb5:Below wr.heap.size wr w5:=by rw [← hW5];exact Zy _ _
     clear hW5 l0 l1 f1 d0 d1
     obtain ⟨l1,f1,d1,e0,e1,e2,e3,e4⟩:=HFs.out w5 hb5
     have hgs5:=Qa hgs hb5.size
     have HB5:=Qq hb5;have HL1:=Qq l1;have HF1:=Qq f1
     clear hb5
     go_wp2_with fail
     go_region_with (go_at_call 60;refine (HPut.out _ (HB5.out.thn (Qz _ _).drew)).mono ?_;rintro e w6 ⟨p6,c6,rfl,hc6,hs6,hb6⟩;have hB6:=((Qz _ w5).drew).thn hb6;have HS6:=Qq hs6;have HC6:=Qq hc6;have HB6:=Qq hB6;have f6:=(hB6.frozen (p:=⟨g,k'*2+1,none⟩) hgs5).trans HF1.out;have l6:=(hB6.cell (p:=⟨g,k'*2+1,none⟩) hgs5).trans HL1.out;clear hs6 hc6 hb6 hB6)
     all_goals
      go_wp2_with fail
      go_roundw
      case measure=>simp [intOf];omega
      case rel=>
       refine ⟨j+1,by omega,by go_num,(show Aside _ from ?_),(show Aside _ from ((HBj.out.thn (HB5.out.thn HB6.out)).setCell (p:=⟨g,k'*2+1,none⟩) hgB _))⟩
       rw [HNx.out]
       exact HSet.out _ _ _ (HHj.out.grow (HB5.out.thn HB6.out)) _ (HS6.out.mono (fun b _ h=>by
        rcases h with h | h
        ·exact h
        have:=HB5.out.size
        have h':w5.heap.size≤b:=by simpa using h
        show b≠g
        omega)) ⟨_,_,rfl,HC6.out⟩
    have hjr:¬ (j:Int)<(r.rows.length:Int):=by omega
    have hjr':decide ((j:Int)<(r.rows.length:Int))=false:=by rw [decide_eq_false_iff_not];exact hjr
    rw [← hXs] at HHj
    rw [List.take_of_length_le (by omega),← HStep.out] at HHj
    clear hva hsq hXs hXl hqc
    go_wp2_with fail
    go_quiet (fail)
    go_wp2_with fail
    go_roundw
    case measure=>simp [intOf];omega
    case rel=>exact ⟨i+1,by omega,by go_num,(show Aside _ from HHj.out.grow (Zy _ _)),(show Aside _ from HBj.out.thn (Zy _ _))⟩
   rw [if_neg heq,List.append_nil] at hstep
   rw [← hstep] at HHi
   have hq:(r.table==t.name)=false:=by rw [← Bool.not_eq_true,beq_iff_eq];exact heq
   clear hr hstep heq
   go_wp2_with fail
   go_loopw [10] (fun b wr=>b=.int .i64 0∧wr=w3) (fun b _=>0)
   case atStart=>exact ⟨rfl,rfl⟩
   obtain ⟨rfl,rfl⟩:=hrel
   obtain ⟨Xs,hXs⟩:=eX ((A8 (l.take (i+1)) t.name).foldl Vc [])
   rw [hXs] at HHi
   obtain ⟨q,qc,hqc,hsq,l0,l1,f1,hgB,hgs⟩:=HCell.out wr Xs HHi.out
   obtain ⟨ga,oa,qa,qca,hle,hgw,d0,d1,hva⟩:=HRel.out wr HBi.out i r HR.out
   subst hle
   rw [← hXs] at HHi
   by_cases hlj:0<r.rows.length
   ·have hj2:(0:Int)<(r.rows.length:Int):=by omega
    clear hva hsq hXs hqc
    go_wp2_with fail
    go_quiet (fail)
    go_wp2_with fail
    go_roundw
    case measure=>simp [intOf];omega
    case rel=>exact ⟨i+1,by omega,by go_num,(show Aside _ from HHi.out.grow (Zy _ _)),(show Aside _ from HBi.out.thn (Zy _ _))⟩
   have hjr:¬ (0:Int)<(r.rows.length:Int):=by omega
   have hjr':decide ((0:Int)<(r.rows.length:Int))=false:=by rw [decide_eq_false_iff_not];exact hjr
   clear hva hsq hXs hqc
   go_wp2_with fail
   go_quiet (fail)
   go_wp2_with fail
   go_roundw
   case measure=>simp [intOf];omega
   case rel=>exact ⟨i+1,by omega,by go_num,(show Aside _ from HHi.out.grow (Zy _ _)),(show Aside _ from HBi.out.thn (Zy _ _))⟩
  have him:¬ (i:Int)<(m:Int):=by omega
  have hXe:(A8 (l.take i) t.name).foldl Vc []=Ai l t.name:=by unfold Ai;rw [List.take_of_length_le (by rw [HM.out];omega)]
  rw [hXe] at HHi
  obtain ⟨Xs,hXs⟩:=eX (Ai l t.name)
  have hXl:Xs.length≤200:=by
   rw [← hXs]
   have h1:=An (A8 l t.name) []
   have h2:=HSm.out t.name
   unfold Ai
   rw [List.length_nil] at h1
   omega
  rw [hXs] at HHi
  obtain ⟨q,qc,hqc,hsq,l0,l1,f1,hgB,hgs⟩:=HCell.out wr Xs HHi.out
  have hx2:¬ ((Xs.length:Int) > 256):=by omega
  have hx3:¬ (256<(Xs.length:Int)):=by omega
  have HXs:=Qq hXs
  clear hsq hXs hXe hqc
  go_wp2_with fail
  go_roundw
  case measure=>simp [intOf];omega
  case rel=>
   refine ⟨k'+1,by omega,by go_num,(show Aside _ from ?_),HBi.out⟩
   obtain ⟨out,css,hmid,hO⟩:=HHi.out
   obtain ⟨o,ho,hot,hor⟩:=hmid.tab HT.out
   exact ⟨out,css,hmid.next ho (by rw [hot,HXs.out]),hO⟩
 have hkn:¬ (k':Int)<(n:Int):=by omega
 have HF:=Qq (show NormalIs w (C5 s l) (.returned (.tuple #[.slice p n cap,.int .i64 0])) wr from by
  obtain ⟨out,css,hmid,hO⟩:=HH.out
  have hol:=hmid.len
  rw [HN.out] at hol
  rw [HQ.out]
  have hfe:=hmid.fin (by rw [HN.out];omega)
  subst hfe
  exact ⟨p,cap,by rw [hol],by rw [hol];exact hO.rel.sl' (by rw [hol];omega) (fun _ _=>trivial) (fun _ _ _=>trivial),HB0.out.trans (HBk.out.mono HB0.out.size)⟩)
 go_wp2_with fail
 go_ret2
 exact HF.out
def DyN (w:World) (e:Ending) (w':World):Prop:=∃ l p n cap,e=.returned (.slice p n cap)∧l.length=n∧(∀ r ∈ l,r.rows.length≤8)∧(l.map Rel.table).Nodup∧n≤20∧Sl Z0 (fun b=>w.heap.size≤b) w' (.slice p n cap) l∧Below w.heap.size w w'
def PairIs (W0:World) (c:Nat) (v:Value) (w:World):Prop:=∃ l p n cap css,v=.slice p n cap∧l.length=n∧n≤c∧(∀ r ∈ l,r.rows.length≤8)∧(∀ t,(A8 l t).length≤16)∧Own Z0 57 (fun _=>True) W0.heap.size w (.slice p n cap) l css∧Below W0.heap.size W0 w
theorem Cp (l:List Rel):eqL Ju l l=true:=Ts rfl (fun i x y hx hy=>by
 rw [hx] at hy
 cases hy
 unfold Ju
 rw [Ts rfl (fun i x y hx hy=>by rw [hx] at hy;cases hy;simp [eqv])]
 simp)
theorem Cy (s:Sc) (hd0:((Yh s).map Rel.table).Nodup) (htl:s.tables.length≤20) (hnl:∀ t ∈ s.tables,t.name.length≤1000000) (lv nv mv kv:Value) (z:Int) (w:World)
  (hSch:Calls prog 7 #[lv] w (fun e w'=>∃ up m1 uc tp m2 tc,e=.returned (.agg #[.slice up m1 uc,.slice tp m2 tc])∧Yn (fun _=>True) w' [.slice up m1 uc,.slice tp m2 tc] s∧Below w.heap.size w w'))
  (hDy1:∀ W cs,Below w.heap.size w W→Yn (fun _=>True) W cs s→Calls prog 8 #[.agg cs.toArray,nv,mv] W (DyN W))
  (hDy2:∀ W cs,Below w.heap.size w W→Yn (fun _=>True) W cs s→Calls prog 8 #[.agg cs.toArray,mv,kv] W (DyN W))
  (hPk:∀ W,Below w.heap.size w W→Calls prog 26 #[kv,.int .i64 0,.int .i64 8] W (fun e w'=>e=.returned (.int .i64 z)∧W=w'))
  (hLv:∀ W,Below w.heap.size w W→Calls prog 18 #[] W (fun e w'=>e=.returned (.bool true)∧Below W.heap.size W w')):
  Calls prog 5 #[lv,nv,mv,kv] w fun e w'=>e=.returned (.bool true)∧Below w.heap.size w w':=by
 have HSch:=Qq hSch;have HDy1:=Qq hDy1;have HDy2:=Qq hDy2;have HLv:=Qq hLv;have HPk:=Qq hPk
 have HD0:=Qq hd0;have HTl:=Qq htl;have HNl:=Qq hnl
 clear hSch hDy1 hDy2 hLv hPk hd0 hnl
 obtain ⟨i0,j1,j2,j3,j4⟩:=Za (P:=prog) (t:=57) (z:=.agg #[.string ⟨#[]⟩,.slice none 0 0]) (n:=2) (b:=40) (by kernel_rfl)
 have HJ:=Qq j1;have HJ2:=Qq j2;have HJ3:=Qq j3;have HJ4:=Qq j4
 clear j1 j2 j3 j4
 go_enter func5,ntmps5
 go_upto_region 2 with (go_at_call 7;refine HSch.out.mono ?_;rintro e w1 ⟨up,m1,uc,tp,m2,tc,rfl,hsc1,hb1⟩;have HSc1:=Qq hsc1;have HB1:=Qq hb1;clear hsc1 hb1)
 generalize hW2:w1.alloc _=W2
 have hb2:=eqB hW2 (Qn _ _)
 have hX2:=eqH (b:=w1.heap.size) hW2 (Qw _ _)
 have HSc2:=Qq (HSc1.out.below hb2);have HB2:=Qq (HB1.out.thn hb2)
 obtain ⟨c0,c1⟩:=row2 hX2
 have hlt2:=Qf hX2
 have HC:=Qq (fun W (h:Below W2.heap.size W2 W)=>Qe (kD h hlt2 c0) (kD h hlt2 c1))
 clear hW2 hb2 hX2 HSc1 hlt2
 have HDa:=Qq (fun W (hW:Below W2.heap.size W2 W)=>HDy1.out W _ (HB2.out.thn hW) (HSc2.out.below hW))
 have HDb:=Qq (fun W (hW:Below W2.heap.size W2 W)=>HDy2.out W _ (HB2.out.thn hW) (HSc2.out.below hW))
 refine let_mvar% ?Lq1:=fun w':World=>w'.cell? ⟨w1.heap.size,0,none⟩=some (.slice up m1 uc)∧w'.cell? ⟨w1.heap.size,1,none⟩=some (.slice tp m2 tc)∧Below W2.heap.size W2 w';?_
 have HS:∀ w',Below W2.heap.size W2 w'→?Lq1 w':=fun w' h=>⟨(HC.out w' h).1,(HC.out w' h).2,h⟩
 obtain ⟨HS0,HSr,HD',HSB',HA',HSq⟩:=X5 HS (fun w' h=>h.2.2)
 have HM0:=Qq (show Mk Z0 57 (fun _=>True) W2 (W2.alloc (.cells #[] 57 (0,0))).drew (.slice (some ⟨W2.heap.size,0,none⟩) 0 0) 0 [] from ⟨[],Hw (n:=0) (show (W2.alloc (.cells #[] 57 (0,0))).heap[W2.heap.size]?=some (.cells #[] 57 (0,0)) from Qw _ _) (Q9 _) (Cs.nil _ _ _) rfl rfl (by simp),rfl,(Qn _ _).drew⟩)
 have HDq:=Qq ((HDa.out W2.drew (Qz _ _).drew).mono (R':=fun e w3=>∃ A ap an ac,e=.returned (.slice ap an ac)∧A.length=an∧(∀ r ∈ A,r.rows.length≤8)∧(A.map Rel.table).Nodup∧an≤20∧Sl Z0 (But (fun _=>True) (.slice (some ⟨w3.heap.size,0,none⟩) 0 0)) (w3.alloc (.cells #[] 57 (0,0))) (.slice ap an ac) A∧Mk Z0 57 (fun _=>True) W2 (w3.alloc (.cells #[] 57 (0,0))) (.slice (some ⟨w3.heap.size,0,none⟩) 0 0) 0 []∧Below W2.heap.size W2 w3) (by
  rintro e w3 ⟨A,ap,an,ac,rfl,hal,ha8,had,ha20,hsa,hba⟩
  have hbw:Below W2.heap.size W2 w3:=(Qz W2.heap.size W2).drew.thn hba
  refine ⟨A,ap,an,ac,rfl,hal,ha8,had,ha20,(hsa.mono (S':=But (fun _=>True) (.slice (some ⟨w3.heap.size,0,none⟩) 0 0)) (fun b hb _=>⟨trivial,fun e=>?_⟩)).below (Qn _ _),⟨[],Hw (n:=0) (Qw _ _) hbw.size (Cs.nil _ _ _) rfl rfl (by simp),rfl,hbw.thn (Qn _ _)⟩,hbw⟩
  have e':b=w3.heap.size:=Qb e
  omega))
 clear HS c0 c1
 go_cut [10] (fun t10 wx=>PairIs W2 40 t10 wx)
 case first=>
  go_region_held3 ?Lq1 (first | with_reducible exact HS0.out | with_reducible exact hS2 | with_reducible exact HD'.out _ (HA'.out _ _ HSr.out) | with_reducible exact HD'.out _ hS2 | with_reducible exact HA'.out _ _ hS2)
   (first
    | (refine Ya (r:=Z0) (by decide) Pz (by rfl) (.tmp 22) (.tmp 26) 28 (by rfl) 57 i0 (.agg #[.string ⟨#[]⟩,.slice none 0 0]) 40 underlying28 HJ.out HJ2.out HJ3.out HJ4.out rfl (by omega) (fun _=>True) W2 w5 (.slice p6 an c6) an ([]++A) (by rfl) HM5.out (.slice bp bn bc) B (by rfl) HSb.out (an+bn) (by rw [HBl.out]) (by omega) ?_;intro p7 c7 w7 hM7 hL7;have hS2:=HSq.out w7 hM7.below;have HM7:=Qq hM7;clear hM7 hL7)
    | (go_at_call 8;refine (HDb.out _ HM6.out.below).mono ?_;rintro e w5 ⟨B,bp,bn,bc,rfl,hbl,hb8,hbd,hb20,hsb,hbb⟩;have HM5:=Qq (HM6.out.grow hbb);have hS2:=HSq.out _ HM5.out.below;have HBl:=Qq hbl;have HB8:=Qq hb8;have HBd:=Qq hbd;have HSb:=Qq (hsb.mono (S':=But (fun _=>True) (.slice p6 an c6)) (fun b _ hb=>⟨trivial,fun e=>by have h1:=(HM6.out.lt b e.symm).2;omega⟩));clear hbl hb8 hbd hsb hbb)
    | (refine Ya (r:=Z0) (by decide) Pz (by rfl) (.tmp 17) (.tmp 21) 28 (by rfl) 57 i0 (.agg #[.string ⟨#[]⟩,.slice none 0 0]) 40 underlying28 HJ.out HJ2.out HJ3.out HJ4.out rfl (by omega) (fun _=>True) W2 (w3.alloc (.cells #[] 57 (0,0))) (.slice (some ⟨w3.heap.size,0,none⟩) 0 0) 0 [] (by rfl) HM3q.out (.slice ap an ac) A (by rfl) HSaq.out an (by rw [HAl.out,Nat.zero_add]) (by omega) ?_;intro p6 c6 w6 hM6 hL6;have hS2:=HSq.out w6 hM6.below;have HM6:=Qq hM6;clear hM6 hL6)
    | (refine Ya (r:=Z0) (by decide) Pz (by rfl) (.tmp 17) (.tmp 21) 28 (by rfl) 57 i0 (.agg #[.string ⟨#[]⟩,.slice none 0 0]) 40 underlying28 HJ.out HJ2.out HJ3.out HJ4.out rfl (by omega) (fun _=>True) W2 w3 (.slice (some ⟨W2.heap.size,0,none⟩) 0 0) 0 [] (by rfl) HM3.out (.slice ap an ac) A (by rfl) HSa.out an (by rw [HAl.out,Nat.zero_add]) (by omega) ?_;intro p6 c6 w6 hM6 hL6;have hS2:=HSq.out w6 hM6.below;have HM6:=Qq hM6;clear hM6 hL6)
    | (go_at_call 8;refine HDq.out.mono ?_;rintro e w3 ⟨A,ap,an,ac,rfl,hal,ha8,had,ha20,hsa,hm3,hbw⟩;have HM3q:=Qq hm3;have hS2:=HSq.out _ hbw;have HAl:=Qq hal;have HA8:=Qq ha8;have HAd:=Qq had;have HSaq:=Qq hsa;clear hal ha8 had hsa hbw hm3)
    | (go_at_call 8;refine (HDa.out _ HM0.out.below).mono ?_;rintro e w3 ⟨A,ap,an,ac,rfl,hal,ha8,had,ha20,hsa,hba⟩;have HM3:=Qq (HM0.out.grow hba);have hS2:=HSq.out _ HM3.out.below;have HAl:=Qq hal;have HA8:=Qq ha8;have HAd:=Qq had;have HSa:=Qq (hsa.mono (S':=But (fun _=>True) (.slice (some ⟨W2.heap.size,0,none⟩) 0 0)) (fun b _ hb=>⟨trivial,fun e=>by have h1:=(HM0.out.lt b e.symm).2;omega⟩));clear hal ha8 had hsa hba))
  all_goals
   go_wp2_with fail
   go_meet
   obtain ⟨css7,hO7,hl7,hB7⟩:=HM7.out
   refine ⟨A++B,p7,an+bn,c7,css7,rfl,hl7,by omega,fun r hr=>?_,fun t=>?_,hO7,hB7⟩
   ·rcases List.mem_append.1 hr with hr | hr
    ·exact HA8.out r hr
    exact HB8.out r hr
   rw [Au,List.length_append]
   have h1:=Cg HAd.out HA8.out t
   have h2:=Cg HBd.out HB8.out t
   omega
 have HP:=Qq hcut
 obtain ⟨w3,rfl⟩:∃ w3,w3=wc:=⟨_,rfl⟩
 obtain ⟨l0,p0,n0,k0,css0,rfl,hl0,hn0,h80,hc0,hO0,hb0⟩:=hcut
 have HO0:=Qq hO0;have HL0:=Qq hl0;have H80:=Qq h80;have HC0:=Qq hc0;have HB0:=Qq hb0
 have HPq:=Qq (HPk.out w3 (HB2.out.thn hb0))
 clear hO0 hl0 h80 hc0 hb0 HM0 HDa HDb HSr HS0 HD' HSB' HA' HSq
 go_upto_if 30 with (go_at_call 26;refine HPq.out.mono ?_;rintro e w' ⟨rfl,rfl⟩)
 go_cut [10] (fun t10 wx=>PairIs W2 41 t10 wx)
 case first=>
  by_cases hz:z=0
  ·have hqz:(z==0)=true:=by rw [hz];rfl
   have hHn:([119]:List UInt8).length≤1000000:=by decide
   go_wp2_with (at_builtin;generalize hW:World.alloc w3 _=W;have hbW:=eqB hW (Qn _ _);have hXW:=eqH (b:=w3.heap.size) hW (Qw _ _);refine Yq (r:=Z0) (by decide) Pz rfl (.tmp 31) (.tmp 33) _ rfl 57 i0 (.agg #[.string ⟨#[]⟩,.slice none 0 0]) 40 underlying28 HJ.out HJ2.out HJ3.out HJ4.out rfl (by omega) (fun _=>True) W2.heap.size W (.slice p0 n0 k0) l0 css0 rfl (HO0.out.below hbW) (.slice (some ⟨w3.heap.size,0,none⟩) 1 1) [⟨[119],[]⟩] rfl (Z4 hXW ⟨trivial,fun e=>by have:=(HO0.out.row.lt _ e.symm).2;omega⟩ (Cs.one ⟨_,rfl,hHn,Sl.nil _ _ _⟩) rfl rfl (by simp)) (n0+1) (by rw [HL0.out];rfl) (by omega) (by have:=HB0.out.size;have:=hbW.size;omega) ?_;intro p4 c4 css4 w4 hO4 hL4;have HO4:=Qq hO4;have HL4:=Qq hL4;have HBW:=Qq hbW;clear hO4 hL4 hbW hXW hW)
   go_meet
   refine ⟨l0++[⟨[119],[]⟩],p4,n0+1,c4,css4,rfl,by rw [List.length_append,HL0.out];rfl,by omega,fun r hr=>?_,fun t=>?_,HO4.out,(HB0.out.thn HBW.out).trans HL4.out.below⟩
   ·rcases List.mem_append.1 hr with hr | hr
    ·exact H80.out r hr
    obtain rfl:=List.mem_singleton.1 hr
    exact Q8 _
   rw [Au,List.length_append]
   have h1:=HC0.out t
   have h2:(A8 [(⟨[119],[]⟩:Rel)] t)=[]:=by
    rw [Ac]
    show (if _ then ([]:List Val) else [])++[]=[]
    split <;> rfl
   rw [h2]
   simpa using h1
  have hqz:(z==0)=false:=by simpa using hz
  go_wp2_with fail
  go_meet
  obtain ⟨l1,p1,n1,k1,css1,h1,h2,h3,h4⟩:=HP.out
  exact ⟨l1,p1,n1,k1,css1,h1,h2,by omega,h4⟩
 obtain ⟨w5,rfl⟩:∃ w5,w5=wc:=⟨_,rfl⟩
 obtain ⟨l,p,n,cap,css,rfl,hln,hn9,h8,hc16,hO,hb⟩:=hcut
 have hSl:Sl Z0 (fun _=>True) w5 (.slice p n cap) l:=hO.sl' (by omega) (fun _ _=>trivial) (fun _ _ _=>trivial)
 have HSl:=Qq hSl;have HB:=Qq hb;have H8:=Qq h8
 have HAg:=Qq (Cb (s:=s) (l:=l) HD0.out (fun t=>by have:=hc16 t;omega))
 have htl9:=HTl.out
 have HN1:=Qq (normal'_any (fun _=>True) (fun _=>True) s _ (.slice p n cap) l Cm w5 (HSc2.out.below hb) hSl HNl.out (by omega) (by omega) (fun r hr=>by have:=h8 r hr;omega) (fun o ho r hr=>Cu _ (Cc HD0.out (fun t=>by have:=hc16 t;omega) o ho r hr)))
 have HN2:=Qq (fun W (hW:Below w5.heap.size w5 W)=>Ci (fun _=>True) (fun _=>True) s _ (.slice p n cap) l W (HSc2.out.below (HB.out.thn hW)) (HSl.out.below hW) (by omega) (by omega) (fun r hr=>by have:=H8.out r hr;omega) (fun t=>by have:=hc16 t;omega))
 obtain ⟨X,hX⟩:=eX (normalF Cm s l)
 obtain ⟨Y,hY⟩:=eX (C5 s l)
 rw [hX] at HN1
 rw [hY] at HN2
 rw [hX,hY] at HAg
 unfold NormalIs at HN1 HN2
 obtain ⟨xe,xl⟩:=X
 obtain ⟨ye,yl⟩:=Y
 obtain ⟨hxy,hxl⟩:=HAg.out
 simp only at hxy
 subst hxy
 have c0:w5.cell? ⟨w1.heap.size,0,none⟩=some (.slice up m1 uc):=(HC.out w5 HB.out).1
 have c1:w5.cell? ⟨w1.heap.size,1,none⟩=some (.slice tp m2 tc):=(HC.out w5 HB.out).2
 have HXl:=Qq (show eqL Ju xl yl=true from hxl)
 clear hO hb h8 hc16 hSl hX hY HAg hxl HP
 go_upto_region 6 with (go_at_call 27;refine HN1.out.mono ?_;rintro e w6 ⟨xp,xc,rfl,hsx,hb6⟩;have HSx:=Qq hsx;have HB6:=Qq hb6;clear hsx hb6)
 have HN3:=Qq (HN2.out w6 HB6.out)
 clear c0 c1
 have c0:w6.cell? ⟨w1.heap.size,0,none⟩=some (.slice up m1 uc):=(HC.out w6 (HB.out.thn HB6.out)).1
 have c1:w6.cell? ⟨w1.heap.size,1,none⟩=some (.slice tp m2 tc):=(HC.out w6 (HB.out.thn HB6.out)).2
 go_upto_region 7 with (go_at_call 28;refine HN3.out.mono ?_;rintro e w7 ⟨yp,yc,rfl,hsy,hb7⟩;have HSy:=Qq hsy;have HB7:=Qq hb7;clear hsy hb7)
 clear c0 c1 HN1 HN2 HN3
 have HBw:=Qq ((HB.out.thn HB6.out).thn HB7.out)
 have HSx7:=Qq (HSx.out.below HB7.out)
 have HE1:=Qq (fun W (hW:Below w7.heap.size w7 W)=>(Nv (fun _=>True) (fun _=>True) _ _ xl yl W (HSx7.out.below hW) (HSy.out.below hW)).mono (R':=fun e w2=>e=.returned (.bool true)∧Below w7.heap.size w7 w2) (by
  rintro e w2 ⟨rfl,hg⟩
  rw [HXl.out]
  exact ⟨rfl,hW.thn hg.bl⟩))
 obtain ⟨tn,htn⟩:=eX (s.tables.length)
 have hem:(Yh s).length=tn:=by rw [← htn];simp [Yh]
 have HEm:=Qq hem
 have HP1:=Qq (fun W (hW:Below w7.heap.size w7 W)=>(Tz (fun _=>True) s _ W (HSc2.out.below (HBw.out.thn hW)) HNl.out (by omega)).mono (R':=fun e w2=>∃ p c,e=.returned (.slice p tn c)∧Sl Z0 (fun _=>True) w2 (.slice p tn c) (Yh s)∧Below w7.heap.size w7 w2) (by
  rintro e w2 ⟨p,c,rfl,h1,h2⟩
  rw [htn] at h1 ⊢
  exact ⟨p,c,rfl,h1.sl (by rw [HEm.out];omega) (fun r hr=>by rw [A7 hr];exact Q8 _) _ (fun _ _=>trivial) (fun _ _ _=>trivial),hW.thn h2⟩))
 have HP2:=Qq (fun W (hW:Below w7.heap.size w7 W)=>(O4 (fun _=>True) s _ W (HSc2.out.below (HBw.out.thn hW)) (by omega)).mono (R':=fun e w2=>∃ p c,e=.returned (.slice p tn c)∧Sl Z0 (fun _=>True) w2 (.slice p tn c) (Yh s)∧Below w7.heap.size w7 w2∧Below W.heap.size W w2) (by
  rintro e w2 ⟨p,c,css,rfl,h1,h2⟩
  rw [hem] at h1 ⊢
  exact ⟨p,c,rfl,h1.rel.sl' (by rw [HEm.out];omega) (fun _ _=>trivial) (fun _ _ _=>trivial),hW.thn h2,h2⟩))
 have HE2:=Qq (fun W v1 v2 (h1:Sl Z0 (fun _=>True) W v1 (Yh s)) (h2:Sl Z0 (fun _=>True) W v2 (Yh s)) (hW:Below w7.heap.size w7 W)=>(Nv _ _ v1 v2 _ _ W h1 h2).mono (R':=fun e w2=>e=.returned (.bool true)∧Below w7.heap.size w7 w2) (by
  rintro e w2 ⟨rfl,hg⟩
  rw [Cp]
  exact ⟨rfl,hW.thn hg.bl⟩))
 have HL1:=Qq (fun W (hW:Below w7.heap.size w7 W)=>HLv.out W (HB2.out.thn (HBw.out.thn hW)))
 have hee:(xe==xe)=true:=by simp
 refine let_mvar% ?Lq2:=fun w':World=>w'.cell? ⟨w1.heap.size,0,none⟩=some (.slice up m1 uc)∧w'.cell? ⟨w1.heap.size,1,none⟩=some (.slice tp m2 tc)∧Below w7.heap.size w7 w';?_
 have HS:∀ w',Below w7.heap.size w7 w'→?Lq2 w':=fun w' h=>⟨(HC.out w' (HBw.out.thn h)).1,(HC.out w' (HBw.out.thn h)).2,h⟩
 obtain ⟨HS0,HSr,HD',HSB',HA',HSq⟩:=X5 HS (fun w' h=>h.2.2)
 clear HS htn hem
 go_region_held3 ?Lq2 (first | with_reducible exact HS0.out | with_reducible exact hS2 | with_reducible exact HD'.out _ hS2)
  (first
   | (go_at_call 18;refine (HL1.out _ HG4.out).mono ?_;rintro e w12 ⟨rfl,hb⟩;have HG5:=Qq (HG4.out.thn hb);have hS2:=HSq.out _ HG5.out;clear hb)
   | (go_at_call 21;refine (HE2.out _ _ _ HQ2'.out HQ3.out HG3.out).mono ?_;rintro e w11 ⟨rfl,hb⟩;have HG4:=Qq hb;have hS2:=HSq.out _ hb;clear hb)
   | (go_at_call 30;refine (HP2.out _ (HSB'.out _ (by assumption))).mono ?_;rintro e w10 ⟨q3,k3,rfl,h3,hb,hbb⟩;have HG3:=Qq hb;have HQ3:=Qq h3;have HQ2':=Qq (HQ2.out.below hbb);have hS2:=HSq.out _ hb;clear hb h3 hbb)
   | (go_at_call 29;refine (HP1.out _ (HSB'.out _ (by assumption))).mono ?_;rintro e w9 ⟨q2,k2,rfl,h2,hb⟩;have HQ2:=Qq h2;have hS2:=HSq.out _ hb;clear hb h2)
   | (go_at_call 21;refine (HE1.out _ (Qz _ _).drew).mono ?_;rintro e w8 ⟨rfl,hb⟩;have hS2:=HSq.out _ hb;clear hb))
 all_goals
  go_wp2_with fail
  go_ret
  exact ⟨rfl,HB2.out.thn (HBw.out.thn HG5.out)⟩
end Go.Proofs.YtppbaladeefnkaaGreatDoor
