import Derived.Test.YtlanplhphiikjaaGreatDoorE29
import Derived.Test.YtlanplhphiikjaaGreatDoorE18
set_option maxRecDepth 100000
set_option maxHeartbeats 400000000
namespace Go.Proofs.YtlanplhphiikjaaGreatDoor
open Go.RowKit Go.Shelf Go.Lib Tryz
theorem ev_less (n:Int) (s:Bs) (names binds:List Bs) (x y:Ex) (a z:Int) (env:List (Bs × Val)) (u v:Val) (hx:EvV x env u) (hy:EvV y env v):EvV (.mk 14 [60] n s names binds [x,y] a z) env (Gb (decide (Yk u v<0))):=by
 intro Y S' cs p w V U
 have he:J9 (fun b=>Y b/\b<w) w p env:=U.move (.refl _ _) (fun b hb h=>⟨h,hb⟩)
 obtain ⟨nv,bv,kv,rfl,_,_,hn,hb,hk⟩:=Yd.1 V
 obtain ⟨np,nc,rfl,_⟩:=hn.len
 obtain ⟨bp,bc,rfl,_⟩:=hb.len
 obtain ⟨kp,kc,rfl,_⟩:=hk.len
 obtain ⟨q,rfl⟩:=he.ptr
 obtain ⟨HE,HK,HX,HY⟩:=Qxo he hk hx hy
 clear V he U hn hb hk hx hy
 unfold sv
 obtain ⟨r,hr⟩:=eX (Gb (decide (Yk u v<0)))
 rw [hr]
 have J:=Qq hr
 clear hr
 rw [show [x,y].length=2 from rfl]
 show Calls prog 125 #[.agg #[.int .i64 14,.string ⟨#[60]⟩,n,s,.slice np names.length nc,.slice bp binds.length bc,.slice kp 2 kc,a,z],.pointer q] w (L0 Y w r)
 go_enter func125,ntmps125
 go_upto_region 3 with fail
 generalize D:((w.alloc _).alloc _).alloc _=w3
 have I:=eqB D (U8 _ _ _ _)
 have O:=eqH (b:=w.heap.size) D (Yc _ _ _ _)
 have h1:=eqH (b:=w.heap.size+1) D (Y8 _ _ _ _)
 have h2:=eqH (b:=w.heap.size+1+1) D (Yz _ _ _ _)
 have aI:w.heap.size+1+1<w3.heap.size:=Z8 h2
 have A:=Qq (fun (k:Nat) e t (hke:[x,y][k]?=some e) (hev:EvV e env t) W (hbw:Below w3 w3 W)=>kid_any w (w+1) k (fun b=>Y b/\b<w) S' kp kc [x,y] e (.pointer q) env t W
  ((Qk _ _ 6 _ _ _ (kB hbw O)).trans rfl) ((HK.out.below I).below hbw) ((Qk _ _ 0 _ _ _ (kB hbw h1)).trans rfl) ((HE.out.move (.of_below I) Qyv).move (.of_below hbw) Qyv) hke hev)
 have HL:=Qq (less_any 189 #[Qxb w,Qxb (w+1)] (enters_of func189 Qxx rfl) (fun b=>Y b/\b<w) u v w3 (fun b hb=>by have:=hb.2;omega)
  (A.out 0 x u rfl HX.out) (A.out 1 y v rfl HY.out))
 rw [J.out] at HL
 have c0:=rA0 O;have c1:=rA1 O;have c6:=rA6 O
 have H2:=Qq h2;have aB:=Qq I
 clear O h1 h2 I D HE HK HX HY A J
 go_wp2_with fail
 refine HL.out.mono ?_
 rintro e w4 ⟨cr,rfl,N,M⟩
 obtain ⟨q3,l3,q4,l4,T,_⟩:=Za.cells N
 simp only [vcs] at T
 subst T
 have Z:=kB M H2.out
 obtain ⟨aC,aD,HR⟩:=Qxn (aB.out.thn M) N Z
 have fz:=fun j=>Qn _ _ j _ _ Z
 obtain ⟨f0,f1,f2,f3,f4⟩:=Qxu fz
 have rr:=fun j=>Qk _ _ j _ _ _ Z
 obtain ⟨r0,r1,r2,r3,r4⟩:=Qxu rr
 simp only [Qf,Qg,Qh] at r0 r1 r2 r3 r4
 clear fz rr N M Z
 go_wp2_with fail
 show bodyPost _ _ _ _ _ (Qxl w4 (w+1+1) r q3 l3 q4 l4)
 refine Q7 (v:=.agg (Qxf r q3 l3 q4 l4)) (by simp [results,results125,go_sem,Zd HR.out]) rfl ⟨_,rfl,?_,Zf aC.out Qvu⟩
 exact Za.move aD.out (fun b hb _=>Zi (by have:=hb.2;omega)) (fun _ _ h=>h.1)
theorem read_any:∀ (K:Nat) (L:Int) (S:Nat->Prop) (g q:Nat) (w:World) (o:Option Bs),L.toNat<K->0<L->L<=1000000->(∀ b,S b->b≠g/\b≠q/\b<w.heap.size)->g≠q->RAt S g w o->w.heap[q]?=some (.cells #[L] 3 (0,0)) ->
   Calls prog 87 #[Qxb g,Qxb q] w (Hh S g q w L o):=by
 intro K
 induction K with
 | zero=>intro L S g q w o h;omega
 | succ n ih=>intro L S g q w o h1 h2 h3 hS A hR hq;exact N0 n ih L S g q w o Qvu Qvu h3 hS A hR hq
theorem read_top (L:Int) (S:Nat->Prop) (g q:Nat) (w:World) (o:Option Bs) (h0:0<=L) (h1:L<=1000000) (hS:∀ b,S b->b≠g/\b≠q/\b<w.heap.size) (hgq:g≠q) (hR:RAt S g w o) (hq:w.heap[q]?=some (.cells #[L] 3 (0,0))):
   Calls prog 87 #[Qxb g,Qxb q] w (Hh S g q w L o):=
 N0 L.toNat (read_any _) L S g q w o (Q9 _) Qvu h1 hS hgq hR hq
theorem Pz (n:Nat):1<=(vb n).length:=by
 by_cases h:n<128
 ·rw [Kg h];simp
 rw [Ds h];simp
theorem vb_mono:∀ (n m:Nat),m<=n->(vb m).length<=(vb n).length:=by
 intro n
 induction n using Nat.strongRecOn with
 | _ n ih=>
  intro m h
  by_cases hm:m<128
  ·rw [Kg hm];exact Pz n
  rw [Ds hm,Ds (show ¬ n<128 by omega)]
  have:=ih (n / 128) Qvu (m / 128) Qvu
  simp;omega
theorem Db (n:Int):1<=(wI n).length:=Pz _
theorem C6:wI 0=[0]:=by unfold wI zz;rw [if_pos (Int.le_refl 0)];exact Kg Qxv
theorem wI_mono {a n:Int} (h0:0<=a) (h:a<=n):(wI a).length<=(wI n).length:=by
 refine vb_mono _ _ ?_
 unfold zz;rw [if_pos h0,if_pos Qvu];omega
theorem C1 {a:Nat} {n:Int} (h:a=0\/(a:Int)<=n):(wI a).length<=(wI n).length:=by
 rcases h with rfl | h
 ·have:=Db n;rw [show ((0:Nat):Int)=0 from rfl,C6];simpa using this
 exact wI_mono Qvu h
theorem U4 {o:Option Bs} {n:Int} {r:Bs} (h:rdI o=(n,some r)):∃ b,o=some b/\b=wI n++r:=by
 cases o with
 | none=>cases h
 | some b=>exact ⟨b,rfl,rdI_dec h⟩
theorem Gp {o:Option Bs} {s r:Bs} (h:rdT o=(s,some r)):∃ b,o=some b/\b=wT s++r:=by
 cases o with
 | none=>cases h
 | some b=>exact ⟨b,rfl,rdT_dec h⟩
def SzV (o:Option Bs) (v:Val) (o':Option Bs):Prop:=∀ r,o'=some r->∃ b,o=some b/\(Y6 v).length+2*r.length<=2*b.length
def SzK (n:Int) (fl:Bool) (o:Option Bs) (ns:List Bs) (ks:List Val) (o':Option Bs):Prop:=
 (ks.length=0\/(ks.length:Int)<=n)/\∀ r,o'=some r->∃ b,o=some b/\(Yt fl ns ks).length+2*r.length<=2*b.length
theorem Wy:∀ (ks:List Val) (ns ms:List Bs),Yt false ns ks=Yt false ms ks:=by
 intro ks
 induction ks with
 | nil=>intro ns ms;simp [Yt]
 | cons v ks ih=>intro ns ms;rw [Yt,Yt,if_neg Qxv,if_neg Qxv,ih ns.tail ms.tail]
theorem RdV.sz {L:Int} {o:Option Bs} {v:Val} {o':Option Bs} {L':Int} (h:RdV L o v o' L'):SzV o v o':=by
 refine RdV.rec (motive_1:=fun _ o v o' _ _=>SzV o v o') (motive_2:=fun n fl _ o N M o' _ _=>SzK n fl o N M o') ?_ ?_ ?_ ?_ ?_ ?_ ?_ ?_ h
 ·rintro L o O U k n Z A D r rfl
  obtain ⟨I,rfl,rfl⟩:=U4 D
  obtain ⟨b,rfl,rfl⟩:=U4 A
  refine ⟨_,rfl,?_⟩
  simp only [Y6,Yt,if_pos Z,List.append_nil,Ql];omega
 ·rintro L o O U s A D r rfl
  obtain ⟨I,rfl,rfl⟩:=Gp D
  obtain ⟨b,rfl,rfl⟩:=U4 A
  refine ⟨_,rfl,?_⟩
  rw [Y6,Yt,if_neg Qxv,if_pos rfl];simp only [List.append_nil,Ql];omega
 ·rintro L o O U o3 o4 s n N M L' A D Y _ ⟨T,J⟩ r rfl
  obtain ⟨b3,rfl,h4⟩:=J r rfl
  obtain ⟨b2,rfl,rfl⟩:=U4 Y
  obtain ⟨I,rfl,rfl⟩:=Gp D
  obtain ⟨b,rfl,rfl⟩:=U4 A
  refine ⟨_,rfl,?_⟩
  have:=C1 T
  rw [Y6,if_neg Qxv,if_neg Qxv,if_pos rfl]
  simp only [Ql]
  rw [show ((3:Int)==4)=false from rfl]
  omega
 ·rintro L o O U o3 k n N M L' Z A D _ ⟨T,J⟩ r rfl
  obtain ⟨b2,rfl,h4⟩:=J r rfl
  obtain ⟨I,rfl,rfl⟩:=U4 D
  obtain ⟨b,rfl,rfl⟩:=U4 A
  refine ⟨_,rfl,?_⟩
  have:=C1 T
  rw [Y6,if_neg Qvu,if_neg Qvu,if_neg Qvu]
  simp only [Ql]
  omega
 ·rintro L o O k Z A r rfl
  obtain ⟨b,rfl,rfl⟩:=U4 A
  refine ⟨_,rfl,?_⟩
  have:=Db k
  rw [Y6,if_neg Qvu,if_neg Qvu,if_neg Qvu,Yt]
  simp only [List.append_nil,Ql]
  rw [show (([]:List Val).length:Int)=0 from rfl,C6]
  simp only [List.length_cons,List.length_nil]
  omega
 ·rintro n b L o h
  refine ⟨.inl rfl,fun r e=>⟨r,e,?_⟩⟩
  simp [Yt]
 ·rintro n L o O U v N M L1 L2 h0 hL _ _ hv ⟨T,J⟩
  refine ⟨.inr (by simp only [List.length_cons];omega),fun r e=>?_⟩
  obtain ⟨I,V,A⟩:=J r e
  obtain ⟨b,rfl,D⟩:=hv I V
  refine ⟨b,rfl,?_⟩
  rw [Yt,if_neg Qxv]
  simp only [List.nil_append,Ql]
  have:Yt false N.tail M=Yt false N M:=Wy _ _ _
  rw [this];omega
 rintro n L o o0 O U s v N M L1 L2 h0 hL Y _ _ hv ⟨T,J⟩
 refine ⟨.inr (by simp only [List.length_cons];omega),fun r e=>?_⟩
 obtain ⟨I,V,A⟩:=J r e
 obtain ⟨b0,rfl,D⟩:=hv I V
 obtain ⟨b,rfl,rfl⟩:=Gp Y
 refine ⟨_,rfl,?_⟩
 rw [Yt,if_pos rfl]
 simp only [List.headD_cons,List.tail_cons,Ql]
 omega
theorem RdV.ok {L:Int} {o:Option Bs} {v:Val} {o':Option Bs} {L':Int} (h:RdV L o v o' L'):WOk v:=by
 have M:∀ {o:Option Bs} {k:Int} {o':Option Bs},rdI o=(k,o')->I64 k:=fun {o k o'} e=>by have:=D9 o;rw [e] at this;exact this
 have J:I64 0:=by unfold I64;omega
 refine RdV.rec (motive_1:=fun _ _ v _ _ _=>WOk v) (motive_2:=fun _ fl _ _ U N _ _ _=>(fl=true->N.length<=U.length)/\∀ x ∈ N,WOk x) ?_ ?_ ?_ ?_ ?_ ?_ ?_ ?_ h
 ·rintro L o O V k n hk A Y
  exact .mk _ _ _ _ _ (M A) (M Y) (fun _=>Q9 _) (fun _=>rfl) (fun _ h=>by cases h)
 ·rintro L o O V s A Y
  exact .mk _ _ _ _ _ (M A) J (fun _=>Q9 _) (fun _=>rfl) (fun _ h=>by cases h)
 ·rintro L o O V o3 o4 s n U N L' A Y h3 _ ⟨T,I⟩
  exact .mk _ _ _ _ _ (M A) J (fun h=>Qvu) (fun h=>Qvu) I
 ·rintro L o O V o3 k n U N L' hk A Y _ ⟨T,I⟩
  exact .mk _ _ _ _ _ (M A) J (fun h=>T (by rw [h];rfl)) (fun h=>Qvu) I
 ·rintro L o O k hk A
  exact .mk _ _ _ _ _ (M A) J (fun _=>Q9 _) (fun _=>rfl) (fun _ h=>by cases h)
 ·rintro n b L o h
  exact ⟨fun _=>Q9 _,fun _ h=>by cases h⟩
 ·rintro n L o O V v U N L1 L2 J hL _ _ Z ⟨T,I⟩
  exact ⟨fun h=>(by cases h),fun x D=>by rcases Z3.1 D with rfl | D;exact Z;exact I x D⟩
 rintro n L o o0 O V s v U N L1 L2 J hL h3 _ _ Z ⟨T,I⟩
 exact ⟨fun h=>by simp only [List.length_cons];have:=T h;omega,fun x D=>by rcases Z3.1 D with rfl | D;exact Z;exact I x D⟩
inductive U7:Val->Prop
 | int {k n:Int}:k=0\/k=2->I64 n->U7 (.mk k n [] [] [])
 | text {s:Bs}:s.length<=1000000->U7 (.mk 1 0 s [] [])
 | make {s:Bs} {ks:List Val}:s.length<=1000000->ks.length<=1000000->(∀ x ∈ ks,U7 x)->U7 (.mk 3 0 s [] ks)
 | record {ns:List Bs} {ks:List Val}:ns.length=ks.length->(∀ s ∈ ns,s.length<=1000000)->ks.length<=1000000->(∀ x ∈ ks,U7 x)->U7 (.mk 4 0 [] ns ks)
 | list {ks:List Val}:ks.length<=1000000->(∀ x ∈ ks,U7 x)->U7 (.mk 5 0 [] [] ks)
def Back (v:Val):Prop:=∀ (L:Int) (r:Bs) (v':Val) (o':Option Bs) (L':Int),((Y6 v).length:Int)<=L->RdV L (some (Y6 v++r)) v' o' L'->v'=v/\o'=some r/\L - (Y6 v).length<=L'
theorem Sv (v:Val):1<=(Y6 v).length:=by
 cases v with
 | mk k n s ns ks=>rw [Y6,Ql];have:=Db k;omega
theorem Ej (fl:Bool):∀ (ks:List Val) (_:∀ x ∈ ks,Back x) (ns:List Bs) (L:Int) (r:Bs) (ns':List Bs) (ks':List Val) (o':Option Bs) (L':Int) (_:fl=true->ns.length=ks.length/\∀ s ∈ ns,s.length<=1000000) (_:fl=false->ns=[])
  (_:((Yt fl ns ks).length:Int)<=L) (_:RdK ks.length fl L (some (Yt fl ns ks++r)) ns' ks' o' L'),ns'=ns/\ks'=ks/\o'=some r/\L - (Yt fl ns ks).length<=L':=by
 intro ks
 induction ks with
 | nil=>
  intro _ ns L r ns' ks' o' L' M N I h
  obtain ⟨rfl,rfl,rfl,rfl⟩:=Dr h (Int.le_refl 0)
  refine ⟨?_,rfl,by simp [Yt],by simp [Yt]⟩
  cases fl with
  | false=>exact (N rfl).symm
  | true=>exact (Zy (M rfl).1).symm
 | cons v ks ih=>
  intro hb ns L r ns' ks' o' L' M N I h
  have hp:=Sv v
  have hv:=hb v (List.mem_cons_self ..)
  have D:=ih (fun x hx=>hb x (List.mem_cons_of_mem _ hx))
  generalize hn:((v::ks).length:Int)=n at h
  simp only [List.length_cons] at hn
  cases fl with
  | false=>
   obtain rfl:=N rfl
   rw [Yt,if_neg Qxv,List.nil_append,List.tail_nil] at h I |-
   simp only [Ql] at I |-
   rw [List.append_assoc] at h
   cases h with
   | stop U=>omega
   | kid a b c d=>
    obtain ⟨rfl,rfl,O⟩:=hv _ _ _ _ _ Qvu c
    rw [show n - 1=(ks.length:Int) by omega] at d
    obtain ⟨rfl,rfl,rfl,T⟩:=D [] _ r _ _ _ _ (fun h=>by cases h) (fun _=>rfl) Qvu d
    exact ⟨rfl,rfl,rfl,Qvu⟩
  | true=>
   obtain ⟨A,J⟩:=M rfl
   cases ns with
   | nil=>simp at A
   | cons s ns=>
    rw [Yt,if_pos rfl,List.headD_cons,List.tail_cons] at h I |-
    simp only [Ql] at I |-
    rw [List.append_assoc,List.append_assoc] at h
    simp only [List.length_cons] at A
    cases h with
    | stop U=>omega
    | field a b c0 c d=>
     rw [Ho (by have:=J s (List.mem_cons_self ..);omega)] at c0
     obtain ⟨rfl,rfl⟩:=Prod.mk.inj c0
     obtain ⟨rfl,rfl,O⟩:=hv _ _ _ _ _ Qvu c
     rw [show n - 1=(ks.length:Int) by omega] at d
     obtain ⟨rfl,rfl,rfl,T⟩:=D ns _ r _ _ _ _ (fun _=>⟨Qvu,fun s U=>J s (List.mem_cons_of_mem _ U)⟩) (fun h=>by cases h) Qvu d
     exact ⟨rfl,rfl,rfl,Qvu⟩
theorem Uw {n m:Int} {r:Bs} {o:Option Bs} (hn:I64 n) (h:rdI (some (wI n++r))=(m,o)):m=n/\o=some r:=by
 rw [Gi hn.1 hn.2] at h;obtain ⟨h1,h2⟩:=Prod.mk.inj h;exact ⟨h1.symm,h2.symm⟩
theorem R6 {s t:Bs} {r:Bs} {o:Option Bs} (hs:s.length<=1000000) (h:rdT (some (wT s++r))=(t,o)):t=s/\o=some r:=by
 rw [Ho Qvu] at h;obtain ⟨h1,h2⟩:=Prod.mk.inj h;exact ⟨h1.symm,h2.symm⟩
theorem RdV.kind {L:Int} {b:Bs} {k:Int} {v:Val} {o':Option Bs} {L':Int} (hk:I64 k) (h:RdV L (some (wI k++b)) v o' L'):
  ((k=0\/k=2)/\∃ n o2,rdI (some b)=(n,o2)/\v=.mk k n [] [] []/\o'=o2/\L'=L - 1)\/(k=1/\∃ s o2,rdT (some b)=(s,o2)/\v=.mk 1 0 s [] []/\o'=o2/\L'=L - 1) \/
  (k=3/\∃ s n ns ks o2 o3,rdT (some b)=(s,o2)/\rdI o2=(n,o3)/\RdK n false (L - 1) o3 ns ks o' L'/\v=.mk 3 0 s ns ks) \/
  ((k=4\/k=5)/\∃ n ns ks o3,rdI (some b)=(n,o3)/\RdK n (k==4) (L - 1) o3 ns ks o' L'/\v=.mk k 0 [] ns ks)\/(k<0\/5<k):=by
 generalize A:some (wI k++b)=o at h
 cases h with
 | int a b1 c=>subst A;obtain ⟨rfl,rfl⟩:=Uw hk b1;exact .inl ⟨a,_,_,c,rfl,rfl,rfl⟩
 | text b1 c=>subst A;obtain ⟨D,rfl⟩:=Uw hk b1;exact .inr (.inl ⟨D.symm,_,_,c,rfl,rfl,rfl⟩)
 | make b1 c d e=>subst A;obtain ⟨D,rfl⟩:=Uw hk b1;exact .inr (.inr (.inl ⟨D.symm,_,_,_,_,_,_,c,d,e,rfl⟩))
 | kids a b1 c e=>subst A;obtain ⟨rfl,rfl⟩:=Uw hk b1;exact .inr (.inr (.inr (.inl ⟨a,_,_,_,_,c,e,rfl⟩)))
 | other a b1=>subst A;obtain ⟨rfl,rfl⟩:=Uw hk b1;exact .inr (.inr (.inr (.inr a)))
theorem Ux {k:Int} (h0:-10<=k) (h1:k<=1000000):I64 k:=⟨Qvu,Qvu⟩
theorem Qkh {v:Val} (h:U7 v):Back v:=by
 induction h with
 | @int k n hk hn=>
  intro L r v' J D A h
  rw [Y6,Yt,if_pos hk,List.append_nil] at h A |-
  rw [List.append_assoc] at h
  have I:=Db k
  simp only [Ql] at A |-
  rcases h.kind (Ux Qvu Qvu) with ⟨_,m,o2,e,rfl,rfl,rfl⟩ | h | h | h | h
  ·obtain ⟨rfl,rfl⟩:=Uw hn e;exact ⟨rfl,rfl,Qvu⟩
  ·omega
  ·omega
  ·omega
  omega
 | @text s hs=>
  intro L r v' J D A h
  rw [Y6,Yt,if_neg Qxv,if_pos rfl,List.append_nil] at h A |-
  rw [List.append_assoc] at h
  have I:=Db 1
  simp only [Ql] at A |-
  rcases h.kind (Ux Qvu Qvu) with h | ⟨_,m,o2,e,rfl,rfl,rfl⟩ | h | h | h
  ·omega
  ·obtain ⟨rfl,rfl⟩:=R6 hs e;exact ⟨rfl,rfl,Qvu⟩
  ·omega
  ·omega
  omega
 | @make s ks hs hk _ ih=>
  intro L r v' J D A h
  rw [Y6,if_neg Qxv,if_neg Qxv,if_pos rfl,show ((3:Int)==4)=false from rfl] at h A |-
  simp only [List.append_assoc] at h
  have I:=Db 3
  simp only [Ql] at A |-
  rcases h.kind (Ux Qvu Qvu) with h | h | ⟨_,s1,n,ns1,ks1,o2,o3,e,e2,hK,rfl⟩ | h | h
  ·omega
  ·omega
  ·obtain ⟨rfl,rfl⟩:=R6 hs e
   obtain ⟨rfl,rfl⟩:=Uw (Ux Qvu Qvu) e2
   obtain ⟨rfl,rfl,rfl,hL⟩:=Ej false ks ih [] (L - 1) r _ _ _ _ (fun h=>by cases h) (fun _=>rfl) Qvu hK
   exact ⟨rfl,rfl,Qvu⟩
  ·omega
  omega
 | @record ns ks hn hs hk _ ih=>
  intro L r v' J D A h
  rw [Y6,if_neg Qxv,if_neg Qxv,if_neg Qxv,show ((4:Int)==4)=true from rfl] at h A |-
  simp only [List.append_assoc] at h
  have I:=Db 4
  simp only [Ql] at A |-
  rcases h.kind (Ux Qvu Qvu) with h | h | h | ⟨_,n,ns1,ks1,o3,e2,hK,rfl⟩ | h
  ·omega
  ·omega
  ·omega
  ·obtain ⟨rfl,rfl⟩:=Uw (Ux Qvu Qvu) e2
   obtain ⟨rfl,rfl,rfl,hL⟩:=Ej true ks ih ns (L - 1) r _ _ _ _ (fun _=>⟨hn,hs⟩) (fun h=>by cases h) Qvu hK
   exact ⟨rfl,rfl,Qvu⟩
  omega
 | @list ks hk _ ih=>
  intro L r v' J D A h
  rw [Y6,if_neg Qxv,if_neg Qxv,if_neg Qxv,show ((5:Int)==4)=false from rfl] at h A |-
  simp only [List.append_assoc] at h
  have I:=Db 5
  simp only [Ql] at A |-
  rcases h.kind (Ux Qvu Qvu) with h | h | h | ⟨_,n,ns1,ks1,o3,e2,hK,rfl⟩ | h
  ·omega
  ·omega
  ·omega
  ·obtain ⟨rfl,rfl⟩:=Uw (Ux Qvu Qvu) e2
   obtain ⟨rfl,rfl,rfl,hL⟩:=Ej false ks ih [] (L - 1) r _ _ _ _ (fun h=>by cases h) (fun _=>rfl) Qvu hK
   exact ⟨rfl,rfl,Qvu⟩
  omega
theorem Qvt (S:Nat->Prop) (v:Value) (l:List Int) (w:World) (hs:Xa S w v l) (hi:Uh l) (hk:Yo l 0 13=7):
  Calls prog 27 #[v,Qxc] w (J8 w (Gen.check 7)):=by
 have HP:=Qq (fun W (hb:Below w w W)=>Yr S v l 0 13 W (hs.below hb) hi Qvu Qvu)
 rw [hk] at HP
 obtain ⟨p,cap,rfl,_⟩:=hs.len
 clear hs hi hk
 go_enter func27,ntmps27
 go_upto_region 8 with fail
 generalize aH:(((((((w.alloc _).alloc _).alloc _).alloc _).alloc _).alloc _).alloc _).alloc _=W8
 have cU:=eqB aH (Zs (Zs (Zs (Zs (Zs (Zs (Zs (Ze w _) _) _) _) _) _) _) _)
 have cY:W8=w.heap.size+8:=by rw [<- aH];simp
 have r8:=eqH (b:=w.heap.size) aH (Zb (Zb (Zb (Zb (Zb (Zb (Zb (Y3 rfl _) _) _) _) _) _) _) _)
 have ha:=eqH (b:=w.heap.size+1) aH (Zb (Zb (Zb (Zb (Zb (Zb (Y3 Qxz _) _) _) _) _) _) _)
 have hb:=eqH (b:=w.heap.size+1+1) aH (Zb (Zb (Zb (Zb (Zb (Y3 Qxz _) _) _) _) _) _)
 have bG:=eqH (b:=w.heap.size+1+1+1+1+1+1) aH (Zb (Y3 Qxz _) _)
 have aN:w.heap.size<W8.heap.size:=Qvu
 have dS:w.heap.size≠W8.heap.size:=Qvu
 have dQ:=Qq cY
 clear cY
 have bW:=Qq cU;have dF:=Qq r8
 clear aH cU r8
 obtain ⟨a0,a1,a2,a3,a4,a5,a6,a7,a8⟩:=row9 ha
 clear ha
 obtain ⟨b0,b1,b2,b3,b4,b5,b6,b7,b8⟩:=row9 hb
 clear hb
 obtain ⟨T,U,V,Y,Z,aA,aB,aC,aD⟩:=row9 bG
 clear bG
 go_upto_region 22 with (go_at_call 28;refine (HP.out _ bW.out).mono ?_;rintro e w' ⟨rfl,rfl⟩)
 obtain ⟨aT,aU,aV,aW⟩:=Qxo True.intro True.intro True.intro True.intro
 go_upto_region 23 with (have hk:=aV.out;clear aV hk;generalize aX:World.alloc W8 _=W9;have A:=eqB aX (Ze _ _);have bF:=eqH (b:=W8.heap.size) aX (Qw _ _);have a0:=kC A a0;have a1:=kC A a1;have a2:=kC A a2;have a3:=kC A a3;have a4:=kC A a4;have a5:=kC A a5;have a6:=kC A a6;have a7:=kC A a7;have a8:=kC A a8;have b0:=kC A b0;have b1:=kC A b1;have b2:=kC A b2;have b3:=kC A b3;have b4:=kC A b4;have b5:=kC A b5;have b6:=kC A b6;have b7:=kC A b7;have b8:=kC A b8;have T:=kC A T;have U:=kC A U;have V:=kC A V;have Y:=kC A Y;have Z:=kC A Z;have aA:=kC A aA;have aB:=kC A aB;have aC:=kC A aC;have aD:=kC A aD;have bX:=Qq bF;have bE:=Qq A;clear aX bF A)
 generalize hW:(World.alloc W9 _).alloc _=aL
 have J:=eqB hW (Zu _ _ _)
 have cS:=eqH (b:=W9.heap.size) hW (Zb (Y3 rfl _) _)
 have cQ:=eqH (b:=W9.heap.size+1) hW (Y3 Qxz _)
 clear hW
 have T:=kC J T
 have U:=kC J U
 have V:=kC J V
 have Y:=kC J Y
 have Z:=kC J Z
 have aA:=kC J aA
 have aB:=kC J aB
 have aC:=kC J aC
 have aD:=kC J aD
 obtain ⟨r0,r1,r2,r3,r4,r5,r6,r7,r8⟩:=row9 cQ
 have dC:=Qq (kB J bX.out)
 have aO:=Qq (bE.out.thn J);have dA:=Qq cS
 clear J cS cQ a0 b0 a1 b1 a2 b2 a3 b3 a4 b4 a5 b5 a6 b6 a7 b7 a8 b8
 go_upto_region 24 with (have hk:=aW.out;clear aW hk;generalize aI:World.alloc aL _=aP;have D:=eqB aI (Ze _ _);have aQ:=eqH (b:=aL.heap.size) aI (Qw _ _);have r0:=kC D r0;have r1:=kC D r1;have r2:=kC D r2;have r3:=kC D r3;have r4:=kC D r4;have r5:=kC D r5;have r6:=kC D r6;have r7:=kC D r7;have r8:=kC D r8;have T:=kC D T;have U:=kC D U;have V:=kC D V;have Y:=kC D Y;have Z:=kC D Z;have aA:=kC D aA;have aB:=kC D aB;have aC:=kC D aC;have aD:=kC D aD;have bI:=Qq aQ;have aG:=Qq D;clear aI aQ D)
 generalize hW:(World.alloc aP _).alloc _=aM
 have I:=eqB hW (Zu _ _ _)
 have cT:=eqH (b:=aP.heap.size) hW (Zb (Y3 rfl _) _)
 have cR:=eqH (b:=aP.heap.size+1) hW (Y3 Qxz _)
 clear hW
 have r0:=kC I r0
 have r1:=kC I r1
 have r2:=kC I r2
 have r3:=kC I r3
 have r4:=kC I r4
 have r5:=kC I r5
 have r6:=kC I r6
 have r7:=kC I r7
 have r8:=kC I r8
 obtain ⟨t0,t1,t2,t3,t4,t5,t6,t7,t8⟩:=row9 cR
 have dD:=Qq (kB I bI.out)
 have bD:=Qq (aG.out.thn I);have dB:=Qq cT
 have aF:=Qq (aO.out.thn (aG.out.thn I))
 have dP:w.heap.size<W9.heap.size:=Qa aN bE.out.size
 have cW:w.heap.size<aP.heap.size:=Qa aN (aO.out.thn aG.out).size
 clear I cT cR T U V Y Z aA aB aC aD
 have cV:w.heap.size<aL.heap.size:=Qa aN aO.out.size
 have aZ:w.heap.size<aM.heap.size:=Qa aN aF.out.size
 have bA:∀ W,Below aL aL W->Y1 (fun b=>w<b) W [.int .i64 6,Qxd,Qxc,Qxd,Qxa W8 0 2 2,Qxe,Qxa W9 0 2 2,Qxc,Qxc] Gen.rec:=fun W hW=>Xv (nm:=[]) (s:=[]) Qxz Qxz (Y2 (xs:=[[121],[120]]) (kB hW dC.out) aN (Pt _ _ [121] [120] Qxz Qxz) rfl rfl Qxz) (Sl.nil _ _ _) (Y2 (xs:=[Gen.a,Gen.b]) (kB hW dA.out) dP ((Cs.one (r:=Vw) (Yq 3 [97] 0 [] Qxz Qxz)).app (Cs.one (r:=Vw) (Yq 3 [98] 0 [] Qxz Qxz))) rfl rfl Qxz)
 have bH:∀ W,Below aM aM W->Y1 (fun b=>w<b) W [.int .i64 7,Qxd,Qxc,Qxd,Qxa aL 0 1 1,Qxe,Qxa aP 0 2 2,Qxc,Qxc] Gen.wth:=fun W hW=>Xv (nm:=[]) (s:=[]) Qxz Qxz (Y2 (xs:=[[120]]) (kB hW dD.out) cV (Dq [120] Qxz) rfl rfl Qxz) (Sl.nil _ _ _) (Y2 (xs:=[Gen.rec,Gen.one]) (kB hW dB.out) cW ((Cs.one (r:=Vw) (bA W (bD.out.thn hW))).app (Cs.one (r:=Vw) (Yq 0 [] 1 [] Qxz Qxz))) rfl rfl Qxz)
 have bY:=Qq bA;have bZ:=Qq bH
 clear bA bH
 go_wp2_with (first
   | (have hk:=aT.out;clear aT hk;generalize aJ:World.alloc aM _=bL;have M:=eqB aJ (Ze _ _);have aR:=eqH (b:=aM.heap.size) aJ (Qw _ _);have r0:=kC M r0;have r1:=kC M r1;have r2:=kC M r2;have r3:=kC M r3;have r4:=kC M r4;have r5:=kC M r5;have r6:=kC M r6;have r7:=kC M r7;have r8:=kC M r8;have bJ:=Qq aR;have N:=Qq M;clear aJ aR M)
   | (have hk:=aU.out;clear aU hk;generalize aK:World.alloc bL _=dR;have aY:=eqB aK (Ze _ _);have aS:=eqH (b:=bL.heap.size) aK (Qw _ _);have bK:=Qq aS;have O:=Qq aY;clear aK aS aY)
   | (go_at_call 75;refine (Vg w [60] _ _ [.int .i64 8,.string ⟨#[120]⟩,Qxc,Qxd,Qxe,Qxe,Qxa aM 0 1 1,Qxc,Qxc] [.int .i64 8,.string ⟨#[121]⟩,Qxc,Qxd,Qxe,Qxe,Qxa bL 0 1 1,Qxc,Qxc] _ Qxz (Xv (nm:=[120]) (s:=[]) Qxz Qxz (Sl.nil _ _ _) (Sl.nil _ _ _) (Y2 (xs:=[Gen.wth]) (kB O.out bJ.out) aZ (Cs.one (r:=Vw) (x:=Gen.wth) (show Y1 _ _ _ _ from bZ.out _ (N.out.thn O.out))) rfl rfl Qxz)) (Xv (nm:=[121]) (s:=[]) Qxz Qxz (Sl.nil _ _ _) (Sl.nil _ _ _) (Y2 (xs:=[Gen.rec]) bK.out (Qa aZ N.out.size) (Cs.one (r:=Vw) (x:=Gen.rec) (show Y1 _ _ _ _ from bY.out _ (bD.out.thn (N.out.thn O.out)))) rfl rfl Qxz)) (Qa aZ (N.out.thn O.out).size)).mono ?_;rintro e w1 ⟨cF,cH,cG,cI,cB,cK,cN,cC,cL,cO,cD,cM,cP,cE,cJ,rfl,cX,bM⟩;have bB:=(((aF.out.thn (N.out.thn O.out)).thn bM).block _ aN).trans dF.out;obtain ⟨y0,y1,y2,y3,y4,y5,y6,y7,y8⟩:=row9 bB;obtain ⟨f0,f1,f2,f3,f4,f5,f6,f7,f8⟩:=frz9 bB;have dE:=Qq bB;clear bB;have H1:=Qq cX;have cZ:=Qq bM;clear cX bM))
 show bodyPost _ _ _ _ _ (put9 w1 w cF (.string cH) cG (.string cI) (.slice cB cK cN) (.slice cC cL cO) (.slice cD cM cP) cE cJ)
 exact Q7 (v:=.agg (Qxh cF cH cG cI cB cK cN cC cL cO cD cM cP cE cJ)) (by simp [results,results27,go_sem,Xb dE.out]) rfl (Ug H1.out (bW.out.thn (aF.out.thn (N.out.thn (O.out.thn cZ.out)))) rfl)
theorem Qqe (S:Nat->Prop) (v:Value) (l:List Int) (w:World) (hs:Xa S w v l) (hi:Uh l) (hk:Yo l 0 13=8):
  Calls prog 27 #[v,Qxc] w (J8 w (Gen.check 8)):=by
 have HP:=Qq (fun W (hb:Below w w W)=>Yr S v l 0 13 W (hs.below hb) hi Qvu Qvu)
 rw [hk] at HP
 obtain ⟨p,cap,rfl,_⟩:=hs.len
 clear hs hi hk
 go_enter func27,ntmps27
 go_upto_region 8 with fail
 generalize aK:(((((((w.alloc _).alloc _).alloc _).alloc _).alloc _).alloc _).alloc _).alloc _=W8
 have bA:=eqB aK (Zs (Zs (Zs (Zs (Zs (Zs (Zs (Ze w _) _) _) _) _) _) _) _)
 have cL:W8=w.heap.size+8:=by rw [<- aK];simp
 have r8:=eqH (b:=w.heap.size) aK (Zb (Zb (Zb (Zb (Zb (Zb (Zb (Y3 rfl _) _) _) _) _) _) _) _)
 have I:=((((Xq.row (show W8.heap[w.heap.size+1]?=some (.cells #[.int .i64 3,.string ⟨#[97]⟩,Qxc,Qxd,Qxe,Qxe,Qxe,Qxc,Qxc] 59 (0,0)) from by rw [<- aK];exact Zb (Zb (Zb (Zb (Zb (Zb (Y3 Qxz _) _) _) _) _) _) _)).app (Xq.row (show W8.heap[w.heap.size+1+1]?=some (.cells #[.int .i64 3,.string ⟨#[98]⟩,Qxc,Qxd,Qxe,Qxe,Qxe,Qxc,Qxc] 59 (0,0)) from by rw [<- aK];exact Zb (Zb (Zb (Zb (Zb (Y3 Qxz _) _) _) _) _) _))).app (Xq.row (show W8.heap[w.heap.size+1+1+1+1+1+1]?=some (.cells #[Qxc,Qxd,.int .i64 1,Qxd,Qxe,Qxe,Qxe,Qxc,Qxc] 59 (0,0)) from by rw [<- aK];exact Zb (Y3 Qxz _) _))).app (Xq.row (show W8.heap[w.heap.size+1+1+1+1]?=some (.cells zQ 59 (0,0)) from by rw [<- aK];exact Zb (Zb (Zb (Y3 Qxz _) _) _) _)))
 have hG:=(Un (Un (Un (X8 (show w<w.heap.size+1 by omega) (.int .i64 3) (.string ⟨#[97]⟩) (.int .i64 0) (.string ⟨#[]⟩) (.slice none 0 0) (.slice none 0 0) (.slice none 0 0) (.int .i64 0) (.int .i64 0)) (X8 (show w<w.heap.size+1+1 by omega) (.int .i64 3) (.string ⟨#[98]⟩) (.int .i64 0) (.string ⟨#[]⟩) (.slice none 0 0) (.slice none 0 0) (.slice none 0 0) (.int .i64 0) (.int .i64 0))) (X8 (show w<w.heap.size+1+1+1+1+1+1 by omega) (.int .i64 0) (.string ⟨#[]⟩) (.int .i64 1) (.string ⟨#[]⟩) (.slice none 0 0) (.slice none 0 0) (.slice none 0 0) (.int .i64 0) (.int .i64 0))) (X8 (show w<w.heap.size+1+1+1+1 by omega) (.int .i64 3) (.string ⟨#[100]⟩) (.int .i64 0) (.string ⟨#[]⟩) (.slice none 0 0) (.slice none 0 0) (.slice none 0 0) (.int .i64 0) (.int .i64 0)))
 have aX:=Qq bA;have HR:=Qq r8
 clear aK bA r8 cL
 go_upto_region 26 with (go_at_call 28;refine (HP.out _ aX.out).mono ?_;rintro e w' ⟨rfl,rfl⟩)
 refine let_mvar% ?Lq1:=fun w':World=>(Qyw w' (w+1) (.int .i64 3) (.string ⟨#[97]⟩) Qxc Qxd Qxe Qxe Qxe Qxc Qxc ((Qyw w' (w+1+1) (.int .i64 3) (.string ⟨#[98]⟩) Qxc Qxd Qxe Qxe Qxe Qxc Qxc ((Qyw w' (w+1+1+1+1+1+1) Qxc Qxd (.int .i64 1) Qxd Qxe Qxe Qxe Qxc Qxc ((Qye w' (w+1+1+1+1) (.int .i64 3) (.string ⟨#[100]⟩) Qxc Qxd Qxe Qxe Qxe Qxc Qxc:Prop)):Prop)):Prop)):Prop);?_
 have HS:=Qq (fun w' (h:Xq (Jn (w+1) (.int .i64 3) (.string ⟨#[97]⟩) (.int .i64 0) (.string ⟨#[]⟩) (.slice none 0 0) (.slice none 0 0) (.slice none 0 0) (.int .i64 0) (.int .i64 0)++Jn (w+1+1) (.int .i64 3) (.string ⟨#[98]⟩) (.int .i64 0) (.string ⟨#[]⟩) (.slice none 0 0) (.slice none 0 0) (.slice none 0 0) (.int .i64 0) (.int .i64 0)++Jn (w+1+1+1+1+1+1) (.int .i64 0) (.string ⟨#[]⟩) (.int .i64 1) (.string ⟨#[]⟩) (.slice none 0 0) (.slice none 0 0) (.slice none 0 0) (.int .i64 0) (.int .i64 0)++Jn (w+1+1+1+1) (.int .i64 3) (.string ⟨#[100]⟩) (.int .i64 0) (.string ⟨#[]⟩) (.slice none 0 0) (.slice none 0 0) (.slice none 0 0) (.int .i64 0) (.int .i64 0)) w')=>(show ?Lq1 w' from Xq.spread h))
 have HG:=Qq hG
 have aY:=Qq (fun w' z0 z1 z2 z3 z4 z5 z6 z7 z8 (h:Xq _ w')=>HS.out _ (h.put9 HG.out z0 z1 z2 z3 z4 z5 z6 z7 z8))
 unfold put9 at aY
 have M:=aX
 clear hG
 obtain ⟨aO,aP,aQ,aC,aR,aS⟩:=Qxr True.intro True.intro True.intro True.intro True.intro True.intro
 go_region_held3 ?Lq1 (first | with_reducible exact HS.out _ I | with_reducible exact HS.out _ I.drew | with_reducible exact HS.out _ (I.alloc _) | with_reducible exact HS.out _ (I.alloc _).drew | with_reducible exact HS.out _ ((I.alloc _).alloc _) | with_reducible exact HS.out _ ((I.alloc _).alloc _).drew | with_reducible exact HS.out _ (((I.alloc _).alloc _).alloc _) | with_reducible exact aY.out _ _ _ _ _ _ _ _ _ _ I)
  (first
   | (have hn:=N.out;clear hn;(repeat (first
      | (have hk:=aC.out;clear aC hk;generalize aB:World.alloc _ (Obj.cells zQ 59 _)=WD;have D:=Ve aB;have aH:=Jr aB;have aI:=Fy aB HR.out;have Z:=I.later D;clear I;have I:=Z;clear Z;have U:=Qq (Yh D HR.out);clear HR;have HR:=U;clear U;have O:=Qq (M.out.thn D);clear M;have M:=O;clear O;(try (have A:=Qq (Yh D T.out);clear T;have T:=A;clear A));(try (have A:=Qq (V.out.move (.of_below D) Qyv);clear V;have V:=A;clear A));(try (have A:=Qq (Y.out.move (.of_below D) Qyv);clear Y;have Y:=A;clear A));(try (have A:=Qq (N.out.move (.of_below D) Qyv);clear N;have N:=A;clear A));(try (have A:=Qq (J.out.move (.of_below D) Qyv);clear J;have J:=A;clear A));have aA:=Qq aH;have aM:=Qq aI;clear aB D aH aI;have hN:=(show Y1 (fun b=>w<b) WD [.int .i64 14,.string ⟨#[110,111,116]⟩,Qxc,Qxd,Qxe,Qxe,Qxa _ 0 1 1,Qxc,Qxc] (Gen.op [110,111,116] [Gen.d]) from (Xv (nm:=[110,111,116]) (s:=[]) Qxz Qxz (Sl.nil _ _ _) (Sl.nil _ _ _) (Y2 (xs:=[Gen.d]) aA.out aM.out (Cs.one (r:=Vw) (Yq 3 [100] 0 [] Qxz Qxz)) rfl rfl Qxz)));have J:=Qq hN;clear hN)
      | (have hn:=N.out;clear hn;have hk:=aR.out;clear aR hk;generalize aT:World.alloc _ (Obj.cells #[bP,.string bT,bR,.string bV,.slice bH bZ cF,.slice bJ cB cH,.slice bL cD cJ,bN,bX,bQ,.string bU,bS,.string bW,.slice bI cA cG,.slice bK cC cI,.slice bM cE cK,bO,bY] 59 _)=WK;have aJ:=Ve aT;have bB:=Jr aT;have bC:=Fy aT HR.out;have Z:=I.later aJ;clear I;have I:=Z;clear Z;have U:=Qq (Yh aJ HR.out);clear HR;have HR:=U;clear U;have O:=Qq (M.out.thn aJ);clear M;have M:=O;clear O;(try (have A:=Qq (Yh aJ aA.out);clear aA;have aA:=A;clear A));(try (have A:=Qq (V.out.move (.of_below aJ) Qyv);clear V;have V:=A;clear A));(try (have A:=Qq (Y.out.move (.of_below aJ) Qyv);clear Y;have Y:=A;clear A));(try (have A:=Qq (N.out.move (.of_below aJ) Qyv);clear N;have N:=A;clear A));(try (have A:=Qq (J.out.move (.of_below aJ) Qyv);clear J;have J:=A;clear A));have T:=Qq bB;have bG:=Qq bC;clear aT aJ bB bC)
      | fail));have hn:=T.out;clear hn;have hk:=aS.out;clear aS hk;obtain ⟨⟨f0,f1,f2,f3,f4,f5,f6,f7,f8⟩,y0,y1,y2,y3,y4,y5,y6,y7,y8⟩:=Qvv HR.out;go_simp)
   | (have hk:=aO.out;go_at_call 75;(repeat (first
      | (have hk:=aC.out;clear aC hk;generalize aB:World.alloc _ (Obj.cells zQ 59 _)=WD;have D:=Ve aB;have aH:=Jr aB;have aI:=Fy aB HR.out;have Z:=I.later D;clear I;have I:=Z;clear Z;have U:=Qq (Yh D HR.out);clear HR;have HR:=U;clear U;have O:=Qq (M.out.thn D);clear M;have M:=O;clear O;(try (have A:=Qq (Yh D T.out);clear T;have T:=A;clear A));(try (have A:=Qq (V.out.move (.of_below D) Qyv);clear V;have V:=A;clear A));(try (have A:=Qq (Y.out.move (.of_below D) Qyv);clear Y;have Y:=A;clear A));(try (have A:=Qq (N.out.move (.of_below D) Qyv);clear N;have N:=A;clear A));(try (have A:=Qq (J.out.move (.of_below D) Qyv);clear J;have J:=A;clear A));have aA:=Qq aH;have aM:=Qq aI;clear aB D aH aI;have hN:=(show Y1 (fun b=>w<b) WD [.int .i64 14,.string ⟨#[110,111,116]⟩,Qxc,Qxd,Qxe,Qxe,Qxa _ 0 1 1,Qxc,Qxc] (Gen.op [110,111,116] [Gen.d]) from (Xv (nm:=[110,111,116]) (s:=[]) Qxz Qxz (Sl.nil _ _ _) (Sl.nil _ _ _) (Y2 (xs:=[Gen.d]) aA.out aM.out (Cs.one (r:=Vw) (Yq 3 [100] 0 [] Qxz Qxz)) rfl rfl Qxz)));have J:=Qq hN;clear hN)
      | fail));refine (Vg w [45] _ _ _ _ _ Qxz (by exact (Yq 3 [97] 0 [] Qxz Qxz)) (by exact (Yq 3 [98] 0 [] Qxz Qxz)) (by exact Z8 HR.out)).mono ?_;rintro e W1 ⟨bP,bT,bR,bV,bH,bZ,cF,bJ,cB,cH,bL,cD,cJ,bN,bX,rfl,bD,aE⟩;clear aO hk;(try (have aL:=Vm aE;clear aE;have aE:=aL;clear aL));have Z:=I.later aE;clear I;have I:=Z;clear Z;have U:=Qq (Yh aE HR.out);clear HR;have HR:=U;clear U;have O:=Qq (M.out.thn aE);clear M;have M:=O;clear O;(try (have A:=Qq (Yh aE aA.out);clear aA;have aA:=A;clear A));(try (have A:=Qq (Yh aE T.out);clear T;have T:=A;clear A));(try (have A:=Qq (Y.out.move (.of_below aE) Qyv);clear Y;have Y:=A;clear A));(try (have A:=Qq (N.out.move (.of_below aE) Qyv);clear N;have N:=A;clear A));(try (have A:=Qq (J.out.move (.of_below aE) Qyv);clear J;have J:=A;clear A));have V:=Qq bD;clear bD aE)
   | (have hn:=V.out;clear hn;have hk:=aP.out;go_at_call 75;(repeat (first
      | (have hk:=aC.out;clear aC hk;generalize aB:World.alloc _ (Obj.cells zQ 59 _)=WD;have D:=Ve aB;have aH:=Jr aB;have aI:=Fy aB HR.out;have Z:=I.later D;clear I;have I:=Z;clear Z;have U:=Qq (Yh D HR.out);clear HR;have HR:=U;clear U;have O:=Qq (M.out.thn D);clear M;have M:=O;clear O;(try (have A:=Qq (Yh D T.out);clear T;have T:=A;clear A));(try (have A:=Qq (V.out.move (.of_below D) Qyv);clear V;have V:=A;clear A));(try (have A:=Qq (Y.out.move (.of_below D) Qyv);clear Y;have Y:=A;clear A));(try (have A:=Qq (N.out.move (.of_below D) Qyv);clear N;have N:=A;clear A));(try (have A:=Qq (J.out.move (.of_below D) Qyv);clear J;have J:=A;clear A));have aA:=Qq aH;have aM:=Qq aI;clear aB D aH aI;have hN:=(show Y1 (fun b=>w<b) WD [.int .i64 14,.string ⟨#[110,111,116]⟩,Qxc,Qxd,Qxe,Qxe,Qxa _ 0 1 1,Qxc,Qxc] (Gen.op [110,111,116] [Gen.d]) from (Xv (nm:=[110,111,116]) (s:=[]) Qxz Qxz (Sl.nil _ _ _) (Sl.nil _ _ _) (Y2 (xs:=[Gen.d]) aA.out aM.out (Cs.one (r:=Vw) (Yq 3 [100] 0 [] Qxz Qxz)) rfl rfl Qxz)));have J:=Qq hN;clear hN)
      | fail));refine (Vg w [60] _ _ _ _ _ Qxz (by exact (Yq 3 [97] 0 [] Qxz Qxz)) (by exact (Yq 0 [] 1 [] Qxz Qxz)) (by exact Z8 HR.out)).mono ?_;rintro e W2 ⟨cQ,cS,cR,cT,cM,cV,cY,cN,cW,cZ,cO,cX,dA,cP,cU,rfl,bE,aF⟩;clear aP hk;(try (have aL:=Vm aF;clear aF;have aF:=aL;clear aL));have Z:=I.later aF;clear I;have I:=Z;clear Z;have U:=Qq (Yh aF HR.out);clear HR;have HR:=U;clear U;have O:=Qq (M.out.thn aF);clear M;have M:=O;clear O;(try (have A:=Qq (Yh aF aA.out);clear aA;have aA:=A;clear A));(try (have A:=Qq (Yh aF T.out);clear T;have T:=A;clear A));(try (have A:=Qq (V.out.move (.of_below aF) Qyv);clear V;have V:=A;clear A));(try (have A:=Qq (N.out.move (.of_below aF) Qyv);clear N;have N:=A;clear A));(try (have A:=Qq (J.out.move (.of_below aF) Qyv);clear J;have J:=A;clear A));have Y:=Qq bE;clear bE aF)
   | (have hn:=Y.out;clear hn;have hk:=aQ.out;go_at_call 75;(repeat (first
      | (have hk:=aC.out;clear aC hk;generalize aB:World.alloc _ (Obj.cells zQ 59 _)=WD;have D:=Ve aB;have aH:=Jr aB;have aI:=Fy aB HR.out;have Z:=I.later D;clear I;have I:=Z;clear Z;have U:=Qq (Yh D HR.out);clear HR;have HR:=U;clear U;have O:=Qq (M.out.thn D);clear M;have M:=O;clear O;(try (have A:=Qq (Yh D T.out);clear T;have T:=A;clear A));(try (have A:=Qq (V.out.move (.of_below D) Qyv);clear V;have V:=A;clear A));(try (have A:=Qq (Y.out.move (.of_below D) Qyv);clear Y;have Y:=A;clear A));(try (have A:=Qq (N.out.move (.of_below D) Qyv);clear N;have N:=A;clear A));(try (have A:=Qq (J.out.move (.of_below D) Qyv);clear J;have J:=A;clear A));have aA:=Qq aH;have aM:=Qq aI;clear aB D aH aI;have hN:=(show Y1 (fun b=>w<b) WD [.int .i64 14,.string ⟨#[110,111,116]⟩,Qxc,Qxd,Qxe,Qxe,Qxa _ 0 1 1,Qxc,Qxc] (Gen.op [110,111,116] [Gen.d]) from (Xv (nm:=[110,111,116]) (s:=[]) Qxz Qxz (Sl.nil _ _ _) (Sl.nil _ _ _) (Y2 (xs:=[Gen.d]) aA.out aM.out (Cs.one (r:=Vw) (Yq 3 [100] 0 [] Qxz Qxz)) rfl rfl Qxz)));have J:=Qq hN;clear hN)
      | fail));refine (Vg w [97,110,100] _ _ _ _ _ Qxz (by exact Y.out) (by exact J.out) (by exact Z8 HR.out)).mono ?_;rintro e W3 ⟨bQ,bU,bS,bW,bI,cA,cG,bK,cC,cI,bM,cE,cK,bO,bY,rfl,bF,aG⟩;clear aQ hk;(try (have aL:=Vm aG;clear aG;have aG:=aL;clear aL));have Z:=I.later aG;clear I;have I:=Z;clear Z;have U:=Qq (Yh aG HR.out);clear HR;have HR:=U;clear U;have O:=Qq (M.out.thn aG);clear M;have M:=O;clear O;(try (have A:=Qq (Yh aG aA.out);clear aA;have aA:=A;clear A));(try (have A:=Qq (Yh aG T.out);clear T;have T:=A;clear A));(try (have A:=Qq (V.out.move (.of_below aG) Qyv);clear V;have V:=A;clear A));(try (have A:=Qq (Y.out.move (.of_below aG) Qyv);clear Y;have Y:=A;clear A));(try (have A:=Qq (J.out.move (.of_below aG) Qyv);clear J;have J:=A;clear A));have N:=Qq bF;clear bF aG)
   | fail)
 all_goals
  go_wp2_with fail
  show bodyPost _ _ _ _ _ (put9 _ w (.int .i64 11) (.string ⟨#[97]⟩) Qxc Qxd Qxe Qxe (Qxa _ 0 2 2) Qxc Qxc)
  exact Q7 (v:=.agg #[.int .i64 11,.string ⟨#[97]⟩,Qxc,Qxd,Qxe,Qxe,Qxa _ 0 2 2,Qxc,Qxc]) (by simp [results,results27,go_sem,Xb HR.out]) rfl (Ug (Xv (nm:=[97]) (s:=[]) Qxz Qxz (Sl.nil _ _ _) (Sl.nil _ _ _) (Y2 (xs:=[Gen.op [45] [Gen.a,Gen.b],Gen.op [97,110,100] [Gen.op [60] [Gen.a,Gen.one],Gen.op [110,111,116] [Gen.d]]]) T.out bG.out ((Cs.one (r:=Vw) V.out).app (Cs.one (r:=Vw) N.out)) rfl rfl Qxz)) M.out rfl)
end Go.Proofs.YtlanplhphiikjaaGreatDoor
