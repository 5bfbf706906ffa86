import Derived.Test.YtdpibdpbgokmoaaGreatDoorC03
import Derived.Test.YtdpibdpbgokmoaaGreatDoorC02
set_option maxRecDepth 100000
set_option maxHeartbeats 400000000
namespace Go.Proofs.YtdpibdpbgokmoaaGreatDoor
open Go.RowKit Go.Shelf Go.Lib Tryz
def V5 {T:Type} (p:T→Bool) (xs:List T):Int:=match xs.findIdx? p with
 | some i=>i
 | none=>-1
theorem K8 {T:Type} {p:T→Bool} {xs:List T} {k:Nat} {x:T} (hx:xs[k]?=some x) (hp:p x=true) (hne:∀ (j:Nat) (y:T),j<k→xs[j]?=some y→p y=false):V5 p xs=k:=by
 have:xs.findIdx? p=some k:=by
  obtain ⟨hk,rfl⟩:=Qj hx
  rw [List.findIdx?_eq_some_iff_getElem]
  exact ⟨hk,hp,fun j hj=>by simpa using hne j _ hj (Qx Qqj)⟩
 unfold V5;rw [this]
theorem Uc {T:Type} {p:T→Bool} {xs:List T} (hne:∀ (j:Nat) (y:T),xs[j]?=some y→p y=false):V5 p xs=-1:=by
 have:xs.findIdx? p=none:=by
  rw [List.findIdx?_eq_none_iff]
  intro y hy
  obtain ⟨j,hj⟩:=Zk hy
  exact hne j y hj
 unfold V5;rw [this]
theorem Db {T:Type} (p:T→Bool) (xs:List T):decide (0≤V5 p xs)=xs.any p:=by
 unfold V5
 cases h:xs.findIdx? p with
 | none=>
  rw [List.findIdx?_eq_none_iff] at h
  have:xs.any p=false:=by rw [List.any_eq_false];intro x hx;simp [h x hx]
  rw [this];rfl
 | some i=>
  rw [List.findIdx?_eq_some_iff_getElem] at h
  obtain ⟨hi,hp,_⟩:=h
  have:xs.any p=true:=List.any_eq_true.2 ⟨_,Qd hi,hp⟩
  rw [this];simp
def Uz {T:Type} (P:Program) (g:Nat) (lb:Array Value) (r:Rd T) (S:Nat→Prop) (xs:List T) (p:T→Bool) (w:World):Prop:=
 ∀ (W:World) (x:T) (cs:List Value),Below w w W→x ∈ xs→r.R S W cs x →
  Calls P g (#[.agg cs.toArray]++lb) W fun e w'=>e=.returned (.bool (p x))∧Below W W w'
theorem Sl.elem {T:Type} {r:Rd T} {S:Nat→Prop} {w:World} {p:Option Addr} {n cap:Nat} {xs:List T} (h:Sl r S w (.slice p n cap) xs) {i:Nat} {x:T} (hx:xs[i]?=some x):
  ∃ b off cs,p=some ⟨b,off,none⟩∧b<w.heap.size∧S b∧cs.length=r.k∧r.R S w cs x∧∀ j u,cs[j]?=some u→w.cell? ⟨b,off+i*r.k+j,none⟩=some u:=by
 obtain ⟨p',c',h1,_,h3⟩:=h
 simp only [Qr] at h1
 obtain ⟨rfl,_,_⟩:=h1
 obtain ⟨b,off,e,hS,hb,hc⟩:=h3 (by intro e;subst e;simp at hx)
 obtain ⟨cs,h4,h5⟩:=hc i x hx
 exact ⟨b,off,cs,e,hb,hS,r.len h5,h5,h4⟩
section
variable {P:Program} {ρ:Ren} {T:Type}
theorem H8 (L:SlLaysH0.n6 P ρ) (r:Rd T) (aE:∀ w,(isAgg (ρ.t 23)).run P w=.ok true w) (zE:∀ w,(Go.sizeOf (ρ.t 23)).run P w=.ok r.k w) (g:Nat) (lb:Array Value)
  (eg:∀ args w,(callFunc g args).run P w=.ok (.enter g args) w) (S:Nat→Prop) (v:Value) (xs:List T) (w:World) (p:T→Bool) (hs:Sl r S w v xs) (hp:Uz P g lb r S xs p w):
  Calls P (ρ.f 6) #[v,.func (.func g) #[] lb] w fun e w'=>e=.returned (.int .i64 (V5 p xs))∧Below w w w':=by
 obtain ⟨q,cap,rfl,hl⟩:=hs.len
 have mixed:=L.mixed;have t0:=L.t0;have a0:=L.a0;have z0:=L.z0;have v0:=L.v0;have t3:=L.t3;have a3:=L.a3;have z3:=L.z3;have v3:=L.v3;have t4:=L.t4;have a4:=L.a4;have z4:=L.z4;have v4:=L.v4;have t22:=L.t22;have a22:=L.a22;have z22:=L.z22;have v22:=L.v22;have t25:=L.t25;have a25:=L.a25;have z25:=L.z25;have v25:=L.v25
 obtain ⟨_,_,FG⟩:=L.f6
 have HS:=Qq hs;have HP:=Qq hp
 clear hs hp
 obtain ⟨n,U⟩:=eX (xs.length)
 rw [U] at HS hl
 rw [U]
 have HN:=Qq U
 clear U
 go_enter FG,SlBodyH.n6_ntmps ρ
 go_wp2
 go_loopg [5,8] n (fun gg _ s8 wr=>∃ G:Nat,G≤n∧n - G≤gg∧s8=.int .i64 G∧Aside (Below w w wr)∧Aside (∀ (j:Nat) (y:T),j<G→xs[j]?=some y→p y=false))
 case atStart=>exact ⟨0,Q8 _,Qqj,rfl,Qz _ w,fun j _ hj=>absurd hj (Z6 _)⟩
 obtain ⟨G,Y,hg,rfl,M,A⟩:=hrel
 by_cases hlt:G<n
 ·have N:(G:Int)<(n:Int):=Qqj
  have O:=Qx (l:=xs) (i:=G) (by rw [HN.out];exact hlt)
  generalize xs[G]'_=x at O
  obtain ⟨b,V,cs,rfl,hb,-,hk,hR,hc⟩:=(HS.out.below M.out).elem O
  have l2:Sem.run P (loadCellsFrom ⟨b,V+G*r.k,none⟩ 0 r.k #[]) wr=.ok cs.toArray wr:=
   run_loadCellsFrom_list P _ _ cs r.k hk (fun i u hi=>by rw [Addr.add_lit];exact hc i u hi)
  have D:=HP.out wr x cs M.out (Qy O) hR
  have HX:=Qq O
  clear hc hR O
  cases hq:p x with
  | true=>
   rw [hq] at D
   go_wp2_with (go_at_fn g;refine D.mono ?_;rintro e w' ⟨rfl,I⟩)
   go_ret
   refine ⟨?_,M.out.thn I⟩
   rw [K8 HX.out hq A.out]
   rfl
  | false=>
   rw [hq] at D
   go_wp2_with (go_at_fn g;refine D.mono ?_;rintro e w' ⟨rfl,I⟩)
   go_roundg (n - (G+1))
   case measure=>omega
   case rel=>
    refine ⟨G+1,Qqj,Qqj,by go_num,M.out.thn I,(show Aside _ from fun j y hj J=>?_)⟩
    by_cases e:j=G
    ·subst e
     have:=HX.out
     rw [this] at J
     cases J
     exact hq
    exact A.out j y Qqj J
 have N:¬ (G:Int)<(n:Int):=Qqj
 have:G=n:=Qqj
 subst this
 go_wp2
 go_ret
 refine ⟨?_,M.out⟩
 rw [Uc (fun j y J=>A.out j y (by have:=(Qj J).1;have:=HN.out;omega) J)]
 rfl
theorem conFn (L:SlLaysH0.n8 P ρ) (r:Rd T) (aE:∀ w,(isAgg (ρ.t 23)).run P w=.ok true w) (zE:∀ w,(Go.sizeOf (ρ.t 23)).run P w=.ok r.k w) (g:Nat) (lb:Array Value)
  (eg:∀ args w,(callFunc g args).run P w=.ok (.enter g args) w) (S:Nat→Prop) (v:Value) (xs:List T) (w:World) (p:T→Bool) (hs:Sl r S w v xs) (hp:Uz P g lb r S xs p w):
  Calls P (ρ.f 8) #[v,.func (.func g) #[] lb] w fun e w'=>e=.returned (.bool (xs.any p))∧Below w w w':=by
 rw [← Db]
 have mixed:=L.mixed;have t0:=L.t0;have a0:=L.a0;have z0:=L.z0;have v0:=L.v0;have t3:=L.t3;have a3:=L.a3;have z3:=L.z3;have v3:=L.v3;have t4:=L.t4;have a4:=L.a4;have z4:=L.z4;have v4:=L.v4;have t22:=L.t22;have a22:=L.a22;have z22:=L.z22;have v22:=L.v22;have t25:=L.t25;have a25:=L.a25;have z25:=L.z25;have v25:=L.v25
 have e6:∀ args w,(callFunc (ρ.f 6) args).run P w=.ok (.enter (ρ.f 6) args) w:=L.f6.enters rfl
 have hC:=Qq (H8 { L with } r aE zE g lb eg S v xs w p hs hp)
 obtain ⟨_,_,FG⟩:=L.f8
 generalize V5 p xs=i at hC ⊢
 clear hs hp
 go_enter FG,SlBodyH.n8_ntmps ρ
 go_wp2_with (go_at_fn (ρ.f 6);refine hC.out.mono ?_;rintro e w' ⟨rfl,A⟩)
 go_ret
 exact ⟨rfl,A⟩
theorem O9 (L:SlLaysE0.n41 P ρ) (i0:TypeInfo) (z:Value) (size bytes:Nat) (hi:P.info? (ρ.t 23)=some i0) (hz0:i0.zero=some z) (hz1:i0.size=size) (hz2:i0.bytes=bytes) (hzs:z.cells.size=size) (hsz:0<size)
  (z23:∀ w,(Go.sizeOf (ρ.t 23)).run P w=.ok size w) (ad:Addr) (c:Nat) (w:World):
  Calls P (ρ.f 41) #[.slice (some ad) 0 c] w fun e w'=>∃ v',e=.returned v'∧w'.ownsRow w (ρ.t 23) size v' 0 []∧Below w w w':=by
 have mixed:=L.mixed;have t4:=L.t4;have a4:=L.a4;have z4:=L.z4;have v4:=L.v4;have t22:=L.t22;have a22:=L.a22;have z22:=L.z22;have v22:=L.v22
 have M:∀ (w:World) (a:Option Addr) (n c I G:Nat),(binOp .eql (ρ.t 22) (.slice a n c) (.slice none I G)).run P w=.ok (.bool a.isNone) w:=fun w a n c I G=>Lib.run_eql_slice_nil w _ _ a n c I G L.t22
 have N:∀ w,Sem.run P (underlying (ρ.t 22)) w=.ok (TypeDesc.slice (ρ.t 23)) w:=run_underlying t22
 obtain ⟨_,_,FG⟩:=L.f41
 go_enter FG,SlBodyN.n41_ntmps ρ
 go_wp2_with (at_builtin;refine wpList_append_own _ rfl _ _ (ρ.t 22) rfl w (ρ.t 23) i0 z size bytes t22 hi hz0 hz1 hz2 hzs hsz _ _ _ rfl (World.ownsRow_made w #[] 0 (Q9 _) (Q8 _) Qqk) ad 0 c [] rfl Qqk Qqk Qqk (by unfold maxLen;omega) Qqk Qqk ?_)
 intro v' w1 D A J
 go_wp2
 go_ret
 refine ⟨v',rfl,by simpa using D,?_⟩
 exact ((Qz _ w).alloc (Q9 _) _).grown A Qqk (by intro k hk;simp [Value.ownBlock] at hk;omega)
def Ja (r:Rd T) (E:TypeId) (S:Nat→Prop) (w:World) (xs:List T) (e:Ending) (w':World):Prop:=
 ∃ p cap css,e=.returned (.slice p xs.length cap)∧Own r E S w w' (.slice p xs.length cap) xs css∧Below w w w'
theorem Own.form {r:Rd T} {E:TypeId} {S:Nat→Prop} {B:Nat} {w:World} {v:Value} {xs:List T} {css:List (List Value)} (h:Own r E S B w v xs css):∃ p cap,v=.slice p xs.length cap:=by
 rcases h.row.2 with ⟨rfl,h0⟩ | ⟨g,cap,A,rfl,_⟩
 ·exact ⟨none,0,by rw [h0]⟩
 exact ⟨_,_,rfl⟩
theorem Gd {r:Rd T} {E:TypeId} {S:Nat→Prop} {w w':World} {v:Value} {xs:List T} {css:List (List Value)} (h:Own r E S w w' v xs css) (hb:Below w w w'):Ja r E S w xs (.returned v) w':=by
 obtain ⟨p,cap,rfl⟩:=h.form
 exact ⟨p,cap,css,rfl,h,hb⟩
theorem Ds (L:SlLaysE0.n41 P ρ) (r:Rd T) (hk:0<r.k) (bytes:Nat) (i0:TypeInfo) (z:Value) (hi:P.info? (ρ.t 23)=some i0) (hz0:i0.zero=some z) (hz1:i0.size=r.k) (hz2:i0.bytes=bytes) (hzs:z.cells.size=r.k)
  (z23:∀ w,(Go.sizeOf (ρ.t 23)).run P w=.ok r.k w) (hby:bytes≤1000) (h1:∀ S w cs x,r.R S w cs x→∀ u ∈ cs,u.oneCell'=true) (S:Nat→Prop) (v:Value) (xs:List T) (w:World) (hs:Sl r S w v xs):
  Calls P (ρ.f 41) #[v] w (Ja r (ρ.t 23) S w xs):=by
 obtain ⟨p,cap,css,rfl,A,O⟩:=hs.css hk
 obtain ⟨_,_,_,hl⟩:=hs.len
 have G:∀ w' v',Below w w w'→w'.ownsRow w (ρ.t 23) r.k v' xs.length css.flatten→Own r (ρ.t 23) S w w' v' xs css:=by
  intro w' v' hb I
  refine ⟨I,A.move (.of_below hb) (fun b hb h=>⟨h,fun e=>?_⟩)⟩
  have:=(I.lt b e.symm).1
  omega
 by_cases hx:xs=[]
 ·subst hx
  have J:css=[]:=Zy A.len
  subst J
  rcases p with _ | ad
  ·refine (AnyE.slices_Clone_nil L 0 cap w).mono ?_
   rintro e w' ⟨rfl,rfl⟩
   exact Gd (G _ _ (Qz _ _) (by simpa using World.ownsRow_nil w' w' (ρ.t 23) r.k)) (Qz _ _)
  refine (O9 L i0 z r.k bytes hi hz0 hz1 hz2 hzs hk z23 ad cap w).mono ?_
  rintro e w' ⟨v',rfl,I,D⟩
  exact Gd (G _ _ D (by simpa using I)) D
 obtain ⟨b,V,rfl,hS,hb,hc⟩:=O hx
 refine (AnyE.slices_Clone L i0 z r.k bytes hi hz0 hz1 hz2 hzs hk z23 b V xs.length cap css.flatten w A.flat (by unfold maxLen;omega) (by
  have:=Nat.mul_le_mul hl hby;omega) hc (fun u hu=>?_)).mono ?_
 ·obtain ⟨c,M,U⟩:=List.mem_flatten.1 hu
  obtain ⟨i,hi⟩:=Zk M
  have N:=(Qj hi).1
  exact h1 S w c _ (A.R i c _ hi (Qx (by rw [← A.len];exact N))) u U
 rintro e w' ⟨v',rfl,I,_,D⟩
 exact Gd (G _ _ D I) D
end
def Y7:Rd Rel where
 k:=2
 R S w cs x:=∃ v,cs=[sv x.table,v]∧x.table.length≤1000000∧Sl Ze S w v x.rows
 len h:=by obtain ⟨v,rfl,_⟩:=h;rfl
 frame h hA:=by obtain ⟨v,rfl,A,D⟩:=h;exact ⟨v,rfl,A,D.frame hA⟩
 mono h hS:=by obtain ⟨v,rfl,A,D⟩:=h;exact ⟨v,rfl,A,D.mono hS⟩
def X7:Rd Col where
 k:=6
 R S w cs x:=∃ tc,cs=sv x.name::tc∧x.name.length≤1000000∧Xf S w tc x.type
 len h:=by obtain ⟨v,rfl,_,A⟩:=h;rw [List.length_cons,A.length]
 frame h hA:=by obtain ⟨v,rfl,D,A⟩:=h;exact ⟨v,rfl,D,A.move hA Qzx⟩
 mono h hS:=by obtain ⟨v,rfl,D,A⟩:=h;exact ⟨v,rfl,D,A.move (.refl _ _) hS⟩
def Dd:Rd Rf where
 k:=2
 R _ _ cs x:=cs=[sv x.column,sv x.table]∧x.column.length≤1000000∧x.table.length≤1000000
 len h:=by rw [h.1];rfl
 frame h _:=h
 mono h _:=h
def Zn:Rd Tbl where
 k:=13
 R S w cs x:=∃ A G rv D,cs=sv x.name::A::G::rv::D∧x.name.length≤1000000∧Sl X7 S w A x.columns∧Sl Zh S w G x.key∧Sl Dd S w rv x.refs∧Yv S w D x.check
 len h:=by obtain ⟨_,_,_,_,rfl,_,_,_,_,I⟩:=h;simp only [List.length_cons,I.length]
 frame h hA:=by obtain ⟨A,G,rv,D,rfl,J,I,M,N,O⟩:=h;exact ⟨A,G,rv,D,rfl,J,I.frame hA,M.frame hA,N.frame hA,O.move hA Qzx⟩
 mono h hS:=by obtain ⟨A,G,rv,D,rfl,J,I,M,N,O⟩:=h;exact ⟨A,G,rv,D,rfl,J,I.mono hS,M.mono hS,N.mono hS,O.move (.refl _ _) hS⟩
def Gg:Rd Ct where
 k:=7
 R S w cs x:=∃ tc,cs=sv x.name::.bool x.has::tc∧x.name.length≤1000000∧Xf S w tc x.arg
 len h:=by obtain ⟨v,rfl,_,A⟩:=h;simp only [List.length_cons,A.length]
 frame h hA:=by obtain ⟨v,rfl,D,A⟩:=h;exact ⟨v,rfl,D,A.move hA Qzx⟩
 mono h hS:=by obtain ⟨v,rfl,D,A⟩:=h;exact ⟨v,rfl,D,A.move (.refl _ _) hS⟩
def Uu:Rd Sm where
 k:=2
 R S w cs x:=∃ v,cs=[sv x.name,v]∧x.name.length≤1000000∧Sl Gg S w v x.ctors
 len h:=by obtain ⟨v,rfl,_⟩:=h;rfl
 frame h hA:=by obtain ⟨v,rfl,A,D⟩:=h;exact ⟨v,rfl,A,D.frame hA⟩
 mono h hS:=by obtain ⟨v,rfl,A,D⟩:=h;exact ⟨v,rfl,A,D.mono hS⟩
def Xu (S:Nat→Prop) (w:World) (cs:List Value) (x:Sc):Prop:=∃ uv tv,cs=[uv,tv]∧Sl Uu S w uv x.sums∧Sl Zn S w tv x.tables
theorem Xu.below {S:Nat→Prop} {w w':World} {cs:List Value} {x:Sc} (h:Xu S w cs x) (hb:Below w w w'):Xu S w' cs x:=by
 obtain ⟨uv,tv,rfl,h1,h2⟩:=h;exact ⟨uv,tv,rfl,h1.below hb,h2.below hb⟩
theorem Xw:∀ S w cs x,Ze.R S w cs x→∀ u ∈ cs,u.oneCell'=true:=by
 intro S w cs x h u hu
 obtain ⟨p3,k3,p4,k4,rfl,_⟩:=Z9.cells (show Z9 S w cs x from h)
 simp only [vcs,Z3,Z2,or_false] at hu
 rcases hu with rfl | rfl | rfl | rfl | rfl <;> rfl
theorem Xx:∀ S w cs x,Zh.R S w cs x→∀ u ∈ cs,u.oneCell'=true:=by
 intro S w cs x h u hu
 obtain ⟨rfl,_⟩:=h
 simp only [Z3,Z2,or_false] at hu
 subst hu;rfl
theorem sl_one {T:Type} {r:Rd T} {S:Nat→Prop} {w:World} {v:Value} {xs:List T} (h:Sl r S w v xs):v.oneCell'=true:=by
 obtain ⟨p,cap,rfl,_⟩:=h.len;rfl
theorem Tf:∀ S w cs x,Y7.R S w cs x→∀ u ∈ cs,u.oneCell'=true:=by
 intro S w cs x h u hu
 obtain ⟨v,rfl,_,h2⟩:=h
 simp only [Z3,Z2,or_false] at hu
 rcases hu with rfl | rfl
 ·rfl
 exact sl_one h2
theorem rf_one:∀ S w cs x,Dd.R S w cs x→∀ u ∈ cs,u.oneCell'=true:=by
 intro S w cs x h u hu
 obtain ⟨rfl,_⟩:=h
 simp only [Z3,Z2,or_false] at hu
 rcases hu with rfl | rfl <;> rfl
theorem ty_one {S:Nat→Prop} {w:World} {cs:List Value} {x:Ty} (h:Xf S w cs x):∀ u ∈ cs,u.oneCell'=true:=by
 intro u hu
 cases h with
 | mk k n s names kids nv p cap b off cs hs hn=>
  simp only [Z3,Z2,or_false] at hu
  rcases hu with rfl | rfl | rfl | rfl | rfl
  ·rfl
  ·rfl
  ·rfl
  ·exact sl_one hn
  rfl
theorem Te:∀ S w cs x,X7.R S w cs x→∀ u ∈ cs,u.oneCell'=true:=by
 intro S w cs x h u A
 obtain ⟨tc,rfl,_,h2⟩:=h
 rcases Z3.1 A with rfl | A
 ·rfl
 exact ty_one h2 u A
theorem Y9 {P:Program} {t:TypeId} {z:Value} {n b:Nat} (h:(P.info? t).map (fun i=>(i.zero,i.size,i.bytes))=some (some z,n,b)):∃ i0,P.info? t=some i0∧i0.zero=some z∧i0.size=n∧i0.bytes=b:=by
 cases hi:P.info? t with
 | none=>rw [hi] at h;cases h
 | some i0=>
  rw [hi] at h
  simp only [Option.map_some,Zv,Prod.mk.injEq] at h
  exact ⟨i0,rfl,h.1,h.2.1,h.2.2⟩
theorem Hg (S:Nat→Prop) (v:Value) (xs:List Val) (w:World) (hs:Sl Ze S w v xs):Calls prog 49 #[v] w (Ja Ze 36 S w xs):=by
 obtain ⟨i0,h1,h2,h3,h4⟩:=Y9 (P:=prog) (t:=36) (z:=.agg zV) (n:=5) (b:=80) Qqy
 exact Ds Tryz.clVal Ze Qqx 80 i0 _ h1 h2 h3 h4 rfl sizeOf36 Qqj Xw S v xs w hs
theorem Hf (S:Nat→Prop) (v:Value) (xs:List Bs) (w:World) (hs:Sl Zh S w v xs):Calls prog 162 #[v] w (Ja Zh 9 S w xs):=by
 obtain ⟨i0,h1,h2,h3,h4⟩:=Y9 (P:=prog) (t:=9) (z:=.string ⟨#[]⟩) (n:=1) (b:=16) Qqy
 exact Ds Tryz.clStr Zh Qqx 16 i0 _ h1 h2 h3 h4 rfl sizeOf9 Qqj Xx S v xs w hs
theorem cloneRel (S:Nat→Prop) (v:Value) (xs:List Rel) (w:World) (hs:Sl Y7 S w v xs):Calls prog 100 #[v] w (Ja Y7 70 S w xs):=by
 obtain ⟨i0,h1,h2,h3,h4⟩:=Y9 (P:=prog) (t:=70) (z:=.agg #[Qqe,Qqf]) (n:=2) (b:=40) Qqy
 exact Ds Tryz.clRel Y7 Qqx 40 i0 _ h1 h2 h3 h4 rfl sizeOf70 Qqj Tf S v xs w hs
theorem cloneRef (S:Nat→Prop) (v:Value) (xs:List Rf) (w:World) (hs:Sl Dd S w v xs):Calls prog 165 #[v] w (Ja Dd 67 S w xs):=by
 obtain ⟨i0,h1,h2,h3,h4⟩:=Y9 (P:=prog) (t:=67) (z:=.agg #[Qqe,Qqe]) (n:=2) (b:=32) Qqy
 exact Ds Tryz.clRef Dd Qqx 32 i0 _ h1 h2 h3 h4 rfl sizeOf67 Qqj rf_one S v xs w hs
theorem P9 (S:Nat→Prop) (v:Value) (xs:List Col) (w:World) (hs:Sl X7 S w v xs):Calls prog 76 #[v] w (Ja X7 64 S w xs):=by
 obtain ⟨i0,h1,h2,h3,h4⟩:=Y9 (P:=prog) (t:=64) (z:=.agg #[Qqe,Qqd,Qqe,Qqd,Qqf,Qqf]) (n:=6) (b:=96) Qqy
 exact Ds Tryz.clCol X7 Qqx 96 i0 _ h1 h2 h3 h4 rfl sizeOf64 Qqj Te S v xs w hs
theorem My (S:Nat→Prop) (v:Value) (l:List Rel) (t:Bs) (w:World) (hs:Sl Y7 S w v l):
  Calls prog 48 #[v,sv t] w fun e w'=>e=.returned (.int .i64 (V5 (fun r=>decide (r.table=t)) l))∧Below w w w':=by
 have hp:∀ A:World,Below w w A→A.cell? ⟨w,0,none⟩=some (sv t)→Uz prog 99 #[Qqc w] Y7 S l (fun r=>decide (r.table=t)) A:=by
  rintro A M G W x cs hb hx ⟨rv,rfl,_,_⟩
  have I:W.cell? ⟨w,0,none⟩=some (sv t):=kD hb (Qv A _ G) G
  have J:=Qv W _ I
  have N:w.heap.size≠W.heap.size:=by
   intro e;rw [e] at J;simp at J
  have hq:(x.table==t)=decide (x.table=t):=by rw [Bool.eq_iff_iff,beq_iff_eq,decide_eq_true_eq]
  have HQ:=Qq hq
  clear hq G hb M hx
  show Calls prog 99 #[.agg #[sv x.table,rv],Qqc w] W _
  unfold sv at I ⊢
  go_enter func99,ntmps99
  go_wp2_with fail
  go_ret
  exact ⟨by rw [← HQ.out];rfl,Zg _ _⟩
 have HI:∀ A:World,Below w w A→A.cell? ⟨w,0,none⟩=some (sv t)→Calls prog 98 #[v,.func (.func 99) #[] #[Qqc w]] A fun e w'=>e=.returned (.int .i64 (V5 (fun r=>decide (r.table=t)) l))∧Below A A w':=
  fun A hb G=>H8 Tryz.ixRel Y7 isAgg70 sizeOf70 _ _ (enters_of func99 Qqy rfl) S v l A _ (hs.below hb) (hp A hb G)
 have D:=Qq HI
 clear HI hp hs
 generalize V5 _ l=r at D ⊢
 unfold sv at D ⊢
 go_enter func48,ntmps48
 go_wp2_with (go_at_call 98;refine (D.out _ (Zg _ _) Qqk).mono ?_;rintro e w' ⟨rfl,hw⟩)
 go_ret
 exact ⟨rfl,(Zg _ _).thn hw⟩
theorem Ho {W W1:World} (hb:Below W W W1):(∀ b o,b<W.heap.size→W1.cell? ⟨b,o,none⟩=W.cell? ⟨b,o,none⟩)∧(∀ b o,b<W.heap.size→W1.frozen? ⟨b,o,none⟩=W.frozen? ⟨b,o,none⟩):=
 ⟨fun b o h=>hb.cell (p:=⟨b,o,none⟩) h,fun b o h=>hb.frozen (p:=⟨b,o,none⟩) h⟩
def CloneIs (w:World) (x:Val) (e:Ending) (w':World):Prop:=∃ cs',e=.returned (.agg cs'.toArray)∧Z9 (fun b=>w≤b) w' cs' x∧Below w w w'
def E5 (x:Val):Prop:=∀ (S:Nat→Prop) (cs:List Value) (w:World),Z9 S w cs x→Calls prog 125 #[cs] w (CloneIs w x)
theorem set_flat {n:Nat}:∀ (css:List (List Value)) (i:Nat) (a b c d e:Value),(∀ x ∈ css,x.length=5)→css.length=n→i<n →
  (((((css.flatten.set (i*5) a).set (i*5+1) b).set (i*5+2) c).set (i*5+3) d).set (i*5+4) e)=(css.set i [a,b,c,d,e]).flatten:=by
 intro css
 induction css generalizing n with
 | nil=>intro i a b c d e _ A hi;simp at A;omega
 | cons x css ih=>
  intro i a b c d e hx A hi
  have h5:=hx x Qqk
  cases i with
  | zero=>
   match x,h5 with
   | [x0,x1,x2,x3,x4],_=>simp
  | succ i=>
   have:=ih (n:=css.length) i a b c d e (fun y hy=>hx y (by simp [hy])) rfl (by simp at A;omega)
   simp only [List.flatten_cons,List.set_cons_succ]
   rw [← this]
   have e1:(i+1)*5=x.length+i*5:=by rw [h5];omega
   simp only [e1,Nat.add_assoc]
   simp only [List.set_append_right _ _ (Nat.le_add_right _ _),Nat.add_sub_cancel_left]
theorem store5 {w:World} {B g n cap:Nat} {E:TypeId} {css:List (List Value)} (h:w.ownsRow B E 5 (.slice (some ⟨g,0,none⟩) n cap) n css.flatten) (hl:css.length=n) (h5:∀ x ∈ css,x.length=5) (i:Nat) (hi:i<n) (a b c d e:Value):
  (((((w.setCell ⟨g,i*5,none⟩ a).setCell ⟨g,i*5+1,none⟩ b).setCell ⟨g,i*5+2,none⟩ c).setCell ⟨g,i*5+3,none⟩ d).setCell ⟨g,i*5+4,none⟩ e).ownsRow B E 5 (.slice (some ⟨g,0,none⟩) n cap) n (css.set i [a,b,c,d,e]).flatten:=by
 rw [← set_flat css i a b c d e h5 hl hi]
 obtain ⟨h1,_⟩:=h.stored (i*5) a
 obtain ⟨h2,_⟩:=h1.stored (i*5+1) b
 obtain ⟨h3,_⟩:=h2.stored (i*5+2) c
 obtain ⟨h4,_⟩:=h3.stored (i*5+3) d
 exact (h4.stored (i*5+4) e).1
structure Jf (w:World) (k n:Int) (s:Bs) (ns:List Bs) (ks:List Val) (np:Option Addr) (ncap:Nat) (kp:Option Addr) (kcap:Nat) (kcs:List (List Value)) (kk:Nat) (wx:World):Prop where
 below:Below w w wx
 box:wx.heap[w.heap.size]?=some (.cells #[k,n,s,.slice np ns.length ncap,.slice kp ks.length kcap] 36 (0,0))
 res:wx.heap[w.heap.size+1]?=some (.cells zV 36 (0,0))
 names:Sl Zh (fun b=>w+2≤b∧some b≠(Value.slice kp ks.length kcap).ownBlock) wx (.slice np ns.length ncap) ns
 kids:∃ news:List (List Value),news.length=kk∧wx.ownsRow (w+2) 36 5 (.slice kp ks.length kcap) ks.length (news++kcs.drop kk).flatten ∧
  Cs Ze (fun b=>w+2≤b∧some b≠(Value.slice kp ks.length kcap).ownBlock) wx news (ks.take kk)
theorem Vw {w w':World} {B B':Nat} {e:TypeId} {sz n:Nat} {v:Value} {xs:List Value} (h:w.ownsRow B e sz v n xs) (hB:B'≤B) (hA:∀ b,B≤b→b<w.heap.size→w'.heap[b]?=w.heap[b]?):w'.ownsRow B' e sz v n xs:=by
 refine ⟨h.1,?_⟩
 rcases h.2 with hn | ⟨g,cap,cur,rfl,hg,hh,rest⟩
 ·exact .inl hn
 exact .inr ⟨g,cap,cur,rfl,Qqj,(hA g hg (Array.getElem?_eq_some_iff.1 hh).1).trans hh,rest⟩
theorem Z8 {w:World} {b:Nat} {o:Obj} (h:w.heap[b]?=some o):b<w.heap.size:=(Array.getElem?_eq_some_iff.1 h).1
theorem Za {w:World} {a:Addr} {u:Value} {b:Nat} (h:b≠a.block):(w.setCell a u).heap[b]?=w.heap[b]?:=Below.heap_setCell _ _ _ _ h
theorem sl_str {w:World} {v:Value} {xs:List Bs} {css:List (List Value)} {E:TypeId} {S:Nat→Prop} {B B':Nat} (h:Own Zh E S B w v xs css) (hl:xs.length≤1000000) (hB:B'≤B):Sl Zh (fun b=>B'≤b) w v xs:=by
 have:Own Zh E (fun _=>False) B w v xs css:=⟨h.row,⟨h.cs.len,fun i c x hc hx=>h.cs.R i c x hc hx⟩⟩
 exact this.sl hl (fun b hb=>Qqj) (fun b _ h=>h.elim)
theorem Xo {w:World} {g i0 i1 i2 i3 i4:Nat} {a b c d e:Value} {k:Nat} (h:k≠g):
  (((((w.setCell ⟨g,i0,none⟩ a).setCell ⟨g,i1,none⟩ b).setCell ⟨g,i2,none⟩ c).setCell ⟨g,i3,none⟩ d).setCell ⟨g,i4,none⟩ e).heap[k]?=w.heap[k]?:=by
 rw [Za h,Za h,Za h,Za h,Za h]
theorem Jf.next {w wr w4:World} {k n:Int} {s:Bs} {ns:List Bs} {ks:List Val} {np:Option Addr} {ncap g kcap kk B:Nat} {kcs:List (List Value)} {x:Val} {a b c d e:Value}
  (hM:Jf w k n s ns ks np ncap (some ⟨g,0,none⟩) kcap kcs kk wr) (hx:ks[kk]?=some x) (hCs:Cs Ze (fun b=>b<w) w kcs ks) (hb:Below wr wr w4) (hB:wr≤B)
  (hv:Z9 (fun b=>B≤b) w4 [a,b,c,d,e] x):
  Jf w k n s ns ks np ncap (some ⟨g,0,none⟩) kcap kcs (kk+1) (((((w4.setCell ⟨g,kk*5,none⟩ a).setCell ⟨g,kk*5+1,none⟩ b).setCell ⟨g,kk*5+2,none⟩ c).setCell ⟨g,kk*5+3,none⟩ d).setCell ⟨g,kk*5+4,none⟩ e):=by
 have G:kk<ks.length:=(Qj hx).1
 obtain ⟨A,T,J,I⟩:=hM.kids
 have hg:=J.lt g rfl
 have hG:w.heap.size≤g:=Qqj
 have Y:(Value.slice (some ⟨g,0,none⟩) ks.length kcap).ownBlock=some g:=rfl
 have N:∀ y ∈ A++kcs.drop kk,y.length=5:=by
  intro y hy
  rcases Z4.1 hy with h | h
  ·exact I.all y h
  exact hCs.all y (Zw h)
 have O:(A++kcs.drop kk).length=ks.length:=by rw [Ql,Zq,hCs.len];omega
 have U:(A++kcs.drop kk).set kk [a,b,c,d,e]=(A++[[a,b,c,d,e]])++kcs.drop (kk+1):=by
  have hd:kcs.drop kk=(kcs[kk]'(by rw [hCs.len];exact G))::kcs.drop (kk+1):=Qp (by rw [hCs.len];exact G)
  rw [hd,List.set_append_right _ _ Qqj,T,Nat.sub_self,List.set_cons_zero,List.append_assoc];rfl
 refine ⟨?_,?_,?_,?_,⟨A++[[a,b,c,d,e]],by simp [T],?_,?_⟩⟩
 ·exact (((((hM.below.thn hb).setCell (p:=⟨g,_,none⟩) hG _).setCell (p:=⟨g,_,none⟩) hG _).setCell (p:=⟨g,_,none⟩) hG _).setCell (p:=⟨g,_,none⟩) hG _).setCell (p:=⟨g,_,none⟩) hG _
 ·rw [Xo Qqj,hb.block _ (Z8 hM.box)];exact hM.box
 ·rw [Xo Qqj,hb.block _ (Z8 hM.res)];exact hM.res
 ·refine hM.names.frame (fun b M D=>?_)
  rw [Xo (fun e=>M.2 (by rw [e];rfl)),hb.block _ D]
 ·rw [← U]
  exact store5 (Vw J (Q9 _) (fun b _ D=>hb.block b D)) O N kk G a b c d e
 rw [Zz G]
 rw [Qx G] at hx
 obtain rfl:=Qb hx
 refine (I.move (fun b M D=>?_) Qzx).app (Cs.one ?_)
 ·rw [Xo (fun e=>M.2 (by rw [e];rfl)),hb.block _ D]
 obtain ⟨Z,aA⟩:=hg
 refine Z9.move hv (fun b M D=>?_) (fun b D M=>?_)
 ·have V:B≤b:=M
  exact Xo Qqj
 have V:B≤b:=M
 refine ⟨Qqj,fun e=>?_⟩
 have:b=g:=Qb e
 omega
theorem Ps (k n:Int) (s:Bs) (ns:List Bs) (ks:List Val) (ih:∀ x ∈ ks,E5 x):E5 (.mk k n s ns ks):=by
 intro S0 cs w bM
 have hx:Z9 (fun b=>b<w) w cs (.mk k n s ns ks):=bM.move (.refl _ _) (fun b hb _=>hb)
 clear bM
 obtain ⟨nv,kv,rfl,hs,hn,hk⟩:=Vn.1 hx
 have cO:ns.length≤1000000:=by obtain ⟨_,_,_,h⟩:=hn.len;exact h
 have cN:ks.length≤1000000:=by obtain ⟨_,_,_,h⟩:=hk.len;exact h
 obtain ⟨HN,HK,HI⟩:=Qqo hn hk ih
 clear hx hn hk ih
 unfold sv
 go_enter func125,ntmps125
 go_upto_region 1 with fail
 go_cut [12] (fun _ wx=>∃ np M kp A U,Jf w k n s ns ks np M kp A U 0 wx∧Cs Ze (fun b=>b<w) w U ks)
 case first=>
  go_region_with (first | (go_at_call 162;refine (Hf _ nv ns _ (HN.out.below (by first | exact (Zt _ _ _).drew | exact (Zt _ _ _).drew.thn aP.out | exact (Zt _ _ _).drew.thn aQ.out))).mono ?_;rintro e w1 ⟨np,M,dY,rfl,bK,aK⟩;obtain ⟨aE,aG⟩:=Ho aK;have cQ:=aK.size;have aP:=Qq aK;have bZ:=Qq bK;clear aK bK;(try simp at cQ);have cK:w.heap.size<w1.heap.size:=Qqj;have cM:w.heap.size+1<w1.heap.size:=Qqj;have dJ:w1.cell? ⟨w,3,none⟩=some nv:=(by first | (rw [aE _ _ (by simp;omega)];simp) | (rw [aE _ _ Qqw];assumption));have dO:w1.frozen? ⟨w,3,none⟩=false:=(by first | (rw [aG _ _ (by simp;omega)];simp) | (rw [aG _ _ Qqw];assumption));have dK:w1.cell? ⟨w,4,none⟩=some kv:=(by first | (rw [aE _ _ (by simp;omega)];simp) | (rw [aE _ _ Qqw];assumption));have dP:w1.frozen? ⟨w,4,none⟩=false:=(by first | (rw [aG _ _ (by simp;omega)];simp) | (rw [aG _ _ Qqw];assumption));clear aE aG) | (go_at_call 49;refine (Hg _ kv ks _ (HK.out.below (by first | exact (Zt _ _ _).drew | exact (Zt _ _ _).drew.thn aP.out | exact (Zt _ _ _).drew.thn aQ.out))).mono ?_;rintro e w2 ⟨kp,A,U,rfl,bL,aL⟩;obtain ⟨aF,aH⟩:=Ho aL;have cR:=aL.size;have aQ:=Qq aL;have aS:=Qq bL;clear aL bL;(try simp only [World.size_drew,World.size_alloc] at cR);have dS:w.heap.size<w2.heap.size:=Qqj;have dW:w.heap.size+1<w2.heap.size:=Qqj;have dL:w2.cell? ⟨w,3,none⟩=some nv:=(by first | (rw [aF _ _ (by simp;omega)];simp) | (rw [aF _ _ Qqw];assumption));have dQ:w2.frozen? ⟨w,3,none⟩=false:=(by first | (rw [aH _ _ (by simp;omega)];simp) | (rw [aH _ _ Qqw];assumption));have dM:w2.cell? ⟨w,4,none⟩=some kv:=(by first | (rw [aF _ _ (by simp;omega)];simp) | (rw [aF _ _ Qqw];assumption));have dR:w2.frozen? ⟨w,4,none⟩=false:=(by first | (rw [aH _ _ (by simp;omega)];simp) | (rw [aH _ _ Qqw];assumption));clear aF aH))
  all_goals
   go_wp2_with fail
   go_meet
   have b1:=aP.out
   have b2:=aQ.out
   have bE:=b1.block w (by simp;omega)
   have aN:=b1.block (w+1) Qqk
   rw [heap_drew,Q5] at bE
   rw [heap_drew,Q6] at aN
   have cJ:=kE b2 cK bE
   have bF:=kE b2 cM aN
   have bH:Below w w w2:=(Zt _ _ _).drew.thn (b1.thn b2)
   refine ⟨np,M,kp,A,U,⟨(bH.setCell (p:=⟨w,3,none⟩) (Q9 _) _).setCell (p:=⟨w,4,none⟩) (Q9 _) _,?_,?_,?_,⟨[],rfl,?_,⟨rfl,fun i c x hc=>by simp at hc⟩⟩⟩,?_⟩
   ·exact Qi _ _ _ _ _ _ (Qi _ _ _ _ _ _ cJ)
   ·rw [Za Qqk,Za Qqk];exact bF
   ·refine ((sl_str bZ.out cO Qqk).mono (S':=fun b=>w+2≤b∧some b≠(Value.slice kp ks.length A).ownBlock) (fun b hb h=>⟨h,fun e=>?_⟩)).frame (fun b hb V=>?_)
    ·have:=(aS.out.row.lt b e.symm).1
     omega
    rw [Za (by show b≠w;omega),Za (by show b≠w;omega)]
    exact b2.block b V
   ·refine Vw aS.out.row Qqj (fun b hb V=>?_)
    rw [Za (by show b≠w;omega),Za (by show b≠w;omega)]
   exact (aS.out.cs.move (S':=fun b=>b<w) (.refl _ _) (fun b _ h=>h.1)).move (fun b hb _=>(bH.block b hb).symm) (fun b _ h=>h)
 obtain ⟨np,M,kp,A,U,T,bD⟩:=hcut
 have HC:=Qq bD;have HM:=Qq T
 obtain ⟨c0,c1,c2,c3,c4⟩:=row5 T.box
 clear bD T
 go_wp2_with fail
 go_loopw [16] (fun i wr=>∃ J:Nat,J≤ks.length∧i=.int .i64 J∧Jf w k n s ns ks np M kp A U J wr) (fun i _=>ks.length - (intOf i).toNat)
 case atStart=>exact ⟨0,Q8 _,rfl,HM.out⟩
 obtain ⟨J,dX,rfl,T⟩:=hrel
 have c0:=Qk _ _ 0 _ _ _ T.box;have c1:=Qk _ _ 1 _ _ _ T.box;have c2:=Qk _ _ 2 _ _ _ T.box;have c3:=Qk _ _ 3 _ _ _ T.box;have c4:=Qk _ _ 4 _ _ _ T.box
 have r0:=Qk _ _ 0 _ _ _ T.res;have r1:=Qk _ _ 1 _ _ _ T.res;have r2:=Qk _ _ 2 _ _ _ T.res;have r3:=Qk _ _ 3 _ _ _ T.res;have r4:=Qk _ _ 4 _ _ _ T.res
 have fr:=fun j=>Qn _ _ j _ _ T.res
 have dC:=(Array.getElem?_eq_some_iff.1 T.res).1
 simp only [Qf,Qg,Qh] at c0 c1 c2 c3 c4 r0 r1 r2 r3 r4
 have Z:=Qq T
 by_cases V:J<ks.length
 ·obtain ⟨x,hx⟩:∃ x,ks[J]?=some x:=⟨_,Qx V⟩
  obtain ⟨Y,aM,I,G⟩:=T.kids
  obtain ⟨g,cap,bJ,dT,O⟩:=I.form Qqj
  simp only [Qr] at bJ
  obtain ⟨rfl,-,rfl⟩:=bJ
  obtain ⟨oc,aW⟩:∃ oc,U[J]?=some oc:=⟨_,Qx (by rw [HC.out.len];exact V)⟩
  have aY:=HC.out.R J oc x aW hx
  obtain ⟨p3,k3,p4,k4,rfl,_⟩:=Z9.cells (show Z9 _ w oc x from aY)
  have aD:∀ y ∈ Y++U.drop J,y.length=5:=by
   intro y hy
   rcases Z4.1 hy with h | h
   ·exact G.all y h
   exact HC.out.all y (Zw h)
  have aU:(Y++U.drop J)[J]?=some (vcs x p3 k3 p4 k4):=by
   rw [Zx Qqj,List.getElem?_drop,aM,Nat.sub_self,Nat.add_zero];exact aW
  have D:∀ (j:Nat) u,(vcs x p3 k3 p4 k4)[j]?=some u→wr.cell? ⟨g,J*5+j,none⟩=some u:=by
   intro j u hu
   have h5:j<5:=(Qj hu).1
   rw [I.cellAt _ Qqj]
   exact V6 aD aU hu
  have d0:=D 0 _ rfl;have d1:=D 1 _ rfl;have d2:=D 2 _ rfl;have d3:=D 3 _ rfl;have d4:=D 4 _ rfl
  rw [Nat.add_zero] at d0
  have fz:=fun j=>I.frozenAt j
  have dU:(0:Int)≤(J:Int):=Qqj
  have dV:(J:Int)<(ks.length:Int):=Qqj
  have dD:w.heap.size≠wr.heap.size:=Qqj
  have dE:w.heap.size+1≠wr.heap.size:=Qqj
  have dF:g≠wr.heap.size:=Qqj
  obtain ⟨HX,HV,HA,dG,HR⟩:=Qqr hx aY aD aU I;obtain ⟨dI,HL,aB,dH⟩:=Qqp G aM fz fr
  clear hx aY aD aU I G aM D aW T fz fr r0 r1 r2 r3 r4 c0 c1 c2 c3
  go_upto_region 5 with fail
  obtain ⟨W5,aJ⟩:=eX (wr.alloc (.cells (Qqg x p3 k3 p4 k4) 36))
  have aV:=eqB aJ (Zg _ _)
  have bN:=eqH (b:=wr.heap.size) aJ (Qw _ _)
  rw [aJ]
  obtain ⟨x0,x1,x2,x3,x4⟩:=row5 bN
  have c5:=kD aV Qqj c4
  have aR:=Qq aV
  have cD:=c4
  clear aJ aV bN c4
  go_region_with (first | (go_at_call 125;refine (HI.out x (Qy HX.out) _ (vcs x p3 k3 p4 k4) _ (Z9.move HV.out (.of_below (Z.out.below.thn aR.out.drew)) Qzx)).mono ?_;rintro e w4 ⟨dN,rfl,aX,bG⟩;obtain ⟨q3,l3,q4,l4,bI,_⟩:=Z9.cells aX;simp only [vcs] at bI;subst bI;have N:=Qq (aR.out.drew.thn bG);have cA:=Qq aX;clear aX bG;have e4:=kD N.out Qqj cD;have g0:=kD N.out O d0;have g1:=kD N.out O d1;have g2:=kD N.out O d2;have g3:=kD N.out O d3;have g4:=kD N.out O d4;have f0:=(N.out.frozen (p:=⟨g,J*5,none⟩) O).trans (aB.out (J*5));have f1:=(N.out.frozen (p:=⟨g,J*5+1,none⟩) O).trans (aB.out (J*5+1));have f2:=(N.out.frozen (p:=⟨g,J*5+2,none⟩) O).trans (aB.out (J*5+2));have f3:=(N.out.frozen (p:=⟨g,J*5+3,none⟩) O).trans (aB.out (J*5+3));have f4:=(N.out.frozen (p:=⟨g,J*5+4,none⟩) O).trans (aB.out (J*5+4))))
  all_goals
   go_wp2_with fail
   go_roundw
   case measure=>simp [intOf];omega
   case rel=>exact ⟨J+1,Qqj,by go_num,Z.out.next HX.out HC.out N.out (aR.out.size) cA.out⟩
 obtain rfl:J=ks.length:=Qqj
 obtain ⟨cE,cF,cG,cH,cI⟩:=Qzj fr
 clear fr
 go_wp2_with fail
 have aA:=Qi _ _ 4 _ _ (.slice kp ks.length A) (Qi _ _ 3 _ _ (.slice np ns.length M) (Qi _ _ 2 _ _ (.string ⟨s.toArray⟩) (Qi _ _ 1 _ _ (.int .i64 n) (Qi _ _ 0 _ _ (.int .i64 k) Z.out.res))))
 have q0:=Qk _ _ 0 _ _ _ aA;have q1:=Qk _ _ 1 _ _ _ aA;have q2:=Qk _ _ 2 _ _ _ aA;have q3:=Qk _ _ 3 _ _ _ aA;have q4:=Qk _ _ 4 _ _ _ aA
 simp only [List.setIfInBounds_toArray,List.set_cons_zero,List.set_cons_succ,Qf,Qg,Qh] at q0 q1 q2 q3 q4
 obtain ⟨WF,aC⟩:=eX ((((((wr.setCell ⟨w+1,0,none⟩ (.int .i64 k)).setCell ⟨w+1,1,none⟩ (.int .i64 n)).setCell ⟨w+1,2,none⟩ (.string ⟨s.toArray⟩)).setCell ⟨w+1,3,none⟩ (.slice np ns.length M)).setCell ⟨w+1,4,none⟩ (.slice kp ks.length A)))
 rw [aC] at q0 q1 q2 q3 q4 ⊢
 have cB:=Qq aC
 clear aA aC c0 c1 c2 c3 c4 r0 r1 r2 r3 r4 cE cF cG cH cI
 refine Q7 (v:=.agg #[k,n,s,.slice np ns.length M,.slice kp ks.length A]) (by simp [results,results125,go_sem,q0,q1,q2,q3,q4]) rfl ⟨_,rfl,?_,?_⟩
 all_goals rw [← cB.out]
 ·obtain ⟨Y,aM,I,G⟩:=Z.out.kids
  rw [Qu (by rw [HC.out.len];exact Q9 _),List.append_nil] at I
  rw [Zj (Q9 _)] at G
  have hO:Own Ze 36 (fun b=>w+2≤b) (w+2) wr (.slice kp ks.length A) ks Y:=⟨I,G⟩
  refine Y8 hs ?_ ?_
  ·refine (Z.out.names.frame (fun b hS V=>?_)).mono (fun b _ hS=>?_)
   ·exact Xo (by have:w.heap.size+2≤b:=hS.1;omega)
   have:w.heap.size+2≤b:=hS.1
   show w≤b
   omega
  refine ((hO.sl cN (S':=fun b=>w+2≤b) (fun b h=>h) (fun b _ h=>h)).frame (fun b hS V=>?_)).mono (fun b _ hS=>?_)
  ·exact Xo (by have:w.heap.size+2≤b:=hS;omega)
  have:w.heap.size+2≤b:=hS
  show w≤b
  omega
 exact ((((Z.out.below.setCell (p:=⟨w+1,0,none⟩) (Nat.le_succ _) _).setCell (p:=⟨w+1,1,none⟩) (Nat.le_succ _) _).setCell (p:=⟨w+1,2,none⟩) (Nat.le_succ _) _).setCell (p:=⟨w+1,3,none⟩) (Nat.le_succ _) _).setCell (p:=⟨w+1,4,none⟩) (Nat.le_succ _) _
theorem Fe:∀ x:Val,E5 x
 | .mk k n s ns ks=>Ps k n s ns ks fun x _=>Fe x
termination_by x=>SizeOf.sizeOf x
decreasing_by
 have:=List.sizeOf_lt_of_mem ‹_ ∈ ks›
 simp only [Val.mk.sizeOf_spec]
 omega
theorem Nv (a b:Val):(Yz a b==0)=eqv a b:=by rw [← eqv_cmp];rfl
theorem Ga (S:Nat→Prop) (a b:Val) (ca cb:List Value) (w:World) (ha:Z9 S w ca a) (hb:Z9 S w cb b):
  Calls prog 61 #[ca,cb] w fun e w'=>e=.returned (.int .i64 (Yz a b))∧Gr w w':=cmpAt a b S ca cb w ha hb
theorem Ou (S:Nat→Prop) (a b:Val) (ca cb:List Value) (w:World) (ha:Z9 S w ca a) (hb:Z9 S w cb b):
  Calls prog 53 #[ca,cb] w fun e w'=>e=.returned (.bool (eqv a b))∧Below w w w':=by
 rw [← Nv]
 have HC:=Qq (fun W (h:Below w w W)=>Ga S a b ca cb W (ha.move (.of_below h) Qzx) (hb.move (.of_below h) Qzx))
 obtain ⟨p3,k3,p4,k4,A,_⟩:=Z9.cells ha
 obtain ⟨q3,l3,q4,l4,D,_⟩:=Z9.cells hb
 simp only [vcs] at A D
 subst A;subst D
 clear ha hb
 generalize Yz a b=c at HC ⊢
 go_enter func53,ntmps53
 go_wp2_with (go_at_call 61;refine (HC.out _ (Zt _ _ _)).mono ?_;rintro e w' ⟨rfl,hw⟩;have HW:=Qq ((Vo w _ _).thn hw);clear hw)
 go_ret
 exact ⟨rfl,HW.out.bl⟩
theorem Xf.cells {S:Nat→Prop} {w:World} {cs:List Value} {x:Ty} (h:Xf S w cs x):∃ k s n p3 n3 k3 p4 n4 k4,cs=[.int .i64 k,.string s,.int .i64 n,.slice p3 n3 k3,.slice p4 n4 k4]:=by
 cases h with
 | mk k n s names kids nv p cap b off cs hs hn=>
  obtain ⟨p3,k3,rfl,_⟩:=hn.len
  exact ⟨_,_,_,_,_,_,_,_,_,rfl⟩
theorem row1_any (S:Nat→Prop) (a b:Col) (ca cb:List Value) (w:World) (ha:X7.R S w ca a) (hb:X7.R S w cb b):
  Calls prog 78 #[ca,cb] w fun e w'=>e=.returned (.int .i64 (Yf a.name b.name))∧Gr w w':=by
 obtain ⟨ta,rfl,_,h1⟩:=ha
 obtain ⟨tb,rfl,_,h2⟩:=hb
 obtain ⟨_,_,_,_,_,_,_,_,_,rfl⟩:=h1.cells
 obtain ⟨_,_,_,_,_,_,_,_,_,rfl⟩:=h2.cells
 have A:=Qq (fun W=>Nt ⟨a.name.toArray⟩ ⟨b.name.toArray⟩ W)
 rw [show Yf (bl ⟨a.name.toArray⟩) (bl ⟨b.name.toArray⟩)=Yf a.name b.name from rfl] at A
 generalize Yf a.name b.name=c at A ⊢
 clear h1 h2
 unfold sv
 go_enter func78,ntmps78
 go_wp2_with (go_at_call 79;refine (A.out _).mono ?_;rintro e w' ⟨rfl,rfl⟩)
 go_ret
 exact ⟨rfl,Vo _ _ _⟩
theorem Fb (S:Nat→Prop) (v:Value) (l:List Bs) (x:Bs) (w:World) (hs:Sl Zh S w v l):
  Calls prog 139 #[v,sv x] w fun e w'=>e=.returned (.int .i64 (V5 (fun y=>decide (y=x)) l))∧w=w':=by
 obtain ⟨p,cap,rfl,hl⟩:=hs.len
 have HS:=Qq hs
 clear hs
 obtain ⟨n,G⟩:=eX (l.length)
 rw [G] at HS hl;rw [G]
 have HN:=Qq G
 clear G
 unfold sv
 go_enter func139,ntmps139
 go_wp2_with fail
 go_loop [8] (fun i=>∃ k:Nat,k≤n∧i=.int .i64 k∧Aside (∀ (j:Nat) (y:Bs),j<k→l[j]?=some y→decide (y=x)=false)) (fun i=>n - (intOf i).toNat)
 case atStart=>exact ⟨0,Q8 _,rfl,fun j _ hj=>absurd hj (Z6 _)⟩
 obtain ⟨k,hk,rfl,A⟩:=hrel
 by_cases hlt:k<n
 ·have N:(0:Int)≤(k:Int):=Qqj
  have O:(k:Int)<(n:Int):=Qqj
  obtain ⟨y,D⟩:∃ y,l[k]?=some y:=⟨_,Qx (by rw [HN.out];exact hlt)⟩
  obtain ⟨b,T,rfl,hc,-⟩:=HS.out.str D
  have HY:=Qq D
  clear D
  by_cases he:y=x
  ·have hq:(x==y)=true:=by rw [he];simp
   have I:=Qq he
   clear he
   go_wp2_with fail
   go_ret
   refine ⟨?_,rfl⟩
   rw [K8 HY.out (by rw [I.out];simp) A.out]
   rfl
  have hq:(x==y)=false:=by rw [← Qt,beq_iff_eq];exact fun e=>he e.symm
  have I:=Qq he
  clear he
  go_wp2_with fail
  go_round
  case measure=>simp [intOf];omega
  case rel=>
   refine ⟨k+1,Qqj,by go_num,(show Aside _ from fun j z hj J=>?_)⟩
   by_cases e:j=k
   ·subst e
    have:=HY.out
    rw [this] at J
    cases J
    simpa using I.out
   exact A.out j z Qqj J
 have M:¬ (k:Int)<(n:Int):=Qqj
 have:k=n:=Qqj
 subst this
 go_wp2_with fail
 go_ret
 refine ⟨?_,rfl⟩
 rw [Uc (fun j y D=>A.out j y (by have:=(Qj D).1;have:=HN.out;omega) D)]
 rfl
theorem Sx (S:Nat→Prop) (v:Value) (l:List Bs) (x:Bs) (w:World) (hs:Sl Zh S w v l):
  Calls prog 138 #[v,sv x] w fun e w'=>e=.returned (.bool (l.any fun y=>decide (y=x)))∧w=w':=by
 rw [← Db]
 have A:=Qq (fun W=>Fb S v l x W)
 have HS:=Qq hs
 clear hs
 generalize V5 _ l=i at A ⊢
 unfold sv at A ⊢
 go_enter func138,ntmps138
 go_wp2_with (go_at_call 139;refine (A.out _ HS.out).mono ?_;rintro e w' ⟨rfl,rfl⟩)
 go_ret
 exact ⟨rfl,rfl⟩
def Xb (v:Val) (i:Int):Bool:=decide (v.kind=4)&&decide (0≤i)&&decide (i<v.kids.length)
def X5 (v:Val) (x:Bs):Int:=V5 (fun y=>decide (y=x)) v.names
theorem N0 {k:IntKind} {a b:Int} {c d:Bool} (h:a=b) (h':c=d):Ending.returned (.tuple #[.int k a,.bool c])=.returned (.tuple #[.int k b,.bool d]):=by rw [h,h']
theorem Yq (w:World) (q:Nat):Below w w (w.drewN q):=⟨rfl,rfl,rfl,Q9 _,fun _ _=>rfl⟩
theorem Lg (S:Nat→Prop) (v:Val) (cs:List Value) (x:Bs) (w:World) (h:Z9 S w cs v):
  Calls prog 124 #[cs,sv x] w fun e w'=>e=.returned (.tuple #[(X5 v x),.bool (Xb v (X5 v x))])∧Below w w w':=by
 obtain ⟨p3,k3,p4,k4,I,hn,hk,_⟩:=Z9.cells h
 simp only [vcs] at I
 subst I
 have G:=Qq (fun W (hb:Below w w W)=>Fb S _ v.names x W (hn.below hb))
 rw [show V5 (fun y=>decide (y=x)) v.names=X5 v x from rfl] at G
 have hl:v.kids.length≤1000000:=by obtain ⟨_,_,_,h⟩:=hk.len;exact h
 generalize X5 v x=i at G ⊢
 clear h hn hk
 unfold sv at G ⊢
 by_cases h4:v.kind=4
 ·have J:(v.kind==4)=true:=by rw [h4];rfl
  by_cases h0:0≤i
  ·by_cases hlt:i<v.kids.length
   ·have A:Xb v i=true:=by unfold Xb;simp [h4,h0,hlt]
    have D:=Qq A
    rw [h4] at *
    clear A J h4
    go_enter func124,ntmps124
    go_wp2_with (go_at_call 139;refine (G.out _ (Zg _ _)).mono ?_;rintro e w' ⟨rfl,rfl⟩)
    go_quiet (fail)
    go_wp2
    go_ret2
    exact ⟨N0 rfl D.out.symm,(Zg _ _).thn (Yq _ _)⟩
   have A:Xb v i=false:=by unfold Xb;simp [hlt]
   have D:=Qq A
   have hd:decide (i<v.kids.length)=false:=by simpa using hlt
   rw [h4] at *
   clear A J h4 hlt
   go_enter func124,ntmps124
   go_wp2_with (go_at_call 139;refine (G.out _ (Zg _ _)).mono ?_;rintro e w' ⟨rfl,rfl⟩)
   go_quiet (fail)
   go_wp2
   go_ret2
   exact ⟨N0 rfl D.out.symm,(Zg _ _).thn (Yq _ _)⟩
  have A:Xb v i=false:=by unfold Xb;simp [h0]
  have D:=Qq A
  have hd:decide (0≤i)=false:=by simpa using h0
  rw [h4] at *
  clear A J h4 h0
  go_enter func124,ntmps124
  go_wp2_with (go_at_call 139;refine (G.out _ (Zg _ _)).mono ?_;rintro e w' ⟨rfl,rfl⟩)
  go_quiet (fail)
  go_wp2
  go_ret2
  exact ⟨N0 rfl D.out.symm,(Zg _ _).thn (Yq _ _)⟩
 have A:Xb v i=false:=by unfold Xb;simp [h4]
 have D:=Qq A
 have J:(v.kind==4)=false:=by simpa using h4
 clear A h4
 go_enter func124,ntmps124
 go_wp2_with (go_at_call 139;refine (G.out _ (Zg _ _)).mono ?_;rintro e w' ⟨rfl,rfl⟩)
 go_quiet (fail)
 go_wp2
 go_ret2
 exact ⟨N0 rfl D.out.symm,(Zg _ _).thn (Yq _ _)⟩
theorem Dm {v u:Val} {x:Bs} (h:Ys v x=some u):∃ i:Nat,X5 v x=i∧v.kids[i]?=some u∧Xb v (X5 v x)=true:=by
 unfold Ys at h
 split at h
 ·rename_i h4
  cases hn:V9 v.names x with
  | none=>rw [hn] at h;cases h
  | some i=>
   rw [hn] at h
   have hi:X5 v x=i:=by
    unfold V9 at hn
    unfold X5 V5
    rw [hn]
   have A:=(Qj h).1
   refine ⟨i,hi,h,?_⟩
   rw [hi];unfold Xb
   simp [h4,A]
 cases h
theorem M1 {v:Val} {x:Bs} (h:Ys v x=none):Xb v (X5 v x)=false:=by
 unfold Ys at h
 unfold Xb
 split at h
 ·cases hn:V9 v.names x with
  | none=>
   have A:X5 v x=-1:=by
    unfold V9 at hn
    unfold X5 V5
    rw [hn]
   rw [A];simp
  | some i=>
   rw [hn] at h
   have A:X5 v x=i:=by
    unfold V9 at hn
    unfold X5 V5
    rw [hn]
   rw [List.getElem?_eq_none_iff] at h
   rw [A];simp;intro _;omega
 rename_i h4
 simp [h4]
def Zl (W:World) (R:Nat) (a b c d e:Value):World:=((((W.setCell ⟨R,0,none⟩ a).setCell ⟨R,1,none⟩ b).setCell ⟨R,2,none⟩ c).setCell ⟨R,3,none⟩ d).setCell ⟨R,4,none⟩ e
def Qqm (_ : World) (_ : Nat) (_ : Val) (_ : Option Addr) (_ : Nat) (_ : Option Addr) (_ : Nat) : Qzv := ⟨0⟩
instance Qqm_w {W : World} {R : Nat} {v : Val} {p : Option Addr} {a : Nat} {q : Option Addr} {b : Nat} : CoeDep Qzv (Qqm W R v p a q b) World := ⟨Zl W R (.int .i64 v.kind) (.int .i64 v.n) (.string ⟨v.s.toArray⟩) (.slice p v.names.length a) (.slice q v.kids.length b)⟩
theorem Yd {W:World} {R:Nat} {a b c d e x0 x1 x2 x3 x4:Value} {t:TypeId} (h:W.heap[R]?=some (.cells #[x0,x1,x2,x3,x4] t (0,0))):(Zl W R a b c d e).heap[R]?=some (.cells #[a,b,c,d,e] t (0,0)):=by
 have A:=Qi _ _ 0 _ _ a h;have A:=Qi _ _ 1 _ _ b A;have A:=Qi _ _ 2 _ _ c A;have A:=Qi _ _ 3 _ _ d A;have A:=Qi _ _ 4 _ _ e A
 simpa [Zl] using A
theorem Zd {W:World} {R:Nat} {a b c d e x0 x1 x2 x3 x4:Value} {t:TypeId} (h:W.heap[R]?=some (.cells #[x0,x1,x2,x3,x4] t (0,0))) (j:Nat):(Zl W R a b c d e).cell? ⟨R,j,none⟩=#[a,b,c,d,e][j]?:=
 Qk _ _ _ _ _ _ (Yd h)
theorem Zf {W:World} {R k:Nat} {a b c d e:Value} (h:k≠R):(Zl W R a b c d e).heap[k]?=W.heap[k]?:=Xo h
theorem Zc {B R:Nat} {w W:World} {a b c d e:Value} (h:Below B w W) (hR:B≤R):Below B w (Zl W R a b c d e):=
 ((((h.setCell (p:=⟨R,0,none⟩) hR _).setCell (p:=⟨R,1,none⟩) hR _).setCell (p:=⟨R,2,none⟩) hR _).setCell (p:=⟨R,3,none⟩) hR _).setCell (p:=⟨R,4,none⟩) hR _
def Oz (w:World) (o:Option Val) (e:Ending) (w':World):Prop:=
 ∃ cs',e=.returned (.tuple #[.agg cs'.toArray,.bool o.isSome])∧Z9 (fun b=>w≤b) w' cs' (o.getD Val.zero)∧Below w w w'
theorem Yw (S:Nat→Prop) (w:World):Z9 S w [Qqd,Qqd,Qqe,Qqf,Qqf] Val.zero:=
 Y8 (s:=[]) Qqk (Sl.nil _ _ _) (Sl.nil _ _ _)
theorem Dn (S:Nat→Prop) (v:Val) (cs:List Value) (x:Bs) (w:World) (h:Z9 S w cs v):
  Calls prog 86 #[cs,sv x] w (Oz w (Ys v x)):=by
 have U:=Qq (fun W (hb:Below w w W)=>Lg S v cs x W (h.move (.of_below hb) Qzx))
 obtain ⟨p3,k3,p4,k4,G,hn,hk,_⟩:=Z9.cells h
 simp only [vcs] at G
 subst G
 have HK:=Qq hk
 clear h hn hk
 unfold sv at U ⊢
 cases hg:Ys v x with
 | none=>
  rw [M1 hg] at U
  clear hg
  generalize X5 v x=i at U
  go_enter func86,ntmps86
  go_wp2_with (go_at_call 124;refine (U.out _ (Zt _ _ _)).mono ?_;rintro e w' ⟨rfl,I⟩;have HW:=Qq I;have hz:=I.size;obtain ⟨hc,hf⟩:=Ho I;have r0:=fun o=>(hf (w+1) o Qqk);clear I)
  have Y:=(HW.out.block (w+1) Qqk).trans (Q6 _ _ _)
  show bodyPost _ _ _ _ _ (Zl w' _ _ _ _ _ _)
  refine Q7 (v:=.tuple #[.agg zV,.bool false]) (by simp [results,results86,go_sem,Zd Y]) rfl ⟨_,rfl,Yw _ _,?_⟩
  exact Zc ((Zt w _ _).thn HW.out) Qqj
 | some u=>
  obtain ⟨i,hi,O,hb⟩:=Dm hg
  rw [hb,hi] at U
  obtain ⟨b,aK,q3,l3,q4,l4,rfl,D,V,d0,d1,d2,d3,d4⟩:=HK.out.val O
  have aI:i<v.kids.length:=(Qj O).1
  have aG:(0:Int)≤(i:Int):=Qqj
  have aH:(i:Int)<(v.kids.length:Int):=Qqj
  have aD:b<w.heap.size+1:=Qqj
  have HV:=Qq V
  clear hg hi O hb V
  go_enter func86,ntmps86
  go_wp2_with fail
  refine (U.out _ (Zt _ _ _)).mono ?_
  rintro e w1 ⟨rfl,I⟩
  have HW:=Qq I
  have A:=(Zt w _ _).thn I
  have Y:=(I.block (w+1) Qqk).trans (Q6 _ _ _)
  have hX:=(I.block w (by simp;omega)).trans (Q5 _ _ _)
  have e0:=kD A D d0;have e1:=kD A D d1;have e2:=kD A D d2;have e3:=kD A D d3;have e4:=kD A D d4
  have x4:=rA4 hX
  have M:=Qq A;have HR:=Qq Y
  clear I A hX Y d0 d1 d2 d3 d4
  go_wp2_with fail
  refine (Fe u _ (vcs u q3 l3 q4 l4) _ (Z9.move HV.out (.of_below M.out) Qzx)).mono ?_
  rintro e w2 ⟨aF,rfl,T,N⟩
  obtain ⟨r3,m3,r4,m4,G,_⟩:=Z9.cells T
  simp only [vcs] at G
  subst G
  have J:=kB N HR.out
  have f:=fun j=>Qn _ _ j _ _ J
  have y:=fun j=>Qk _ _ j _ _ _ J
  obtain ⟨y0,y1,y2,y3,y4⟩:=Qzj y
  obtain ⟨f0,f1,f2,f3,f4⟩:=Qzj f
  simp only [Qf,Qg,Qh] at y0 y1 y2 y3 y4
  obtain ⟨Z,aB,aA⟩:=Qqo N T J
  clear N T J f y
  go_wp2_with fail
  show bodyPost _ _ _ _ _ (Zl w2 _ _ _ _ _ _)
  refine Q7 (v:=.tuple #[.agg (Qqg u r3 m3 r4 m4),.bool true]) (by simp [results,results86,go_sem,Zd aA.out]) rfl ⟨_,rfl,?_,Zc (M.out.thn Z.out) Qqj⟩
  have aJ:=M.out.size
  have aE:=Z8 HR.out
  refine Z9.move aB.out (fun b hb _=>Zf ?_) (fun b _ hb=>?_)
  ·have:w1.heap.size≤b:=hb
   omega
  have:w1.heap.size≤b:=hb
  show w≤b
  omega
end Go.Proofs.YtdpibdpbgokmoaaGreatDoor
