import Derived.Test.YtlanplhphiikjaaGreatDoorE14
import Derived.Test.YtlanplhphiikjaaGreatDoorE13
set_option maxRecDepth 100000
set_option maxHeartbeats 400000000
namespace Go.Proofs.YtlanplhphiikjaaGreatDoor
open Go.RowKit Go.Shelf Go.Lib Tryz
theorem Own.set5 {E:TypeId} {S:Nat->Prop} {B:Nat} {w:World} {g n cap:Nat} {xs:List Val} {css:List (List Value)} (hn:xs.length=n) (h:Own Zc E S B w (.slice (some ⟨g,0,none⟩) n cap) xs css) {i:Nat} (hi:i<n) {a b c d e:Value} {x:Val} (hx:Za (But S (.slice (some ⟨g,0,none⟩) n cap)) w [a,b,c,d,e] x):
  Own Zc E S B (((((w.setCell ⟨g,i*5,none⟩ a).setCell ⟨g,i*5+1,none⟩ b).setCell ⟨g,i*5+2,none⟩ c).setCell ⟨g,i*5+3,none⟩ d).setCell ⟨g,i*5+4,none⟩ e) (.slice (some ⟨g,0,none⟩) n cap) (xs.set i x) (css.set i [a,b,c,d,e]):=by
 subst hn
 have M:=h.cs.len
 have hA:∀ A,A≠g->(((((w.setCell ⟨g,i*5,none⟩ a).setCell ⟨g,i*5+1,none⟩ b).setCell ⟨g,i*5+2,none⟩ c).setCell ⟨g,i*5+3,none⟩ d).setCell ⟨g,i*5+4,none⟩ e).heap[A]?=w.heap[A]?:=fun A hb=>Vy hb
 refine ⟨by rw [List.length_set];exact store5 h.row M h.cs.all i hi a b c d e,⟨by rw [List.length_set,List.length_set];exact M,fun j cs y D I=>?_⟩⟩
 by_cases hj:j=i
 ·subst hj
  rw [List.getElem?_set_self (by rw [M];exact hi)] at D
  rw [List.getElem?_set_self hi] at I
  cases D;cases I
  exact hx.move (fun A J _=>hA A (fun e=>J.2 (by rw [e];rfl))) Qyv
 rw [List.getElem?_set_ne (Ne.symm hj)] at D I
 exact Za.move (h.cs.R j cs y D I) (fun A J _=>hA A (fun e=>J.2 (by rw [e];rfl))) Qyv
theorem Ws {v:Val} {x:Bs} (y:Val) (h:Xj v x=none):Dh v x y=none:=by
 unfold Xj at h
 unfold Dh
 split at h
 ·rename_i h4
  rw [if_pos h4]
  cases hn:V5 v.names x with
  | none=>rfl
  | some i=>
   rw [hn] at h
   rw [List.getElem?_eq_none_iff] at h
   show (if i<v.kids.length then _ else none)=none
   rw [if_neg Qvu]
 rename_i h4
 rw [if_neg h4]
theorem Wi {v u:Val} {x:Bs} (y:Val) {i:Nat} (h:Xj v x=some u) (hi:Uq v x=i):Dh v x y=some (.mk v.kind v.n v.s v.names (v.kids.set i y)):=by
 obtain ⟨j,hj,hu,hb⟩:=Fc h
 have e:j=i:=by
  unfold Uq at hi
  rw [hb,hj,if_pos rfl] at hi
  omega
 subst e
 unfold Xj at h
 unfold Dh
 split at h
 ·rename_i h4
  rw [if_pos h4]
  cases hn:V5 v.names x with
  | none=>rw [hn] at h;cases h
  | some i=>
   have hi:Xe v x=i:=by
    unfold V5 at hn
    unfold Xe Vi
    rw [hn]
   rw [hj] at hi
   obtain rfl:j=i:=Qvu
   show (if j<v.kids.length then _ else none)=_
   rw [if_pos (Qj hu).1]
 cases h
theorem Tg {u v y:Val} {x:Bs} (h:Dh u x y=some v):v.kind=4:=by
 unfold Dh at h
 split at h
 ·rename_i h4
  split at h
  ·split at h
   ·cases h;exact h4
   cases h
  cases h
 cases h
theorem Qzo (S:Nat->Prop) (v x:Val) (name:Bs) (cv cx:List Value) (w:World) (hv0:Za S w cv v) (hx0:Za S w cx x) (hbv:Y0 v) (hbx:Y0 x):
  Calls prog 225 #[cv,sv name,cx] w (Xy S w (Dh v name x)):=by
 have hv:Za (fun b=>S b/\b<w) w cv v:=hv0.move (.refl _ _) (fun b hb h=>⟨h,hb⟩)
 have hx:Za (fun b=>S b/\b<w) w cx x:=hx0.move (.refl _ _) (fun b hb h=>⟨h,hb⟩)
 clear hv0 hx0
 have HF:=Qq (fun W (hb:Below w w W)=>M3 _ v cv name W (hv.move (.of_below hb) Qyv))
 obtain ⟨p3,k3,p4,k4,bD,bG,aD,cO⟩:=Za.cells hv
 obtain ⟨q3,l3,q4,l4,bE,_⟩:=Za.cells hx
 have cC:=Qq hx
 simp only [vcs] at bD bE
 subst bD;subst bE
 have hl:v.kids.length<=1000000:=by obtain ⟨_,_,_,h⟩:=aD.len;exact h
 obtain ⟨bT,aO,aL,bN⟩:=Qxo bG aD hbv hbx
 obtain ⟨i0,j1,j2,j3,j4⟩:=Y4 (P:=prog) (t:=48) (z:=.agg zV) (n:=5) (b:=80) Qxx
 obtain ⟨HJ,bO,bP,bQ⟩:=Qxo j1 j2 j3 j4
 clear j1 j2 j3 j4
 clear hv hx bG aD hbv hbx
 unfold sv at HF |-
 cases hg:Xj v name with
 | none=>
  rw [B8 hg] at HF
  have aA:=Qq (Ws x hg)
  clear hg
  go_enter func225,ntmps225
  go_wp2_with fail
  refine (HF.out _ (U8 _ _ _ _)).mono ?_
  rintro e w1 ⟨rfl,Y⟩
  have Z:=(Y.block (w+2) Qxz).trans (Yz _ _ _ _)
  have HW:=Qq Y;have HR:=Qq Z
  obtain ⟨y0,y1,y2,y3,y4⟩:=row5 Z
  obtain ⟨f0,f1,f2,f3,f4⟩:=frz5 Z
  clear Y Z
  go_wp2_with fail
  show bodyPost _ _ _ _ _ (Zp w1 (w+2) Qxc Qxc Qxd Qxe Qxe)
  exact Q7 (v:=.tuple #[.agg zV,.bool false]) (by simp [results,results225,go_sem,Zd HR.out]) rfl ⟨0,0,⟨#[]⟩,none,0,0,none,0,0,false,rfl,.no aA.out,Zf ((U8 w _ _ _).thn HW.out) Qvu⟩
 | some u=>
  obtain ⟨i,hi,aC⟩:=B1 hg
  have aA:=Qq (Wi x hg hi)
  rw [hi] at HF
  obtain ⟨n,hn⟩:=eX (v.kids.length)
  have cN:i<n:=by rw [<- hn];exact (Qj aC).1
  rw [hn] at HF aO hl |-
  have HN:=Qq hn
  have cY:(0:Int)<=(i:Int):=Qvu
  have cZ:(i:Int)<(n:Int):=Qvu
  have dA:decide ((i:Int)<0)=false:=Qxz
  have bR:=Qq aC;have cV:=Qq hg
  clear hg hi aC hn
  go_enter func225,ntmps225
  go_wp2_with fail
  refine (HF.out _ (U8 _ _ _ _)).mono ?_
  rintro e w1 ⟨rfl,Y⟩
  have hX:=(Y.block w (by simp;omega)).trans (Yc _ _ _ _)
  have hY:=(Y.block (w+1) Qxz).trans (Y8 _ _ _ _)
  have Z:=(Y.block (w+1+1) Qxz).trans (Yz _ _ _ _)
  have N:=(U8 w _ _ _).thn Y
  obtain ⟨HX,HY,HR,aM⟩:=Qxo hX hY Z N
  have cT:w.heap.size+1+1<w1.heap.size:=Z8 Z
  have c4:=rA4 hX
  have hA:Sl Zc (But (fun b=>S b/\b<w) (.slice none 0 0)) w1 (.slice p4 n k4) v.kids:=(aO.out.mono (S':=But (fun b=>S b/\b<w) (.slice none 0 0)) (fun b _ h=>⟨h,fun e=>by cases e⟩)).below N
  have HA:=Qq hA
  have bF:([]:List Val).length+v.kids.length=n:=by rw [HN.out];simp
  have bS:=Qq bF
  clear Y hX hY Z N hA bF
  go_upto_region 6 with (at_builtin;refine Yn (r:=Zc) Qxv Xg rfl (.tmp 16) (.tmp 18) _ rfl 48 i0 (.agg zV) 80 underlying40 HJ.out bO.out bP.out bQ.out rfl Qvu (fun b=>S b/\b<w) (w+3) w1 (.slice none 0 0) [] [] rfl (Own.nil _ _ _ _ _) (.slice p4 n k4) v.kids rfl HA.out n bS.out Qvu Qvu ?_;intro pa T cS wa aU aR;have D:=Qq aU;have I:=Qq aR;clear aU aR)
  rw [List.nil_append] at D
  obtain ⟨g,cR,bH,cW,cX⟩:=D.out.row.form (by rw [HN.out];omega)
  simp only [Qr] at bH
  obtain ⟨rfl,-,rfl⟩:=bH
  have aY:=kE I.out.below Qvu HX.out
  have bA:=kE I.out.below Qvu HY.out
  have aV:=kE I.out.below Qvu HR.out
  have O:Below w w wa:=aM.out.trans (I.out.below.mono Qvu)
  have aX:Za (But (fun b=>S b/\b<w) (.slice (some ⟨g,0,none⟩) n T)) wa (Qxf x q3 l3 q4 l4) x:=Za.move cC.out (.of_below O) (fun b hb h=>⟨h,fun e=>by have:=(D.out.row.lt b e.symm).1;omega⟩)
  have aS:=D.out.set5 HN.out cN aX
  obtain ⟨bq,oq,t3,s3,t4,s4,he,_,_,d0,d1,d2,d3,d4⟩:=(show Sl Zc (fun _=>True) wa (.slice (some ⟨g,0,none⟩) n T) v.kids by have:=D.out.sl (S':=fun _=>True) (by rw [HN.out];omega) (fun _ _=>trivial) (fun _ _ _=>trivial);exact this).val bR.out
  obtain ⟨rfl,rfl⟩:g=bq/\0=oq:=by simpa using he
  simp only [Nat.zero_add] at d0 d1 d2 d3 d4
  have A:=D.out.row
  rw [HN.out] at A
  have f0:=A.frozenAt (i*5);have f1:=A.frozenAt (i*5+1);have f2:=A.frozenAt (i*5+2);have f3:=A.frozenAt (i*5+3);have f4:=A.frozenAt (i*5+4)
  clear A
  obtain ⟨y0,y1,y2,y3,y4⟩:=row5 bA
  obtain ⟨bU,cA,bX,aN⟩:=Qxo aS aY aV O
  have cU:=I.out.size
  clear he aS aY bA aV O aX c4
  go_upto_region 7 with fail
  obtain ⟨W6,J⟩:=eX ((((((wa.setCell ⟨g,i*5,none⟩ (.int .i64 x.kind)).setCell ⟨g,i*5+1,none⟩ (.int .i64 x.n)).setCell ⟨g,i*5+2,none⟩ (.string ⟨x.s.toArray⟩)).setCell ⟨g,i*5+3,none⟩ (.slice q3 x.names.length l3)).setCell ⟨g,i*5+4,none⟩ (.slice q4 x.kids.length l4)))
  have aE:∀ b,b≠g->W6.heap[b]?=wa.heap[b]?:=fun b hb=>by rw [<- J];exact Vy hb
  have dB:W6.heap.size=wa.heap.size:=by rw [<- J];simp [World.setCell]
  have aB:=bU.out
  rw [J] at aB |-
  have V:=(aE w Qvu).trans cA.out
  have aW:=(aE (w+1+1) Qvu).trans bX.out
  have bB:Below w w W6:=by
   rw [<- J]
   exact ((((aN.out.setCell (p:=⟨g,i*5,none⟩) (by show w<=g;omega) _).setCell (p:=⟨g,i*5+1,none⟩) (by show w<=g;omega) _).setCell (p:=⟨g,i*5+2,none⟩) (by show w<=g;omega) _).setCell (p:=⟨g,i*5+3,none⟩) (by show w<=g;omega) _).setCell (p:=⟨g,i*5+4,none⟩) (by show w<=g;omega) _
  obtain ⟨aP,cB,bY,bM⟩:=Qxo aB V aW bB
  obtain ⟨c0,c1,c2,c3,c4⟩:=row5 V
  have cI:=fA 4 V
  clear J aE aB V aW bB d0 d1 d2 d3 d4 f0 f1 f2 f3 f4 y0 y1 y2 y3 y4
  go_upto_region 8 with fail
  obtain ⟨W7,M⟩:=eX (W6.setCell ⟨w,4,none⟩ (.slice (some ⟨g,0,none⟩) n T))
  rw [M]
  have aZ:W7.heap[w.heap.size]?=some (.cells #[v.kind,v.n,v.s,.slice p3 v.names.length k3,Qxa g 0 n T] 48 (0,0)):=by rw [<- M,Qi _ _ _ _ _ _ cB.out];rfl
  have aF:∀ b,b≠w.heap.size->W7.heap[b]?=W6.heap[b]?:=fun b hb=>by rw [<- M];exact Z9 hb
  have U:=(aF (w+1+1) Qvu).trans bY.out
  have bC:Below w w W7:=by rw [<- M];exact bM.out.setCell (p:=⟨w,4,none⟩) (Q9 _) _
  have aT:Own Zc 48 (fun b=>S b/\b<w) (w+3) W7 (.slice (some ⟨g,0,none⟩) n T) (v.kids.set i x) _:=aP.out.move (Q9 _) (fun b _ h=>aF b (by
   rcases h with h | h
   ·have:=h.2;omega
   have:=(aP.out.row.lt b h).1;omega))
  obtain ⟨bZ,aK,bV⟩:=Qxn U bC aT
  clear c0 c1 c2 c3 c4 cI
  obtain ⟨e0,e1,e2,e3,e4⟩:=row5 aZ
  obtain ⟨r0,r1,r2,r3,r4⟩:=row5 U
  obtain ⟨f0,f1,f2,f3,f4⟩:=frz5 U
  clear M aZ aF U bC aT
  go_wp2_with fail
  show bodyPost _ _ _ _ _ (Zp W7 (w+1+1) v.kind v.n v.s (.slice p3 v.names.length k3) (Qxa g 0 n T))
  refine Q7 (v:=.tuple #[.agg #[v.kind,v.n,v.s,.slice p3 v.names.length k3,Qxa g 0 n T],.bool true]) (by simp [results,results225,go_sem,Zd bZ.out]) rfl ⟨v.kind,v.n,⟨v.s.toArray⟩,p3,v.names.length,k3,some ⟨g,0,none⟩,n,T,true,rfl,.yes (v:=.mk v.kind v.n v.s v.names (v.kids.set i x)) ?_ ?_ aA.out,Zf aK.out Qvu⟩
  ·have cM:(v.kids.set i x).length=n:=by rw [List.length_set,HN.out]
   have cL:Sl Zc (fun b=>(S b/\b<w)\/w+3<=b) W7 (.slice (some ⟨g,0,none⟩) n T) (v.kids.set i x):=bV.out.sl (by rw [cM];omega) (fun b hb=>.inr hb) (fun b _ h=>.inl h)
   refine Yi cO ?_ ?_
   ·exact ((bT.out.below aK.out).frame (fun b hb _=>Zi (by have:=hb.2;omega))).mono (fun b _ hb=>.inl hb.1)
   refine (cL.frame (fun b hb _=>Zi Qvu)).mono (fun b _ hb=>?_)
   rcases hb with h | h
   ·exact .inl h.1
   exact .inr Qvu
  refine .mk _ _ _ _ _ (fun h=>aL.out.bool h) (fun y hy=>?_)
  rcases List.mem_or_eq_of_mem_set hy with h | h
  ·exact aL.out.kids y h
  rw [h];exact bN.out
theorem Qkd {T:Type} {l:List T} {i:Nat} {x y:T} (h:y ∈ X5 l i x):y ∈ l\/y=x:=by
 unfold X5 at h
 rcases Z4.1 h with h | h
 ·exact .inl (List.mem_of_mem_take h)
 rcases Z3.1 h with h | h
 ·exact .inr h
 exact .inl (Zw h)
theorem rec2_mem:∀ {z:List (Bs × Val)} {y:Val},y ∈ (Yu z).2->∃ x,(x,y) ∈ z:=by
 have:∀ (z:List (Bs × Val)) (A:List Bs × List Val) (y:Val),y ∈ (z.foldl Jc A).2->y ∈ A.2\/∃ x,(x,y) ∈ z:=by
  intro z
  induction z with
  | nil=>intro A y h;exact .inl h
  | cons p z ih=>
   intro A y h
   rcases ih (Jc A p) y h with h | ⟨x,h⟩
   ·rcases Qkd h with h | h
    ·exact .inl h
    exact .inr ⟨p.1,by rw [h];exact List.mem_cons_self⟩
   exact .inr ⟨x,List.mem_cons_of_mem _ h⟩
 intro z y h
 rcases this z ([],[]) y h with h | h
 ·simp at h
 exact h
def Xr (k:Int) (nm:Bs) (names:List Bs) (vals:List Val):Option Val:=
 if k=5 then some (vMake nm vals)
 else if k=9 then (if vals.length<=4096 then some (vList vals) else none)
 else if k=6 then (if names.length=vals.length then some (Jj (Yu (names.zip vals)).1 (Yu (names.zip vals)).2) else none)
 else if k=8 then vals[0]?.bind fun v=>Xj v nm
 else if k=7 then (match names,vals with
  | [x],[v,y]=>Dh v x y
  | _,_=>none)
 else none
theorem Sk (nm:Bs) (n:Int) (sx:Bs) (names binds:List Bs) (kids:List Ex) (a z:Int) (S:Nat->Prop) (ce:List Value) (vv:Value) (vals:List Val) (w:World) (he:Y1 S w ce (.mk 5 nm n sx names binds kids a z)) (hv0:Sl Zc S w vv vals) (hb:∀ v ∈ vals,Y0 v) :Calls prog 248 #[ce,vv] w (Xy S w (Xr 5 nm names vals)):=by
 have M:=hv0.up
 obtain ⟨vp,vc,rfl,T⟩:=M.len
 obtain ⟨nv,bv,kv,rfl,J,O,I,A,hk⟩:=Yd.1 he
 obtain ⟨p1,c1,rfl,_⟩:=I.len
 obtain ⟨p2,c2,rfl,_⟩:=A.len
 obtain ⟨p3,c3,rfl,_⟩:=hk.len
 obtain ⟨HV,D,N⟩:=Qxn M hb I
 clear he hv0 M I A hk hb
 unfold sv
 go_enter func248,ntmps248
 go_wp2_with fail
 refine Q7 (v:=.tuple #[.agg #[.int .i64 3,Qxc,nm,Qxe,.slice vp vals.length vc],.bool true]) (by simp [results,results248,go_sem]) rfl ⟨3,0,⟨nm.toArray⟩,none,0,0,vp,vals.length,vc,true,rfl,.yes (v:=.mk 3 0 nm [] vals) (Yi J (Sl.nil _ _ _) ((HV.out.mono (fun b _ h=>.inl h.1)).below (Zu _ _ _))) (.mk _ _ _ _ _ (fun h=>by cases h) D.out) rfl,Zu _ _ _⟩
theorem Sj (nm:Bs) (n:Int) (sx:Bs) (names binds:List Bs) (kids:List Ex) (a z:Int) (S:Nat->Prop) (ce:List Value) (vv:Value) (vals:List Val) (w:World) (he:Y1 S w ce (.mk 9 nm n sx names binds kids a z)) (hv0:Sl Zc S w vv vals) (hb:∀ v ∈ vals,Y0 v) (hl:vals.length<=4096):Calls prog 248 #[ce,vv] w (Xy S w (Xr 9 nm names vals)):=by
 have J:=hv0.up
 obtain ⟨vp,vc,rfl,T⟩:=J.len
 obtain ⟨nv,bv,kv,rfl,N,O,I,A,hk⟩:=Yd.1 he
 obtain ⟨p1,c1,rfl,_⟩:=I.len
 obtain ⟨p2,c2,rfl,_⟩:=A.len
 obtain ⟨p3,c3,rfl,_⟩:=hk.len
 obtain ⟨HV,D,M⟩:=Qxn J hb I
 clear he hv0 J I A hk hb
 unfold sv
 have hq:(vals.length:Int)<=4096:=Qvu
 go_enter func248,ntmps248
 go_wp2_with fail
 refine Q7 (v:=.tuple #[.agg #[.int .i64 5,Qxc,Qxd,Qxe,.slice vp vals.length vc],.bool true]) (by simp [results,results248,go_sem]) rfl ⟨5,0,⟨#[]⟩,none,0,0,vp,vals.length,vc,true,rfl,.yes (v:=.mk 5 0 [] [] vals) (Yi (s:=[]) Qxz (Sl.nil _ _ _) ((HV.out.mono (fun b _ h=>.inl h.1)).below (Zu _ _ _))) (.mk _ _ _ _ _ (fun h=>by cases h) D.out) (by unfold Xr;rw [if_neg Qxv,if_pos rfl,if_pos hl];rfl),Zu _ _ _⟩
theorem Pu (k:Int) (nm:Bs) (n:Int) (sx:Bs) (names binds:List Bs) (kids:List Ex) (a z:Int) (S:Nat->Prop) (ce:List Value) (vv:Value) (vals:List Val) (w:World) (he:Y1 S w ce (.mk k nm n sx names binds kids a z)) (hv0:Sl Zc S w vv vals) (hb:∀ v ∈ vals,Y0 v) (hk5:k≠5) (hk9:k≠9) (hk6:k≠6) (hk8:k≠8) (hk7:k≠7):Calls prog 248 #[ce,vv] w (Xy S w (Xr k nm names vals)):=by
 have J:=hv0.up
 obtain ⟨vp,vc,rfl,U⟩:=J.len
 obtain ⟨nv,bv,kv,rfl,O,T,I,A,hk⟩:=Yd.1 he
 obtain ⟨p1,c1,rfl,_⟩:=I.len
 obtain ⟨p2,c2,rfl,_⟩:=A.len
 obtain ⟨p3,c3,rfl,_⟩:=hk.len
 obtain ⟨HV,M,N⟩:=Qxn J hb I
 clear he hv0 J I A hk hb
 unfold sv
 have q5:(k==5)=false:=by simpa using hk5
 have q9:(k==9)=false:=by simpa using hk9
 have q6:(k==6)=false:=by simpa using hk6
 have q8:(k==8)=false:=by simpa using hk8
 have q7:(k==7)=false:=by simpa using hk7
 have D:Hid (Xr k nm names vals=none):=Qq (by unfold Xr;rw [if_neg hk5,if_neg hk9,if_neg hk6,if_neg hk8,if_neg hk7])
 clear hk5 hk9 hk6 hk8 hk7
 go_enter func248,ntmps248
 go_wp2_with fail
 refine Q7 (v:=.tuple #[.agg zV,.bool false]) (by simp [results,results248,go_sem]) rfl ⟨0,0,⟨#[]⟩,none,0,0,none,0,0,false,rfl,.no D.out,Zu _ _ _⟩
theorem Tn (nm:Bs) (n:Int) (sx:Bs) (names binds:List Bs) (kids:List Ex) (a z:Int) (S:Nat->Prop) (ce:List Value) (vv:Value) (vals:List Val) (w:World) (he:Y1 S w ce (.mk 6 nm n sx names binds kids a z)) (hv0:Sl Zc S w vv vals) (hb:∀ v ∈ vals,Y0 v) (hw:∀ x ∈ names,V8 x) (hnd:names.Nodup) (hnl:names.length<=1000):Calls prog 248 #[ce,vv] w (Xy S w (Xr 6 nm names vals)):=by
 have hv:=hv0.up
 obtain ⟨vp,vc,rfl,bB⟩:=hv.len
 obtain ⟨nv,bv,kv,rfl,aZ,bA,hn,aF,hk⟩:=Yd.1 he
 obtain ⟨p1,c1,rfl,_⟩:=hn.len
 obtain ⟨p2,c2,rfl,_⟩:=aF.len
 obtain ⟨p3,c3,rfl,_⟩:=hk.len
 obtain ⟨HV,aL,aN⟩:=Qxn hv hb hn
 clear he hv0 hv hn aF hk hb
 unfold sv
 have aB:=Qq (fun W (hb:Below w w W)=>Hx (fun b=>S b/\b<w) _ _ names vals W ((aN.out.mono (fun b hb h=>⟨h,hb⟩)).below hb) (HV.out.below hb) hw hnl)
 clear hw
 go_enter func248,ntmps248
 go_wp2_with fail
 refine (aB.out _ (Zu _ _ _)).mono ?_
 rintro e w1 ⟨N,Y⟩
 have M:=(N.block (w+1) Qxz).trans (Q6 _ _ _)
 have aE:=Qq M;have aA:=Qq ((Zu w _ _).thn N)
 have aI:=Z8 M
 rcases Y with ⟨aP,aH,rfl,aJ⟩ | ⟨q3,l3,q4,l4,O,rfl,_,_,Z⟩
 ·have U:Hid (Xr 6 nm names vals=none):=Qq (by
   unfold Xr
   rw [if_neg Qxv,if_neg Qxv,if_pos rfl,if_neg]
   intro O
   exact aJ ⟨O,fun i j x aQ h1 h2=>by
    obtain ⟨l1,e1⟩:=Qj h1
    obtain ⟨l2,e2⟩:=Qj h2
    exact List.pairwise_iff_getElem.1 hnd i j l1 l2 aQ (e1.trans e2.symm)⟩)
  clear aJ
  have hq:(aP==0)=false:=by simpa using aH
  clear aH N M
  go_upto_region 8 with fail
  generalize I:w1.alloc _=W2
  have D:=eqB I (Ze _ _)
  have J:=eqH (b:=w1.heap.size) I (Qw _ _)
  have A:=kE D aI aE.out
  have V:=Qq A;have T:=Qq (aA.out.thn D)
  obtain ⟨x0,x1,x2,x3,x4⟩:=row5 J
  obtain ⟨z0,z1,z2,z3,z4⟩:=row5 A
  obtain ⟨f0,f1,f2,f3,f4⟩:=frz5 A
  clear I D J A
  go_wp2_with fail
  show bodyPost _ _ _ _ _ (Zp W2 (w+1) Qxc Qxc Qxd Qxe Qxe)
  refine Q7 (v:=.tuple #[.agg zV,.bool false]) (by simp [results,results248,go_sem,Zd V.out]) rfl ⟨0,0,⟨#[]⟩,none,0,0,none,0,0,false,rfl,.no U.out,Zf T.out Qvu⟩
 have U:Hid (Xr 6 nm names vals=some (Jj (Yu (names.zip vals)).1 (Yu (names.zip vals)).2)):=Qq (by
  unfold Xr
  rw [if_neg Qxv,if_neg Qxv,if_pos rfl,if_pos O])
 clear O
 obtain ⟨aT,aU⟩:=U9 (names.zip vals)
 have aG:Y0 (Jj (Yu (names.zip vals)).1 (Yu (names.zip vals)).2):=.mk _ _ _ _ _ (fun h=>by cases h) (fun y hy=>by
  obtain ⟨x,hx⟩:=rec2_mem hy
  exact aL.out y (List.of_mem_zip hx).2)
 have aM:=Qq aG
 rw [Hi] at Z |-
 have aC:=Qq Z
 obtain ⟨r,hr⟩:=eX ((names.zip vals).length)
 rw [hr] at aC |-
 clear Z N M aG aT aU hr
 go_upto_region 8 with fail
 generalize I:w1.alloc _=W2
 have D:=eqB I (Ze _ _)
 have J:=eqH (b:=w1.heap.size) I (Qw _ _)
 have A:=kE D aI aE.out
 have V:=Qq A;have T:=Qq (aA.out.thn D)
 have aD:=Qq (aC.out.move (S':=fun b=>(S b/\b≠w+1)\/w+2<=b) (.of_below D) (fun b _ h=>by
  rcases h with h | h
  ·exact .inl ⟨h.1,by have:=h.2;omega⟩
  exact .inr (by simpa using h)))
 obtain ⟨x0,x1,x2,x3,x4⟩:=row5 J
 obtain ⟨z0,z1,z2,z3,z4⟩:=row5 A
 obtain ⟨f0,f1,f2,f3,f4⟩:=frz5 A
 clear I D J A
 go_wp2_with fail
 show bodyPost _ _ _ _ _ (Zp W2 (w+1) (.int .i64 4) Qxc Qxd (.slice q3 r l3) (.slice q4 r l4))
 refine Q7 (v:=.tuple #[.agg #[.int .i64 4,Qxc,Qxd,.slice q3 r l3,.slice q4 r l4],.bool true]) (by simp [results,results248,go_sem,Zd V.out]) rfl ⟨4,0,⟨#[]⟩,q3,r,l3,q4,r,l4,true,rfl,.yes ?_ aM.out U.out,Zf T.out Qvu⟩
 exact aD.out.move (fun b hb _=>Zi Qvu) (fun b _ hb=>by
  rcases hb with h | h
  ·exact .inl h.1
  exact .inr Qvu)
theorem O9 (nm:Bs) (n:Int) (sx:Bs) (names binds:List Bs) (kids:List Ex) (a z:Int) (S:Nat->Prop) (ce:List Value) (vv:Value) (vals:List Val) (w:World) (he:Y1 S w ce (.mk 8 nm n sx names binds kids a z)) (hv0:Sl Zc S w vv vals) (hb:∀ v ∈ vals,Y0 v) (v0:Val) (hv00:vals[0]?=some v0):Calls prog 248 #[ce,vv] w (Xy S w (Xr 8 nm names vals)):=by
 have hv:=hv0.up
 obtain ⟨vp,vc,rfl,bI⟩:=hv.len
 obtain ⟨nv,bv,kv,rfl,bG,bH,hn,aG,hk⟩:=Yd.1 he
 obtain ⟨p1,c1,rfl,_⟩:=hn.len
 obtain ⟨p2,c2,rfl,_⟩:=aG.len
 obtain ⟨p3,c3,rfl,_⟩:=hk.len
 obtain ⟨HV,aQ,bC⟩:=Qxn hv hb hn
 clear he hv0 hv hn aG hk hb
 unfold sv
 obtain ⟨vb,bB,q3,l3,q4,l4,rfl,I,aI,d0,d1,d2,d3,d4⟩:=HV.out.val hv00
 have HG:=Qq (fun W (hb:Below w w W)=>Hp (fun b=>S b/\b<w) v0 (Qxf v0 q3 l3 q4 l4) nm W (Za.move aI (.of_below hb) Qyv))
 unfold sv at HG
 have bA:0<vals.length:=(Qj hv00).1
 have bF:(0:Int)<(vals.length:Int):=Qvu
 have aF:=aQ.out v0 (Qy hv00)
 have aO:=Qq aF
 simp only [Nat.zero_mul,Nat.add_zero] at d0 d1 d2 d3 d4
 have D:=Qq (Qe d0 (Qe d1 (Qe d2 (Qe d3 d4))))
 have Y:Hid (Xr 8 nm names vals=Xj v0 nm):=Qq (by
  unfold Xr
  rw [if_neg Qxv,if_neg Qxv,if_neg Qxv,if_pos rfl,hv00];rfl)
 clear aI hv00 aF d0 d1 d2 d3 d4
 go_enter func248,ntmps248
 go_upto_region 10 with fail
 generalize J:(w.alloc _).alloc _=W1
 have A:=eqB J (Zu _ _ _)
 have aE:=eqH (b:=w.heap.size) J (Q5 _ _ _)
 have N:=eqH (b:=w.heap.size+1) J (Q6 _ _ _)
 have V:=Qq A;have aS:=Qq N
 have aU:=Z8 N
 have bD:=rA1 aE
 obtain ⟨Z,aA,aB,aC,aD⟩:=D.out
 have d0:=kD A I Z;have d1:=kD A I aA;have d2:=kD A I aB;have d3:=kD A I aC;have d4:=kD A I aD
 clear J A aE N Z aA aB aC aD
 go_region_with (go_at_call 55;refine (HG.out _ (V.out.thn (Qz _ _).drew)).mono ?_;rintro e w5 ⟨bE,rfl,U,O⟩;obtain ⟨t3,s3,t4,s4,aH,_⟩:=Za.cells U;simp only [vcs] at aH;subst aH;have M:=kE ((Qz _ W1).drew.thn O) aU aS.out;obtain ⟨aT,aP,aR⟩:=Qxn M (V.out.thn ((Qz _ W1).drew.thn O)) U;obtain ⟨y0,y1,y2,y3,y4⟩:=row5 M;obtain ⟨g0,g1,g2,g3,g4⟩:=frz5 M;clear U O M)
 all_goals
  go_wp2_with fail
  show bodyPost _ _ _ _ _ (Zp w5 (w+1) (.int .i64 ((Xj v0 nm).getD Val.zero).kind) (.int .i64 ((Xj v0 nm).getD Val.zero).n) (.string ⟨((Xj v0 nm).getD Val.zero).s.toArray⟩) (.slice t3 ((Xj v0 nm).getD Val.zero).names.length s3) (.slice t4 ((Xj v0 nm).getD Val.zero).kids.length s4))
  refine Q7 (v:=.tuple #[.agg #[.int .i64 ((Xj v0 nm).getD Val.zero).kind,.int .i64 ((Xj v0 nm).getD Val.zero).n,.string ⟨((Xj v0 nm).getD Val.zero).s.toArray⟩,.slice t3 ((Xj v0 nm).getD Val.zero).names.length s3,.slice t4 ((Xj v0 nm).getD Val.zero).kids.length s4],.bool (Xj v0 nm).isSome]) (by simp [results,results248,go_sem,Zd aT.out]) rfl ⟨_,_,_,t3,_,s3,t4,_,s4,_,rfl,⟨fun T=>⟨(Xj v0 nm).getD Val.zero,?_,?_,?_⟩,fun T=>?_⟩,Zf aP.out Qvu⟩
  ·exact aR.out.move (fun b hb _=>Zi (by have:=hb.2;omega)) (fun b _ hb=>.inl hb.1)
  rotate_left
  ·rw [Y.out]
   obtain ⟨u,hu⟩:=Option.isSome_iff_exists.1 T
   rw [hu];rfl
  ·rw [Y.out];simpa using T
  cases hg:Xj v0 nm with
  | none=>exact Y0.zero
  | some u=>
   obtain ⟨i,_,hu,_⟩:=Fc hg
   exact aO.out.kids u (Qy hu)
def Do (us:List Sm) (v:Val) (t:Ty) (b:Bool):Prop:=∀ (S S' S'':Nat->Prop) (cv ct:List Value) (uv:Value) (w:World),Sl Ka S'' w uv us->Za S w cv v->Xc S' w ct t ->
 Calls prog 198 #[uv,cv,ct] w fun e w'=>e=.returned (.bool b)/\Gr w w'
theorem Gr.dr {a b:World} (h:Gr a b):Gr a b.drew:=h.thn ⟨1,#[],by rw [Sort.grow_empty];rfl⟩
theorem rhasLeaf (us:List Sm) (v:Val) (k:Int) (hk:k=0\/k=1\/k=2) (s:Bs) (n:Int) (names:List Bs) (kids:List Ty):Do us v (.mk k s n names kids) (v.kind==k):=by
 intro S S' D cv ct uv w hu hv ht
 obtain ⟨up,uc,rfl,_⟩:=hu.len
 obtain ⟨p3,k3,p4,k4,A,_⟩:=Za.cells hv
 simp only [vcs] at A
 subst A
 obtain ⟨q3,l3,q4,l4,rfl,_⟩:=ht.cells'
 clear hv ht hu
 rcases hk with rfl | rfl | rfl
 all_goals
  go_enter func198,ntmps198
  go_upto_region 5 with fail
  go_region_with fail
  all_goals
   go_wp2_with fail
   go_ret
   exact ⟨rfl,by first | exact (Vs _ _ _).dr | exact ((Vs _ _ _).alloc _).dr | exact (Vs _ _ _).dr.alloc _ | exact (Vs _ _ _).alloc _⟩
theorem rhasGood (us:List Sm) (v:Val) (t:Ty) (b:Bool) (hg:X6 v) (h:Do us v t b) (S S' S'':Nat->Prop) (cv ct:List Value) (uv:Value) (w:World) (hu:Sl Ka S'' w uv us) (hv:Za S w cv v) (ht:Xc S' w ct t):
  Calls prog 131 #[uv,cv,ct] w fun e w'=>e=.returned (.bool b)/\Below w w w':=by
 obtain ⟨up,uc,rfl,_⟩:=hu.len
 have HV:=Qq (fun W (hb:Below w w W)=>Wx v hg S cv W (hv.move (.of_below hb) Qyv))
 have HH:=Qq (fun W (hb:Below w w W)=>h S S' S'' cv ct _ W (hu.below hb) (hv.move (.of_below hb) Qyv) (ht.move (.of_below hb) Qyv))
 obtain ⟨p3,k3,p4,k4,J,_⟩:=Za.cells hv
 simp only [vcs] at J
 subst J
 obtain ⟨y1,y2,y3,y4,y5,y6,y7,y8,y9,rfl⟩:=ht.cells
 clear hu hv ht h hg
 go_enter func131,ntmps131
 go_wp2_with fail
 refine (HV.out _ (Zu _ _ _)).mono ?_
 rintro e w1 ⟨rfl,I⟩
 have A:=(I.block w (by simp;omega)).trans (Q5 w _ _)
 have D:=(I.block (w+1) Qxz).trans (Q6 w _ _)
 have c0:=rA0 A;have c1:=rA1 A;have c2:=rA2 A;have c3:=rA3 A;have c4:=rA4 A;have d0:=rA0 D;have d1:=rA1 D;have d2:=rA2 D;have d3:=rA3 D;have d4:=rA4 D
 have HW:=Qq ((Zu w _ _).thn I)
 clear I A D
 go_wp2_with (go_at_call 198;refine (HH.out _ HW.out).mono ?_;rintro e w' ⟨rfl,I⟩)
 go_ret
 exact ⟨rfl,HW.out.thn I.bl⟩
structure Zr (G:Nat->Prop) (B:Nat) (w w':World):Prop where
 below:Below B w w'
 keep:∀ b,b<w.heap.size->¬ G b->w'.heap[b]?=w.heap[b]?
theorem Zr.refl (G:Nat->Prop) (B:Nat) (w:World):Zr G B w w:=⟨Qz _ _,fun _ _ _=>rfl⟩
theorem Zr.size {G:Nat->Prop} {B:Nat} {w w':World} (h:Zr G B w w'):w.heap.size<=w'.heap.size:=h.below.size
theorem Zr.trans {G:Nat->Prop} {B:Nat} {a b c:World} (h:Zr G B a b) (k:Zr G B b c):Zr G B a c:=
 ⟨h.below.trans k.below,fun i hi hg=>(k.keep i (Qa hi h.size) hg).trans (h.keep i hi hg)⟩
theorem Zr.mono {G G':Nat->Prop} {B B':Nat} {w w':World} (h:Zr G B w w') (hG:∀ b,G b->G' b) (hB:B'<=B):Zr G' B' w w':=
 ⟨h.below.mono hB,fun b hb hg=>h.keep b hb (fun e=>hg (hG b e))⟩
theorem Zr.of_below {G:Nat->Prop} {B:Nat} {w w':World} (hb:Below w w w') (hB:B<=w):Zr G B w w':=⟨hb.mono hB,fun b A _=>hb.block b A⟩
theorem Zr.agree {G:Nat->Prop} {B:Nat} {w w':World} {S:Nat->Prop} (h:Zr G B w w') (hS:∀ b,S b->¬ G b):Vz S w w':=fun b hb A=>h.keep b A (hS b hb)
theorem Zr.set {G:Nat->Prop} {B:Nat} {w W:World} (h:Zr G B w W) (g j:Nat) (v:Value) (hg:G g\/w<=g) (hB:B<=g):Zr G B w (W.setCell ⟨g,j,none⟩ v):=
 ⟨h.below.setCell (p:=⟨g,j,none⟩) hB _,fun b hb hn=>by
  rw [Z9 (show b≠g from fun e=>by
   rcases hg with hg | hg
   ·exact hn (e ▸ hg)
   omega)]
  exact h.keep b hb hn⟩
def RAt (S:Nat->Prop) (g:Nat) (w:World) (o:Option Bs):Prop:=
 ∃ (p:Option Addr) (b:Bs) (cap:Nat) (e:Int),w.heap[g]?=some (.cells #[.slice p b.length cap,e] 96 (0,0))/\b.length<=cap/\Sl Zt S w (.slice p b.length cap) b/\o=(if e=0 then some b else none)
theorem RAt.step {S:Nat->Prop} {g:Nat} {w w':World} {o:Option Bs} {G:Nat->Prop} {B:Nat} (h:RAt S g w o) (hs:Zr G B w w') (hS:∀ b,S b->¬ G b) (hg:¬ G g):RAt S g w' o:=by
 obtain ⟨p,b,cap,e,h1,h2,h3,h4⟩:=h
 exact ⟨p,b,cap,e,(hs.keep g (Z8 h1) hg).trans h1,h2,h3.frame (hs.agree hS),h4⟩
theorem RAt.below {S:Nat->Prop} {g:Nat} {w w':World} {o:Option Bs} (h:RAt S g w o) (hb:Below w w w'):RAt S g w' o:=by
 obtain ⟨p,b,cap,e,h1,h2,h3,h4⟩:=h
 exact ⟨p,b,cap,e,(hb.block g (Z8 h1)).trans h1,h2,h3.below hb,h4⟩
theorem RAt.lt {S:Nat->Prop} {g:Nat} {w:World} {o:Option Bs} (h:RAt S g w o):g<w.heap.size:=by
 obtain ⟨p,b,cap,e,h1,_⟩:=h;exact Z8 h1
def Ei (S:Nat->Prop) (g:Nat) (w:World) (v:Value) (o:Option Bs) (e:Ending) (w':World):Prop:=e=.returned v/\RAt S g w' o/\Zr (fun b=>b=g) g w w'
theorem F9 (S:Nat->Prop) (g:Nat) (w:World) (o:Option Bs) (c:Int) (hS:∀ b,S b->b≠g) (h:RAt S g w o) (hc:c≠0):
  Calls prog 90 #[Qxb g,c] w (Ei S g w (.tuple #[]) none):=by
 obtain ⟨p,b,cap,e,A,h2,h3,rfl⟩:=h
 have c1:=Qk _ _ 1 _ _ _ A;have f1:=fA 1 A
 simp only [Qf,Qg,Qh] at c1
 obtain ⟨H1,H3,HC,HS⟩:=Qxo A h3 hc hS
 clear A h3 hc hS
 by_cases he:e=0
 ·subst he
  go_enter func90,ntmps90
  go_wp2_with fail
  go_end0
  have hg:Zr (fun b=>b=g) g w (w.setCell ⟨g,1,none⟩ (.int .i64 c)):=(Zr.refl _ _ _).set g 1 _ (.inl rfl) (Q9 _)
  refine ⟨rfl,⟨p,b,cap,c,by rw [Qi _ _ _ _ _ _ H1.out];rfl,h2,H3.out.frame (hg.agree (fun b hb e=>HS.out b hb e)),by rw [if_neg HC.out]⟩,hg⟩
 have hq:(e==(0:Int))=false:=by simpa using he
 have HE:=Qq he
 clear he
 go_enter func90,ntmps90
 go_wp2_with fail
 go_end0
 exact ⟨rfl,⟨p,b,cap,e,H1.out,h2,H3.out,by rw [if_neg HE.out]⟩,Zr.refl _ _ _⟩
def Tz:Option Bs->UInt8 × Option Bs
 | some (c::r)=>(c,some r)
 | _=>(0,none)
theorem Sp (S:Nat->Prop) (g:Nat) (w:World) (o:Option Bs) (hS:∀ b,S b->b≠g) (h:RAt S g w o):
  Calls prog 44 #[Qxb g] w (Ei S g w (.int .u8 (Tz o).1.toNat) (Tz o).2):=by
 have HF:=Qq (F9 S g w o 3 hS h Qvu)
 obtain ⟨p,b,cap,e,I,U,J,T⟩:=h
 have c0:=Qk _ _ 0 _ _ _ I;have c1:=Qk _ _ 1 _ _ _ I;have f0:=fA 0 I
 simp only [Qf,Qg,Qh] at c0 c1
 obtain ⟨H1,H3,HS,HO⟩:=Qxo I J hS T
 match b,I,U,J with
 | [],I,U,J=>
  have N:Tz o=(0,none):=by rw [T];split <;> rfl
  rw [N]
  clear I J hS T N
  go_enter func44,ntmps44
  go_wp2_with (go_at_call 90;refine HF.out.mono ?_;rintro e9 w2 ⟨rfl,⟨p2,b2,Z,e2,O,aA,aB,M⟩,aD⟩;have d1:=rA1 O;have hq:(e2==(0:Int))=false:=(by rcases Classical.em (e2=0) with h | h;rw [if_pos h] at M;cases M;simpa using h);have aH:=Qq (show RAt S g w2 none from ⟨p2,b2,Z,e2,O,aA,aB,M⟩);have aG:=Qq aD;clear O aA aB M aD)
  go_ret
  exact ⟨rfl,aH.out,aG.out⟩
 | c::r,I,U,J=>
  by_cases he:e=0
  ·subst he
   have N:Tz o=(c,some r):=by rw [T,if_pos rfl];rfl
   rw [N]
   obtain ⟨V,A,aI,rfl,aM,aL,_,aK,aC⟩:=J.elem (i:=0) (x:=c) rfl
   obtain rfl:aI=[.int .u8 c.toNat]:=aK
   have d0:=aC 0 _ rfl
   have D:=J.sub 1 r.length (cap - 1) (by show 1+r.length<=r.length+1;omega)
   simp only [show Zt.k=1 from rfl,Nat.mul_one,Nat.add_zero,List.drop_succ_cons,List.drop_zero,List.take_length] at d0 D
   rw [List.length_cons] at H1 c0 U
   have Y:=Qq D
   have aN:g≠V:=fun e=>hS V aL e.symm
   clear I J hS T N aC D
   by_cases hcap:cap=1
   ·subst hcap
    obtain rfl:r=[]:=by cases r with
     | nil=>rfl
     | cons a r=>simp at U
    go_enter func44,ntmps44
    go_wp2_with fail
    go_ret
    have hg:Zr (fun b=>b=g) g w (w.setCell ⟨g,0,none⟩ (.slice (some ⟨V,A,none⟩) 0 0)):=(Zr.refl _ _ _).set g 0 _ (.inl rfl) (Q9 _)
    exact ⟨rfl,⟨some ⟨V,A,none⟩,[],0,0,by rw [Qi _ _ _ _ _ _ H1.out];rfl,Q9 _,⟨_,_,rfl,Qxz,fun h=>absurd rfl h⟩,rfl⟩,hg⟩
   go_enter func44,ntmps44
   go_wp2_with fail
   go_ret
   have hg:Zr (fun b=>b=g) g w (w.setCell ⟨g,0,none⟩ (.slice (some ⟨V,A+1,none⟩) r.length (cap - 1))):=(Zr.refl _ _ _).set g 0 _ (.inl rfl) (Q9 _)
   exact ⟨rfl,⟨some ⟨V,A+1,none⟩,r,cap - 1,0,by rw [Qi _ _ _ _ _ _ H1.out];rfl,Qvu,Y.out.frame (hg.agree (fun b hb e=>HS.out b hb e)),rfl⟩,hg⟩
  have hq:(e==(0:Int))=false:=by simpa using he
  have N:Tz o=(0,none):=by rw [T,if_neg he];rfl
  rw [N]
  rw [if_neg he] at HO
  clear I J hS T N he
  go_enter func44,ntmps44
  go_wp2_with fail
  go_ret
  exact ⟨rfl,⟨p,c::r,cap,e,H1.out,U,H3.out,by rw [if_neg (by simpa using hq)]⟩,Zr.refl _ _ _⟩
theorem Hu (S:Nat->Prop) (g:Nat) (w:World) (o:Option Bs) (h:RAt S g w o):
  Calls prog 16 #[Qxb g] w fun e w'=>(∃ x:Int,e=.returned (.int .i64 x)/\(x=0↔o=some []))/\w=w':=by
 obtain ⟨p,b,cap,e,h1,h2,h3,ho⟩:=h
 obtain ⟨c0,c1⟩:=row2 h1
 have A:=Qq ho
 clear h1 h3 ho
 by_cases he:e=0
 ·subst he
  cases b with
  | nil=>
   go_enter func16,ntmps16
   go_wp2_with fail
   go_ret
   exact ⟨⟨0,rfl,fun _=>A.out.trans Qxz,fun _=>rfl⟩,rfl⟩
  | cons c r=>
   rw [List.length_cons] at c0 h2
   have hq:(0:Int)<(r.length:Int)+1:=Qvu
   go_enter func16,ntmps16
   go_wp2_with fail
   go_ret
   exact ⟨⟨2,rfl,fun h=>Qvu,fun h=>by have:=A.out;rw [h] at this;simp at this⟩,rfl⟩
 have hq:(e==(0:Int))=false:=by simpa using he
 have HE:=Qq he
 clear he
 go_enter func16,ntmps16
 go_wp2_with fail
 go_ret
 exact ⟨⟨e,rfl,fun h=>absurd h HE.out,fun h=>by have:=A.out;rw [h,if_neg HE.out] at this;cases this⟩,rfl⟩
def Ge (n i:Nat):Option Bs->Nat × Option Bs
 | none=>(0,none)
 | some b=>match D8 i b with
  | none=>(0,none)
  | some (m,r)=>(n+m*2 ^ (7*i),some r)
theorem Wt (o:Option Bs):Ge 0 0 o=rdU o:=by
 cases o with
 | none=>rfl
 | some b=>cases hq:D8 0 b with
  | none=>simp [Ge,rdU,hq]
  | some p=>simp [Ge,rdU,hq]
theorem Eh (i:Nat) (c:UInt8) (b:Bs):D8 i (c::b)=if i=9/\1<c.toNat\/0<i/\c.toNat=0 then none else if c.toNat<128 then some (c.toNat,b) else (D8 (i+1) b).map (fun p=>(c.toNat - 128+128*p.1,p.2)):=by
 rw [D8];cases D8 (i+1) b <;> rfl
theorem rdAt_bad (n i:Nat) (c:UInt8) (r:Bs) (h:i=9/\1<c.toNat\/0<i/\c.toNat=0):Ge n i (some (c::r))=(0,none):=by
 simp only [Ge,Eh,if_pos h]
theorem Qvm (n i:Nat) (c:UInt8) (r:Bs) (h:¬ (i=9/\1<c.toNat\/0<i/\c.toNat=0)) (hc:c.toNat<128):Ge n i (some (c::r))=(n+c.toNat*2 ^ (7*i),some r):=by
 simp only [Ge,Eh,if_neg h,if_pos hc]
theorem Qvh (n i:Nat) (c:UInt8) (r:Bs) (h:¬ (i=9/\1<c.toNat\/0<i/\c.toNat=0)) (hc:¬ c.toNat<128):Ge n i (some (c::r))=Ge (n+(c.toNat - 128)*2 ^ (7*i)) (i+1) (some r):=by
 simp only [Ge,Eh,if_neg h,if_neg hc]
 cases hq:D8 (i+1) r with
 | none=>rfl
 | some p=>
  obtain ⟨m,q⟩:=p
  show (n+(c.toNat - 128+128*m)*2 ^ (7*i),some q)=(n+(c.toNat - 128)*2 ^ (7*i)+m*2 ^ (7*(i+1)),some q)
  have e7:(2:Nat) ^ 7=128:=Qxv
  have e:2 ^ (7*(i+1))=128*2 ^ (7*i):=by rw [show 7*(i+1)=7*i+7 by omega,Nat.pow_add,e7,Nat.mul_comm]
  have e2:128*m*2 ^ (7*i)=m*(128*2 ^ (7*i)):=by rw [Nat.mul_comm 128 m,Nat.mul_assoc]
  rw [e,Nat.add_mul,e2,<- Nat.add_assoc]
theorem Qzd (c:UInt8):bits BinOp.andNot IntKind.u8 (c.toNat:Int) 128=((c.toNat % 128:Nat):Int):=by
 have h:∀ r,r<256->bits BinOp.andNot IntKind.u8 ((r:Nat):Int) 128=((r % 128:Nat):Int):=Qxv
 exact h c.toNat c.toNat_lt
theorem R8 (n x i:Nat) (hn:n<2 ^ (7*i)) (hi:i<=9) (hx:x<2 ^ (64 - 7*i)):bits BinOp.or IntKind.u64 (n:Int) (IntKind.u64.wrap ((x:Int)*2 ^ (7*i)))=((n+x*2 ^ (7*i):Nat):Int):=by
 have A:x*2 ^ (7*i)<2 ^ 64:=by
  have:2 ^ 64=2 ^ (64 - 7*i)*2 ^ (7*i):=by rw [<- Nat.pow_add];congr 1;omega
  rw [this]
  exact Nat.mul_lt_mul_of_pos_right hx (Nat.pow_pos Qvu)
 have I:x*2 ^ (7*i)<18446744073709551616:=by simpa using A
 have D:n<18446744073709551616:=Qa hn (by
  have:(18446744073709551616:Nat)=2 ^ 64:=Qxv
  rw [this];exact Nat.pow_le_pow_right Qvu Qvu)
 have e:((x:Int)*2 ^ (7*i))=((x*2 ^ (7*i):Nat):Int):=Qxz
 rw [e,IntKind.wrap_u64,Int.emod_eq_of_lt Qvu Qvu]
 show IntKind.u64.wrap ((BitVec.ofInt 64 (n:Int) ||| BitVec.ofInt 64 ((x*2 ^ (7*i):Nat):Int)).toNat:Int)=_
 have h1:n+x*2 ^ (7*i)=n ||| x*2 ^ (7*i):=by
  rw [Nat.add_comm,Nat.mul_comm x,Nat.two_pow_add_eq_or_of_lt hn,Nat.or_comm]
 rw [BitVec.toNat_or,BitVec.ofInt_natCast,BitVec.ofInt_natCast,BitVec.toNat_ofNat,BitVec.toNat_ofNat,Nat.mod_eq_of_lt (by simpa using D),Nat.mod_eq_of_lt A,<- h1,IntKind.wrap_u64]
 have h2:n+x*2 ^ (7*i)<2 ^ 64:=by
  rw [h1];exact Nat.or_lt_two_pow (by simpa using D) A
 omega
theorem Cs.take {T:Type} {r:Rd T} {S:Nat->Prop} {w:World} {css:List (List Value)} {xs:List T} (h:Cs r S w css xs) (i:Nat):Cs r S w (css.take i) (xs.take i):=by
 refine ⟨by rw [Qm,Qm,h.len],fun j c x A D=>?_⟩
 rw [List.getElem?_take] at A D
 by_cases hj:j<i
 ·rw [if_pos hj] at A D;exact h.R j c x A D
 rw [if_neg hj] at A;cases A
theorem Cs.drop {T:Type} {r:Rd T} {S:Nat->Prop} {w:World} {css:List (List Value)} {xs:List T} (h:Cs r S w css xs) (i:Nat):Cs r S w (css.drop i) (xs.drop i):=by
 refine ⟨by rw [Zq,Zq,h.len],fun j c x hc hx=>?_⟩
 rw [List.getElem?_drop] at hc hx
 exact h.R _ c x hc hx
end Go.Proofs.YtlanplhphiikjaaGreatDoor
