import Derived.Test.YtlanplhphiikjaaGreatDoorF33
import Derived.Test.YtlanplhphiikjaaGreatDoorF23
import Derived.Test.YtlanplhphiikjaaGreatDoorF27
set_option maxRecDepth 100000
set_option maxHeartbeats 400000000
namespace Go.Proofs.YtlanplhphiikjaaGreatDoor
open Go.RowKit Go.Shelf Go.Lib Tryz
theorem evNew {S:Nat->Prop} {g m l:Nat} {w W:World} {v:Val} {cs:List Value} (hb:Below w w W) (hM:MAt g m w l) (hv:Z5 (fun _=>False) W cs v):
  Z5 (fun b=>b≠g/\(S b\/w<=b)) W cs v/\MAt g m W l/\Z6 (fun b=>b=g) g w W:=
 ⟨hv.move (.refl _ _) (fun _ _ h=>h.elim),hM.below hb,Z6.of_below hb (Nat.le_of_lt hM.lt)⟩
theorem sim_int (nm:Bs) (n:Int) (s:Bs) (names binds:List Bs) (kids:List Ex) (a z:Int) (env:List (Bs × Val)) (l:Nat):SimO (.mk 0 nm n s names binds kids a z) env l (.ok (Yx n,l)):=by
 intro S0 S1 g m ms ev cs w hx he O T hM
 obtain ⟨nv,bv,kv,rfl,_,_,L,I,J⟩:=Yz.1 hx
 obtain ⟨np,nc,rfl,_⟩:=L.len
 obtain ⟨bp,bc,rfl,_⟩:=I.len
 obtain ⟨kp,kc,rfl,_⟩:=J.len
 obtain ⟨p,cap,rfl,hl⟩:=he.len
 have HM:=Qq hM
 clear hx he O T hM L I J
 unfold sv
 go_enter func162,ntmps162
 go_upto_region 1 with fail
 generalize D:((w.alloc _).alloc _).alloc _=w3
 have G:=eqB D (Yr _ _ _ _)
 have h0:=eqH (b:=w.heap.size) D (Ze _ _ _ _)
 have M:=eqH (b:=w.heap.size+1) D (Zf _ _ _ _)
 have N:=eqH (b:=w.heap.size+1+1) D (Z9 _ _ _ _)
 have c0:=rA0 M;have c1:=rA1 M;have c2:=rA2 M
 obtain ⟨r0,r1,r2,r3,r4⟩:=row5 N
 obtain ⟨f0,f1,f2,f3,f4⟩:=frz5 N
 have H2:=Qq N;have HB:=Qq G
 clear h0 M N G D
 go_wp2_with fail
 show bodyPost _ _ _ _ _ (Zn w3 (w+1+1) On n Oo Ot Ot)
 refine Q2 (v:=.agg #[On,n,Oo,Ot,Ot]) (by simp [results,results162,go_sem,Z8 H2.out]) rfl ⟨_,rfl,evNew (Z7 HB.out Oa) HM.out ?_⟩
 exact Zu (s:=[]) Od (Sl.nil _ _ _) (Sl.nil _ _ _)
theorem sim_yes (nm s:Bs) (names binds:List Bs) (kids:List Ex) (a z:Int) (env:List (Bs × Val)) (l:Nat):SimO (.mk 2 nm 1 s names binds kids a z) env l (.ok (Yb true,l)):=by
 obtain ⟨n,hn⟩:∃ n:Int,n=1:=⟨_,rfl⟩
 rw [<- hn]
 intro S0 S1 g m ms ev cs w hx he aB aC hM
 obtain ⟨nv,bv,kv,rfl,_,_,T,M,O⟩:=Yz.1 hx
 obtain ⟨np,nc,rfl,_⟩:=T.len
 obtain ⟨bp,bc,rfl,_⟩:=M.len
 obtain ⟨kp,kc,rfl,_⟩:=O.len
 obtain ⟨p,cap,rfl,hl⟩:=he.len
 have HM:=Qq hM;have HN:=Qq U2
 have Z:=Qq (Kk true (fun _=>False))
 subst hn
 clear hx he aB aC T M O
 unfold sv
 go_enter func162,ntmps162
 go_upto_region 1 with fail
 generalize D:((w.alloc _).alloc _).alloc _=w3
 have L:=eqB D (Yr _ _ _ _)
 have h0:=eqH (b:=w.heap.size) D (Ze _ _ _ _)
 have U:=eqH (b:=w.heap.size+1) D (Zf _ _ _ _)
 have G:=eqH (b:=w.heap.size+1+1) D (Z9 _ _ _ _)
 have c0:=rA0 U;have c1:=rA1 U;have c2:=rA2 U
 have H2:=Qq G;have HB:=Qq L
 clear h0 U G L D hM
 go_wp2_with (first | (go_at_call 155;refine (HN.out _).mono ?_;rintro e w' ⟨rfl,rfl⟩) | (go_at_call 216;refine (Z.out _).mono ?_;rintro e w4 ⟨aD,rfl,J,I⟩;obtain ⟨q3,l3,q4,l4,N,_⟩:=Z5.cells J;simp only [vcs] at N;subst N;have G:=kB I H2.out;obtain ⟨V,Y,aA⟩:=Px G (HB.out.thn I) J;clear I J;obtain ⟨r0,r1,r2,r3,r4⟩:=row5 G;obtain ⟨f0,f1,f2,f3,f4⟩:=frz5 G;clear G))
 show bodyPost _ _ _ _ _ (Zn w4 (w+1+1) (.int .i64 (Yb true).kind) (.int .i64 (Yb true).n) (.string ⟨(Yb true).s.toArray⟩) (.slice q3 (Yb true).names.length l3) (.slice q4 (Yb true).kids.length l4))
 refine Q2 (v:=.agg #[.int .i64 (Yb true).kind,.int .i64 (Yb true).n,.string ⟨(Yb true).s.toArray⟩,.slice q3 (Yb true).names.length l3,.slice q4 (Yb true).kids.length l4]) (by simp [results,results162,go_sem,Z8 V.out]) rfl ⟨_,rfl,evNew (Z7 Y.out Oa) HM.out ?_⟩
 exact aA.out.move (fun b hb _=>hb.elim) P8
theorem sim_var (nm:Bs) (n:Int) (s:Bs) (names binds:List Bs) (kids:List Ex) (a z:Int) (env:List (Bs × Val)) (l:Nat):SimO (.mk 3 nm n s names binds kids a z) env l (Kq nm env l):=by
 intro S0 S1 g m ms ev cs w hx he aJ M hM
 obtain ⟨nv,bv,kv,rfl,_,_,aA,O,V⟩:=Yz.1 hx
 obtain ⟨np,nc,rfl,_⟩:=aA.len
 obtain ⟨bp,bc,rfl,_⟩:=O.len
 obtain ⟨kp,kc,rfl,_⟩:=V.len
 obtain ⟨p,cap,rfl,hl⟩:=he.len
 have U:=he.up
 have HM:=Qq hM
 have HV:=Qq (fun W (hb:Below w w W)=>evar_any _ g m ms _ nm env l W (U.below hb) (fun b h=>M b h.1) (hM.below hb))
 have aL:=hM.lt
 clear hx he U aJ M hM aA O V
 obtain ⟨r,hr⟩:=eX (Kq nm env l)
 rw [hr] at HV |-
 clear hr
 unfold sv
 go_enter func162,ntmps162
 go_upto_region 1 with fail
 generalize D:((w.alloc _).alloc _).alloc _=w3
 have N:=eqB D (Yr _ _ _ _)
 have h0:=eqH (b:=w.heap.size) D (Ze _ _ _ _)
 have h1:=eqH (b:=w.heap.size+1) D (Zf _ _ _ _)
 have G:=eqH (b:=w.heap.size+1+1) D (Z9 _ _ _ _)
 have c0:=rA0 h1;have c1:=rA1 h1;have c2:=rA2 h1
 obtain ⟨d0,d1⟩:=row2 h0
 have H2:=Qq G;have HB:=Qq N
 clear h0 h1 G N D
 cases r with
 | error c=>
  go_wp2_with fail
  refine (HV.out _ HB.out).mono ?_
  rintro e w4 ⟨rfl,hs⟩
  exact ⟨rfl,rfl,(Z6.of_below HB.out Oa).trans hs⟩
 | ok o=>
  obtain ⟨v,k⟩:=o
  go_wp2_with fail
  refine (HV.out _ HB.out).mono ?_
  rintro e w4 ⟨aM,rfl,J,Z,I⟩
  obtain ⟨q3,l3,q4,l4,T,_⟩:=Z5.cells J
  simp only [vcs] at T
  subst T
  have G:=(I.keep _ (Z3 H2.out) (by show w+1+1≠g;omega)).trans H2.out
  obtain ⟨L,aI,aF,aG⟩:=Py G J Z I
  have Y:=Z3 H2.out
  obtain ⟨r0,r1,r2,r3,r4⟩:=row5 G
  obtain ⟨f0,f1,f2,f3,f4⟩:=frz5 G
  clear J Z I G
  go_wp2_with fail
  show bodyPost _ _ _ _ _ (Pk w4 (w+1+1) v q3 l3 q4 l4)
  exact Q2 (v:=.agg (Ou v q3 l3 q4 l4)) (by simp [results,results162,go_sem,Z8 L.out]) rfl ⟨_,rfl,Vn Oa Y (Z6.of_below HB.out Oa) (fun b h=>h) aI.out aF.out aG.out L.out aL⟩
theorem Da (k:Int) (nm:Bs) (n:Int) (s:Bs) (names binds:List Bs) (kids:List Ex) (a z:Int) (env:List (Bs × Val)) (l:Nat) (r:Except Int (Val × Nat)) (h4:k≠4) (h7:k≠7) (h10:k≠10) (h11:k≠11) (h12:k≠12) (h13:k≠13) (h14:k≠14) (hs:SimO (.mk k nm n s names binds kids a z) env l r):Vx (.mk k nm n s names binds kids a z) env (l+1) r:=by
 have q4:(k==4)=false:=by simpa using h4
 have q7:(k==7)=false:=by simpa using h7
 have aW:(k==10)=false:=by simpa using h10
 have aX:(k==11)=false:=by simpa using h11
 have aY:(k==12)=false:=by simpa using h12
 have aZ:(k==13)=false:=by simpa using h13
 have bA:(k==14)=false:=by simpa using h14
 clear h4 h7 h10 h11 h12 h13 h14
 intro S0 S1 g m ms ev cs w aL aF N O hM
 have hx:Yj (fun b=>S0 b/\b<w) w cs _:=aL.move (.refl _ _) (fun b hb h=>⟨h,hb⟩)
 have he:=aF.up
 have aM:=Qq (fun W (hb:Below w w W)=>Jt g m W l (hM.below hb))
 have M:=Qq (fun W (hb:Z6 (fun b=>b=g) g w W) (hm:MAt g m W l)=>hs _ _ g m ms ev cs W (hx.move (hb.agree (fun b h=>N b h.1)) P8) (he.frame (hb.agree (fun b h=>O b h.1))) (fun b h=>N b h.1) (fun b h=>O b h.1) hm)
 have aS:=hM.lt
 obtain ⟨nv,bv,kv,rfl,_,_,aJ,aD,aG⟩:=Yz.1 hx
 obtain ⟨np,nc,rfl,_⟩:=aJ.len
 obtain ⟨bp,bc,rfl,_⟩:=aD.len
 obtain ⟨kp,kc,rfl,_⟩:=aG.len
 obtain ⟨p,cap,rfl,hl⟩:=he.len
 clear hx he aL aF N O hM aJ aD aG hs
 unfold sv at M |-
 go_enter func107,ntmps107
 go_upto_region 1 with fail
 generalize D:((w.alloc _).alloc _).alloc _=w3
 have aC:=eqB D (Yr _ _ _ _)
 have h0:=eqH (b:=w.heap.size) D (Ze _ _ _ _)
 have h1:=eqH (b:=w.heap.size+1) D (Zf _ _ _ _)
 have G:=eqH (b:=w.heap.size+1+1) D (Z9 _ _ _ _)
 obtain ⟨H0,H1,H2,HB⟩:=Py h0 h1 G aC
 clear h0 h1 G aC D
 go_upto_region 2 with (go_at_call 152;refine (aM.out _ HB.out).mono ?_;rintro e w4 ⟨rfl,aH,aK⟩;have V:=Qq aH;have I:=Qq aK;clear aH aK)
 have h0:=(I.out.keep _ (Z3 H0.out) (by show w≠g;omega)).trans H0.out
 have h1:=(I.out.keep _ (Z3 H1.out) (by show w+1≠g;omega)).trans H1.out
 have G:=(I.out.keep _ (Z3 H2.out) (by show w+1+1≠g;omega)).trans H2.out
 obtain ⟨c0,c1,c2,c3,c4,c5,c6,c7,c8⟩:=row9 h1
 obtain ⟨d0,d1⟩:=row2 h0
 have Y:=Qq G;have J:=Qq ((Z6.of_below HB.out Oa).trans I.out:Z6 (fun b=>b=g) g w w4)
 clear h0 h1 G
 have L:=Z3 Y.out
 cases r with
 | error c=>
  go_wp2_with fail
  refine (M.out _ J.out V.out).mono ?_
  rintro e w5 ⟨rfl,hs⟩
  exact ⟨rfl,rfl,J.out.trans hs⟩
 | ok o=>
  obtain ⟨v,k⟩:=o
  go_wp2_with fail
  refine (M.out _ J.out V.out).mono ?_
  rintro e w5 ⟨aV,rfl,U,aI,T⟩
  obtain ⟨q3,l3,q4,l4,aE,_⟩:=Z5.cells U
  simp only [vcs] at aE
  subst aE
  have G:=(T.keep _ L (by show w+1+1≠g;omega)).trans Y.out
  obtain ⟨Z,aP,aN,aO⟩:=Py G U aI T
  obtain ⟨r0,r1,r2,r3,r4⟩:=row5 G
  obtain ⟨f0,f1,f2,f3,f4⟩:=frz5 G
  clear U aI T G
  go_wp2_with fail
  show bodyPost _ _ _ _ _ (Pk w5 (w+1+1) v q3 l3 q4 l4)
  exact Q2 (v:=.agg (Ou v q3 l3 q4 l4)) (by simp [results,results107,go_sem,Z8 Z.out]) rfl ⟨_,rfl,Vn Oa L J.out (fun b h=>h) aP.out aN.out aO.out Z.out aS⟩
theorem evl_dry (e:Ex) (env:List (Bs × Val)):Vx e env 0 (.error 19):=by
 intro S0 S1 g m ms ev cs w hx he I J G
 have D:=Qq (fun W (hb:Below w w W)=>eburn_no g m W (G.below hb))
 have L:=G.lt
 obtain ⟨k,s1,n,s2,p1,n1,c1,p2,n2,c2,p3,n3,c3,a,z,rfl⟩:=Yj.cells hx
 obtain ⟨p,cap,rfl,hl⟩:=he.len
 clear hx he I J G
 go_enter func107,ntmps107
 go_wp2_with fail
 refine (D.out _ (Yr _ _ _ _)).mono ?_
 rintro e w4 ⟨rfl,rfl⟩
 exact ⟨rfl,rfl,Z6.of_below (Yr _ _ _ _) Oa⟩
def Ym (l:List Col):List Bs × List Ty:=l.foldl (fun A c=>(Yt A.1 (below A.1 c.name) c.name,Yt A.2 (below A.1 c.name) c.type)) ([],[])
def L8 (t:Tbl):Ty:=.mk 5 [] 0 (Ym t.columns).1 (Ym t.columns).2
theorem Kg (l:List Col) (c:Col):Ym (l++[c])=(Yt (Ym l).1 (below (Ym l).1 c.name) c.name,Yt (Ym l).2 (below (Ym l).1 c.name) c.type):=by unfold Ym;rw [List.foldl_append];rfl
theorem F5 {T:Type} (l:List T) (i:Nat) (x:T):(Yt l i x).length=l.length+1:=by unfold Yt;simp;omega
theorem L5 {T:Type} {l:List T} {i:Nat} {x y:T} (h:y ∈ Yt l i x):y ∈ l\/y=x:=by
 unfold Yt at h
 rcases Zw.1 h with h | h
 ·exact .inl (List.mem_of_mem_take h)
 rcases Zy.1 h with h | h
 ·exact .inr h
 exact .inl (Zz h)
theorem Xc:∀ (k:Nat) (l:List Col),l.length=k->(Ym l).1.length=l.length/\(Ym l).2.length=l.length/\∀ y ∈ (Ym l).2,∃ c ∈ l,c.type=y
 | 0,l,h=>by rw [Zq h];exact ⟨rfl,rfl,fun y hy=>by simp [Ym] at hy⟩
 | k+1,l,h=>by
  obtain ⟨l',c,rfl⟩:∃ l' c,l=l'++[c]:=⟨l.dropLast,l.getLast (by intro e;subst e;simp at h),(List.dropLast_concat_getLast (by intro e;subst e;simp at h)).symm⟩
  obtain ⟨h1,h2,h3⟩:=Xc k l' (by simpa using h)
  rw [Kg]
  refine ⟨by rw [F5,h1];simp,by rw [F5,h2];simp,fun y hy=>?_⟩
  rcases L5 hy with hy | rfl
  ·obtain ⟨c',hc,e⟩:=h3 y hy
   exact ⟨c',by simp [hc],e⟩
  exact ⟨c,Od,rfl⟩
theorem Le {T:Type} {l:List T} {k:Nat} {x:T} (h:l[k]?=some x):l.take (k+1)=l.take k++[x]:=by
 obtain ⟨h1,rfl⟩:=Qj h
 exact Qs h1
theorem Sl.col {S:Nat->Prop} {w:World} {p:Option Addr} {n cap:Nat} {xs:List Col} (h:Sl Yy S w (.slice p n cap) xs) {i:Nat} {x:Col} (hx:xs[i]?=some x):
  ∃ b off tk ts tn t3 n3 l3 t4 n4 l4,p=some ⟨b,off,none⟩/\S b/\b<w.heap.size/\x.name.length<=1000000/\Y6 S w [.int .i64 tk,.string ts,.int .i64 tn,.slice t3 n3 l3,.slice t4 n4 l4] x.type/\Oi w b (off+i*6) x.name/\Oi w b (off+i*6+1) (.int .i64 tk)/\Oi w b (off+i*6+2) (.string ts)/\Oi w b (off+i*6+3) (.int .i64 tn)/\Oi w b (off+i*6+4) (.slice t3 n3 l3)/\Oi w b (off+i*6+5) (.slice t4 n4 l4):=by
 obtain ⟨b,off,cs,rfl,hb,hS,_,hr,D⟩:=h.elem hx
 obtain ⟨tc,rfl,hn,ht⟩:=hr
 obtain ⟨tk,ts,tn,t3,n3,l3,t4,n4,l4,rfl⟩:=ht.cells
 simp only [show Yy.k=6 from rfl] at D
 exact ⟨b,off,tk,ts,tn,t3,n3,l3,t4,n4,l4,rfl,hS,hb,hn,ht,D 0 _ rfl,D 1 _ rfl,D 2 _ rfl,D 3 _ rfl,D 4 _ rfl,D 5 _ rfl⟩
theorem veil0 {P:Program} {id:Nat} {b:Bool} {Q:Exit->Act->World->Prop} {a:Act} {w:World} {o:Oper} {l:List Oper} (h:(Code.region id (List.toArray (Bx o::l)) b).wp P Q a w):(Code.region id (List.toArray (o::l)) b).wp P Q a w:=h
def RowTIs (S:Nat->Prop) (w:World) (u:Ty) (m:Nat) (e:Ending) (w':World):Prop:=∃ p3 k3 p4 k4,e=.returned (.agg #[.int .i64 5,Oo,On,.slice p3 m k3,.slice p4 m k4])/\Y6 (fun b=>S b\/w<=b) w' [.int .i64 5,Oo,On,.slice p3 m k3,.slice p4 m k4] u/\Below w w w'
def Bk (S:Nat->Prop) (w W1:World) (t:Tbl) (k:Nat) (wx:World):Prop:=∃ p3 k3 p4 k4,k<=k3/\k<=k4/\wx.heap[w.heap.size+2]?=some (.cells #[.int .i64 5,Oo,On,.slice p3 k k3,.slice p4 k k4] 65 (0,0)) /\
 Sl Zi (fun b=>(S b/\b<w)\/w+3<=b) wx (.slice p3 k k3) (Ym (t.columns.take k)).1/\Sl Vf (fun b=>(S b/\b<w)\/w+3<=b) wx (.slice p4 k k4) (Ym (t.columns.take k)).2/\Below (w+2) W1 wx
theorem Nz (S:Nat->Prop) (t:Tbl) (ct:List Value) (w:World) (ht0:Zg.R S w ct t) (hcl:t.columns.length<=1000):
  Calls prog 22 #[ct] w (RowTIs S w (L8 t) t.columns.length):=by
 have ht:Zg.R (fun b=>S b/\b<w) w ct t:=Zg.mono ht0 (fun b hb h=>⟨h,hb⟩)
 obtain ⟨cL,bS,cT,cS,dA,cZ,k0,dB,n0,dC,cW,cU,cI,cX,n20,cJ,cY,cV,cK,a0,z0,rfl,_,Y,_,_,_⟩:=Zr ht
 unfold tcs
 have HC:=Qq Y
 clear ht0 ht Y
 obtain ⟨n,hn⟩:=eX (t.columns.length)
 rw [hn] at HC hcl |-
 have HN:=Qq hn
 clear hn
 go_enter func22,ntmps22
 go_wp2_with fail
 generalize L:((w.alloc _).alloc _).alloc _=W1
 have aS:=eqB L (Yr _ _ _ _)
 have aP:=eqH (b:=w.heap.size) L (Ze _ _ _ _)
 have aQ:=eqH (b:=w.heap.size+1) L (Zf _ _ _ _)
 have aN:=eqH (b:=w.heap.size+2) L (Z9 _ _ _ _)
 have bB:W1=w.heap.size+3:=by rw [<- L];simp
 obtain ⟨bG,bN,bQ,bR⟩:=Py aS aP aQ bB
 have bA:Bk S w W1 t 0 W1:=⟨none,0,none,0,Q4 _,Q4 _,aN,Sl.nil _ _ _,Sl.nil _ _ _,Qz _ _⟩
 clear L aS aP aQ aN bB
 go_loopw [4] (fun i wr=>∃ k:Nat,k<=n/\i=.int .i64 k/\Aside (Bk S w W1 t k wr)) (fun i _=>n - (intOf i).toNat)
 case atStart=>exact ⟨0,Q3 _,rfl,bA⟩
 clear bA
 obtain ⟨k,hk,rfl,U⟩:=hrel
 obtain ⟨p3,k3,p4,k4,bX,bY,hQ,aY,aW,J⟩:=U.out
 have aE:=kE J Oa bN.out
 have aR:=kE J Oa bQ.out
 have aU:Below w w wr:=bG.out.trans (J.mono Oa)
 have cQ:=J.size
 have cR:=bR.out
 obtain ⟨cH,aC,bH,aI,aB,aA,HQ⟩:=P1 aE aR J aU aY aW hQ
 have c1:=rA1 aE
 clear aE aR J aU aY aW U
 by_cases hlt:k<n
 ·have cN:(0:Int)<=(k:Int):=Oa
  have cO:(k:Int)<(n:Int):=Oa
  obtain ⟨c,hc⟩:∃ c,t.columns[k]?=some c:=⟨_,Qx (by rw [HN.out];exact hlt)⟩
  have aZ:=Le hc
  obtain ⟨cb,D,tk,ts,tn,t3,n3,l3,t4,n4,l4,bW,bU,cM,bV,Z,d0,d1,d2,d3,d4,d5⟩:=(HC.out.below aI.out).col hc
  subst bW
  have cG:=bU.2
  have aF:=Xc _ (t.columns.take k) rfl
  have aX:(t.columns.take k).length=k:=by rw [Qf,HN.out];omega
  rw [aX] at aF
  obtain ⟨bO,aJ,aL⟩:=Px Z aF aZ
  refine let_mvar% ?Lq1:=fun w':World=>Oi w' w 1 (Ol cb D n bS)/\Oi w' cb (D+k*6) c.name/\Oi w' cb (D+k*6+1) tk/\Oi w' cb (D+k*6+2) (.string ts)/\Oi w' cb (D+k*6+3) tn/\Oi w' cb (D+k*6+4) (.slice t3 n3 l3)/\Oi w' cb (D+k*6+5) (.slice t4 n4 l4);?_
  have aK:=Qq (fun (w':World) (h:Below wr wr w')=>(show ?Lq1 w' from ⟨kC h c1,kC h d0,kC h d1,kC h d2,kC h d3,kC h d4,kC h d5⟩))
  have HP:∀ w' x0 x1 x2 x3 x4,?Lq1 w'->?Lq1 (Zn w' (w+2) x0 x1 x2 x3 x4):=fun w' x0 x1 x2 x3 x4 h=>⟨Xp Oa h.1,Xp Oa h.2.1,Xp Oa h.2.2.1,Xp Oa h.2.2.2.1,Xp Oa h.2.2.2.2.1,Xp Oa h.2.2.2.2.2.1,Xp Oa h.2.2.2.2.2.2⟩
  unfold Zn at HP
  have bK:=Qq HP
  have bM:=Qq (aK.out wr.drew (Qz _ _).drew)
  have V:=Qq (fun W (hW:Below wr wr W)=>N9 (fun b=>(S b/\b<w)\/w+3<=b) 5 ⟨#[]⟩ 0 (Ym (t.columns.take k)).1 (Ym (t.columns.take k)).2 k p3 k3 p4 k4 c.name c.type [tk,.string ts,tn,.slice t3 n3 l3,.slice t4 n4 l4] W (aB.out.below hW) (aA.out.below hW) aJ.out.1 aJ.out.2.1 (bO.out.move (.of_below hW) (fun _ _ h=>.inl h)) bX bY Oa bV)
  unfold sv at V
  have cF:∀ o,Bx o=o:=fun _=>rfl
  obtain ⟨q0,q1,q2,q3,q4⟩:=row5 hQ
  have bT:=Z3 hQ
  clear Z aF aX aZ HP hQ
  go_upto_region 5 with fail
  clear c1 d0 d1 d2 d3 d4 d5
  refine veil0 ?_
  go_region_held3 ?Lq1 (first | with_reducible exact bM.out | with_reducible exact aO | with_reducible exact bK.out _ _ _ _ _ _ aO)
   (first
    | (go_at_call 52;refine (V.out _ (Qz _ _).drew).mono ?_;rintro e w7 ⟨r3,m3,r4,m4,rfl,cB,cC,T,aT⟩;have I:=(Qz _ wr).drew.thn aT;have aO:=aK.out w7 I;have O:=kE I bT HQ.out;obtain ⟨y0,y1,y2,y3,y4⟩:=row5 O;obtain ⟨f0,f1,f2,f3,f4⟩:=frz5 O;obtain ⟨bL,bP,aH⟩:=Px O T I;clear T aT I O))
  all_goals
   go_wp2_with fail
   go_roundw
   case measure=>simp [intOf];omega
   case rel=>
    refine ⟨k+1,Oa,by go_num,(show Aside _ from ?_)⟩
    show Bk S w W1 t (k+1) (Zn w7 (w+2) (.int .i64 5) Oo On (.slice r3 (k+1) m3) (.slice r4 (k+1) m4))
    have T:=bP.out
    have cP:=aH.out.size
    obtain ⟨nv,kv,aV,_,cE,bZ⟩:=E9.1 T
    simp only [List.cons.injEq,and_true,true_and] at aV
    obtain ⟨-,rfl,rfl⟩:=aV
    have G:∀ b,((fun b=>(S b/\b<w.heap.size)\/w.heap.size+3<=b) b\/wr.heap.size<=b)->b≠w.heap.size+2:=fun b hb=>by
     rcases hb with (hb | hb) | hb
     ·have:=hb.2;omega
     ·omega
     omega
    have N:∀ b,((fun b=>(S b/\b<w.heap.size)\/w.heap.size+3<=b) b\/wr.heap.size<=b)->(fun b=>(S b/\b<w.heap.size)\/w.heap.size+3<=b) b:=fun b hb=>by
     rcases hb with hb | hb
     ·exact hb
     exact .inr Oa
    refine ⟨r3,m3,r4,m4,cB,cC,Xm bL.out,?_,?_,?_⟩
    ·rw [aL.out,Kg]
     exact (cE.frame (fun b hb _=>Za (G b hb))).mono (fun b _ hb=>N b hb)
    ·rw [aL.out,Kg]
     exact (bZ.frame (fun b hb _=>Za (G b hb))).mono (fun b _ hb=>N b hb)
    exact Z7 (bH.out.trans (aH.out.mono Oa)) (Q4 _)
 have cA:k=n:=Oa
 subst cA
 have M:t.columns.take k=t.columns:=Qp (by rw [HN.out];exact Q4 _)
 rw [M] at aB aA
 obtain ⟨q0,q1,q2,q3,q4⟩:=row5 hQ
 obtain ⟨y0,y1,y2,y3,y4⟩:=row5 aC.out
 obtain ⟨f0,f1,f2,f3,f4⟩:=frz5 aC.out
 clear hQ M
 go_wp2_with fail
 show bodyPost _ _ _ _ _ (Zn wr (w+1) (.int .i64 5) Oo On (.slice p3 k k3) (.slice p4 k k4))
 refine Q2 (v:=.agg #[.int .i64 5,Oo,On,.slice p3 k k3,.slice p4 k k4]) (by simp [results,results22,go_sem,Z8 aC.out]) rfl ⟨p3,k3,p4,k4,rfl,?_,Z7 aI.out Oa⟩
 have G:∀ b,(fun b=>(S b/\b<w.heap.size)\/w.heap.size+3<=b) b->b≠w.heap.size+1:=fun b hb=>by
  rcases hb with hb | hb
  ·have:=hb.2;omega
  omega
 exact (Ub (s:=[]) Od (aB.out.frame (fun b hb _=>Za (G b hb))) (aA.out.frame (fun b hb _=>Za (G b hb)))).move (.refl _ _) (fun b _ hb=>by
  rcases hb with hb | hb
  ·exact .inl hb.1
  exact .inr Oa)
theorem sim_list (nm:Bs) (n:Int) (s:Bs) (names binds:List Bs) (kids:List Ex) (a z:Int) (env:List (Bs × Val)) (l:Nat) (vs:List Val) (j:Nat) (hA:Jp env kids l (.ok (vs,j))) (hf:∀ v ∈ vs,v.kids=[]) (hvl:vs.length<=4096):SimO (.mk 9 nm n s names binds kids a z) env l (.ok (Zm vs,j)):=by
 intro S0 S1 g m ms ev cs w aL aH aD aE hM
 have hx:Yj (fun b=>S0 b/\b<w) w cs _:=aL.move (.refl _ _) (fun b hb h=>⟨h,hb⟩)
 have he:=aH.up
 have aX:=hM.lt
 obtain ⟨nv,bv,kv,rfl,_,_,aJ,aG,U⟩:=Yz.1 hx
 have aO:=Qq (fun W (hb:Below w w W)=>Ji _ _ g m ms _ _ kids env l _ W (U.below hb) (he.below hb) (fun b h=>aD b h.1) (fun b h=>aE b h.1) (hM.below hb) hA)
 obtain ⟨np,nc,rfl,_⟩:=aJ.len
 obtain ⟨bp,bc,rfl,_⟩:=aG.len
 obtain ⟨kp,kc,rfl,_⟩:=U.len
 obtain ⟨p,cap,rfl,hl⟩:=he.len
 have aQ:=Qq (fun S p cap W (h:Sl Zc S W (.slice p vs.length cap) vs)=>Gm S vs p cap W h hf hvl)
 clear hx he aL aH aD aE hM aJ aG U hA hf
 unfold sv
 go_enter func162,ntmps162
 go_upto_region 1 with fail
 generalize G:((w.alloc _).alloc _).alloc _=w3
 have aF:=eqB G (Yr _ _ _ _)
 have h0:=eqH (b:=w.heap.size) G (Ze _ _ _ _)
 have I:=eqH (b:=w.heap.size+1) G (Zf _ _ _ _)
 have D:=eqH (b:=w.heap.size+1+1) G (Z9 _ _ _ _)
 have c0:=rA0 I;have c1:=rA1 I;have c2:=rA2 I;have c3:=rA3 I;have c4:=rA4 I;have c5:=rA5 I;have c6:=rA6 I
 obtain ⟨d0,d1⟩:=row2 h0
 have H2:=Qq D;have HB:=Qq aF
 have J:=Z3 D
 clear h0 I D aF G
 go_wp2_with fail
 refine (aO.out _ HB.out).mono ?_
 rintro e w4 ⟨O,N,css,rfl,hO,aI,V⟩
 have Y:=hO.sl (S':=fun b=>b≠g/\((S1 b/\b<w)\/w3<=b)) Oa (fun b hb=>⟨by have:=HB.out.size;omega,.inr hb⟩) (fun b _ h=>h)
 have D:=(V.keep _ J (by show w+1+1≠g;omega)).trans H2.out
 obtain ⟨aT,aR,aB,aC⟩:=Py D aI V Y
 have Z:=Qq (aQ.out _ _ _ w4 Y)
 obtain ⟨q,hq⟩:=eX (vs.length)
 have HQ:=Qq hq
 rw [hq] at Z aC hvl |-
 clear hO aI V Y D hq
 go_wp2_with fail
 refine Z.out.mono ?_
 rintro e w5 ⟨rfl,T⟩
 have D:=kB T aT.out
 have aA:=Qq D;have M:=Qq T
 obtain ⟨r0,r1,r2,r3,r4⟩:=row5 D
 obtain ⟨f0,f1,f2,f3,f4⟩:=frz5 D
 clear T D
 go_wp2_with fail
 show bodyPost _ _ _ _ _ (Zn w5 (w+1+1) (.int .i64 5) On Oo Ot (.slice O q N))
 have bA:=aB.out.size
 have aK:Z6 (fun b=>b=g) g w3 w5:=aB.out.trans (Z6.of_below M.out Oa)
 have aZ:Z5 (fun b=>b≠g/\((S1 b/\b<w)\/w3<=b)) w5 (vcs (Zm vs) none 0 O N) (Zm vs):=by
  have h:=Zu (s:=[]) (k:=5) (n:=0) Od (Sl.nil Zi _ _) (aC.out.below M.out)
  have e:vcs (Zm vs) none 0 O N=[.int .i64 5,.int .i64 0,sv [],.slice none 0 0,.slice O q N]:=by rw [<- HQ.out];rfl
  rw [e]
  exact h
 have L:=Vn (R:=w.heap.size+1+1) (S:=S1) (w:=w) Oa J (Z6.of_below (B:=g) HB.out Oa:Z6 (fun b=>b=g) g w w3) (fun b h=>h) aZ (aR.out.below M.out) aK aA.out aX
 have e2:(Zn w5 (w+1+1) (.int .i64 (Zm vs).kind) (.int .i64 (Zm vs).n) (.string ⟨(Zm vs).s.toArray⟩) (.slice none (Zm vs).names.length 0) (.slice O (Zm vs).kids.length N))=Zn w5 (w+1+1) (.int .i64 5) On Oo Ot (.slice O q N):=by
  rw [<- HQ.out];rfl
 rw [e2] at L
 refine Q2 (v:=.agg #[.int .i64 5,On,Oo,Ot,.slice O q N]) (by simp [results,results162,go_sem,Z8 aA.out]) rfl ⟨_,?_,L⟩
 rw [<- HQ.out];rfl
end Go.Proofs.YtlanplhphiikjaaGreatDoor
