import Derived.Test.YtlanplhphiikjaaGreatDoorE25
import Derived.Test.YtlanplhphiikjaaGreatDoorE26
set_option maxRecDepth 100000
set_option maxHeartbeats 400000000
namespace Go.Proofs.YtlanplhphiikjaaGreatDoor
open Go.RowKit Go.Shelf Go.Lib Tryz
theorem con4_any (B C:Nat) (S0 S1 S2 S3:Nat->Prop) (s:Sc) (uv tv' lv:Value) (l:List Rel) (t:Tbl) (ct:List Value) (rv:Value) (rows:List Val) (w:World) (hB0:w.cell? ⟨B,0,none⟩=some uv) (hB1:w.cell? ⟨B,1,none⟩=some tv') (hC:w.cell? ⟨C,0,none⟩=some lv)
  (hs:Vj S0 w [uv,tv'] s) (hl:Sl Yx S1 w lv l) (ht:Zl.R S2 w ct t) (hr:Sl Zc S3 w rv rows) (hkl:∀ t ∈ s.tables,t.key.length<=1000):
  Calls prog 67 #[ct,rv,Qxb B,Qxb C] w (Gx S3 w (Yl s l rows t.refs)):=by
 have HU:=Qq (fun W (hb:Below w w W)=>Wh S0 S1 S2 (fun b=>S3 b/\b<w) s _ lv l t ct rv rows W (hs.below hb) (hl.below hb) (Zl.frame ht (.of_below hb)) ((hr.mono (fun b hb h=>⟨h,hb⟩)).below hb) hkl)
 obtain ⟨bS,bR,aT,hu,aC⟩:=hs
 cases aT
 obtain ⟨up,uc,rfl,_⟩:=hu.len
 obtain ⟨tp,tc,rfl,_⟩:=aC.len
 obtain ⟨lp,lc,rfl,_⟩:=hl.len
 obtain ⟨bB,bA,bG,bF,bO,bN,k9,bP,n9,bQ,bK,bH,aX,bL,bI,aY,bM,bJ,aZ,a9,z9,A,_⟩:=Yj ht
 simp only [tcs] at A
 subst A
 obtain ⟨rp,rc,rfl,_⟩:=hr.len
 obtain ⟨f,hf⟩:=eX (Yl s l rows t.refs)
 rw [hf] at HU |-
 have T:=Qv _ _ hB0
 have U:=Qv _ _ hC
 have T:B<w.heap.size:=T
 have U:C<w.heap.size:=U
 clear ht hr hf hl hu aC
 go_enter func67,ntmps67
 go_wp2_with fail
 refine (HU.out _ (Zu _ _ _)).mono ?_
 rintro e w5 ⟨bC,rfl,Y,N⟩
 obtain ⟨p3,k3,p4,k4,q3,l3,q4,l4,A,Z,aB,aA⟩:=Uu Y
 simp only [fcs] at A
 subst A
 have M:=Qq ((N.block (w+1) Qxz).trans (Q6 w _ _))
 have aP:=Qq ((Zu w _ _).thn N)
 obtain ⟨aS,aR,aQ⟩:=Qxn aB aA Z
 have fz:=fun j=>Qn _ _ j _ _ M.out
 have rr:=fun j=>Qk _ _ j _ _ _ M.out
 obtain ⟨f0,f1,f2,f3,f4,f5,f6,f7,f8,f9,bD,bE⟩:=Qyq fz
 obtain ⟨r0,r1,r2,r3,r4,r5,r6,r7,r8,r9,aU,aV⟩:=Qyq rr
 simp only [Qf,Qg,Qh] at r0 r1 r2 r3 r4 r5 r6 r7 r8 r9 aU aV
 clear fz rr Y N aB aA Z
 go_wp2_with fail
 obtain ⟨W,V⟩:=eX (Y9 w5 (w+1) f.code f.table f.row.kind f.row.n f.row.s (.slice p3 f.row.names.length k3) (.slice p4 f.row.kids.length k4) f.other.kind f.other.n f.other.s (.slice q3 f.other.names.length l3) (.slice q4 f.other.kids.length l4))
 have q:∀ j,W.cell? ⟨w+1,j,none⟩=#[.int .i64 f.code,.string ⟨f.table.toArray⟩,.int .i64 f.row.kind,.int .i64 f.row.n,.string ⟨f.row.s.toArray⟩,.slice p3 f.row.names.length k3,.slice p4 f.row.kids.length k4,.int .i64 f.other.kind,.int .i64 f.other.n,.string ⟨f.other.s.toArray⟩,.slice q3 f.other.names.length l3,.slice q4 f.other.kids.length l4][j]?:=fun j=>by rw [<- V];exact Ya M.out j
 have J:∀ b,b≠w.heap.size+1->W.heap[b]?=w5.heap[b]?:=fun b hb=>by rw [<- V];exact Xz hb
 have I:Below w w W:=by rw [<- V];exact Yv aP.out Qvu
 show bodyPost _ _ _ _ _ (Y9 w5 (w+1) f.code f.table f.row.kind f.row.n f.row.s (.slice p3 f.row.names.length k3) (.slice p4 f.row.kids.length k4) f.other.kind f.other.n f.other.s (.slice q3 f.other.names.length l3) (.slice q4 f.other.kids.length l4))
 rw [V]
 have O:=Qq I;have D:=Qq J
 obtain ⟨q0,q1,q2,aF,aG,q5,q6,q7,q8,q9,aD,aE⟩:=Qyq q
 simp only [Qf,Qg,Qh] at q0 q1 q2 aF aG q5 q6 q7 q8 q9 aD aE
 clear V I q J
 refine Q7 (v:=.agg (Qxi f.code f.table f.row p3 k3 p4 k4 f.other q3 l3 q4 l4)) (by simp [results,results67,go_sem,q0,q1,q2,aF,aG,q5,q6,q7,q8,q9,aD,aE]) rfl ⟨_,rfl,?_,O.out⟩
 exact ⟨_,_,rfl,aQ.out,Za.move aS.out (fun b hb _=>D.out b (by have:b<w.heap.size:=hb.2;omega)) (fun _ _ h=>h.1),Za.move aR.out (fun b hb _=>D.out b (by have:b<w.heap.size:=hb.2;omega)) (fun _ _ h=>h.1)⟩
def Cf (t:Tbl) (v:Val) (b:Bool):Prop:=∀ (S0 S1:Nat->Prop) (ct cr:List Value) (w:World),Vp w->Zl.R S0 w ct t->Za S1 w cr v ->
 Calls prog 71 #[ct,cr] w fun e w'=>e=.returned (.bool b)/\Below w w w'
theorem R0 {t:Tbl} {v:Val} {b:Bool} (hs:Vu t.check=true) (he:EvV t.check (Sx v) (Gb b)) (hl:v.names.length<=v.kids.length):Cf t v b:=
 fun S0 S1 ct cr w _ ht hr=>sat_ok S0 S1 t v ct cr b w ht hr hs he hl
theorem sat2_any (X:Nat) (S:Nat->Prop) (t:Tbl) (ct:List Value) (rows:List Val) (p:Val->Bool) (w:World) (hct:∀ j u,ct[j]?=some u->w.cell? ⟨X,j,none⟩=some u) (hXl:X<w) (ht:Zl.R S w ct t) (hkw:Vp w)
  (hev:∀ x ∈ rows,Cf t x (p x)):Ui prog 70 #[Qxb X] Zc S rows p w:=by
 intro W x cs hb hx I
 have D:=Zl.frame ht (.of_below hb)
 have HC:=Qq (fun W' (h':Below W W W')=>hev x hx S S ct cs W' ((hkw.below hb).below h') (Zl.frame D (.of_below h')) (Za.move (show Za S W cs x from I) (.of_below h') Qyv))
 obtain ⟨T,O,aB,aA,aJ,aI,k9,aK,n9,aL,aF,aC,J,aG,aD,M,aH,aE,N,a9,z9,A,_⟩:=Yj D
 simp only [tcs] at A
 subst A
 obtain ⟨p3,k3,p4,k4,A,_⟩:=Za.cells (show Za S W cs x from I)
 simp only [vcs] at A
 subst A
 have d:=fun j u hj=>(hb.cell (p:=⟨X,j,none⟩) hXl).trans (hct j u hj)
 have d0:=d 0 _ rfl
 have d1:=d 1 _ rfl
 have d2:=d 2 _ rfl
 have d3:=d 3 _ rfl
 have d4:=d 4 _ rfl
 have d5:=d 5 _ rfl
 have d6:=d 6 _ rfl
 have d7:=d 7 _ rfl
 have d8:=d 8 _ rfl
 have d9:=d 9 _ rfl
 have U:=d 10 _ rfl
 have V:=d 11 _ rfl
 have Y:=d 12 _ rfl
 have Z:X<W.heap.size:=Qv W _ d0
 show Calls prog 70 #[.agg (Qxf x p3 k3 p4 k4),Qxb X] W (fun e w'=>e=.returned (.bool (p x))/\Below W W w')
 generalize p x=b at HC |-
 clear d hct ht hb hx I D hev hkw
 go_enter func70,ntmps70
 go_wp2_with (go_at_call 71;refine (HC.out _ (Ze _ _)).mono ?_;rintro e w' ⟨rfl,hw⟩)
 go_ret
 exact ⟨rfl,(Ze _ _).thn hw⟩
theorem con5_any (S0 S3:Nat->Prop) (t:Tbl) (ct:List Value) (rv:Value) (rows:List Val) (p:Val->Bool) (w:World) (ht:Zl.R S0 w ct t) (hr:Sl Zc S3 w rv rows) (hkw:Vp w)
  (hev:∀ x ∈ rows,Cf t x (p x)):
  Calls prog 69 #[ct,rv] w (Gx S3 w (Xp 13 p rows)):=by
 have HU:=Qq (fun W (hb:Below w w W) (hct:∀ j u,ct[j]?=some u->W.cell? ⟨w,j,none⟩=some u) (hl:w<W.heap.size)=>Px 13 70 #[Qxb w] (enters_of func70 Qxx rfl) (fun b=>S3 b/\b<w) rv rows p W ((hr.mono (fun b hb h=>⟨h,hb⟩)).below hb)
  (fun W' x cs h1 h2 h3=>sat2_any w (fun _=>True) t ct rows p W hct hl (Zl.mono (Zl.frame ht (.of_below hb)) (fun _ _ _=>trivial)) (hkw.below hb) hev W' x cs h1 h2 (Za.move h3 (.refl _ _) (fun _ _ _=>trivial))))
 obtain ⟨aX,aW,bC,bB,bK,bJ,k9,bL,n9,bM,bG,bD,aT,bH,bE,aU,bI,bF,aV,a9,z9,A,_⟩:=Yj ht
 simp only [tcs] at A
 subst A
 obtain ⟨rp,rc,rfl,_⟩:=hr.len
 obtain ⟨f,hf⟩:=eX (Xp 13 p rows)
 rw [hf] at HU |-
 clear ht hr hf hev hkw
 go_enter func69,ntmps69
 go_wp2_with fail
 refine (HU.out _ (Zu _ _ _) (fun j u hj=>by rw [Qk _ _ j _ _ _ (Q5 w _ _)];simpa using hj) (by simp;omega)).mono ?_
 rintro e w5 ⟨aY,rfl,U,N⟩
 obtain ⟨p3,k3,p4,k4,q3,l3,q4,l4,A,V,Z,Y⟩:=Uu U
 simp only [fcs] at A
 subst A
 have M:=Qq ((N.block (w+1) Qxz).trans (Q6 w _ _))
 have aM:=Qq ((Zu w _ _).thn N)
 obtain ⟨aP,aO,aN⟩:=Qxn Z Y V
 have fz:=fun j=>Qn _ _ j _ _ M.out
 have rr:=fun j=>Qk _ _ j _ _ _ M.out
 obtain ⟨f0,f1,f2,f3,f4,f5,f6,f7,f8,f9,aZ,bA⟩:=Qyq fz
 obtain ⟨r0,r1,r2,r3,r4,r5,r6,r7,r8,r9,aQ,aR⟩:=Qyq rr
 simp only [Qf,Qg,Qh] at r0 r1 r2 r3 r4 r5 r6 r7 r8 r9 aQ aR
 clear fz rr U N Z Y V
 go_wp2_with fail
 obtain ⟨W,T⟩:=eX (Y9 w5 (w+1) f.code f.table f.row.kind f.row.n f.row.s (.slice p3 f.row.names.length k3) (.slice p4 f.row.kids.length k4) f.other.kind f.other.n f.other.s (.slice q3 f.other.names.length l3) (.slice q4 f.other.kids.length l4))
 have q:∀ j,W.cell? ⟨w+1,j,none⟩=#[.int .i64 f.code,.string ⟨f.table.toArray⟩,.int .i64 f.row.kind,.int .i64 f.row.n,.string ⟨f.row.s.toArray⟩,.slice p3 f.row.names.length k3,.slice p4 f.row.kids.length k4,.int .i64 f.other.kind,.int .i64 f.other.n,.string ⟨f.other.s.toArray⟩,.slice q3 f.other.names.length l3,.slice q4 f.other.kids.length l4][j]?:=fun j=>by rw [<- T];exact Ya M.out j
 have J:∀ b,b≠w.heap.size+1->W.heap[b]?=w5.heap[b]?:=fun b hb=>by rw [<- T];exact Xz hb
 have I:Below w w W:=by rw [<- T];exact Yv aM.out Qvu
 show bodyPost _ _ _ _ _ (Y9 w5 (w+1) f.code f.table f.row.kind f.row.n f.row.s (.slice p3 f.row.names.length k3) (.slice p4 f.row.kids.length k4) f.other.kind f.other.n f.other.s (.slice q3 f.other.names.length l3) (.slice q4 f.other.kids.length l4))
 rw [T]
 have O:=Qq I;have D:=Qq J
 obtain ⟨q0,q1,q2,aC,aD,q5,q6,q7,q8,q9,aA,aB⟩:=Qyq q
 simp only [Qf,Qg,Qh] at q0 q1 q2 aC aD q5 q6 q7 q8 q9 aA aB
 clear T I q J
 refine Q7 (v:=.agg (Qxi f.code f.table f.row p3 k3 p4 k4 f.other q3 l3 q4 l4)) (by simp [results,results69,go_sem,q0,q1,q2,aC,aD,q5,q6,q7,q8,q9,aA,aB]) rfl ⟨_,rfl,?_,O.out⟩
 exact ⟨_,_,rfl,aN.out,Za.move aP.out (fun b hb _=>D.out b (by have:b<w.heap.size:=hb.2;omega)) (fun _ _ h=>h.1),Za.move aO.out (fun b hb _=>D.out b (by have:b<w.heap.size:=hb.2;omega)) (fun _ _ h=>h.1)⟩
def Di (l:List Col):List Bs × List Ty:=l.foldl (fun A c=>(X5 A.1 (below A.1 c.name) c.name,X5 A.2 (below A.1 c.name) c.type)) ([],[])
def P8 (t:Tbl):Ty:=.mk 5 [] 0 (Di t.columns).1 (Di t.columns).2
theorem Ee (l:List Col) (c:Col):Di (l++[c])=(X5 (Di l).1 (below (Di l).1 c.name) c.name,X5 (Di l).2 (below (Di l).1 c.name) c.type):=by unfold Di;rw [List.foldl_append];rfl
theorem Mz {T:Type} (l:List T) (i:Nat) (x:T):(X5 l i x).length=l.length+1:=by unfold X5;simp;omega
theorem Ae {T:Type} {l:List T} {i:Nat} {x y:T} (h:y ∈ X5 l i x):y ∈ l\/y=x:=by
 unfold X5 at h
 rcases Z4.1 h with h | h
 ·exact .inl (List.mem_of_mem_take h)
 rcases Z3.1 h with h | h
 ·exact .inr h
 exact .inl (Zw h)
theorem Mw:∀ (k:Nat) (l:List Col),l.length=k->(Di l).1.length=l.length/\(Di l).2.length=l.length/\∀ y ∈ (Di l).2,∃ c ∈ l,c.type=y
 | 0,l,h=>by rw [Zy h];exact ⟨rfl,rfl,fun y hy=>by simp [Di] at hy⟩
 | k+1,l,h=>by
  obtain ⟨l',c,rfl⟩:∃ l' c,l=l'++[c]:=⟨l.dropLast,l.getLast (by intro e;subst e;simp at h),(List.dropLast_concat_getLast (by intro e;subst e;simp at h)).symm⟩
  obtain ⟨h1,h2,h3⟩:=Mw k l' (by simpa using h)
  rw [Ee]
  refine ⟨by rw [Mz,h1];simp,by rw [Mz,h2];simp,fun y hy=>?_⟩
  rcases Ae hy with hy | rfl
  ·obtain ⟨c',hc,e⟩:=h3 y hy
   exact ⟨c',by simp [hc],e⟩
  exact ⟨c,Qxz,rfl⟩
theorem Ll {T:Type} {l:List T} {k:Nat} {x:T} (h:l[k]?=some x):l.take (k+1)=l.take k++[x]:=by
 obtain ⟨h1,rfl⟩:=Qj h
 exact Zz h1
theorem Sl.col {S:Nat->Prop} {w:World} {p:Option Addr} {n cap:Nat} {xs:List Col} (h:Sl Xw S w (.slice p n cap) xs) {i:Nat} {x:Col} (hx:xs[i]?=some x):
  ∃ b off tk ts tn t3 n3 l3 t4 n4 l4,p=some ⟨b,off,none⟩/\S b/\b<w.heap.size/\x.name.length<=1000000/\Xc S w [.int .i64 tk,.string ts,.int .i64 tn,.slice t3 n3 l3,.slice t4 n4 l4] x.type/\Qxw w b (off+i*6) x.name/\Qxw w b (off+i*6+1) (.int .i64 tk)/\Qxw w b (off+i*6+2) (.string ts)/\Qxw w b (off+i*6+3) (.int .i64 tn)/\Qxw w b (off+i*6+4) (.slice t3 n3 l3)/\Qxw w b (off+i*6+5) (.slice t4 n4 l4):=by
 obtain ⟨b,off,cs,rfl,hb,hS,_,hr,A⟩:=h.elem hx
 obtain ⟨tc,rfl,hn,ht⟩:=hr
 obtain ⟨tk,ts,tn,t3,n3,l3,t4,n4,l4,rfl⟩:=ht.cells
 simp only [show Xw.k=6 from rfl] at A
 exact ⟨b,off,tk,ts,tn,t3,n3,l3,t4,n4,l4,rfl,hS,hb,hn,ht,A 0 _ rfl,A 1 _ rfl,A 2 _ rfl,A 3 _ rfl,A 4 _ rfl,A 5 _ rfl⟩
theorem veil0 {P:Program} {id:Nat} {b:Bool} {Q:Exit->Act->World->Prop} {a:Act} {w:World} {o:Oper} {l:List Oper} (h:(Code.region id (List.toArray (veil o::l)) b).wp P Q a w):(Code.region id (List.toArray (o::l)) b).wp P Q a w:=h
def RowTIs (S:Nat->Prop) (w:World) (u:Ty) (m:Nat) (e:Ending) (w':World):Prop:=∃ p3 k3 p4 k4,e=.returned (.agg #[.int .i64 5,Qxd,Qxc,.slice p3 m k3,.slice p4 m k4])/\Xc (fun b=>S b\/w<=b) w' [.int .i64 5,Qxd,Qxc,.slice p3 m k3,.slice p4 m k4] u/\Below w w w'
def O1 (S:Nat->Prop) (w W1:World) (t:Tbl) (k:Nat) (wx:World):Prop:=∃ p3 k3 p4 k4,k<=k3/\k<=k4/\wx.heap[w.heap.size+2]?=some (.cells #[.int .i64 5,Qxd,Qxc,.slice p3 k k3,.slice p4 k k4] 65 (0,0)) /\
 Sl Zg (fun b=>(S b/\b<w)\/w+3<=b) wx (.slice p3 k k3) (Di (t.columns.take k)).1/\Sl Jo (fun b=>(S b/\b<w)\/w+3<=b) wx (.slice p4 k k4) (Di (t.columns.take k)).2/\Below (w+2) W1 wx
theorem Qqh (S:Nat->Prop) (t:Tbl) (ct:List Value) (w:World) (ht0:Zl.R S w ct t) (hcl:t.columns.length<=1000):
  Calls prog 22 #[ct] w (RowTIs S w (P8 t) t.columns.length):=by
 have ht:Zl.R (fun b=>S b/\b<w) w ct t:=Zl.mono ht0 (fun b hb h=>⟨h,hb⟩)
 obtain ⟨cM,bT,cU,cT,dB,dA,k0,dC,n0,dD,cX,cV,cJ,cY,n20,cK,cZ,cW,cL,a0,z0,rfl,_,Z,_,_,_⟩:=Yj ht
 unfold tcs
 have HC:=Qq Z
 clear ht0 ht Z
 obtain ⟨n,hn⟩:=eX (t.columns.length)
 rw [hn] at HC hcl |-
 have HN:=Qq hn
 clear hn
 go_enter func22,ntmps22
 go_wp2_with fail
 generalize M:((w.alloc _).alloc _).alloc _=W1
 have aT:=eqB M (U8 _ _ _ _)
 have aQ:=eqH (b:=w.heap.size) M (Yc _ _ _ _)
 have aR:=eqH (b:=w.heap.size+1) M (Y8 _ _ _ _)
 have aO:=eqH (b:=w.heap.size+2) M (Yz _ _ _ _)
 have bC:W1=w.heap.size+3:=by rw [<- M];simp
 obtain ⟨bH,bO,bR,bS⟩:=Qxo aT aQ aR bC
 have bB:O1 S w W1 t 0 W1:=⟨none,0,none,0,Q9 _,Q9 _,aO,Sl.nil _ _ _,Sl.nil _ _ _,Qz _ _⟩
 clear M aT aQ aR aO bC
 go_loopw [4] (fun i wr=>∃ k:Nat,k<=n/\i=.int .i64 k/\Aside (O1 S w W1 t k wr)) (fun i _=>n - (intOf i).toNat)
 case atStart=>exact ⟨0,Q8 _,rfl,bB⟩
 clear bB
 obtain ⟨k,hk,rfl,V⟩:=hrel
 obtain ⟨p3,k3,p4,k4,bY,bZ,hQ,aZ,aX,J⟩:=V.out
 have aF:=kE J Qvu bO.out
 have aS:=kE J Qvu bR.out
 have aV:Below w w wr:=bH.out.trans (J.mono Qvu)
 have cR:=J.size
 have cS:=bS.out
 obtain ⟨cI,aD,bI,aJ,aC,aB,HQ⟩:=Qxs aF aS J aV aZ aX hQ
 have c1:=rA1 aF
 clear aF aS J aV aZ aX V
 by_cases hlt:k<n
 ·have cO:(0:Int)<=(k:Int):=Qvu
  have cP:(k:Int)<(n:Int):=Qvu
  obtain ⟨c,hc⟩:∃ c,t.columns[k]?=some c:=⟨_,Qx (by rw [HN.out];exact hlt)⟩
  have bA:=Ll hc
  obtain ⟨cb,A,tk,ts,tn,t3,n3,l3,t4,n4,l4,bX,bV,cN,bW,aA,d0,d1,d2,d3,d4,d5⟩:=(HC.out.below aJ.out).col hc
  subst bX
  have cH:=bV.2
  have aG:=Mw _ (t.columns.take k) rfl
  have aY:(t.columns.take k).length=k:=by rw [Qm,HN.out];omega
  rw [aY] at aG
  obtain ⟨bP,aK,aM⟩:=Qxn aA aG bA
  refine let_mvar% ?Lq1:=fun w':World=>Qxw w' w 1 (Qxa cb A n bT)/\Qxw w' cb (A+k*6) c.name/\Qxw w' cb (A+k*6+1) tk/\Qxw w' cb (A+k*6+2) (.string ts)/\Qxw w' cb (A+k*6+3) tn/\Qxw w' cb (A+k*6+4) (.slice t3 n3 l3)/\Qxw w' cb (A+k*6+5) (.slice t4 n4 l4);?_
  have aL:=Qq (fun (w':World) (h:Below wr wr w')=>(show ?Lq1 w' from ⟨kC h c1,kC h d0,kC h d1,kC h d2,kC h d3,kC h d4,kC h d5⟩))
  have HP:∀ w' x0 x1 x2 x3 x4,?Lq1 w'->?Lq1 (Zp w' (w+2) x0 x1 x2 x3 x4):=fun w' x0 x1 x2 x3 x4 h=>⟨Zh Qvu h.1,Zh Qvu h.2.1,Zh Qvu h.2.2.1,Zh Qvu h.2.2.2.1,Zh Qvu h.2.2.2.2.1,Zh Qvu h.2.2.2.2.2.1,Zh Qvu h.2.2.2.2.2.2⟩
  unfold Zp at HP
  have bL:=Qq HP
  have bN:=Qq (aL.out wr.drew (Qz _ _).drew)
  have Y:=Qq (fun W (hW:Below wr wr W)=>Qjm (fun b=>(S b/\b<w)\/w+3<=b) 5 ⟨#[]⟩ 0 (Di (t.columns.take k)).1 (Di (t.columns.take k)).2 k p3 k3 p4 k4 c.name c.type [tk,.string ts,tn,.slice t3 n3 l3,.slice t4 n4 l4] W (aC.out.below hW) (aB.out.below hW) aK.out.1 aK.out.2.1 (bP.out.move (.of_below hW) (fun _ _ h=>.inl h)) bY bZ Qvu bW)
  unfold sv at Y
  have cG:∀ o,veil o=o:=fun _=>rfl
  obtain ⟨q0,q1,q2,q3,q4⟩:=row5 hQ
  have bU:=Z8 hQ
  clear aA aG aY bA HP hQ
  go_upto_region 5 with fail
  clear c1 d0 d1 d2 d3 d4 d5
  refine veil0 ?_
  go_region_held3 ?Lq1 (first | with_reducible exact bN.out | with_reducible exact aP | with_reducible exact bL.out _ _ _ _ _ _ aP)
   (first
    | (go_at_call 52;refine (Y.out _ (Qz _ _).drew).mono ?_;rintro e w7 ⟨r3,m3,r4,m4,rfl,cC,cD,U,aU⟩;have I:=(Qz _ wr).drew.thn aU;have aP:=aL.out w7 I;have T:=kE I bU HQ.out;obtain ⟨y0,y1,y2,y3,y4⟩:=row5 T;obtain ⟨f0,f1,f2,f3,f4⟩:=frz5 T;obtain ⟨bM,bQ,aI⟩:=Qxn T U I;clear U aU I T))
  all_goals
   go_wp2_with fail
   go_roundw
   case measure=>simp [intOf];omega
   case rel=>
    refine ⟨k+1,Qvu,by go_num,(show Aside _ from ?_)⟩
    show O1 S w W1 t (k+1) (Zp w7 (w+2) (.int .i64 5) Qxd Qxc (.slice r3 (k+1) m3) (.slice r4 (k+1) m4))
    have U:=bQ.out
    have cQ:=aI.out.size
    obtain ⟨nv,kv,aW,_,cF,cA⟩:=Rn.1 U
    simp only [List.cons.injEq,and_true,true_and] at aW
    obtain ⟨-,rfl,rfl⟩:=aW
    have D:∀ b,((fun b=>(S b/\b<w.heap.size)\/w.heap.size+3<=b) b\/wr.heap.size<=b)->b≠w.heap.size+2:=fun b hb=>by
     rcases hb with (hb | hb) | hb
     ·have:=hb.2;omega
     ·omega
     omega
    have O:∀ b,((fun b=>(S b/\b<w.heap.size)\/w.heap.size+3<=b) b\/wr.heap.size<=b)->(fun b=>(S b/\b<w.heap.size)\/w.heap.size+3<=b) b:=fun b hb=>by
     rcases hb with hb | hb
     ·exact hb
     exact .inr Qvu
    refine ⟨r3,m3,r4,m4,cC,cD,Vx bM.out,?_,?_,?_⟩
    ·rw [aM.out,Ee]
     exact (cF.frame (fun b hb _=>Zi (D b hb))).mono (fun b _ hb=>O b hb)
    ·rw [aM.out,Ee]
     exact (cA.frame (fun b hb _=>Zi (D b hb))).mono (fun b _ hb=>O b hb)
    exact Zf (bI.out.trans (aI.out.mono Qvu)) (Q9 _)
 have cB:k=n:=Qvu
 subst cB
 have N:t.columns.take k=t.columns:=Zj (by rw [HN.out];exact Q9 _)
 rw [N] at aC aB
 obtain ⟨q0,q1,q2,q3,q4⟩:=row5 hQ
 obtain ⟨y0,y1,y2,y3,y4⟩:=row5 aD.out
 obtain ⟨f0,f1,f2,f3,f4⟩:=frz5 aD.out
 clear hQ N
 go_wp2_with fail
 show bodyPost _ _ _ _ _ (Zp wr (w+1) (.int .i64 5) Qxd Qxc (.slice p3 k k3) (.slice p4 k k4))
 refine Q7 (v:=.agg #[.int .i64 5,Qxd,Qxc,.slice p3 k k3,.slice p4 k k4]) (by simp [results,results22,go_sem,Zd aD.out]) rfl ⟨p3,k3,p4,k4,rfl,?_,Zf aJ.out Qvu⟩
 have D:∀ b,(fun b=>(S b/\b<w.heap.size)\/w.heap.size+3<=b) b->b≠w.heap.size+1:=fun b hb=>by
  rcases hb with hb | hb
  ·have:=hb.2;omega
  omega
 exact (Dy (s:=[]) Qxz (aC.out.frame (fun b hb _=>Zi (D b hb))) (aB.out.frame (fun b hb _=>Zi (D b hb)))).move (.refl _ _) (fun b _ hb=>by
  rcases hb with hb | hb
  ·exact .inl hb.1
  exact .inr Qvu)
theorem Ni:∀ (t:Bs) (i:Nat) (c:UInt8),i<=Uk t->t[i]?=some c->if c==34||decide (0<(good (t.drop i)).2) then Uk t=i else i+1<=Uk t
 | [],i,c,_,h=>by simp at h
 | d::t,0,c,_,h=>by
  simp at h;subst h
  unfold Uk
  split <;> rename_i hb
  ·simp at hb
   rcases hb with rfl | hb
   ·simp
   simp [hb]
  simp at hb
  simp [hb]
 | d::t,i+1,c,hi,h=>by
  unfold Uk at hi |-
  split at hi
  ·omega
  rename_i hb
  rw [if_neg hb]
  have:=Ni t i c Qvu (by simpa using h)
  simp only [List.drop_succ_cons]
  split <;> rename_i h'
  ·rw [if_pos h'] at this;omega
  rw [if_neg h'] at this;omega
theorem A9 {t:Bs} {i:Nat} (hi:i<=Uk t) (h:t.length<=i):Uk t=i:=by have:=N3 t;omega
theorem Ot (s:ByteArray) (w:World) (h0:0<s.size) (hs:s.size<4294967281) (hT:J7 w):
  Calls prog 279 #[.string s] w fun e w'=>e=.returned (.tuple #[.int .i64 (nxt (bl s)).1,.int .i64 (nxt (bl s)).2])/\Below w w w':=by
 have hm:s.size<=maxLen:=by unfold maxLen;omega
 obtain ⟨c,hc⟩:=eX (s[0]'h0)
 have O:=nxt_cons c ((bl s).drop 1)
 rw [<- hc,<- Od s h0,hc] at O
 have A:=Dg c 34
 rw [show ((34:UInt8).toNat:Int)=34 from rfl] at A
 rw [A] at O
 clear A
 have HN:=Qq O;clear O
 have HM:=Qq hm;clear hm
 have HT:=Qq hT;clear hT
 have hG:∀ w,J7 w->Calls prog 295 #[.string s] w fun e w'=>e=.returned (.tuple #[.int .i64 (good (bl s)).1,.int .i64 (good (bl s)).2])/\Below w w w':=fun w h=>B6 s w h0 hs h
 obtain ⟨gk,gn,hg⟩:∃ gk gn,good (bl s)=(gk,gn):=⟨_,_,rfl⟩
 rw [hg] at hG
 simp only at hG
 have HG:=Qq hG;have HE:=Qq hg
 clear hG hg
 by_cases hp:0<gn
 ·have V:nxt (bl s)=(gk,gn):=by rw [HN.out,HE.out];simp [hp]
  rw [V]
  clear V
  go_enter func279,ntmps279
  go_wp2_with (go_at_call 295;refine (HG.out _ HT.out).mono ?_;rintro e w' ⟨rfl,I⟩)
  go_ret2
  exact ⟨rfl,I⟩
 obtain rfl:gn=0:=Qvu
 clear hp
 by_cases h6:((c.toNat:Int)==34)=true
 ·have V:nxt (bl s)=(8,tk Hb (bl s)):=by rw [HN.out,HE.out];simp [h6]
  rw [V]
  clear V
  go_enter func279,ntmps279
  go_wp2_with (first | (go_at_call 295;refine (HG.out _ HT.out).mono ?_;rintro e w' ⟨rfl,I⟩) | (go_at_call 296;refine (Sr _ _ HM.out).mono ?_;rintro e w' ⟨rfl,rfl⟩))
  go_ret2
  exact ⟨rfl,I⟩
 have aL:((c.toNat:Int)==34)=false:=by simpa using h6
 clear h6
 have V:nxt (bl s)=(8,Uk ((bl s).drop 1)+1):=by rw [HN.out,HE.out];simp [aL]
 rw [V]
 clear V
 go_enter func279,ntmps279
 go_wp2_with (go_at_call 295;refine (HG.out _ HT.out).mono ?_;rintro e w' ⟨rfl,I⟩)
 go_loopw [5,6,7] (fun a _ _ wr=>∃ n:Nat,1<=n/\n<=Uk ((bl s).drop 1)+1/\n<=s.size/\a=.int .i64 n/\Below w w wr) (fun a _ _ _=>s.size - (intOf a).toNat)
 case atStart=>exact ⟨1,Qvu,Qvu,Qvu,rfl,I⟩
 obtain ⟨n,aO,aE,aP,rfl,hB⟩:=hrel
 have T:=Qq hB;have H2:=Qq aE
 clear I hB aE
 by_cases hlt:n<s.size
 ·have N:=Ni ((bl s).drop 1) (n - 1) (s[n]'hlt) (Qxj H2.out) (by rw [List.getElem?_drop,show 1+(n - 1)=n by omega];exact Ew s n hlt)
  rw [List.drop_drop,show 1+(n - 1)=n by omega] at N
  have A:=Dg (s[n]'hlt) 34
  rw [show ((34:UInt8).toNat:Int)=34 from rfl] at A
  rw [A] at N
  have HA:=Qq N
  clear N A
  by_cases hq:((((s[n]'hlt).toNat:Int) != 34)=true)
  ·have M:∀ w,J7 w->Calls prog 295 #[.string (s.extract n s.size)] w fun e w'=>e=.returned (.tuple #[.int .i64 (good ((bl s).drop n)).1,.int .i64 (good ((bl s).drop n)).2])/\Below w w w':=by
    intro w h
    have:=B6 (s.extract n s.size) w (by rw [ByteArray.size_extract];omega) (by rw [ByteArray.size_extract];omega) h
    rwa [Qjv] at this
   obtain ⟨aC,J,Y⟩:∃ aC J,good ((bl s).drop n)=(aC,J):=⟨_,_,rfl⟩
   rw [Y] at M
   simp only at M
   have aA:=Qq M;have Z:=Qq Y
   clear M Y
   have D:((((s[n]'hlt).toNat:Int)==34)=false):=by
    have:=hq;simp only [bne] at this;simpa using this
   have HQ:=Qq D;clear D
   by_cases hp:0<J
   ·go_wp2_with (go_at_call 295;refine (aA.out _ (HT.out.of_below T.out)).mono ?_;rintro e w' ⟨rfl,I⟩)
    go_ret2
    have:=HA.out
    rw [HQ.out,Z.out,if_pos (by simp [hp])] at this
    exact ⟨O7 rfl Qvu,T.out.trans (I.mono T.out.size)⟩
   obtain rfl:J=0:=Qvu
   clear hp
   go_wp2_with (go_at_call 295;refine (aA.out _ (HT.out.of_below T.out)).mono ?_;rintro e w' ⟨rfl,I⟩)
   go_roundw
   case rel=>
    have:=HA.out
    rw [HQ.out,Z.out,if_neg Qxz] at this
    exact ⟨n+1,Qvu,Qvu,Qvu,by go_num,T.out.trans (I.mono T.out.size)⟩
   case measure=>simp [intOf];omega
  have aN:((((s[n]'hlt).toNat:Int) != 34)=false):=by simpa using hq
  have D:((((s[n]'hlt).toNat:Int)==34)=true):=by
   have:=aN;simp only [bne] at this;simpa using this
  have HQ:=Qq D;clear D hq
  go_wp2_with (fail)
  go_ret2
  have:=HA.out
  rw [HQ.out,if_pos Qxz] at this
  exact ⟨O7 rfl Qvu,T.out⟩
 have U:=A9 (t:=(bl s).drop 1) (i:=n - 1) (Qxj H2.out) (by rw [Zq,J4];omega)
 have HO:=Qq U;clear U
 go_wp2_with (fail)
 go_ret2
 have:=HO.out
 exact ⟨O7 rfl Qvu,T.out⟩
theorem M0 (s:ByteArray) (w:World) (hs:s.size<4294967281) (hT:J7 w):
  Calls prog 251 #[.string s] w fun e w'=>e=.returned (.tuple #[.int .i64 (nxt (bl s)).1,.bool (decide (0<s.size)&&decide ((nxt (bl s)).2=s.size))])/\Below w w w':=by
 by_cases h0:0<s.size
 ·have I:s.toList.isEmpty=false:=by
   rw [Lib.toList_data]
   show (bl s).isEmpty=false
   rw [Od s h0];rfl
  have D:∀ w,J7 w->Calls prog 279 #[.string s] w fun e w'=>e=.returned (.tuple #[.int .i64 (nxt (bl s)).1,.int .i64 (nxt (bl s)).2])/\Below w w w':=fun w h=>Ot s w h0 hs h
  obtain ⟨k,n,hn⟩:∃ k n,nxt (bl s)=(k,n):=⟨_,_,rfl⟩
  rw [hn] at D |-
  simp only at D |-
  have HN:=Qq D;have HT:=Qq hT
  clear D hT hn
  by_cases he:n=s.size
  ·have hb:((n:Int)==(s.size:Int))=true:=by rw [he];simp
   have HE:=Qq he;clear he
   go_enter func251,ntmps251
   go_wp2_with (go_at_call 279;refine (HN.out _ HT.out).mono ?_;rintro e w' ⟨rfl,J⟩)
   go_ret2
   exact ⟨E5 rfl (by simp [h0,HE.out]),J⟩
  have hb:((n:Int)==(s.size:Int))=false:=by simpa using (by omega:(n:Int)≠s.size)
  go_enter func251,ntmps251
  go_wp2_with (go_at_call 279;refine (HN.out _ HT.out).mono ?_;rintro e w' ⟨rfl,J⟩)
  go_ret2
  exact ⟨E5 rfl (by simp [he]),J⟩
 have M:bl s=[]:=List.length_eq_zero_iff.1 (by rw [J4];omega)
 have I:s.toList.isEmpty=true:=by rw [Lib.toList_data];show (bl s).isEmpty=true;rw [M];rfl
 have A:decide (0<s.size)=false:=by simpa using h0
 rw [M,A,Bool.false_and]
 clear M A h0
 go_enter func251,ntmps251
 go_wp2_with fail
 go_ret2
 exact ⟨rfl,Qz _ _⟩
def Eu (k:Int) (x:Bs):Bool:=(decide (0<x.length)&&decide ((nxt x).2=x.length))&&(((nxt x).1:Int)==k&&decide ((x.length:Int)<=16))
theorem fits_ba (s:ByteArray) (k at':Int) (hk:k=2\/k=3) (w:World) (hl:s.size<=1000000) (hT:J7 w):
  Calls prog 204 #[.agg #[k,.string s,at']] w fun e w'=>e=.returned (.bool ((decide (0<s.size)&&decide ((nxt (bl s)).2=s.size))&&(((nxt (bl s)).1:Int)==k&&decide ((s.size:Int)<=16))))/\Below w w w':=by
 have J:=Qq (fun W (hb:Below w w W)=>M0 s W Qvu (hT.of_below hb))
 clear hT hl
 generalize (decide (0<s.size)&&decide ((nxt (bl s)).2=s.size))=d at J |-
 generalize (nxt (bl s)).1=kd at J |-
 cases d with
 | false=>
  go_enter func204,ntmps204
  go_wp2_with fail
  refine (J.out _ (Ze _ _)).mono ?_
  rintro e w1 ⟨rfl,A⟩
  have M:=Qq ((Ze w _).thn A)
  clear A
  go_wp2_with fail
  go_ret
  exact ⟨rfl,M.out⟩
 | true=>
  by_cases hkd:(kd:Int)=k
  ·have D:((kd:Int)==k)=true:=by simpa using hkd
   rw [D]
   have I:(kd:Int)=k:=hkd
   clear D hkd
   rcases hk with rfl | rfl
   all_goals
    rw [I] at J
    clear I
    go_enter func204,ntmps204
    go_wp2_with fail
    refine (J.out _ (Ze _ _)).mono ?_
    rintro e w1 ⟨rfl,A⟩
    have N:=(A.cell (p:=⟨w,0,none⟩) Qxz).trans (Qk _ _ 0 _ _ _ (Qw w _))
    have c1:=(A.cell (p:=⟨w,1,none⟩) Qxz).trans (Qk _ _ 1 _ _ _ (Qw w _))
    simp only [Qf,Qg,Qh] at N c1
    have M:=Qq ((Ze w _).thn A)
    clear A
    go_wp2_with fail
    go_ret
    exact ⟨Qxz,M.out⟩
  have D:((kd:Int)==k)=false:=by simpa using hkd
  rw [D]
  clear hkd
  go_enter func204,ntmps204
  go_wp2_with fail
  refine (J.out _ (Ze _ _)).mono ?_
  rintro e w1 ⟨rfl,A⟩
  have N:=(A.cell (p:=⟨w,0,none⟩) Qxz).trans (Qk _ _ 0 _ _ _ (Qw w _))
  simp only [Qf,Qg] at N
  have M:=Qq ((Ze w _).thn A)
  clear A
  go_wp2_with fail
  go_ret
  exact ⟨rfl,M.out⟩
theorem R7 (x:Bs) (k at':Int) (hk:k=2\/k=3) (w:World) (hl:x.length<=1000000) (hT:J7 w):
  Calls prog 204 #[.agg #[k,sv x,at']] w fun e w'=>e=.returned (.bool (Eu k x))/\Below w w w':=by
 have h:=fits_ba ⟨x.toArray⟩ k at' hk w (by rw [Xn];exact hl) hT
 rw [Xn] at h
 exact h
theorem word_str (x:Bs) (w:World) (hl:x.length<=1000000) (hT:J7 w):Calls prog 138 #[sv x] w fun e w'=>e=.returned (.bool (Eu 2 x))/\Below w w w':=by
 have A:=Qq (fun W (hb:Below w w W)=>R7 x 2 0 (.inl rfl) W hl (hT.of_below hb))
 clear hT
 unfold sv at A |-
 generalize (⟨x.toArray⟩:ByteArray)=s at A |-
 go_enter func138,ntmps138
 go_wp2_with (go_at_call 204;refine (A.out _ (Qz _ _)).mono ?_;rintro e w' ⟨rfl,hw⟩)
 go_ret
 exact ⟨rfl,hw⟩
theorem Tq (x:Bs) (w:World) (hl:x.length<=1000000) (hT:J7 w):Calls prog 137 #[sv x] w fun e w'=>e=.returned (.bool (Eu 3 x))/\Below w w w':=by
 have A:=Qq (fun W (hb:Below w w W)=>R7 x 3 0 (.inr rfl) W hl (hT.of_below hb))
 clear hT
 unfold sv at A |-
 generalize (⟨x.toArray⟩:ByteArray)=s at A |-
 go_enter func137,ntmps137
 go_wp2_with (go_at_call 204;refine (A.out _ (Qz _ _)).mono ?_;rintro e w' ⟨rfl,hw⟩)
 go_ret
 exact ⟨rfl,hw⟩
def put7 (W:World) (R:Nat) (a0 a1 a2 a3 a4 a5 a6:Value):World:=(((((((W.setCell ⟨R,0,none⟩ a0).setCell ⟨R,1,none⟩ a1).setCell ⟨R,2,none⟩ a2).setCell ⟨R,3,none⟩ a3).setCell ⟨R,4,none⟩ a4).setCell ⟨R,5,none⟩ a5).setCell ⟨R,6,none⟩ a6)
theorem Aa {B R:Nat} {w W:World} {a0 a1 a2 a3 a4 a5 a6:Value} (h:Below B w W) (hR:B<=R):Below B w (put7 W R a0 a1 a2 a3 a4 a5 a6):=
 ((((((h.setCell (p:=⟨R,0,none⟩) hR _).setCell (p:=⟨R,1,none⟩) hR _).setCell (p:=⟨R,2,none⟩) hR _).setCell (p:=⟨R,3,none⟩) hR _).setCell (p:=⟨R,4,none⟩) hR _).setCell (p:=⟨R,5,none⟩) hR _).setCell (p:=⟨R,6,none⟩) hR _
theorem Qzb {nm:Bs} {kids:List Val} (hc:Bq nm) (hl:kids.length<=1) (hk:∀ x ∈ kids,Kq 22 x):(Y6 (.mk 3 0 nm [] kids)).length<=70:=by
 have h1:=Jp (n:=3) Qvu Qvu
 have h2:=Jp (n:=(kids.length:Int)) Qvu Qvu
 have h3:(wT nm).length<=26:=by
  unfold wT;rw [Ql]
  have:=hc.len
  have:=Kw (n:=nm.length) Qvu
  omega
 rw [Y6,if_neg Qxv,if_neg Qxv,if_pos rfl,show ((3:Int)==4)=false from rfl]
 simp only [Ql]
 match kids,hl,hk with
 | [],_,_=>simp only [Yt,List.length_nil] at h2 |-;omega
 | [x],_,hk=>
  have:=(hk x Qxz).small
  rw [Yt,Yt,if_neg Qxv,List.nil_append,List.append_nil]
  omega
theorem Hw {w w':World} {nm:Bs} {kids:List Val} {p:Option Addr} {c:Nat} (hc:Bq nm) (hl:kids.length<=1) (hk:∀ x ∈ kids,Kq 22 x) (hs:nm.length<=1000000) (hv:Sl Zc (fun b=>w<=b) w' (.slice p kids.length c) kids) (hb:Below w w w'):Jl 70 w (.returned (.agg #[.int .i64 3,Qxc,nm,Qxe,.slice p kids.length c])) w':=
 ⟨.mk 3 0 nm [] kids,none,0,p,c,rfl,⟨.make nm kids hc hl (fun x h=>(hk x h).good),Qzb hc hl hk⟩,hl,Yi hs (Sl.nil _ _ _) hv,hb⟩
theorem Jl.wide {w w':World} {e:Ending} (h:Jl 22 w e w'):Jl 70 w e w':=by
 obtain ⟨v,p3,k3,p4,k4,he,hg,rest⟩:=h
 exact ⟨v,p3,k3,p4,k4,he,hg.mono Qvu,rest⟩
theorem Tb (s:Sc) (hsg:Jb s.sums) (nm:Bs) (tn:Int) (names:List Bs) (kids:List Ty) (n:Int) (hn0:0<=n) (hn1:n<=1000000) (S0 S1:Nat->Prop) (cs ct:List Value) (w:World) (hs:Vj S0 w cs s) (ht:Xc S1 w ct (.mk 3 nm tn names kids)):
  Calls prog 78 #[cs,ct,n] w (Jl 70 w):=by
 have bO:=Qq hs
 obtain ⟨uv,tv,rfl,hu,cR⟩:=hs
 obtain ⟨up,uc,rfl,_⟩:=hu.len
 obtain ⟨tp,tc,rfl,_⟩:=cR.len
 obtain ⟨q3,l3,q4,l4,rfl,_⟩:=ht.cells'
 obtain ⟨m,hm⟩:=eX (s.sums.length)
 rw [hm] at hu bO |-
 have fG:m<=1000000:=by obtain ⟨_,_,_,h⟩:=hu.len;omega
 obtain ⟨HU,HM,HG⟩:=Qxn hu hm hsg
 have cP:0<=n.tdiv 7/\n.tdiv 7<=1000000:=by
  rw [Int.tdiv_eq_ediv_of_nonneg hn0];omega
 obtain ⟨q7,eE⟩:=eX (n.tdiv 7)
 rw [eE] at cP
 obtain ⟨cQ,eT⟩:=cP
 clear hu cR ht hm hsg
 go_enter func78,ntmps78
 go_wp2_with fail
 generalize T:(((w.alloc _).alloc _).alloc _).alloc _=W1
 have cG:=eqB T (Zs (Zs (Zs (Ze w _) _) _) _)
 have cC:=eqH (b:=w.heap.size) T (Zb (Zb (Zb (Y3 rfl _) _) _) _)
 have cD:=eqH (b:=w.heap.size+1) T (Zb (Zb (Y3 Qxz _) _) _)
 have cE:=eqH (b:=w.heap.size+1+1) T (Zb (Y3 Qxz _) _)
 have cB:=eqH (b:=w.heap.size+1+1+1) T (Y3 Qxz _)
 obtain ⟨dA,bN,dG,aD,eV⟩:=Qxp cG cC cD cE cB
 clear T cG cC cD cB cE
 go_loopw [8,9,10] (fun t8 _ _ wr=>∃ k:Nat,k<=m/\t8=.int .i64 k/\Aside (Below W1 W1 wr)) (fun t8 _ _ _=>m - (intOf t8).toNat)
 case atStart=>exact ⟨0,Q8 _,rfl,Qz _ _⟩
 obtain ⟨k,hk,rfl,cA⟩:=hrel
 have O:=Qq (show Below W1 W1 wr from cA)
 have aV:=Qq (dA.out.thn O.out)
 clear cA
 have bH:=Z8 aD.out
 have bB:=kB O.out bN.out
 have bC:=kB O.out dG.out
 have cF:=kE O.out bH aD.out
 obtain ⟨aW,V,eW⟩:=Qxn cF bB bC
 have c0:=rA0 bB;have b1:=rA1 bC
 clear bB bC cF
 by_cases hlt2:k<m
 ·have fE:(0:Int)<=(k:Int):=Qvu
  have fF:(k:Int)<(m:Int):=Qvu
  obtain ⟨u,hu⟩:∃ u,s.sums[k]?=some u:=⟨_,Qx (by rw [HM.out];exact hlt2)⟩
  obtain ⟨ub,aO,fM,eG,fI,_,_,eF,bF⟩:=(HU.out.below aV.out).elem hu
  subst eG
  obtain ⟨eZ,cS,fH,bG⟩:=eF
  subst cS
  obtain ⟨cp,cc,aN,dV⟩:=bG.len
  obtain ⟨p,hp⟩:=eX (u.ctors.length)
  rw [hp] at aN dV
  subst aN
  have d0:=bF 0 _ rfl;have d1:=bF 1 _ rfl
  rw [show Ka.k=2 from rfl] at d0 d1
  rw [Nat.add_zero] at d0
  unfold sv at d0
  obtain ⟨dC,HP,dE⟩:=Qxn bG hp (HG.out u (Qy hu))
  clear hu bF bG hp
  by_cases he:u.name=nm
  ·have hq:(u.name==nm)=true:=by rw [he];simp
   clear he
   by_cases hp0:p=0
   ·have hg:¬ (0:Int)<(p:Int):=Qvu
    go_upto_region 12 with fail
    go_quiet (fail)
    go_wp2_with fail
    go_roundw
    case measure=>simp [intOf];omega
    case rel=>exact ⟨k+1,Qvu,by go_num,O.out.thn (Zn _ _)⟩
   have hg:(0:Int)<(p:Int):=Qvu
   obtain ⟨m8,eB⟩:=eX (n.tmod (p:Int))
   have cI:=Gs n p hn0 hg
   rw [eB] at cI
   obtain ⟨eR,eS⟩:=cI
   obtain ⟨j,rfl⟩:∃ j:Nat,m8=(j:Int):=⟨m8.toNat,Qvu⟩
   have dX:j<p:=Qvu
   obtain ⟨c,hc⟩:∃ c,u.ctors[j]?=some c:=⟨_,Qx (by rw [HP.out];exact dX)⟩
   obtain ⟨cb,A,eY,dW,fD,_,_,⟨fL,cL,cM,aA⟩,D⟩:=dC.out.elem hc
   subst dW;subst cL
   obtain ⟨tk,ts,bJ,t3,n3,k3,t4,n4,k4,rfl⟩:=aA.cells
   have e0:=D 0 _ rfl;have e1:=D 1 _ rfl;have e2:=D 2 _ rfl;have e3:=D 3 _ rfl;have e4:=D 4 _ rfl;have e5:=D 5 _ rfl;have e6:=D 6 _ rfl
   rw [show Mp.k=7 from rfl] at e0 e1 e2 e3 e4 e5 e6
   rw [Nat.add_zero] at e0
   unfold sv at e0
   have dI:=Qq aA;have aT:=Qq (dE.out c (Qy hc))
   clear hc D aA
   go_upto_region 12 with fail
   go_quiet (fail)
   obtain ⟨U,bI⟩:=eX (wr.drewN nq)
   have bE:Below wr wr U:=by rw [<- bI];exact Zn _ _
   rw [bI]
   have aR:=Qq bE
   have I:∀ {b j:Nat} {x:Value},wr.cell? ⟨b,j,none⟩=some x->U.cell? ⟨b,j,none⟩=some x:=fun hx=>kC bE hx
   have c0:=I c0;have d1:=I d1;have e0:=I e0;have e1:=I e1;have e2:=I e2;have e3:=I e3;have e4:=I e4;have e5:=I e5;have e6:=I e6
   clear I bI bE hq d0 b1
   go_upto_region 13 with fail
   refine let_mvar% ?Lq1:=fun w':World=>Qxw w' w 0 (Qxa ub aO m uc)/\Qxw w' ub (aO+k*2+1) (Qxa cb A p cc)/\Qxw w' cb (A+j*7) c.name/\Qxw w' cb (A+j*7+1) (.bool c.has)/\Qxw w' cb (A+j*7+2) tk/\Qxw w' cb (A+j*7+3) (.string ts)/\Qxw w' cb (A+j*7+4) bJ/\Qxw w' cb (A+j*7+5) (.slice t3 n3 k3)/\Qxw w' cb (A+j*7+6) (.slice t4 n4 k4)/\Below U U w';?_
   have HS:∀ w',Below U U w'->?Lq1 w':=by
    intro w' h
    have I:∀ {b j:Nat} {u:Value},U.cell? ⟨b,j,none⟩=some u->w'.cell? ⟨b,j,none⟩=some u:=fun hc=>kC h hc
    exact ⟨I c0,I d1,I e0,I e1,I e2,I e3,I e4,I e5,I e6,h⟩
   obtain ⟨bM,V,aS,aL,aB,bP⟩:=Um HS (fun w' h=>h.2.2.2.2.2.2.2.2.2)
   have HP:=fun w' x0 x1 x2 x3 x4 x5 x6 h=>bP.out (put7 w' U x0 x1 x2 x3 x4 x5 x6) (Aa (aL.out w' h) (Q9 _))
   unfold put7 at HP
   have bL:=Qq HP
   clear HS HP c0 d1 e0 e1 e2 e3 e4 e5 e6
   go_cut [9] from 33 to 89 (fun t9 wx=>∃ G,t9=.pointer (some ⟨G,0,none⟩)/\wx.heap[G]?=some (.cells #[c.name,.bool c.has,tk,.string ts,bJ,.slice t3 n3 k3,.slice t4 n4 k4] 73 (0,0))/\Below U U wx/\U.heap.size<=G)
   case first=>
    go_region_held3 ?Lq1 (first | with_reducible exact bM.out | with_reducible exact aS.out _ (aB.out _ _ V.out) | with_reducible exact aB.out _ _ V.out | with_reducible exact bL.out _ _ _ _ _ _ _ _ (aS.out _ (aB.out _ _ V.out))) (fail)
    all_goals
     go_wp2_with fail
     go_meet
     exact ⟨U.heap.size,rfl,Qw _ _,(Ze _ _).drew,Q9 _⟩
   obtain ⟨G,rfl,hG,aG,fB⟩:=hcut
   have aC:=Qq (O.out.thn (aR.out.thn aG));have bR:=Qq (aV.out.thn (aR.out.thn aG))
   have dH:=Qq (dI.out.move (.of_below (aR.out.thn aG)) Qyv)
   have fC:=Z8 hG
   have HG:=Qq hG
   clear bM V aS aL aB bL bP aG
   have g0:=rA0 hG;have g1:=rA1 hG;have g2:=rA2 hG;have g3:=rA3 hG;have g4:=rA4 hG;have g5:=rA5 hG;have g6:=rA6 hG
   clear hG
   have dZ:w.heap.size+1+1<wc.heap.size:=Qxj aC.out.size
   cases hhas:c.has with
   | false=>
    rw [hhas] at g1
    go_upto_region 17 with fail
    generalize hV:wc.alloc _=V1
    have J:=eqB hV (Ze _ _)
    have hv:=eqH (b:=wc.heap.size) hV (Qw _ _)
    have aE:=kE (aC.out.thn J) bH aD.out
    obtain ⟨v0,v1,v2,v3,v4⟩:=row5 hv
    obtain ⟨y0,y1,y2,y3,y4⟩:=row5 aE
    obtain ⟨f0,f1,f2,f3,f4⟩:=frz5 aE
    have dO:=Qq aE;have aQ:=Qq (bR.out.thn J)
    clear hV hv aE J g0 g1 g2 g3 g4 g5 g6
    go_wp2_with fail
    show bodyPost _ _ _ _ _ (Zp V1 (w+1+1) (.int .i64 3) Qxc c.name Qxe Qxe)
    exact Q7 (v:=.agg #[.int .i64 3,Qxc,c.name,Qxe,Qxe]) (by simp [results,results78,go_sem,Zd dO.out]) rfl (Hw (kids:=[]) aT.out.2 (Q8 _) (fun x h=>by simp at h) cM (Sl.nil _ _ _) (Zf aQ.out Qvu))
   | true=>
    rw [hhas] at g1
    have bA:=kB aC.out bN.out
    obtain ⟨s0,s1⟩:=row2 bA
    have eP:=Qq bA
    clear bA
    go_upto_region 15 with fail
    generalize hV:wc.alloc _=V1
    have J:=eqB hV (Ze _ _)
    have hv:=eqH (b:=wc.heap.size) hV (Qw _ _)
    obtain ⟨aQ,bQ,aU⟩:=Qxn (aC.out.thn J) (bR.out.thn J) hv
    have dK:=Qq (Hz s c.arg aT.out.1 q7 cQ S0 _ _ [tk,.string ts,bJ,.slice t3 n3 k3,.slice t4 n4 k4] V1 (bO.out.below bQ.out) (dH.out.move (.of_below J) Qyv))
    have M:∀ {b j:Nat} {x:Value},wc.cell? ⟨b,j,none⟩=some x->V1.cell? ⟨b,j,none⟩=some x:=fun hx=>kC J hx
    have g1:=M g1;have g2:=M g2;have g3:=M g3;have g4:=M g4;have g5:=M g5;have g6:=M g6;have s0:=M s0;have s1:=M s1
    clear hV hv J M g0
    go_upto_region 17 with (go_at_call 78;refine dK.out.mono ?_;rintro e N ⟨v,r3,o3,r4,o4,rfl,cN,_,cU,aF⟩;unfold vcs;have fJ:wc.heap.size<N.heap.size:=Qa (Z8 aU.out) aF.size;have aI:=kB aF aU.out;have v4:=Qk _ _ 4 _ _ _ aI;have dP:=fA 4 aI;simp only [Qf,Qg,Qh] at v4;obtain ⟨dJ,dL,dD,aP⟩:=Qxo aI cU cN aF;clear aI cU cN aF)
    generalize Y:World.alloc _ _=W9
    have cJ:Below wc N (N.setCell ⟨wc,4,none⟩ (.slice (some ⟨N,0,none⟩) 1 1)):=(Qz _ _).setCell (p:=⟨wc,4,none⟩) (Q9 _) _
    have aK:(N.setCell ⟨wc,4,none⟩ (.slice (some ⟨N,0,none⟩) 1 1)).heap.size=N.heap.size:=Qxz
    have fK:=aP.out.size
    have eQ:=Z8 aU.out
    have Z:Below wc N W9:=by rw [<- Y];exact cJ.alloc (by rw [aK];omega) _
    have cV:W9.heap[wc.heap.size]?=some (.cells #[.int .i64 3,Qxc,c.name,Qxe,Qxa N 0 1 1] 48 (0,0)):=by
     rw [<- Y]
     exact Zb (Qi _ _ 4 _ _ _ dJ.out) _
    have cO:W9.heap[N.heap.size]?=some (.cells (Qxf v r3 o3 r4 o4) 48 (0,0)):=by
     rw [<- Y]
     exact Y3 aK _
    have cH:Below w w W9:=(bQ.out.thn aP.out).trans (Z.mono Qvu)
    have aJ:W9.heap[w.heap.size+1+1]?=some (.cells zV 48 (0,0)):=kE Z dZ (((aQ.out.thn aP.out).block _ bH).trans aD.out)
    have cW:Za (fun b=>V1<=b/\b<N) W9 (vcs v r3 o3 r4 o4) v:=(dL.out.move (S':=fun b=>V1<=b/\b<N) (.refl _ _) (fun b hb h=>⟨h,hb⟩)).move (fun b hb dY=>by
     rw [<- Y,Below.heap_alloc _ _ _ (by rw [aK];exact dY),Z9 (show b≠wc from by have h1:V1.heap.size<=b:=hb.1;omega)]) Qyv
    obtain ⟨v0,v1,v2,v3,v4⟩:=row5 cV
    obtain ⟨y0,y1,y2,y3,y4⟩:=row5 aJ
    obtain ⟨f0,f1,f2,f3,f4⟩:=frz5 aJ
    obtain ⟨dM,dF,dB,dN⟩:=Qxo cW cO cH aJ
    clear Y cV cO cH aJ cW Z dP cJ aK
    have eU:w.heap.size+1+1<N.heap.size:=Qvu
    go_wp2_with fail
    show bodyPost _ _ _ _ _ (Zp W9 (w+1+1) (.int .i64 3) Qxc c.name Qxe (Qxa N 0 1 1))
    refine Q7 (v:=.agg #[.int .i64 3,Qxc,c.name,Qxe,Qxa N 0 1 1]) (by simp [results,results78,go_sem,Zd dN.out]) rfl (Hw (kids:=[v]) aT.out.2 Qxz (fun x h=>by simp only [Z3,Z2,or_false] at h;subst h;exact dD.out) cM ?_ (Zf dB.out Qvu))
    exact Y2 (xs:=[v]) ((Zi Qvu).trans dF.out) (by show w<=N.heap.size;omega) (Cs.one (r:=Zc) ((dM.out.move (fun b hb _=>Zi (by have:=hb.1;omega)) (fun b _ h=>by show w<=b;have:=h.1;omega)))) rfl rfl Qxz
  have hq:(u.name==nm)=false:=by rw [<- Qt,beq_iff_eq];exact he
  clear he
  go_upto_region 12 with fail
  go_quiet (fail)
  go_wp2_with fail
  go_roundw
  case measure=>simp [intOf];omega
  case rel=>exact ⟨k+1,Qvu,by go_num,O.out.thn (Zn _ _)⟩
 have hq:¬ (k:Int)<(m:Int):=Qvu
 obtain ⟨y0,y1,y2,y3,y4⟩:=row5 aW.out
 obtain ⟨f0,f1,f2,f3,f4⟩:=frz5 aW.out
 go_wp2_with fail
 show bodyPost _ _ _ _ _ (Zp wr (w+1+1) Qxc Qxc Qxd Qxe Qxe)
 exact Q7 (v:=.agg zV) (by simp [results,results78,go_sem,Zd aW.out]) rfl (Kx (s:=[]) (.int 0 Qxv) (.inl rfl) ⟨Qxv,Qxv⟩ Qxz (Zf aV.out Qvu)).wide
end Go.Proofs.YtlanplhphiikjaaGreatDoor
