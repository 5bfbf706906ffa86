import Derived.Test.YtlanplhphiikjaaGreatDoorE40
import Derived.Test.YtlanplhphiikjaaGreatDoorE32
set_option maxRecDepth 100000
set_option maxHeartbeats 400000000
namespace Go.Proofs.YtlanplhphiikjaaGreatDoor
open Go.RowKit Go.Shelf Go.Lib Tryz
def Jx:Option Bs->Nat
 | none=>0
 | some b=>b.length
theorem Ox (o:Option Bs):Jx (rdU o).2<=Jx o:=by
 cases hq:(rdU o).2 with
 | none=>simp [Jx]
 | some r=>
  cases o with
  | none=>cases hq
  | some b=>
   obtain ⟨h,_⟩:=Hf (b:=b) (n:=(rdU (some b)).1) (r:=r) (Prod.ext rfl hq)
   simp only [Jx];rw [h,Ql];omega
theorem Vv {o o':Option Bs} {k:Int} (h:rdI o=(k,o')):Jx o'<=Jx o:=by
 have:=Ox o
 unfold rdI at h
 obtain ⟨_,rfl⟩:=Prod.mk.inj h
 exact this
theorem Kf {o o':Option Bs} {s:Bs} (h:rdT o=(s,o')):s.length<=Jx o/\Jx o'<=Jx o:=by
 have hu:=Ox o
 unfold rdT at h
 split at h
 ·obtain ⟨rfl,rfl⟩:=Prod.mk.inj h;simp [Jx]
 rename_i n r hq
 rw [hq] at hu
 simp only [Jx] at hu
 split at h
 ·obtain ⟨rfl,rfl⟩:=Prod.mk.inj h;simp [Jx]
 obtain ⟨rfl,rfl⟩:=Prod.mk.inj h
 simp only [Jx,Qm,Zq]
 constructor <;> omega
theorem RdV.txt (M:Nat) {L:Int} {o:Option Bs} {v:Val} {o':Option Bs} {L':Int} (h:RdV L o v o' L'):Jx o<=M->Qkk M v/\Jx o'<=M:=by
 refine RdV.rec (motive_1:=fun _ o v o' _ _=>Jx o<=M->Qkk M v/\Jx o'<=M) (motive_2:=fun _ _ _ o Z Y o' _ _=>Jx o<=M->((∀ x ∈ Z,x.length<=M)/\∀ x ∈ Y,Qkk M x)/\Jx o'<=M) ?_ ?_ ?_ ?_ ?_ ?_ ?_ ?_ h
 ·rintro L o U o2 k n hk A D J
  have:=Vv A;have:=Vv D
  exact ⟨.mk _ _ _ _ _ Qxz (fun _ h=>(by cases h)) (fun _ h=>(by cases h)),Qvu⟩
 ·rintro L o U o2 s A D J
  have:=Vv A;have:=Kf D
  exact ⟨.mk _ _ _ _ _ Qvu (fun _ h=>(by cases h)) (fun _ h=>(by cases h)),Qvu⟩
 ·rintro L o U o2 o3 o4 s n Z Y L' A D V _ T J
  have:=Vv A;have:=Kf D;have:=Vv V
  obtain ⟨⟨N,O⟩,h6⟩:=T Qvu
  exact ⟨.mk _ _ _ _ _ Qvu N O,h6⟩
 ·rintro L o U o2 o3 k n Z Y L' hk A D _ T J
  have:=Vv A;have:=Vv D
  obtain ⟨⟨N,O⟩,h6⟩:=T Qvu
  exact ⟨.mk _ _ _ _ _ Qxz N O,h6⟩
 ·rintro L o U k hk A J
  have:=Vv A
  exact ⟨.mk _ _ _ _ _ Qxz (fun _ h=>(by cases h)) (fun _ h=>(by cases h)),Qvu⟩
 ·rintro n b L o h J
  exact ⟨⟨fun _ h=>(by cases h),fun _ h=>(by cases h)⟩,J⟩
 ·rintro n L o U o2 v Z Y L1 L2 h0 hL _ _ hv T J
  obtain ⟨A,D⟩:=hv J
  obtain ⟨⟨V,N⟩,O⟩:=T D
  exact ⟨⟨V,fun x I=>by rcases Z3.1 I with rfl | I;exact A;exact N x I⟩,O⟩
 rintro n L o o0 U o2 s v Z Y L1 L2 h0 hL hs _ _ hv T J
 obtain ⟨h6,h7⟩:=Kf hs
 obtain ⟨A,D⟩:=hv Qvu
 obtain ⟨⟨V,N⟩,O⟩:=T D
 exact ⟨⟨fun x I=>by rcases Z3.1 I with rfl | I;omega;exact V x I,fun x I=>by rcases Z3.1 I with rfl | I;exact A;exact N x I⟩,O⟩
theorem Hn:∀ (a b:Bs),eqL (fun (x y:UInt8)=>decide (x=y)) a b=decide (a=b)
 | [],[]=>by simp [eqL]
 | [],_::_=>by simp [eqL]
 | _::_,[]=>by simp [eqL]
 | x::a,y::b=>by simp [eqL,Hn a b]
theorem N6 {w:World} {g:Nat} {x0:Value} {l:List Value} {t:TypeId} {fr:Nat × Nat} (h:w.heap[g]?=some (.cells (x0::l).toArray t fr)):w.cell? ⟨g,0,none⟩=some x0:=(Qk _ _ 0 _ _ _ h).trans Qxz
theorem Oj {w:World} {g:Nat} {x0 x1:Value} {l:List Value} {t:TypeId} {fr:Nat × Nat} (h:w.heap[g]?=some (.cells (x0::x1::l).toArray t fr)):w.cell? ⟨g,1,none⟩=some x1:=(Qk _ _ 1 _ _ _ h).trans Qxz
theorem Oy {w:World} {g:Nat} {x0 x1 x2:Value} {l:List Value} {t:TypeId} {fr:Nat × Nat} (h:w.heap[g]?=some (.cells (x0::x1::x2::l).toArray t fr)):w.cell? ⟨g,2,none⟩=some x2:=(Qk _ _ 2 _ _ _ h).trans Qxz
theorem N7 {w:World} {g:Nat} {x0 x1 x2 x3:Value} {l:List Value} {t:TypeId} {fr:Nat × Nat} (h:w.heap[g]?=some (.cells (x0::x1::x2::x3::l).toArray t fr)):w.cell? ⟨g,3,none⟩=some x3:=(Qk _ _ 3 _ _ _ h).trans Qxz
theorem Nb {w:World} {g:Nat} {x0 x1 x2 x3 x4:Value} {l:List Value} {t:TypeId} {fr:Nat × Nat} (h:w.heap[g]?=some (.cells (x0::x1::x2::x3::x4::l).toArray t fr)):w.cell? ⟨g,4,none⟩=some x4:=(Qk _ _ 4 _ _ _ h).trans Qxz
def DecodeIs (w:World) (b:Bs) (e:Ending) (w':World):Prop:=
 Below w w w'/\((∃ cs:List Value,e=.returned (.tuple #[cs,.int .i64 2])/\cs=[.int .i64 0,.int .i64 0,.string ⟨#[]⟩,.slice none 0 0,.slice none 0 0]/\∀ v0,U7 v0->V6 v0 true->b≠Y6 v0) \/
  ∃ x cs,e=.returned (.tuple #[.agg cs.toArray,Qxc])/\Y6 x=b/\Za (fun b=>w<=b) w' cs x/\WOk x/\∀ v0,U7 v0->b=Y6 v0->x=v0)
theorem Th (S:Nat->Prop) (v:Value) (b:Bs) (w:World) (hs:Sl Zt S w v b) (hl:b.length<=25000) (hT:J7 w):Calls prog 38 #[v] w (DecodeIs w b):=by
 obtain ⟨p,cap,rfl,_⟩:=hs.len
 obtain ⟨HV,HT,HL⟩:=Qxn hs hT hl
 clear hs hT hl
 go_enter func38,ntmps38
 go_wp2_with fail
 obtain ⟨W1,aF⟩:=eX (w.alloc (.cells zV 48))
 rw [aF]
 have bZ:=eqB aF (Ze _ _)
 have bL:=eqH (b:=w.heap.size) aF (Qw _ _)
 have aM:=Qq bZ;have aO:=Qq bL
 clear aF bZ bL
 refine (L6 S _ b W1 (HV.out.below aM.out)).mono ?_
 rintro e w2 ⟨g,rfl,bQ,hg,cA⟩
 obtain ⟨aP,HG,M⟩:=Qxn bQ hg cA
 clear bQ hg cA
 go_wp2_with fail
 have Z:=Ze w2 (.cells #[b.length] 3)
 have dB:=aP.out.lt
 refine (read_top b.length (fun x=>W1<=x/\x<g) g w2 _ (some b) Qvu (Qxj HL.out) (fun x hx=>⟨Qvu,Qvu,by simp;omega⟩) Qvu (aP.out.below Z) (Qw _ _)).mono ?_
 rintro e w4 ⟨x,cs,o',L',rfl,hV,hI,bM,cF,aE⟩
 have bE:Below w w (w2.alloc (.cells #[b.length] 3)):=aM.out.thn (M.out.thn Z)
 have cB:Below w w w4:=bE.trans (aE.below.mono (by have:=HG.out;have:=M.out.size;have:=aM.out.size;omega))
 have bR:=Z8 aO.out
 have aQ:=(aE.keep w (by simp;have:=M.out.size;omega) (Qxq HG.out M.out.size)).trans ((Z.block w (Qxj M.out.size)).trans (kE M.out bR aO.out))
 have U:∀ v0,U7 v0->b=Y6 v0->x=v0/\o'=some []/\0<=L':=fun v0 hf e=>by
  obtain ⟨h1,h2,h3⟩:=Qkh hf b.length [] x o' L' (by rw [e];exact Int.le_refl _) (by rw [List.append_nil,<- e];exact hV)
  exact ⟨h1,h2,by rw [e] at h3;omega⟩
 have bT:=(hV.txt 1000000 (by simp only [Jx];have:=HL.out;omega)).1
 have bK:=hV.ok
 have bS:o'=some []->(Y6 x).length<=50000:=fun h=>by
  obtain ⟨b',e,h2⟩:=hV.sz [] h
  cases e
  simp only [List.length_nil] at h2
  have:=HL.out;omega
 obtain ⟨bv,cD,cC⟩:∃ bv,V6 x bv/\(bv=false->¬ V6 x true):=by
  by_cases h:V6 x true
  ·exact ⟨true,h,fun e=>by cases e⟩
  obtain ⟨bv,hb⟩:=Qkl bT
  exact ⟨bv,hb,fun _=>h⟩
 obtain ⟨p3,k3,p4,k4,cE,_⟩:=hI.cells
 simp only [vcs] at cE
 subst cE
 have T:=Ze w4 (.cells (Qxf x p3 k3 p4 k4) 48)
 have bV:=Qw w4 (.cells (Qxf x p3 k3 p4 k4) 48)
 have Y:=Z8 aQ
 have bN:=kE T Y aQ
 have cG:=kB T cF
 have q0:=rA0 cG
 have bF:=aE.size
 have bJ:=hI.move (Vz.of_below T) (S':=fun y=>w<y/\y<w4) (fun y hy hs=>⟨by have:=M.out.size;have:=Z.size;omega,hy⟩)
 obtain ⟨I,bB,cX,bA,cU⟩:=Qxp U bK bS cD cC
 obtain ⟨O,aJ,N,A,D⟩:=Qxp bJ (bM.below T) (cB.thn T) bV bN
 have dC:=Qq Y
 clear Z dB hV hI bM cF aE bE cB bR aQ U bT bK bS cD cC T bV Y bN cG bF bJ aO aP
 by_cases hL:L'<0
 ·have dA:decide (L'<0)=true:=by simpa using hL
  have y:=fun j=>Qk _ _ j _ _ _ D.out;have f:=fun j=>Qn _ _ j _ _ D.out
  obtain ⟨y0,y1,y2,y3,y4⟩:=Qxu y
  obtain ⟨f0,f1,f2,f3,f4⟩:=Qxu f
  simp only [Qf,Qg,Qh] at y0 y1 y2 y3 y4
  clear y f
  go_wp2_with fail
  show bodyPost _ _ _ _ _ (Zp _ _ _ _ _ _ _)
  refine Q7 (v:=.tuple #[.agg zV,.int .i64 2]) (by simp [results,results38,go_sem,Zd D.out]) rfl ⟨Zf N.out (Q9 _),.inl ⟨_,rfl,rfl,fun v0 h0 h1 e=>?_⟩⟩
  exact absurd (I.out v0 h0 e).2.2 Qvu
 have dA:decide (L'<0)=false:=by simpa using hL
 clear hL
 go_wp2_with fail
 obtain ⟨W5,aL⟩:=eX (w4.alloc (.cells (Qxf x p3 k3 p4 k4) 48))
 rw [aL] at O aJ N A D |-
 clear aL q0
 refine (Hu _ g _ o' aJ.out).mono ?_
 rintro e w6 ⟨⟨xe,rfl,aG⟩,rfl⟩
 by_cases ho:o'=some []
 ·obtain rfl:=aG.2 ho
  have aK:=Qq (cX.out ho)
  have x0:=N6 A.out;have x1:=Oj A.out;have x2:=Oy A.out;have x3:=N7 A.out;have x4:=Nb A.out
  clear aG
  cases bv with
  | false=>
   go_wp2_with fail
   refine (bA.out _ _ _ O.out (HT.out.of_below N.out)).mono ?_
   rintro e w6 ⟨rfl,J⟩
   have aN:=Qq (N.out.thn J)
   have V:=kB J D.out
   clear D
   have D:=Qq V
   clear J V
   have y:=fun j=>Qk _ _ j _ _ _ D.out;have f:=fun j=>Qn _ _ j _ _ D.out
   obtain ⟨y0,y1,y2,y3,y4⟩:=Qxu y
   obtain ⟨f0,f1,f2,f3,f4⟩:=Qxu f
   simp only [Qf,Qg,Qh] at y0 y1 y2 y3 y4
   clear y f
   go_wp2_with fail
   show bodyPost _ _ _ _ _ (Zp _ _ _ _ _ _ _)
   refine Q7 (v:=.tuple #[.agg zV,.int .i64 2]) (by simp [results,results38,go_sem,Zd D.out]) rfl ⟨Zf aN.out (Q9 _),.inl ⟨_,rfl,rfl,fun v0 h0 h1 e=>?_⟩⟩
   exact cU.out Qxz ((I.out v0 h0 e).1 ▸ h1)
  | true=>
   go_wp2_with fail
   refine (bA.out _ _ _ O.out (HT.out.of_below N.out)).mono ?_
   rintro e w6 ⟨rfl,J⟩
   have aN:=Qq (N.out.thn J)
   have V:=kB J D.out
   have bW:=kB J A.out
   have bG:=O.out.move (Vz.of_below J) Qyv
   clear D A x0 x1 x2 x3 x4 O
   obtain ⟨D,A,O⟩:=Qxn V bW bG
   clear J V bW bG
   have x0:=N6 A.out;have x1:=Oj A.out;have x2:=Oy A.out;have x3:=N7 A.out;have x4:=Nb A.out
   go_wp2_with fail
   refine (Gy _ x _ _ bB.out O.out aK.out).mono ?_
   rintro e w7 ⟨pe,ce,css,rfl,hO,aB⟩
   have aY:=Qq (aN.out.thn aB)
   have bO:=kB aB D.out
   have bX:=kB aB A.out
   have bH:=O.out.move (Vz.of_below aB) Qyv
   have cH:Sl Zt (fun _=>True) w7 (.slice pe (Y6 x).length ce) (Y6 x):=hO.sl (Qxj aK.out) (fun _ _=>trivial) (fun _ _ _=>trivial)
   clear D A x0 x1 x2 x3 x4 O
   obtain ⟨D,A,O,bC⟩:=Qxo bO bX bH cH
   clear aB bO bX bH cH hO
   have x0:=N6 A.out;have x1:=Oj A.out;have x2:=Oy A.out;have x3:=N7 A.out;have x4:=Nb A.out
   go_wp2_with fail
   refine (Ro (fun _=>True) _ _ (Y6 x) b w7 bC.out ((HV.out.below aY.out).mono (fun _ _ _=>trivial))).mono ?_
   rintro e w8 ⟨rfl,aC⟩
   rw [Hn]
   have aZ:=Qq (aY.out.thn aC)
   have bP:=kB aC D.out
   have bY:=kB aC A.out
   have bI:=O.out.move (Vz.of_below aC) Qyv
   clear D A x0 x1 x2 x3 x4 O
   obtain ⟨D,A,O⟩:=Qxn bP bY bI
   clear aC bP bY bI bC
   by_cases hq:Y6 x=b
   ·have aA:decide (Y6 x=b)=true:=by simpa using hq
    rw [aA]
    have HQ:=Qq hq
    clear hq aA
    have x0:=N6 A.out;have x1:=Oj A.out;have x2:=Oy A.out;have x3:=N7 A.out;have x4:=Nb A.out
    have y:=fun j=>Qk _ _ j _ _ _ D.out;have f:=fun j=>Qn _ _ j _ _ D.out
    obtain ⟨y0,y1,y2,y3,y4⟩:=Qxu y
    obtain ⟨f0,f1,f2,f3,f4⟩:=Qxu f
    simp only [Qf,Qg,Qh] at y0 y1 y2 y3 y4
    clear y f
    go_wp2_with fail
    show bodyPost _ _ _ _ _ (Zp w8 _ _ _ _ _ _)
    refine Q7 (v:=.tuple #[.agg (Qxf x p3 k3 p4 k4),Qxc]) (by simp [results,results38,go_sem,Zd D.out]) rfl ⟨Zf aZ.out (Q9 _),.inr ⟨x,_,rfl,HQ.out,?_,bB.out,fun v0 h0 e=>(I.out v0 h0 e).1⟩⟩
    exact O.out.move (fun y hy _=>Zi (by have:=hy.1;omega)) (fun y _ hy=>Nat.le_of_lt hy.1)
   have aA:decide (Y6 x=b)=false:=by simpa using hq
   rw [aA]
   have HQ:=Qq hq
   clear hq aA
   have y:=fun j=>Qk _ _ j _ _ _ D.out;have f:=fun j=>Qn _ _ j _ _ D.out
   obtain ⟨y0,y1,y2,y3,y4⟩:=Qxu y
   obtain ⟨f0,f1,f2,f3,f4⟩:=Qxu f
   simp only [Qf,Qg,Qh] at y0 y1 y2 y3 y4
   clear y f
   go_wp2_with fail
   show bodyPost _ _ _ _ _ (Zp _ _ _ _ _ _ _)
   refine Q7 (v:=.tuple #[.agg zV,.int .i64 2]) (by simp [results,results38,go_sem,Zd D.out]) rfl ⟨Zf aZ.out (Q9 _),.inl ⟨_,rfl,rfl,fun v0 h0 h1 e=>?_⟩⟩
   exact HQ.out (by rw [(I.out v0 h0 e).1];exact e.symm)
 have cI:¬ xe=0:=fun h=>ho (aG.1 h)
 have dD:(xe==0)=false:=by simpa using cI
 have HO:=Qq ho
 clear ho aG
 have y:=fun j=>Qk _ _ j _ _ _ D.out;have f:=fun j=>Qn _ _ j _ _ D.out
 obtain ⟨y0,y1,y2,y3,y4⟩:=Qxu y
 obtain ⟨f0,f1,f2,f3,f4⟩:=Qxu f
 simp only [Qf,Qg,Qh] at y0 y1 y2 y3 y4
 clear y f
 go_wp2_with fail
 show bodyPost _ _ _ _ _ (Zp _ _ _ _ _ _ _)
 refine Q7 (v:=.tuple #[.agg zV,.int .i64 2]) (by simp [results,results38,go_sem,Zd D.out]) rfl ⟨Zf N.out (Q9 _),.inl ⟨_,rfl,rfl,fun v0 h0 h1 e=>?_⟩⟩
 exact HO.out (I.out v0 h0 e).2.1
def Vf (x:Val):Bs:=wT (Y6 x)
def Xh (r:Rel):Bs:=wT r.table++(wI r.rows.length++r.rows.flatMap Vf)
def Ju (l:List Rel):Bs:=wI l.length++l.flatMap Xh
theorem wraw_any (g:Nat) (w:World) (v:Value) (bs s:Bs) (S:Nat->Prop) (B:Nat) (pv:Value) (css:List (List Value)) (hO:Own Zt 5 S B w pv s css) (h:WAt g w v bs) (hl:bs.length+s.length<=90000):
  Calls prog 35 #[Qxb g,pv] w (K8 g w v (bs++wT s)):=by
 have HT:=Qq (F5 g w v bs s h hl)
 have M:=Mj hO
 obtain ⟨p,cap,rfl⟩:=hO.form
 clear hO h
 go_enter func35,ntmps35
 go_wp2_with (go_at_call 34;refine HT.out.mono ?_;rintro e w2 ⟨rfl,v2,A,D⟩;have I:=Qq A;have J:=Qq D;clear A D)
 go_end0
 exact ⟨rfl,v2,I.out,J.out⟩
theorem Hq (S0:Nat->Prop) (lv:Value) (l:List Rel) (w:World) (hl0:Sl Yx S0 w lv l) (hok:∀ r ∈ l,∀ x ∈ r.rows,WOk x) (hT:(Ju l).length<=50000):
  Calls prog 7 #[lv] w (Uv Zt 5 (fun _=>True) w (Ju l)):=by
 have hl:Sl Yx (fun b=>b<w) w lv l:=hl0.mono (fun b hb _=>hb)
 obtain ⟨lp,lc,rfl,dJ⟩:=hl.len
 have HL:=Qq hl;have cU:=Qq hok
 clear hl0 hl hok
 obtain ⟨m,hm⟩:=eX (l.length)
 obtain ⟨T,V⟩:=eX (Ju l)
 rw [V] at hT
 rw [hm] at HL dJ
 rw [V,hm]
 have bU:wI m++(l.drop 0).flatMap Xh=T:=by rw [<- V,<- hm];rfl
 obtain ⟨bG,HM,bH⟩:=Qxn bU hm hT
 clear hm V bU hT
 go_enter func7,ntmps7
 go_upto_region 2 with fail
 obtain ⟨W1,Y⟩:=eX (w.alloc (.cells #[Qxe] 88))
 rw [Y]
 have bW:=eqB Y (Ze _ _)
 have bL:WAt w W1 (.slice none 0 0) []:=⟨by rw [<- Y];exact Qw _ _,[],Own.nil _ _ _ _ _⟩
 have aU:=Qq bW
 have HI:=Qq (Mg w W1 _ [] m bL Qvu Qvu Qxz)
 clear Y bW bL
 go_wp2_with (go_at_call 33;refine HI.out.mono ?_;rintro e w2 ⟨rfl,v2,bM,bS⟩;have aT:=Qq bM;have aV:=Qq (aU.out.trans bS.below);clear bM bS)
 go_loopw [13] (fun i wr=>∃ (k:Nat) (cs:Bs) (u:Value),k<=m/\i=.int .i64 k/\Aside (cs++(l.drop k).flatMap Xh=T)/\WAt w wr u cs/\Below w w wr) (fun i _=>m - (intOf i).toNat)
 case atStart=>exact ⟨0,_,v2,Q8 _,rfl,bG.out,aT.out,aV.out⟩
 obtain ⟨k,cs,u,eK,rfl,hE,hA,bO⟩:=hrel
 obtain ⟨HE,HA,J⟩:=Qxn hE.out hA bO
 clear hE hA bO aT aV HI aU bG
 by_cases hlt:k<m
 ·have eE:(0:Int)<=(k:Int):=Qvu
  have eF:(k:Int)<(m:Int):=Qvu
  obtain ⟨r,hr⟩:∃ r,l[k]?=some r:=⟨_,Qx (by rw [HM.out];exact hlt)⟩
  obtain ⟨lb,eA,cl,rfl,dI,_,aP,dH,aO⟩:=(HL.out.below J.out).elem hr
  obtain ⟨rv,rfl,eL,aQ⟩:=dH
  obtain ⟨rp,rc,rfl,dL⟩:=aQ.len
  have l0:=aO 0 _ rfl
  have l1:=aO 1 _ rfl
  simp only [show Yx.k=2 from rfl,Nat.add_zero] at l0 l1
  unfold sv at l0
  have hd:l.drop k=r::l.drop (k+1):=by rw [Qp (by rw [HM.out];exact hlt)];rw [Qx (by rw [HM.out];exact hlt)] at hr;rw [Qb hr]
  have cV:=Qq (cU.out r (Qy hr))
  obtain ⟨rest,D⟩:=eX ((l.drop (k+1)).flatMap Xh)
  have bQ:cs++Xh r++rest=T:=by rw [<- HE.out,hd,List.flatMap_cons,D,List.append_assoc]
  have aE:=Qq D
  obtain ⟨n,hn⟩:=eX (r.rows.length)
  have aH:cs++wT r.table++wI n++(r.rows.drop 0).flatMap Vf++rest=T:=by rw [<- bQ,<- hn];simp [Xh]
  have dX:cs.length+(wT r.table).length+(wI n).length+((r.rows.drop 0).flatMap Vf).length+rest.length=T.length:=by rw [<- aH];simp only [Ql]
  have eM:(wT r.table).length=(vb r.table.length).length+r.table.length:=by unfold wT;rw [Ql]
  obtain ⟨bA,cR,HN⟩:=Qxn aQ aH hn
  rw [hn] at bA l1 dL
  have eC:=bH.out
  clear hr aO aP aQ dI hd bQ aH D
  clear hn
  go_upto_region 6 with fail
  obtain ⟨W5,Z⟩:=eX (wr.alloc (.cells #[r.table,.slice rp n rc] 42))
  rw [Z]
  have aA:=eqB Z (Ze _ _)
  have aL:=eqH (b:=wr.heap.size) Z (Qw _ _)
  have x0:=rA0 aL
  have eD:=Z8 HA.out.cell
  have cD:=fun b (hb:u.ownBlock=some b)=>(HA.out.own_lt b hb).2
  obtain ⟨aF,aW,cK,bJ⟩:=Qxo aL aA (HA.out.below aA) cD
  have bI:=Qq (F5 w W5 u cs r.table (HA.out.below aA) Qvu)
  clear Z aA aL l0 l1 cD
  go_wp2_with fail
  refine bI.out.mono ?_
  rintro e w6 ⟨rfl,v6,aG,aJ⟩
  have bV:=Z8 aF.out
  have dY:w.heap.size<W5.heap.size:=Z8 cK.out.cell
  have aM:=(aJ.keep wr bV Qvu (fun e=>by have:=bJ.out _ e.symm;omega)).trans aF.out
  obtain ⟨cL,bD,dA⟩:=Qxn aG aJ aM
  have x1:=rA1 aM
  have aZ:=Qq (Mg w w6 v6 (cs++wT r.table) n aG Qvu Qvu (by rw [Ql];omega))
  clear x0 bI aG aJ aM
  go_wp2_with fail
  refine aZ.out.mono ?_
  rintro e w7 ⟨rfl,v7,bN,bT⟩
  have M:=bD.out.trans bT
  have aN:=(M.keep wr bV Qvu (fun e=>by have:=bJ.out _ e.symm;omega)).trans aF.out
  obtain ⟨cM,cY,eB⟩:=Qxn bN M aN
  have x7:=rA1 aN
  clear x1 aZ bN bT M aN cL bD dA
  go_wp2_with fail
  go_loopw [27] (fun i w8=>∃ (j:Nat) (ds:Bs) (z:Value),j<=n/\i=.int .i64 j/\Aside (ds++(r.rows.drop j).flatMap Vf++rest=T)/\WAt w w8 z ds/\Xk w W5 u w8 z) (fun i _=>n - (intOf i).toNat)
  case atStart=>exact ⟨0,_,v7,Q8 _,rfl,cR.out,cM.out,cY.out⟩
  obtain ⟨j,ds,z,eI,rfl,hE,hA,hS⟩:=hrel
  obtain ⟨aX,U,bF⟩:=Qxn hE.out hA hS
  have cP:=Qq ((aW.out.mono J.out.size).trans hS.below);have cO:=Qq ((J.out.thn aW.out).trans hS.below)
  clear hE hA hS
  by_cases hjl:j<n
  ·have eG:(0:Int)<=(j:Int):=Qvu
   have eH:(j:Int)<(n:Int):=Qvu
   obtain ⟨x,hx⟩:∃ x,r.rows[j]?=some x:=⟨_,Qx (by rw [HN.out];exact hjl)⟩
   have bY:r.rows.drop j=x::r.rows.drop (j+1):=by rw [Qp (by rw [HN.out];exact hjl)];rw [Qx (by rw [HN.out];exact hjl)] at hx;rw [Qb hx]
   have aI:ds++wT (Y6 x)++(r.rows.drop (j+1)).flatMap Vf++rest=T:=by rw [<- aX.out,bY,List.flatMap_cons];simp [Vf]
   have dK:=congrArg List.length aI
   simp only [Ql] at dK
   have eN:(wT (Y6 x)).length=(vb (Y6 x).length).length+(Y6 x).length:=by unfold wT;rw [Ql]
   obtain ⟨kb,dZ,q3,l3,q4,l4,rfl,eJ,cE,d0,d1,d2,d3,d4⟩:=((bA.out.frame (fun b hb _=>cP.out.block b hb)).val hx)
   obtain ⟨cZ,cW,cS⟩:=Qxn cE (cV.out x (Qy hx)) aI
   clear hx bY aI cE
   go_upto_region 11 with fail
   obtain ⟨W9,aK⟩:=eX (wr.alloc (.cells (Qxf x q3 l3 q4 l4) 48))
   rw [aK]
   have N:=Ze wr (.cells (Qxf x q3 l3 q4 l4) 48)
   have A:=Qw wr (.cells (Qxf x q3 l3 q4 l4) 48)
   rw [aK] at N A
   have dE:=Z8 U.out.cell
   have x0:=N6 A;have x1:=Oj A;have x2:=Oy A;have x3:=N7 A;have x4:=Nb A
   have aY:=Qq (Gy _ x _ W9 cW.out (cZ.out.move (.of_below N) Qyv) Qvu)
   have O:=Qq (U.out.below N);have bE:=Qq (bF.out.trans (Xk.of_below (v:=z) N (Nat.le_of_lt dE)))
   clear aK N A d0 d1 d2 d3 d4 U bF
   go_wp2_with fail
   refine aY.out.mono ?_
   rintro e dT ⟨pe,ce,css,rfl,hO,I⟩
   have dD:=Z8 O.out.cell
   have dW:=Qq (O.out.below I);have bB:=Qq (bE.out.trans (Xk.of_below (v:=z) I (Nat.le_of_lt dD)))
   have cX:=Qq (wraw_any w dT z ds (Y6 x) _ _ _ css hO (O.out.below I) Qvu)
   clear hO I O bE aY x0 x1 x2 x3 x4
   go_wp2_with (go_at_call 35;refine cX.out.mono ?_;rintro e eO ⟨rfl,dS,aC,aD⟩;have aS:=Qq aC;have bC:=Qq (bB.out.trans aD);clear aC aD)
   go_roundw
   case measure=>simp [intOf];omega
   case rel=>exact ⟨j+1,ds++wT (Y6 x),dS,Qvu,by go_num,(show Aside _ from cS.out),aS.out,bC.out⟩
  have cA:j=n:=Qvu
  subst cA
  have bZ:ds++rest=T:=by have:=aX.out;rw [Qu (by rw [HN.out];exact Q9 _)] at this;simpa using this
  have cQ:=Qq bZ
  clear bZ
  go_wp2_with fail
  go_roundw
  case measure=>simp [intOf];omega
  case rel=>exact ⟨k+1,ds,z,Qvu,by go_num,(show Aside _ from by have:=cQ.out;rw [<- aE.out] at this;exact this),U.out,cO.out⟩
 have dF:k=m:=Qvu
 subst dF
 have dC:cs=T:=by have:=HE.out;rw [Qu (by rw [HM.out];exact Q9 _)] at this;simpa using this
 subst dC
 have HD:=Qq (Lp w wr u cs HA.out (Qxj bH.out))
 go_wp2_with (go_at_call 36;refine HD.out.mono ?_;rintro e w3 ⟨q,qc,qs,rfl,bR,bX⟩;have cT:=Qq bR;have cN:=Qq bX;clear bR bX)
 go_ret
 exact ⟨q,qc,qs,rfl,by have:=cT.out.move J.out.size (fun _ _ _=>rfl);simpa using this,J.out.thn cN.out⟩
def Bf (b pre:Bs) (f:Bool) (o:Option Bs):Prop:=f=true->∀ r,o=some r->pre++r=b
theorem Bf.text {b pre:Bs} {f:Bool} {o o':Option Bs} {s:Bs} (h:Bf b pre f o) (e:rdT o=(s,o')):Bf b (pre++wT s) f o':=by
 rintro hf r rfl
 obtain ⟨b1,rfl,rfl⟩:=Gp e
 rw [List.append_assoc];exact h hf _ rfl
theorem Bf.int {b pre:Bs} {f c:Bool} {o o':Option Bs} {k:Int} (h:Bf b pre f o) (e:rdI o=(k,o')):Bf b (pre++wI k) (f&&c) o':=by
 rintro hf r rfl
 obtain ⟨b1,rfl,rfl⟩:=U4 e
 rw [List.append_assoc];exact h (by cases f;cases hf;rfl) _ rfl
def Gu (l:List Rel):Prop:=∀ r ∈ l,r.table.length<=1000000/\∀ x ∈ r.rows,U7 x/\V6 x true
theorem Gj {T:Type} (f:T->Bs) (h:∀ x,1<=(f x).length):∀ l:List T,l.length<=(l.flatMap f).length
 | []=>Qxz
 | x::l=>by rw [List.flatMap_cons,Ql,List.length_cons];have:=h x;have:=Gj f h l;omega
theorem encE_pos (x:Val):1<=(Vf x).length:=by unfold Vf wT;rw [Ql];have:=Pz (Y6 x).length;omega
theorem encL_pos (r:Rel):1<=(Xh r).length:=by unfold Xh wT;simp only [Ql];have:=Pz r.table.length;omega
theorem Qjb {bl:Nat} {k:Nat} (h:k<=bl):U6 bl (k:Int)=false:=by unfold U6;simp;omega
theorem Br {b:Bs} {l:List Rel} (e:b=Ju l) (hb:b.length<=1000000):rdI (some b)=((l.length:Int),some (l.flatMap Xh))/\U6 b.length (l.length:Int)=false:=by
 have h1:=Gj Xh encL_pos l
 have h2:b.length=(wI l.length).length+(l.flatMap Xh).length:=by rw [e];unfold Ju;rw [Ql]
 refine ⟨by rw [e];unfold Ju;exact Gi Qvu Qvu _,Qjb Qvu⟩
theorem Qyl {T:Type} {l:List T} {k:Nat} {x:T} (h:l[k]?=some x):l.drop k=x::l.drop (k+1):=by
 have hk:k<l.length:=(Qj h).1
 rw [Qp hk];rw [Qx hk] at h;rw [Qb h]
theorem Bp {l:List Rel} {k:Nat} {r:Rel} (hf:Gu l) (h:l[k]?=some r):rdT (some ((l.drop k).flatMap Xh))=(r.table,some (wI r.rows.length++(r.rows.flatMap Vf++(l.drop (k+1)).flatMap Xh))):=by
 rw [Qyl h,List.flatMap_cons]
 unfold Xh
 simp only [List.append_assoc]
 exact Ho (by have:=(hf r (Qy h)).1;omega) _
theorem Oa {rs:List Val} {j:Nat} {x:Val} {rest:Bs} (h:rs[j]?=some x) (hl:(Y6 x).length<=1000000):rdT (some ((rs.drop j).flatMap Vf++rest))=(Y6 x,some ((rs.drop (j+1)).flatMap Vf++rest)):=by
 rw [Qyl h,List.flatMap_cons]
 unfold Vf
 simp only [List.append_assoc]
 exact Ho Qvu _
theorem len_row {rs:List Val} {j:Nat} {x:Val} (h:rs[j]?=some x):(Y6 x).length<=(rs.flatMap Vf).length:=by
 obtain ⟨n,hn⟩:∃ n,n=rs:=⟨_,rfl⟩
 have:x ∈ rs:=Qy h
 clear hn
 induction rs generalizing j with
 | nil=>cases this
 | cons y rs ih=>
  rw [List.flatMap_cons,Ql]
  rcases Z3.1 this with rfl | hm
  ·unfold Vf wT;rw [Ql];omega
  obtain ⟨i,hi⟩:=Zk hm
  have:=ih hi hm;omega
def Pd (b:Bs) (m k:Nat) (xs:List Rel) (f:Bool) (o:Option Bs):Prop:=
 ∀ l,Gu l->b=Ju l->f=true/\m=l.length/\xs=l.take k/\o=some ((l.drop k).flatMap Xh)
def M9 (b:Bs) (m k:Nat) (xs:List Rel) (tb:Bs) (n j:Nat) (ys:List Val) (f:Bool) (o:Option Bs):Prop:=
 ∀ l,Gu l->b=Ju l->f=true/\m=l.length/\xs=l.take k/\∃ r,l[k]?=some r/\tb=r.table/\n=r.rows.length/\ys=r.rows.take j/\o=some ((r.rows.drop j).flatMap Vf++(l.drop (k+1)).flatMap Xh)
theorem Pd.start {b:Bs} {kz:Int} {o1:Option Bs} (hb:b.length<=1000000) (h:rdI (some b)=(kz,o1)):Pd b (if U6 b.length kz then 0 else kz).toNat 0 [] (true&&!(U6 b.length kz)) o1:=by
 intro l hl e
 obtain ⟨h1,h2⟩:=Br e hb
 rw [h1] at h
 obtain ⟨rfl,rfl⟩:=Prod.mk.inj h
 rw [h2]
 exact ⟨rfl,Qxz,rfl,rfl⟩
theorem Pd.row {b:Bs} {m k:Nat} {xs:List Rel} {f:Bool} {o o2 o3:Option Bs} {tb:Bs} {kz:Int} (h:Pd b m k xs f o) (hk:k<m) (hb:b.length<=1000000) (h2:rdT o=(tb,o2)) (h3:rdI o2=(kz,o3)):
  M9 b m k xs tb (if U6 b.length kz then 0 else kz).toNat 0 [] (f&&!(U6 b.length kz)) o3:=by
 intro l hl e
 obtain ⟨rfl,rfl,rfl,rfl⟩:=h l hl e
 obtain ⟨r,A⟩:∃ r,l[k]?=some r:=⟨_,Qx hk⟩
 rw [Bp hl A] at h2
 obtain ⟨rfl,rfl⟩:=Prod.mk.inj h2
 have D:b.length=(wI l.length).length+(l.flatMap Xh).length:=by rw [e];unfold Ju;rw [Ql]
 have I:(Xh r).length<=(l.flatMap Xh).length:=by
  rw [<- List.take_append_drop k l,List.flatMap_append,Ql,Qyl A,List.flatMap_cons,Ql];omega
 have M:(Xh r).length=(wT r.table).length+((wI r.rows.length).length+(r.rows.flatMap Vf).length):=by unfold Xh;simp only [Ql]
 have J:=Gj Vf encE_pos r.rows
 rw [Gi Qvu Qvu] at h3
 obtain ⟨rfl,rfl⟩:=Prod.mk.inj h3
 rw [Qjb (show r.rows.length<=b.length by omega)]
 exact ⟨rfl,rfl,rfl,r,A,rfl,Qxz,rfl,rfl⟩
theorem M9.at {b:Bs} {m k:Nat} {xs:List Rel} {tb:Bs} {n j:Nat} {ys:List Val} {f:Bool} {o o':Option Bs} {s:Bs} (h:M9 b m k xs tb n j ys f o) (hj:j<n) (hb:b.length<=1000000) (e:rdT o=(s,o')) (l:List Rel) (hl:Gu l) (he:b=Ju l):
  f=true/\m=l.length/\xs=l.take k/\∃ r x,l[k]?=some r/\tb=r.table/\n=r.rows.length/\ys=r.rows.take j/\r.rows[j]?=some x/\s=Y6 x/\o'=some ((r.rows.drop (j+1)).flatMap Vf++(l.drop (k+1)).flatMap Xh):=by
 obtain ⟨rfl,rfl,rfl,r,hr,rfl,rfl,rfl,rfl⟩:=h l hl he
 obtain ⟨x,A⟩:∃ x,r.rows[j]?=some x:=⟨_,Qx hj⟩
 have D:b.length=(wI l.length).length+(l.flatMap Xh).length:=by rw [he];unfold Ju;rw [Ql]
 have I:(Xh r).length<=(l.flatMap Xh).length:=by
  rw [<- List.take_append_drop k l,List.flatMap_append,Ql,Qyl hr,List.flatMap_cons,Ql];omega
 have J:(Xh r).length=(wT r.table).length+((wI r.rows.length).length+(r.rows.flatMap Vf).length):=by unfold Xh;simp only [Ql]
 have M:=len_row A
 rw [Oa A Qvu] at e
 obtain ⟨rfl,rfl⟩:=Prod.mk.inj e
 exact ⟨rfl,rfl,rfl,r,x,hr,rfl,rfl,rfl,A,rfl,rfl⟩
theorem M9.bytes {b:Bs} {m k:Nat} {xs:List Rel} {tb:Bs} {n j:Nat} {ys:List Val} {f:Bool} {o o':Option Bs} {s:Bs} (h:M9 b m k xs tb n j ys f o) (hj:j<n) (hb:b.length<=1000000) (e:rdT o=(s,o')) (l:List Rel) (hl:Gu l) (he:b=Ju l):
  f=true/\∃ x,U7 x/\V6 x true/\s=Y6 x:=by
 obtain ⟨hf,-,-,r,x,hr,-,-,-,hx,hs,-⟩:=h.at hj hb e l hl he
 have:=(hl r (Qy hr)).2 x (Qy hx)
 exact ⟨hf,x,this.1,this.2,hs⟩
theorem M9.next {b:Bs} {m k:Nat} {xs:List Rel} {tb:Bs} {n j:Nat} {ys:List Val} {f:Bool} {o o':Option Bs} {s:Bs} {x:Val} (h:M9 b m k xs tb n j ys f o) (hj:j<n) (hb:b.length<=1000000) (e:rdT o=(s,o')) (hx:∀ v0,U7 v0->s=Y6 v0->x=v0):
  M9 b m k xs tb n (j+1) (ys++[x]) f o':=by
 intro l hl he
 obtain ⟨hf,hm,D,r,x0,hr,ht,hn,I,A,hs,ho⟩:=h.at hj hb e l hl he
 obtain rfl:=hx x0 ((hl r (Qy hr)).2 x0 (Qy A)).1 hs
 refine ⟨hf,hm,D,r,hr,ht,hn,?_,ho⟩
 rw [I,List.take_add_one,A];rfl
theorem M9.done {b:Bs} {m k:Nat} {xs:List Rel} {tb:Bs} {n:Nat} {ys:List Val} {f:Bool} {o:Option Bs} (h:M9 b m k xs tb n n ys f o):Pd b m (k+1) (xs++[⟨tb,ys⟩]) f o:=by
 intro l hl he
 obtain ⟨hf,hm,A,r,hr,ht,hn,D,ho⟩:=h l hl he
 refine ⟨hf,hm,?_,?_⟩
 ·rw [A,List.take_add_one,hr,ht,D,hn,List.take_length];rfl
 rw [ho,hn,List.drop_length];simp
theorem Pd.done {b:Bs} {m:Nat} {xs:List Rel} {f:Bool} {o:Option Bs} (h:Pd b m m xs f o) (l:List Rel) (hl:Gu l) (he:b=Ju l):f=true/\xs=l/\o=some []:=by
 obtain ⟨hf,hm,A,ho⟩:=h l hl he
 refine ⟨hf,?_,?_⟩
 ·rw [A,hm,List.take_length]
 rw [ho,hm,List.drop_length];rfl
theorem Mh {P:Program} {T:Type} {r:Rd T} (t e:TypeId) (hu:P.underlying t=some (.slice e)) (hz:∀ w,(Go.sizeOf e).run P w=.ok r.k w) {S:Nat->Prop} {w:World} {p:Option Addr} {n cap:Nat} {l:List T} (h:Sl r S w (.slice p n cap) l) (hc:n<=cap) (k:Nat) (hk:k<=n):
  ∃ p2 c2,(∀ W,(Instr.slice t (.slice p n cap) (some (.int .i64 (k:Int))) none none).run P W=.ok (.slice p2 (n - k) c2) W)/\Sl r S w (.slice p2 (n - k) c2) (l.drop k)/\(l.drop k).length=n - k:=by
 have hn:l.length=n:=by
  obtain ⟨p',c',e,_⟩:=h.len
  simp only [Qr] at e
  exact e.2.1.symm
 obtain ⟨V1,V2,_,h2,_,A⟩:=Va t e hu hz h ⟨p,cap,by rw [hn],Qvu⟩ k Qvu
 have hl:(l.drop k).length=n - k:=by rw [Zq,hn]
 obtain ⟨p2,c2,rfl,_⟩:=A.len
 rw [hl] at h2 A
 exact ⟨p2,c2,h2,A,hl⟩
structure Kz (s:Sc) (c:Nat) (l:List Rel):Prop where
 tabs:l.map Rel.table=s.tables.map Tbl.name
 rows:∀ r ∈ l,∀ v ∈ r.rows,Vo v
 few:∀ r ∈ l,r.rows.length<=c
theorem Jq.dy {s:Sc} {c:Nat} {l:List Rel} (h:Jq s c l):Kz s c l:=⟨h.tabs,h.rows,h.few⟩
theorem Kz.len {s:Sc} {c:Nat} {l:List Rel} (h:Kz s c l):l.length=s.tables.length:=by have:=congrArg List.length h.tabs;simpa using this
theorem Kz.mono {s:Sc} {c d:Nat} {l:List Rel} (h:Kz s c l) (hc:c<=d):Kz s d l:=⟨h.tabs,h.rows,fun r hr=>Qc (h.few r hr) hc⟩
theorem Kz.set {s:Sc} {c:Nat} {l:List Rel} (h:Kz s c l) {i:Nat} {r:Rel} (hr:l[i]?=some r) (zs:List Val) (hz:∀ v ∈ zs,Vo v) (hc:zs.length<=c):Kz s c (l.set i ⟨r.table,zs⟩):=by
 have D:∀ q ∈ l.set i ⟨r.table,zs⟩,q ∈ l\/q=⟨r.table,zs⟩:=fun q A=>List.mem_or_eq_of_mem_set A
 refine ⟨?_,fun q A u hu=>?_,fun q A=>?_⟩
 ·rw [<- h.tabs,List.map_set]
  obtain ⟨h1,rfl⟩:=Qj hr
  apply List.ext_getElem?
  intro j
  rw [List.getElem?_set]
  split
  ·rename_i e
   subst e
   simp [h1]
  rfl
 ·rcases D q A with A | rfl
  ·exact h.rows q A u hu
  exact hz u hu
 rcases D q A with A | rfl
 ·exact h.few q A
 exact hc
theorem Kz.ins {s:Sc} {c:Nat} {l:List Rel} (h:Kz s c l) (x:Bs) (v:Val) (hv:Vo v):Kz s (c+1) (Js l x v):=by
 cases ha:Vt l x with
 | none=>rw [Bu ha];exact h.mono (Nat.le_succ c)
 | some i=>
  obtain ⟨r,A⟩:∃ r,l[i]?=some r:=by
   unfold Vt at ha
   have:=(List.findIdx?_eq_some_iff_getElem.1 ha).1
   exact ⟨_,Qx this⟩
  rw [Bt ha A]
  have hm:=Qy A
  refine (h.mono (Nat.le_succ c)).set A _ (fun u D=>?_) ?_
  ·rcases Ok D with D | rfl
   ·exact h.rows r hm u D
   exact hv
  have:=Ry r.rows v;have:=h.few r hm;omega
theorem tabs_at {s:Sc} {l:List Rel} (ht:l.map Rel.table=s.tables.map Tbl.name) (hd:(s.tables.map Tbl.name).Nodup) {i:Nat} {t:Tbl} (h:s.tables[i]?=some t):Vt l t.name=some i:=by
 have hl:l.length=s.tables.length:=by have:=congrArg List.length ht;simpa using this
 have J:i<l.length:=by rw [hl];exact (Qj h).1
 have hn:∀ j (A:j<l.length),(l[j]).table=(s.tables.map Tbl.name)[j]'(by rw [<- ht];simpa using A):=fun j A=>by
  have:(l.map Rel.table)[j]'(by simpa using A)=(l[j]).table:=Qxz
  rw [<- this]
  simp only [ht]
 have I:(s.tables.map Tbl.name)[i]'(by rw [<- ht];simpa using J)=t.name:=by
  obtain ⟨h1,rfl⟩:=Qj h
  simp
 unfold Vt
 refine List.findIdx?_eq_some_iff_getElem.2 ⟨J,by simp [hn i J,I],fun j A=>?_⟩
 have D:j<l.length:=Qvu
 have:(l[j]).table≠t.name:=by
  rw [hn j D,<- I]
  intro e
  exact (List.pairwise_iff_getElem.1 hd) j i (by rw [<- ht];simpa using D) (by rw [<- ht];simpa using J) A e
 simpa using this
theorem Vo.dirty {v:Val} (h:Vo v) (hp:0<v.kids.length):Vo (.mk v.kind v.n v.s v.names (.mk 5 0 [] [] []::v.kids.drop 1)):=by
 obtain ⟨hg,hf,J,I⟩:=h
 refine ⟨?_,by show (_::_).length<=5;rw [List.length_cons,Zq];have:v.kids.length<=5:=hf;omega,fun u M=>?_,I⟩
 rotate_left
 ·rcases Z3.1 M with rfl | M
  ·refine ⟨.list [] (fun k h=>(by cases h)),?_⟩
   have h1:=Jp (n:=5) Qvu Qvu
   have h2:=Jp (n:=0) Qvu Qvu
   rw [Y6,if_neg Qxv,if_neg Qxv,if_neg Qxv,Yt]
   simp only [List.append_nil,Ql,List.length_nil]
   rw [show (((0:Nat)):Int)=0 from rfl]
   omega
  exact J u (Zw M)
 have D:∀ kids:List Val,(∀ k ∈ kids,X6 k)->∀ k ∈ (.mk 5 0 [] [] []::kids.drop 1:List Val),X6 k:=fun kids A k h=>by
  rcases Z3.1 h with rfl | h
  ·exact .list [] (fun k h=>by cases h)
  exact A k (Zw h)
 have hL:∀ kids:List Val,0<kids.length->(.mk 5 0 [] [] []::kids.drop 1:List Val).length=kids.length:=fun kids h=>by
  rw [List.length_cons,Zq];omega
 cases hg with
 | int n=>exact absurd hp (Nat.lt_irrefl 0)
 | text s=>exact absurd hp (Nat.lt_irrefl 0)
 | bool n _=>exact absurd hp (Nat.lt_irrefl 0)
 | make s kids hs hl A=>exact .make s _ hs (Qc (Nat.le_of_eq (hL kids hp)) hl) (D kids A)
 | record names kids hl hn hs A=>exact .record names _ (hl.trans (hL kids hp).symm) hn hs (D kids A)
 | list kids A=>exact .list _ (D kids A)
theorem own_relP {E:TypeId} {S:Nat->Prop} {B g n cap:Nat} {w:World} {l:List Rel} {css:List (List Value)} (hl:l.length<=1000000) (hB:∀ b,B<=b->S b) (h:Own Ym E S B w (.slice (some ⟨g,0,none⟩) n cap) l css):Sl (Qjl (fun b=>b≠g)) S w (.slice (some ⟨g,0,none⟩) n cap) l:=by
 have hO:Own (Qjl (fun b=>b≠g)) E S B w (.slice (some ⟨g,0,none⟩) n cap) l css:=⟨h.row,⟨h.cs.len,fun i c x hc hx=>by
  obtain ⟨v,e,h1,h2,_⟩:=h.cs.R i c x hc hx
  exact ⟨v,e,h1,h2.mono (fun b _ hb=>⟨hb,fun e=>hb.2 (by rw [e];rfl)⟩)⟩⟩⟩
 exact hO.sl hl hB Qyv
def Bw (s:Sc) (c:Nat) (W0 wr:World) (v:Value) (n:Nat):Prop:=∃ l css,Kz s c l/\l.length=n/\Own Ym 42 (fun b=>W0<=b) W0 wr v l css
theorem Bw.grow {s:Sc} {c:Nat} {W0 wr wr':World} {v:Value} {n:Nat} (h:Bw s c W0 wr v n) (hb:Below wr wr wr'):Bw s c W0 wr' v n:=by
 obtain ⟨l,css,h1,h2,h3⟩:=h
 exact ⟨l,css,h1,h2,h3.below hb⟩
def DirtyIs (s:Sc) (w:World) (e:Ending) (w':World):Prop:=∃ l p cap,e=.returned (.slice p l.length cap)/\(∀ r ∈ l,(∀ v ∈ r.rows,Vo v)/\r.rows.length<=8)/\l.length<=s.tables.length/\(∃ d,l.map Rel.table=(s.tables.map Tbl.name).drop d)/\Sl Ym (fun b=>w<=b) w' (.slice p l.length cap) l/\Below w w w'
end Go.Proofs.YtlanplhphiikjaaGreatDoor
