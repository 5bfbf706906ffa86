import Derived.Test.YtlanplhphiikjaaGreatDoorE20
import Derived.Test.YtlanplhphiikjaaGreatDoorE19
set_option maxRecDepth 100000
set_option maxHeartbeats 400000000
namespace Go.Proofs.YtlanplhphiikjaaGreatDoor
open Go.RowKit Go.Shelf Go.Lib Tryz
theorem Qqb (p:Addr) (w:World):
  CallsD prog 123 #[.pointer (some p)] .returning w fun e u' w'=>e=.returned (.tuple #[])/\u'=.returning/\w'=w:=by
 refine callsD_of_wpS func123 rfl fun c₀ cs hu=>?_
 apply wpS_seq
 apply wpS_region
 simp [wpOpsS,go_sem,recoverD,hu,ntmps123,Exit.thenS]
 rw [show (#[Value.pointer (some p)]++(Array.replicate 9 undef).setIfInBounds 3 Value.nilIface)=#[.pointer (some p),undef,undef,undef,.nilIface,undef,undef,undef,undef,undef] from rfl]
 refine wpS_of_wp ?_
 go_wp2_with fail
 cases c₀
 simp_all [bodyPostS,results,results123]
def Sx (v:Val):List (Bs × Val):=(v.names.zip v.kids).reverse
theorem Og (l:List Bs) (m:List Val):l.zip (m.take l.length)=l.zip m:=by
 induction l generalizing m with
 | nil=>rfl
 | cons a l ih=>cases m with
  | nil=>rfl
  | cons b m=>simp [ih]
theorem zip_snoc (l:List Bs) (m:List Val) (k:Nat) (x:Bs) (u:Val) (hx:l[k]?=some x) (hu:m[k]?=some u):((l.take (k+1)).zip (m.take (k+1))).reverse=(x,u)::((l.take k).zip (m.take k)).reverse:=by
 rw [List.take_add_one,List.take_add_one,hx,hu]
 have h1:k<l.length:=(Qj hx).1
 have h2:k<m.length:=(Qj hu).1
 rw [List.zip_append (by rw [Qm,Qm];omega)]
 simp
theorem sat_ok (S0 S1:Nat->Prop) (t:Tbl) (v:Val) (ct cr:List Value) (b:Bool) (w:World) (ht0:Zl.R S0 w ct t) (hr0:Za S1 w cr v) (hsi:Vu t.check=true) (hev:EvV t.check (Sx v) (Gb b)) (hln:v.names.length<=v.kids.length):
  Calls prog 71 #[ct,cr] w fun e w'=>e=.returned (.bool b)/\Below w w w':=by
 have bN:∀ (fn:Fn) (first cap:Array Value) (w:World),(Instr.makeFunc fn first cap).run prog w=.ok (.func fn first cap) w:=fun _ _ _ _=>rfl
 have ht:Zl.R (fun b=>b<w) w ct t:=Zl.mono ht0 (fun b hb _=>hb)
 have hr:Za (fun b=>b<w) w cr v:=hr0.move (.refl _ _) (fun b hb _=>hb)
 obtain ⟨bH,bG,bR,bQ,bZ,bY,k9,cA,n9,cB,bV,bS,bD,bW,bT,bE,bX,bU,bF,a9,z9,D,_,_,_,_,U⟩:=Yj ht
 simp only [tcs] at D
 subst D
 obtain ⟨p3,k3,p4,k4,D,V,aD,_⟩:=Za.cells hr
 simp only [vcs] at D
 subst D
 have aC:=Qq (fun W (hb:Below w w W)=>hsi ▸ simpAt t.check _ _ W (Y1.move U (.of_below hb) Qyv))
 have aA:=Qq (fun p W (hb:Below w w W) (he:J9 (fun _=>True) W p (Sx v))=>hev (fun _=>True) _ _ p W (Y1.move U (.of_below hb) Qyv) he)
 have aB:=Qq V;have aS:=Qq aD
 obtain ⟨n,hn⟩:=eX (v.names.length)
 have bP:n<=1000000:=by rw [<- hn];obtain ⟨_,_,_,h⟩:=V.len;exact h
 rw [hn] at aB hln |-
 have HN:=Qq hn;have aT:=Qq hln
 clear ht ht0 hr hr0 U V aD hsi hev hn hln
 go_enter_defers func71,ntmps71
 go_wp2_with fail
 refine (aC.out _ (U8 _ _ _ _)).mono ?_
 rintro e w1 ⟨rfl,J⟩
 have h0:=(J.block w (by simp;omega)).trans (Yc w _ _ _)
 have h1:=(J.block (w+1) Qxz).trans (Y8 w _ _ _)
 have h2:=(J.block (w+1+1) Qxz).trans (Yz w _ _ _)
 have aO:=Qq ((U8 w _ _ _).thn J)
 obtain ⟨H0,H1,H2⟩:=Qxn h0 h1 h2
 have x3:=rA3 h1;have x4:=rA4 h1
 clear J h0 h1 h2 aC
 go_wp2_with fail
 go_loopw [5,16] (fun p i wr=>∃ k:Nat,k<=n/\i=.int .i64 k/\J9 (fun _=>True) wr p ((v.names.take k).zip (v.kids.take k)).reverse/\Below w1 w1 wr) (fun _ i _=>n - (intOf i).toNat)
 case atStart=>exact ⟨0,Q8 _,rfl,by simp only [List.take_zero,List.zip_nil_left,List.reverse_nil];exact .nil,Qz _ _⟩
 obtain ⟨k,bM,rfl,hE,I⟩:=hrel
 have Z:=Qq I
 have M:=Qq (aO.out.thn I)
 have A:=Qq (kB I H0.out)
 have aL:=Qq (kB I H2.out)
 have y4:=rA4 ((kB I H1.out))
 obtain ⟨q,rfl⟩:=hE.ptr
 have HE:=Qq hE
 clear I hE
 by_cases hlt:k<n
 ·have bI:(0:Int)<=(k:Int):=Qvu
  have bJ:(k:Int)<(n:Int):=Qvu
  have aF:k<v.kids.length:=Qxj aT.out
  have bK:(k:Int)<(v.kids.length:Int):=Qvu
  obtain ⟨x,hx⟩:∃ x,v.names[k]?=some x:=⟨_,Qx (by rw [HN.out];exact hlt)⟩
  obtain ⟨u,hu⟩:∃ u,v.kids[k]?=some u:=⟨_,Qx aF⟩
  obtain ⟨nb,bC,rfl,bO,aH⟩:=(aB.out.below M.out).str hx
  obtain ⟨kb,bB,q3,l3,q4,l4,rfl,bL,aG,d0,d1,d2,d3,d4⟩:=(aS.out.below M.out).val hu
  have HZ:=Qq (zip_snoc v.names v.kids k x u hx hu)
  have aW:=Qq aH;have aV:=Qq aG
  clear hx hu aG aH aF
  go_wp2_with fail
  go_roundw
  case measure=>simp [intOf];omega
  case rel=>
   refine ⟨k+1,Qvu,by go_num,?_,Z.out.alloc (Qxj Z.out.size) _⟩
   rw [HZ.out]
   exact .cons _ q x u q3 l3 q4 l4 _ trivial (Qw _ _) aW.out (Za.move aV.out (.of_below (Ze _ _)) (fun _ _ _=>trivial)) (HE.out.move (.of_below (Ze _ _)) Qyv)
 have aE:k=n:=Qvu
 have hd:decide ((k:Int)<(n:Int))=false:=by simpa using hlt
 have hz:((v.names.take k).zip (v.kids.take k)).reverse=Sx v:=by
  unfold Sx
  rw [aE,<- HN.out,List.take_length,Og]
 rw [hz] at HE
 have aR:=Qq (aA.out (.pointer q) wr M.out HE.out)
 have z4:=rA4 A.out;have z5:=rA5 A.out;have z6:=rA6 A.out;have z7:=rA7 A.out;have z8:=rA8 A.out;have cG:=rA9 A.out;have cD:=rA10 A.out;have cE:=rA11 A.out;have cF:=rA12 A.out
 clear hz aE HE aA
 go_wp2_with fail
 refine aR.out.mono ?_
 rintro e w5 ⟨aX,rfl,Y,O⟩
 have aU:=Qq (truth_ok b _ aX w5 Y)
 obtain ⟨q3,l3,q4,l4,D,_⟩:=Za.cells Y
 simp only [vcs] at D
 subst D
 have aM:=Qq (kB O aL.out)
 have aP:=Qq (M.out.thn O)
 clear Y O
 go_wp2_with fail
 refine aU.out.mono ?_
 rintro e w6 ⟨rfl,T⟩
 have N:=kB T aM.out
 have aQ:=Qq (aP.out.thn T)
 have f0:=fA 0 N;have r0:=rA0 N
 have aN:=Qq N
 clear T N
 go_wp2_with fail
 refine leaves_cons (f:=123) (args:=#[.pointer (some ⟨w+1+1,0,none⟩)]) Qxz (by simp [go_sem]) ?_
 refine (Qqb ⟨w+1+1,0,none⟩ _).mono ?_
 rintro e u' cC ⟨rfl,rfl,rfl⟩
 have hc:(w6.setCell ⟨w+1+1,0,none⟩ (.bool b)).cell? ⟨w+1+1,0,none⟩=some (.bool b):=by
  rw [Qk _ _ 0 _ _ _ (Qi _ _ _ _ _ _ aN.out)]
  rfl
 have hb:Below w w (w6.setCell ⟨w+1+1,0,none⟩ (.bool b)):=aQ.out.setCell (by show w<=w.heap.size+1+1;omega) _
 refine ⟨.bool b,by simp [results,results71,go_sem,hc],rfl,hb⟩
def Dw (s:Sc) (l:List Rel) (r:Rf) (v:Val):Bool:=match Xj v r.column with
 | some u=>(J1 s l r.table [u]).isSome
 | none=>false
theorem Qjo {S:Nat->Prop} {w w6:World} {cs:List Value} {u:Val} {b:Nat} {E:TypeId} (hv:Za S w cs u) (hb:Below w w w6) (hc:w6.heap[b]?=some (.cells cs.toArray E (0,0))):Sl Zc (fun _=>True) w6 (.slice (some ⟨b,0,none⟩) 1 1) [u]:=
 Sl.of_css (css:=[cs]) Qxz (Cs.one (Za.move hv (.of_below hb) (fun _ _ _=>trivial))) trivial (Z8 hc) (fun j x hx=>by
  rw [Nat.zero_add,Qk _ _ _ _ _ _ hc]
  simpa using hx)
theorem Qvo (A B C:Nat) (S S1 S2:Nat->Prop) (s:Sc) (uv tv lv:Value) (l:List Rel) (r:Rf) (rows:List Val) (w:World) (hA0:w.cell? ⟨A,0,none⟩=some (sv r.column)) (hA1:w.cell? ⟨A,1,none⟩=some (sv r.table))
  (hB0:w.cell? ⟨B,0,none⟩=some uv) (hB1:w.cell? ⟨B,1,none⟩=some tv) (hC:w.cell? ⟨C,0,none⟩=some lv) (hs:Vj S1 w [uv,tv] s) (hl:Sl Yx S2 w lv l) (hkl:∀ t ∈ s.tables,t.key.length<=1000):
  Ui prog 120 #[Qxb A,Qxb B,Qxb C] Zc S rows (Dw s l r) w:=by
 intro W v cs hb _ hr
 have aQ:=hs
 obtain ⟨aY,aX,aR,hu,ht⟩:=aQ
 cases aR
 obtain ⟨up,uc,rfl,_⟩:=hu.len
 obtain ⟨tp,tc,rfl,_⟩:=ht.len
 obtain ⟨lp,lc,rfl,aW⟩:=hl.len
 have a0:=kD hb (Qv w _ hA0) hA0
 have a1:=kD hb (Qv w _ hA1) hA1
 have b0:=kD hb (Qv w _ hB0) hB0
 have b1:=kD hb (Qv w _ hB1) hB1
 have c0:=kD hb (Qv w _ hC) hC
 have aM:A<W.heap.size:=Qv _ _ a0
 have aN:B<W.heap.size:=Qv _ _ b0
 have aO:C<W.heap.size:=Qv _ _ c0
 have Z:=hs.below hb
 have Y:=hl.below hb
 have HG:=Qq (fun W' (h':Below W W W')=>Ce S v cs r.column W' (Za.move (show Za S W cs v from hr) (.of_below h') Qyv))
 have aE:=Qq (fun W' (h':Below W W W') (kv:Value) (u:Val) (hk:Sl Zc (fun _=>True) W' kv [u])=>Af S1 S2 (fun _=>True) s _ _ l r.table kv [u] W' (Z.below h') (Y.below h') hk hkl)
 obtain ⟨p3,k3,p4,k4,D,_⟩:=Za.cells (show Za S W cs v from hr)
 simp only [vcs] at D
 subst D
 obtain ⟨res,O⟩:=eX (Dw s l r v)
 rw [O]
 have T:res=(match Xj v r.column with | some u=>(J1 s l r.table [u]).isSome | none=>false):=O.symm
 show Calls prog 120 #[.agg (Qxf v p3 k3 p4 k4),Qxb A,Qxb B,Qxb C] W (fun e w'=>e=.returned (.bool res)/\Below W W w')
 clear O hs hl Z Y hb hr hA0 hA1 hB0 hB1 hC hu ht hkl
 unfold sv at *
 cases hg:Xj v r.column with
 | none=>
  rw [hg] at HG T
  have HR:=Qq (show res=false from T)
  clear T hg
  go_enter func120,ntmps120
  go_wp2_with fail
  refine (HG.out _ (Ze _ _)).mono ?_
  rintro e w1 ⟨U,rfl,J,N⟩
  have M:=Qq ((Ze W _).thn N)
  obtain ⟨q3,l3,q4,l4,D,_⟩:=Za.cells J
  simp only [vcs,Option.getD_none] at D
  subst D
  clear J N
  go_wp2_with fail
  go_ret
  rw [HR.out]
  exact ⟨rfl,M.out.alloc (Qxj M.out.size) _⟩
 | some u=>
  rw [hg] at HG T
  have HR:=Qq (show res=(J1 s l r.table [u]).isSome from T)
  clear T hg
  go_enter func120,ntmps120
  go_wp2_with fail
  refine (HG.out _ (Ze _ _)).mono ?_
  rintro e w1 ⟨U,rfl,J,N⟩
  have I:=(Ze W _).thn N
  obtain ⟨q3,l3,q4,l4,D,_⟩:=Za.cells J
  simp only [vcs,Option.getD_some] at D
  subst D
  have aH:=kC I a1
  have aJ:=kC I b0
  have aV:=kC I b1
  have aL:=kC I c0
  have aG:=Qq J;have M:=Qq I
  have aS:A<w1.heap.size:=Qv _ _ aH
  have aT:B<w1.heap.size:=Qv _ _ aJ
  have aU:C<w1.heap.size:=Qv _ _ aL
  clear a0 a1 b0 b1 c0 N I J aM aN aO
  go_wp2_with fail
  refine (aE.out _ (M.out.thn (Zu _ _ _)) _ u (Qjo aG.out (Zu _ _ _) (Q6 _ _ _))).mono ?_
  rintro e w4 ⟨U,rfl,aA,V⟩
  obtain ⟨q3,l3,q4,l4,D,_⟩:=Za.cells aA
  simp only [vcs] at D
  subst D
  have aD:=Qq (M.out.thn ((Zu w1 _ _).thn V))
  clear aA V
  go_wp2_with fail
  go_ret
  rw [HR.out]
  exact ⟨rfl,aD.out⟩
theorem Te (k:Int) (nm:Bs) (n:Int) (sx:Bs) (names binds:List Bs) (kids:List Ex) (a z:Int) (S:Nat->Prop) (ce:List Value) (vv:Value) (vals:List Val) (w:World) (hN:Mv k nm names binds kids.length) (he:Y1 S w ce (.mk k nm n sx names binds kids a z)) (hl:vals.length=kids.length) (hv0:Sl Zc S w vv vals) (hb:∀ v ∈ vals,Y0 v):
  Calls prog 248 #[ce,vv] w (Xy S w (Xr k nm names vals)):=by
 by_cases h5:k=5
 ·subst h5;exact Sk _ _ _ _ _ _ _ _ _ _ _ _ _ he hv0 hb
 by_cases h9:k=9
 ·subst h9;exact Sj _ _ _ _ _ _ _ _ _ _ _ _ _ he hv0 hb (Qxj hN.few)
 by_cases h6:k=6
 ·subst h6;exact Tn _ _ _ _ _ _ _ _ _ _ _ _ _ he hv0 hb (hN.words rfl).1 (hN.words rfl).2 hN.fewn
 by_cases h8:k=8
 ·subst h8
  have:=hN.fld rfl
  exact O9 _ _ _ _ _ _ _ _ _ _ _ _ _ he hv0 hb (vals[0]'Qvu) (Qx Qvu)
 by_cases h7:k=7
 ·subst h7
  obtain ⟨h1,h2⟩:=hN.one rfl
  obtain ⟨x1,rfl⟩:=List.length_eq_one_iff.1 h1
  rw [h2] at hl
  match vals,hl with
  | [v0,v1],_=>exact Ps _ _ _ _ _ _ _ _ _ _ _ _ _ he hv0 hb x1 rfl v0 v1 rfl
 exact Pu k _ _ _ _ _ _ _ _ _ _ _ _ _ he hv0 hb h5 h9 h6 h8 h7
def Y5:Nat->Ex->List Bs->List Val->Option Val
 | 0,_,_,_=>none
 | d+1,.mk k nm n s names binds kids _ _,ns,vs=>
  if k=0 then some (Vr n)
  else if k=1 then (if s.length<=4096 then some (Cc s) else none)
  else if k=2 then some (Jy (decide (n=1)))
  else if k=3 then Mx nm ns vs ns.length
  else if k=11 then (kids[0]?.bind fun x=>Y5 d x ns vs).bind fun v=>kids[1]?.bind fun x=>Y5 d x (ns++[nm]) (vs++[v])
  else if k=12 then (kids[0]?.bind fun x=>Y5 d x ns vs).bind fun v=>if v.kind=2 then (if v.n=1 then kids[1]? else kids[2]?).bind fun x=>Y5 d x ns vs else none
  else if k=13 then Ev (Y5 d) names binds kids ns vs
  else if k=14 then opV (fun x=>Y5 d x ns vs) nm kids
  else (G7 (fun x=>Y5 d x ns vs) kids).bind (Xr k nm names)
section
variable {d:Nat} {nm s:Bs} {n a z:Int} {names binds:List Bs} {kids:List Ex} {x0 x1 x2:Ex} {ns:List Bs} {vs:List Val}
theorem revF_let (h0:kids[0]?=some x0) (h1:kids[1]?=some x1):Y5 (d+1) (.mk 11 nm n s names binds kids a z) ns vs=(Y5 d x0 ns vs).bind fun v=>Y5 d x1 (ns++[nm]) (vs++[v]):=by
 rw [Y5,if_neg Qxv,if_neg Qxv,if_neg Qxv,if_neg Qxv,if_pos rfl,h0,h1];rfl
theorem revF_if (h0:kids[0]?=some x0) (h1:kids[1]?=some x1) (h2:kids[2]?=some x2):Y5 (d+1) (.mk 12 nm n s names binds kids a z) ns vs=(Y5 d x0 ns vs).bind fun v=>if v.kind=2 then (if v.n=1 then Y5 d x1 ns vs else Y5 d x2 ns vs) else none:=by
 rw [Y5,if_neg Qxv,if_neg Qxv,if_neg Qxv,if_neg Qxv,if_neg Qxv,if_pos rfl,h0,h1,h2]
 show (Y5 d x0 ns vs).bind _=_
 congr 1
 funext v
 by_cases hk:v.kind=2
 ·rw [if_pos hk,if_pos hk]
  by_cases hn:v.n=1
  ·rw [if_pos hn,if_pos hn];rfl
  rw [if_neg hn,if_neg hn];rfl
 rw [if_neg hk,if_neg hk]
theorem revF_mat:Y5 (d+1) (.mk 13 nm n s names binds kids a z) ns vs=Ev (Y5 d) names binds kids ns vs:=by
 rw [Y5,if_neg Qxv,if_neg Qxv,if_neg Qxv,if_neg Qxv,if_neg Qxv,if_neg Qxv,if_pos rfl]
theorem revF_op:Y5 (d+1) (.mk 14 nm n s names binds kids a z) ns vs=opV (fun x=>Y5 d x ns vs) nm kids:=by
 rw [Y5,if_neg Qxv,if_neg Qxv,if_neg Qxv,if_neg Qxv,if_neg Qxv,if_neg Qxv,if_neg Qxv,if_pos rfl]
theorem Qve {k:Int} (q0:k≠0) (q1:k≠1) (q2:k≠2) (q3:k≠3) (q11:k≠11) (q12:k≠12) (q13:k≠13) (q14:k≠14):Y5 (d+1) (.mk k nm n s names binds kids a z) ns vs=(G7 (fun x=>Y5 d x ns vs) kids).bind (Xr k nm names):=by
 rw [Y5,if_neg q0,if_neg q1,if_neg q2,if_neg q3,if_neg q11,if_neg q12,if_neg q13,if_neg q14]
end
def Xi (d:Nat) (e:Ex):Prop:=∀ (S:Nat->Prop) (ce:List Value) (nv vv:Value) (names:List Bs) (vals:List Val) (w:World),Y1 S w ce e->Sl Zg S w nv names->Sl Zc S w vv vals->names.length<=vals.length->vals.length+d<=1000->(∀ v ∈ vals,Y0 v) ->
 Calls prog 200 #[ce,nv,vv] w (Xy S w (Y5 d e names vals))
theorem J5 {S:Nat->Prop} {w W1 w2:World} {r:Option Val} {R:Nat} {k n:Int} {s:ByteArray} {p3:Option Addr} {n3 k3:Nat} {p4:Option Addr} {n4 k4:Nat} {b:Bool} (hB1:Below w w W1) (hR:w<=R) (hR1:R<W1) (hv:EvS (fun c=>(S c/\c<w)\/W1<=c) w2 [k,n,.string s,.slice p3 n3 k3,.slice p4 n4 k4] r b) (hB2:Below W1 W1 w2):
  Xy S w r (.returned (.tuple #[.agg #[k,n,.string s,.slice p3 n3 k3,.slice p4 n4 k4],.bool b])) (Zp w2 R k n (.string s) (.slice p3 n3 k3) (.slice p4 n4 k4)):=by
 have hs:=hB1.size
 exact ⟨k,n,s,p3,n3,k3,p4,n4,k4,b,rfl,hv.map fun v h1=>h1.move (fun c A _=>Zi (by rcases A with h | h;exact (by have:=h.2;omega);omega)) (fun c _ A=>by rcases A with h | h;exact .inl h.1;exact .inr Qvu),Zf (hB1.thn hB2) hR⟩
theorem Xs {S:Nat->Prop} {w w2:World} {r:Option Val} {R:Nat} {k n:Int} {s:ByteArray} {p3:Option Addr} {n3 k3:Nat} {p4:Option Addr} {n4 k4:Nat} (hR:w<=R) (hB2:Below w w w2) (hr:r=none):
  Xy S w r (.returned (.tuple #[.agg #[k,n,.string s,.slice p3 n3 k3,.slice p4 n4 k4],.bool false])) (Zp w2 R k n (.string s) (.slice p3 n3 k3) (.slice p4 n4 k4)):=
 ⟨k,n,s,p3,n3,k3,p4,n4,k4,false,rfl,.no hr,Zf hB2 hR⟩
theorem Dj {S:Nat->Prop} {w w2:World} {r:Option Val} {R:Nat} {k n:Int} {s:ByteArray} {p3:Option Addr} {n3 k3:Nat} {p4:Option Addr} {n4 k4:Nat} {b:Bool} (hR:w<=R) (hB2:Below w w w2) (hv:EvS (fun c=>(S c/\c<w)\/R<c) w2 [k,n,.string s,.slice p3 n3 k3,.slice p4 n4 k4] r b):
  Xy S w r (.returned (.tuple #[.agg #[k,n,.string s,.slice p3 n3 k3,.slice p4 n4 k4],.bool b])) (Zp w2 R k n (.string s) (.slice p3 n3 k3) (.slice p4 n4 k4)):=
 ⟨k,n,s,p3,n3,k3,p4,n4,k4,b,rfl,hv.map fun v h1=>h1.move (fun c A _=>Zi (by rcases A with h | h;exact (by have:=h.2;omega);omega)) (fun c _ A=>by rcases A with h | h;exact .inl h.1;exact .inr Qvu),Zf hB2 hR⟩
theorem Xy.sub {S:Nat->Prop} {w W1:World} {r:Option Val} {e:Ending} {w2:World} (h:Xy (fun c=>S c/\c<w) W1 r e w2):∃ (k n:Int) (s:ByteArray) (p3:Option Addr) (n3 k3:Nat) (p4:Option Addr) (n4 k4:Nat) (b:Bool),
  e=.returned (.tuple #[.agg #[k,n,.string s,.slice p3 n3 k3,.slice p4 n4 k4],.bool b])/\EvS (fun c=>(S c/\c<w)\/W1<=c) w2 [k,n,.string s,.slice p3 n3 k3,.slice p4 n4 k4] r b/\Below W1 W1 w2:=h
theorem Xy.drew {S:Nat->Prop} {w W:World} {r:Option Val} {e:Ending} (h:Xy S w r e W):Xy S w r e W.drew:=by
 obtain ⟨k,n,s,p3,n3,k3,p4,n4,k4,b,he,hv,hb⟩:=h
 exact ⟨k,n,s,p3,n3,k3,p4,n4,k4,b,he,hv.map fun v h1=>h1.move (fun _ _ _=>rfl) Qyv,hb.drew⟩
theorem Ed (b:Bool) (w:World):Calls prog 244 #[.bool b] w fun e w'=>∃ X:Int,X=(if b then 1 else 0)/\e=.returned (.tuple #[.agg #[.int .i64 2,X,Qxd,Qxe,Qxe],.bool true])/\Below w w w':=
 (At b w).mono fun _ _ ⟨h1,h2⟩=>⟨_,rfl,h1,h2⟩
theorem Ay (n:Int) (w:World):Calls prog 243 #[n] w fun e w'=>∃ X:Int,X=n/\e=.returned (.tuple #[.agg #[Qxc,X,Qxd,Qxe,Qxe],.bool true])/\Below w w w':=
 (Hk n w).mono fun _ _ ⟨h1,h2⟩=>⟨n,rfl,h1,h2⟩
theorem G5 {X:Int} {b:Bool} (h:X=if b then 1 else 0):Y0 (.mk 2 X [] [] []):=.mk _ _ _ _ _ (fun _=>by rw [h];cases b <;> simp) (fun x h=>by simp at h)
theorem Qvn (nm:Bs) (n:Int) (s:Bs) (names binds:List Bs) (kids:List Ex) (a z:Int) (d:Nat) (ih:∀ x ∈ kids,Xi d x) :∀ (S:Nat->Prop) (ce:List Value) (nv vv:Value) (ns:List Bs) (vs:List Val) (w:World),Y1 S w ce (.mk 0 nm n s names binds kids a z)->Sl Zg S w nv ns->Sl Zc S w vv vs->ns.length<=vs.length->vs.length+(d+1)<=1000->(∀ v ∈ vs,Y0 v) ->
  Calls prog 200 #[ce,nv,vv] w (Xy S w (Y5 (d+1) (.mk 0 nm n s names binds kids a z) ns vs)):=by
 intro S ce nv vv ns vs w aA Y Z I hd hb
 obtain ⟨r,hr⟩:=eX (Y5 (d+1) (.mk 0 nm n s names binds kids a z) ns vs)
 rw [hr]
 have HR:=Qq hr
 clear hr
 have hx:Y1 (fun b=>S b/\b<w) w ce (.mk 0 nm n s names binds kids a z):=aA.move (.refl _ _) (fun b hb h=>⟨h,hb⟩)
 have hn:=Y.up
 have hv:=Z.up
 obtain ⟨np,nc,rfl,_⟩:=hn.len
 obtain ⟨vp,vc,rfl,aT⟩:=hv.len
 have aP:=Qq hx
 obtain ⟨aU,bv,kv,rfl,aR,aS,T,O,hk⟩:=Yd.1 hx
 obtain ⟨p1,c1,rfl,_⟩:=T.len
 obtain ⟨p2,c2,rfl,_⟩:=O.len
 obtain ⟨p3,c3,rfl,aQ⟩:=hk.len
 obtain ⟨HN,HV,aM,aN,aL,HK,HI,aK⟩:=Qxt hn hv hb T O hk ih I
 clear aA Y Z hx hn hv T O hk hb ih I
 unfold sv at *
 go_enter func200,ntmps200
 go_upto_region 3 with fail
 generalize A:(w.alloc _).alloc _=W1
 have U:=eqB A (Zu _ _ _)
 have J:=eqH (b:=w.heap.size) A (Q5 _ _ _)
 have M:=eqH (b:=w.heap.size+1) A (Q6 _ _ _)
 obtain ⟨aB,aO,aD⟩:=Qxn U J M
 have V:=Z8 M
 obtain ⟨c0,c1,c2,c3,c4,c5,c6,c7,c8⟩:=row9 J
 clear A U J M
 go_wp2_with (go_at_call 243;refine (Hk _ _).mono ?_;rintro e w5 ⟨rfl,N⟩;have D:=kE N V aD.out;obtain ⟨y0,y1,y2,y3,y4⟩:=row5 D;obtain ⟨f0,f1,f2,f3,f4⟩:=frz5 D;have aE:=Qq D;have aC:=Qq N;clear D N)
 show bodyPost _ _ _ _ _ (Zp w5 (w+1) Qxc n Qxd Qxe Qxe)
 refine Q7 (v:=.tuple #[.agg #[Qxc,n,Qxd,Qxe,Qxe],.bool true]) (by simp [results,results200,go_sem,Zd aE.out]) rfl (J5 aB.out Qvu V (.yes (Yi (s:=[]) Qxz (Sl.nil _ _ _) (Sl.nil _ _ _)) (Ld n) (by rw [<- HR.out];rfl)) aC.out)
theorem Pc (nm:Bs) (n:Int) (s:Bs) (names binds:List Bs) (kids:List Ex) (a z:Int) (d:Nat) (ih:∀ x ∈ kids,Xi d x) (hq:(s.length:Int)<=4096):∀ (S:Nat->Prop) (ce:List Value) (nv vv:Value) (ns:List Bs) (vs:List Val) (w:World),Y1 S w ce (.mk 1 nm n s names binds kids a z)->Sl Zg S w nv ns->Sl Zc S w vv vs->ns.length<=vs.length->vs.length+(d+1)<=1000->(∀ v ∈ vs,Y0 v) ->
  Calls prog 200 #[ce,nv,vv] w (Xy S w (Y5 (d+1) (.mk 1 nm n s names binds kids a z) ns vs)):=by
 intro S ce nv vv ns vs w Z V Y I hd hb
 obtain ⟨r,hr⟩:=eX (Y5 (d+1) (.mk 1 nm n s names binds kids a z) ns vs)
 rw [hr]
 have HR:=Qq hr
 clear hr
 have hx:Y1 (fun b=>S b/\b<w) w ce (.mk 1 nm n s names binds kids a z):=Z.move (.refl _ _) (fun b hb h=>⟨h,hb⟩)
 have hn:=V.up
 have hv:=Y.up
 obtain ⟨np,nc,rfl,_⟩:=hn.len
 obtain ⟨vp,vc,rfl,aS⟩:=hv.len
 have aP:=Qq hx
 obtain ⟨aT,bv,kv,rfl,aR,aH,O,N,hk⟩:=Yd.1 hx
 obtain ⟨p1,c1,rfl,_⟩:=O.len
 obtain ⟨p2,c2,rfl,_⟩:=N.len
 obtain ⟨p3,c3,rfl,aQ⟩:=hk.len
 obtain ⟨HN,HV,aM,aN,aL,HK,HI,aK⟩:=Qxt hn hv hb O N hk ih I
 clear Z V Y hx hn hv O N hk hb ih I
 unfold sv at *
 go_enter func200,ntmps200
 go_upto_region 5 with fail
 generalize D:(w.alloc _).alloc _=W1
 have U:=eqB D (Zu _ _ _)
 have J:=eqH (b:=w.heap.size) D (Q5 _ _ _)
 have M:=eqH (b:=w.heap.size+1) D (Q6 _ _ _)
 obtain ⟨aA,aO,aB⟩:=Qxn U J M
 have aE:=Z8 M
 obtain ⟨c0,c1,c2,c3,c4,c5,c6,c7,c8⟩:=row9 J
 clear D U J M
 have A:=kE (Qz W1 W1) aE aB.out
 obtain ⟨y0,y1,y2,y3,y4⟩:=row5 A
 obtain ⟨f0,f1,f2,f3,f4⟩:=frz5 A
 have T:=Qq A
 clear A
 go_region_with fail
 all_goals
  go_wp2_with fail
  show bodyPost _ _ _ _ _ (Zp W1 (w+1) (.int .i64 1) Qxc s Qxe Qxe).drew
  refine Q7 (v:=.tuple #[.agg #[.int .i64 1,Qxc,s,Qxe,Qxe],.bool true]) (by simp [results,results200,go_sem,Zd T.out]) rfl (Dj Qvu aA.out (.yes (Yi aH (Sl.nil _ _ _) (Sl.nil _ _ _)) (.mk _ _ _ _ _ (fun h=>by cases h) (fun x h=>by simp at h)) (by rw [<- HR.out];unfold Y5;rw [if_neg Qxv,if_pos rfl,if_pos Qvu];rfl))).drew
theorem O2 (nm:Bs) (n:Int) (s:Bs) (names binds:List Bs) (kids:List Ex) (a z:Int) (d:Nat) (ih:∀ x ∈ kids,Xi d x) (hq:decide ((s.length:Int)<=4096)=false):∀ (S:Nat->Prop) (ce:List Value) (nv vv:Value) (ns:List Bs) (vs:List Val) (w:World),Y1 S w ce (.mk 1 nm n s names binds kids a z)->Sl Zg S w nv ns->Sl Zc S w vv vs->ns.length<=vs.length->vs.length+(d+1)<=1000->(∀ v ∈ vs,Y0 v) ->
  Calls prog 200 #[ce,nv,vv] w (Xy S w (Y5 (d+1) (.mk 1 nm n s names binds kids a z) ns vs)):=by
 intro S ce nv vv ns vs w Z V Y I hd hb
 obtain ⟨r,hr⟩:=eX (Y5 (d+1) (.mk 1 nm n s names binds kids a z) ns vs)
 rw [hr]
 have HR:=Qq hr
 clear hr
 have aB:Hid (r=none):=Qq (by rw [<- HR.out];unfold Y5;rw [if_neg Qxv,if_pos rfl,if_neg (by have:=of_decide_eq_false hq;omega)])
 have hx:Y1 (fun b=>S b/\b<w) w ce (.mk 1 nm n s names binds kids a z):=Z.move (.refl _ _) (fun b hb h=>⟨h,hb⟩)
 have hn:=V.up
 have hv:=Y.up
 obtain ⟨np,nc,rfl,_⟩:=hn.len
 obtain ⟨vp,vc,rfl,aT⟩:=hv.len
 have aP:=Qq hx
 obtain ⟨aU,bv,kv,rfl,aR,aS,O,N,hk⟩:=Yd.1 hx
 obtain ⟨p1,c1,rfl,_⟩:=O.len
 obtain ⟨p2,c2,rfl,_⟩:=N.len
 obtain ⟨p3,c3,rfl,aQ⟩:=hk.len
 obtain ⟨HN,HV,aM,aN,aL,HK,HI,aK⟩:=Qxt hn hv hb O N hk ih I
 clear Z V Y hx hn hv O N hk hb ih I
 unfold sv at *
 go_enter func200,ntmps200
 go_upto_region 5 with fail
 generalize D:(w.alloc _).alloc _=W1
 have U:=eqB D (Zu _ _ _)
 have J:=eqH (b:=w.heap.size) D (Q5 _ _ _)
 have M:=eqH (b:=w.heap.size+1) D (Q6 _ _ _)
 obtain ⟨aA,aO,aC⟩:=Qxn U J M
 have aF:=Z8 M
 obtain ⟨c0,c1,c2,c3,c4,c5,c6,c7,c8⟩:=row9 J
 clear D U J M
 have A:=kE (Qz W1 W1) aF aC.out
 obtain ⟨y0,y1,y2,y3,y4⟩:=row5 A
 obtain ⟨f0,f1,f2,f3,f4⟩:=frz5 A
 have T:=Qq A
 clear A
 go_region_with fail
 all_goals
  go_wp2_with fail
  show bodyPost _ _ _ _ _ (Zp W1 (w+1) (.int .i64 1) Qxc s Qxe Qxe).drew
  refine Q7 (v:=.tuple #[.agg #[.int .i64 1,Qxc,s,Qxe,Qxe],.bool false]) (by simp [results,results200,go_sem,Zd T.out]) rfl (Xs Qvu aA.out aB.out).drew
theorem Wu (nm:Bs) (n:Int) (s:Bs) (names binds:List Bs) (kids:List Ex) (a z:Int) (d:Nat) (ih:∀ x ∈ kids,Xi d x) :∀ (S:Nat->Prop) (ce:List Value) (nv vv:Value) (ns:List Bs) (vs:List Val) (w:World),Y1 S w ce (.mk 2 nm n s names binds kids a z)->Sl Zg S w nv ns->Sl Zc S w vv vs->ns.length<=vs.length->vs.length+(d+1)<=1000->(∀ v ∈ vs,Y0 v) ->
  Calls prog 200 #[ce,nv,vv] w (Xy S w (Y5 (d+1) (.mk 2 nm n s names binds kids a z) ns vs)):=by
 intro S ce nv vv ns vs w aB Z aA I hd hb
 obtain ⟨r,hr⟩:=eX (Y5 (d+1) (.mk 2 nm n s names binds kids a z) ns vs)
 rw [hr]
 have HR:=Qq hr
 clear hr
 have hx:Y1 (fun b=>S b/\b<w) w ce (.mk 2 nm n s names binds kids a z):=aB.move (.refl _ _) (fun b hb h=>⟨h,hb⟩)
 have hn:=Z.up
 have hv:=aA.up
 obtain ⟨np,nc,rfl,_⟩:=hn.len
 obtain ⟨vp,vc,rfl,aU⟩:=hv.len
 have aQ:=Qq hx
 obtain ⟨aV,bv,kv,rfl,aS,aT,T,O,hk⟩:=Yd.1 hx
 obtain ⟨p1,c1,rfl,_⟩:=T.len
 obtain ⟨p2,c2,rfl,_⟩:=O.len
 obtain ⟨p3,c3,rfl,aR⟩:=hk.len
 obtain ⟨HN,HV,aN,aO,aM,HK,HI,aL⟩:=Qxt hn hv hb T O hk ih I
 clear aB Z aA hx hn hv T O hk hb ih I
 unfold sv at *
 go_enter func200,ntmps200
 go_upto_region 7 with fail
 generalize A:(w.alloc _).alloc _=W1
 have V:=eqB A (Zu _ _ _)
 have J:=eqH (b:=w.heap.size) A (Q5 _ _ _)
 have M:=eqH (b:=w.heap.size+1) A (Q6 _ _ _)
 obtain ⟨aC,aP,aE⟩:=Qxn V J M
 have Y:=Z8 M
 obtain ⟨c0,c1,c2,c3,c4,c5,c6,c7,c8⟩:=row9 J
 clear A V J M
 go_wp2_with (go_at_call 244;refine (Ed _ _).mono ?_;rintro e w5 ⟨X,hX,rfl,N⟩;have U:=Qq hX;clear hX;have D:=kE N Y aE.out;obtain ⟨y0,y1,y2,y3,y4⟩:=row5 D;obtain ⟨f0,f1,f2,f3,f4⟩:=frz5 D;have aF:=Qq D;have aD:=Qq N;clear D N)
 show bodyPost _ _ _ _ _ (Zp w5 (w+1) (.int .i64 2) X Qxd Qxe Qxe)
 refine Q7 (v:=.tuple #[.agg #[.int .i64 2,X,Qxd,Qxe,Qxe],.bool true]) (by simp [results,results200,go_sem,Zd aF.out]) rfl (J5 aC.out Qvu Y (.yes (Ts _ _ _) (G5 U.out) (by rw [<- HR.out,U.out];unfold Y5;rw [if_neg Qxv,if_neg Qxv,if_pos rfl];rfl)) aD.out)
theorem Qkt (nm:Bs) (n:Int) (s:Bs) (names binds:List Bs) (kids:List Ex) (a z:Int) (d:Nat) (ih:∀ x ∈ kids,Xi d x) :∀ (S:Nat->Prop) (ce:List Value) (nv vv:Value) (ns:List Bs) (vs:List Val) (w:World),Y1 S w ce (.mk 3 nm n s names binds kids a z)->Sl Zg S w nv ns->Sl Zc S w vv vs->ns.length<=vs.length->vs.length+(d+1)<=1000->(∀ v ∈ vs,Y0 v) ->
  Calls prog 200 #[ce,nv,vv] w (Xy S w (Y5 (d+1) (.mk 3 nm n s names binds kids a z) ns vs)):=by
 intro S ce nv vv ns vs w aZ aW aX O hd hb
 obtain ⟨r,hr⟩:=eX (Y5 (d+1) (.mk 3 nm n s names binds kids a z) ns vs)
 rw [hr]
 have HR:=Qq hr
 clear hr
 have hx:Y1 (fun b=>S b/\b<w) w ce (.mk 3 nm n s names binds kids a z):=aZ.move (.refl _ _) (fun b hb h=>⟨h,hb⟩)
 have hn:=aW.up
 have Y:=aX.up
 obtain ⟨np,nc,rfl,_⟩:=hn.len
 obtain ⟨vp,vc,rfl,cE⟩:=Y.len
 have bW:=Qq hx
 obtain ⟨cF,bv,kv,rfl,cC,cD,aE,aD,hk⟩:=Yd.1 hx
 obtain ⟨p1,c1,rfl,_⟩:=aE.len
 obtain ⟨p2,c2,rfl,_⟩:=aD.len
 obtain ⟨p3,c3,rfl,cA⟩:=hk.len
 obtain ⟨HN,HV,bD,bV,bU,HK,HI,aG⟩:=Qxt hn Y hb aE aD hk ih O
 clear aZ aW aX hx hn Y aE aD hk hb ih O
 unfold sv at *
 obtain ⟨m,hm⟩:=eX (ns.length)
 rw [hm] at HN |-
 have HM:=Qq hm
 have O:=aG.out
 rw [hm] at O
 have cB:m<=1000:=Qvu
 clear hm
 go_enter func200,ntmps200
 go_upto_region 9 with fail
 generalize V:(w.alloc _).alloc _=W1
 have aS:=eqB V (Zu _ _ _)
 have aQ:=eqH (b:=w.heap.size) V (Q5 _ _ _)
 have aC:=eqH (b:=w.heap.size+1) V (Q6 _ _ _)
 obtain ⟨U,bH,aH⟩:=Qxn aS aQ aC
 have aV:=Z8 aC
 clear V aS aQ aC
 go_upto_region 10 with fail
 go_loopw [8] (fun i wr=>∃ (k:Nat) (j:Int),k<=m/\j=(k:Int) - 1/\i=.int .i64 j/\Aside (r=Mx nm ns vs k)/\Aside (Below W1 W1 wr)) (fun i _=>(intOf i+1).toNat)
 case atStart=>exact ⟨m,_,Q9 _,rfl,by go_num,(by rw [<- HR.out,<- HM.out];rfl),Qz _ _⟩
 obtain ⟨k,j,hk,hj,rfl,aU,aP⟩:=hrel
 have aA:=Qq (show r=Mx nm ns vs k from aU)
 clear aU
 have A:=Qq (show Below W1 W1 wr from aP)
 clear aP
 by_cases hk0:k=0
 ·have bN:decide (0<=j)=false:=by simp;omega
  clear hk hj
  have N:=kE A.out aV aH.out
  obtain ⟨y0,y1,y2,y3,y4⟩:=row5 N
  obtain ⟨f0,f1,f2,f3,f4⟩:=frz5 N
  have aJ:=Qq N
  clear N
  go_wp2_with fail
  show bodyPost _ _ _ _ _ (Zp wr (w+1) Qxc Qxc Qxd Qxe Qxe)
  refine Q7 (v:=.tuple #[.agg zV,.bool false]) (by simp [results,results200,go_sem,Zd aJ.out]) rfl (Xs Qvu (U.out.thn A.out) (by rw [aA.out,hk0];rfl))
 obtain ⟨T,rfl⟩:∃ T,k=T+1:=⟨k - 1,Qvu⟩
 obtain rfl:j=(T:Int):=Qvu
 have bN:decide ((0:Int)<=(T:Int))=true:=Qxz
 have bX:(0:Int)<=(T:Int):=Qvu
 have bY:(T:Int)<(m:Int):=Qvu
 have bZ:(T:Int)<(vs.length:Int):=Qvu
 obtain ⟨y,hy⟩:∃ y,ns[T]?=some y:=⟨_,Qx (by rw [HM.out];omega)⟩
 obtain ⟨v,Y⟩:∃ v,vs[T]?=some v:=⟨_,Qx Qvu⟩
 obtain ⟨nb,bS,rfl,bA,-⟩:=(HN.out.below (U.out.thn A.out)).str hy
 obtain ⟨vb,bT,q3,l3,q4,l4,rfl,I,aY,d0,d1,d2,d3,d4⟩:=(HV.out.below (U.out.thn A.out)).val Y
 have aR:=kB A.out bH.out
 have c1:=rA1 aR
 have bG:=Qq aY;have bE:=Qq (bD.out v (Qy Y))
 have D:=Qq (Qe I (Qe d0 (Qe d1 (Qe d2 (Qe d3 d4)))))
 have aB:=Qq (Qe hy Y)
 clear hy Y aR aY d0 d1 d2 d3 d4 I hj
 by_cases he:y=nm
 ·subst he
  have hq:(y==y)=true:=Qxz
  go_wp2_with fail
  go_quiet (fail)
  obtain ⟨wq,aF⟩:=eX (wr.drewN nq)
  have J:Below wr wr wq:=by rw [<- aF];exact Zn _ _
  rw [aF]
  have Z:=Qq J
  obtain ⟨I,aK,aL,aM,aN,aO⟩:=D.out
  have d0:=kD J I aK;have d1:=kD J I aL;have d2:=kD J I aM;have d3:=kD J I aN;have d4:=kD J I aO
  clear aF J aK aL aM aN aO bA c1
  have M:=kE (A.out.thn Z.out) aV aH.out
  obtain ⟨y0,y1,y2,y3,y4⟩:=row5 M
  obtain ⟨f0,f1,f2,f3,f4⟩:=frz5 M
  have aI:=Qq M
  clear M
  go_wp2_with fail
  show bodyPost _ _ _ _ _ (Qxl wq (w+1) v q3 l3 q4 l4)
  refine Q7 (v:=.tuple #[.agg (Qxf v q3 l3 q4 l4),.bool true]) (by simp [results,results200,go_sem,Zd aI.out]) rfl (Dj Qvu ((U.out.thn A.out).thn Z.out) (.yes (bG.out.move (.of_below Z.out) (fun _ _ h=>.inl h)) bE.out (by rw [aA.out,Mx,if_pos aB.out.1];exact aB.out.2)))
 have hq:(y==nm)=false:=by rw [<- Qt,beq_iff_eq];exact he
 have bF:Hid (r=Mx nm ns vs T):=Qq (by
  rw [aA.out,Mx,if_neg]
  rw [aB.out.1]
  intro h9
  exact he (Qb h9))
 clear he
 go_wp2_with fail
 go_quiet (fail)
 clear bA c1
 go_wp2_with fail
 go_roundw
 case measure=>simp [intOf]
 case rel=>exact ⟨T,(T:Int) - 1,Qvu,rfl,rfl,bF.out,A.out.thn (Zn _ _)⟩
theorem Sl.ty {S:Nat->Prop} {w:World} {p:Option Addr} {n cap:Nat} {xs:List Ty} (h:Sl Jo S w (.slice p n cap) xs) {i:Nat} {x:Ty} (hx:xs[i]?=some x):
  ∃ b off tk ts tn t3 n3 l3 t4 n4 l4,p=some ⟨b,off,none⟩/\b<w.heap.size/\Xc S w [.int .i64 tk,.string ts,.int .i64 tn,.slice t3 n3 l3,.slice t4 n4 l4] x/\Qyg w b (off+i*5) (.int .i64 tk) (.string ts) (.int .i64 tn) (.slice t3 n3 l3) (.slice t4 n4 l4):=by
 obtain ⟨q,J,e,hl,hh⟩:=h
 have I:xs≠[]:=by intro h0;subst h0;simp at hx
 obtain ⟨b,off,hq,hS,hb,hc⟩:=hh I
 obtain ⟨cs,A,hr⟩:=hc i x hx
 have D:Xc S w cs x:=hr
 obtain ⟨tk,ts,tn,t3,n3,l3,t4,n4,l4,rfl⟩:=D.cells
 cases e
 exact ⟨b,off,tk,ts,tn,t3,n3,l3,t4,n4,l4,hq,hb,D,A 0 _ rfl,A 1 _ rfl,A 2 _ rfl,A 3 _ rfl,A 4 _ rfl⟩
theorem Qvr {A B:Type} {p:A->B->Bool} {a:List A} {b:List B} {k:Nat} {x:A} {y:B} (hx:a[k]?=some x) (hy:b[k]?=some y):eqL p (a.drop k) (b.drop k)=(p x y&&eqL p (a.drop (k+1)) (b.drop (k+1))):=by
 obtain ⟨h1,e1⟩:=Qj hx
 obtain ⟨h2,e2⟩:=Qj hy
 rw [Qp h1,Qp h2,e1,e2];rfl
theorem rhasRec (us:List Sm) (v:Val) (s:Bs) (names:List Bs) (kids:List Ty) (p:Val->Ty->Bool) (hkl:kids.length=names.length) (hvl:v.kind=4->v.kids.length=v.names.length) (hp:∀ x ∈ v.kids,∀ y ∈ kids,Do us x y (p x y)):Do us v (.mk 5 s 0 names kids) ((v.kind==4)&&decide (v.names=names)&&eqL p v.kids kids):=by
 intro S S' bS cv ct uv w hu hv ht
 obtain ⟨up,uc,rfl,_⟩:=hu.len
 obtain ⟨p3,k3,p4,k4,aN,aF,U,_⟩:=Za.cells hv
 simp only [vcs] at aN
 subst aN
 obtain ⟨q3,l3,q4,l4,rfl,aE,aD⟩:=ht.cells'
 have mixed:prog.follows .mixedOrders=true:=Qxx
 by_cases h4:v.kind=4
 ·have Z:=Qq (fun W (hb:Below w w W)=>Wq S S' _ _ v.names names W (aF.below hb) (aE.below hb))
  have hq:(v.kind==4)=true:=by rw [h4];rfl
  rw [hq,Bool.true_and]
  have bI:=hvl h4
  rw [h4]
  obtain ⟨m,hm⟩:=eX (v.kids.length)
  have D:decide (v.names=names)=true->kids.length=m:=fun h=>by have:=of_decide_eq_true h;rw [hkl,<- this];omega
  obtain ⟨bn,aM⟩:=eX (decide (v.names=names))
  rw [aM] at Z D |-
  obtain ⟨r,hr⟩:=eX (eqL p v.kids kids)
  rw [hr]
  obtain ⟨HR,aI,aH,HU,HP,HM⟩:=Qxr hr U aD hu hp hm
  obtain ⟨_,_,_,bJ⟩:=U.len
  rw [hm] at bJ
  obtain ⟨Y,T⟩:=eX (kids.length)
  have N:names.length=Y:=Qvu
  rw [hm] at aI |-;rw [T] at aH D;simp only [N] at Z;rw [T,N]
  have bK:((Y:Int) != (Y:Int))=false:=Qxz
  have aG:=Qq T;have HD:=Qq D
  clear hu hv ht aF U aE aD hp hq bI hr hvl D aM hm hkl T N
  go_enter func198,ntmps198
  go_wp2_with fail
  refine (Z.out _ (Vs _ _ _).bl).mono ?_
  rintro e w1 ⟨rfl,O⟩
  have aA:=(O.bl.block w (by simp;omega)).trans (Q5 w _ _)
  have aB:=(O.bl.block (w+1) Qxz).trans (Q6 w _ _)
  have aO:Gr w w1:=(Vs _ _ _).thn O
  have HG:=Qq aO
  have bG:=Z8 aA;have bH:=Z8 aB
  have c4:=rA4 aA;have d4:=rA4 aB
  clear O aA aB aO
  cases bn with
  | false=>
   go_wp2_with fail
   go_ret
   exact ⟨rfl,HG.out⟩
  | true=>
   obtain rfl:Y=m:=HD.out rfl
   have bB:=Qq c4;have bC:=Qq d4
   go_wp2_with fail
   clear c4 d4 bK
   go_loopw [8] (fun i wr=>∃ k:Nat,k<=Y/\i=.int .i64 k/\Aside (eqL p (v.kids.drop k) (kids.drop k)=r)/\Aside (Gr w1 wr)) (fun i _=>Y - (intOf i).toNat)
   case atStart=>exact ⟨0,Q8 _,rfl,HR.out,Gr.refl _⟩
   obtain ⟨k,hk,rfl,hc,aJ⟩:=hrel
   have A:=Qq (show Gr w1 wr from aJ);have HC:=Qq (show eqL p (v.kids.drop k) (kids.drop k)=r from hc)
   have aK:w.heap.size<wr.heap.size:=Qxj A.out.bl.size
   have aL:w.heap.size+1<wr.heap.size:=Qxj A.out.bl.size
   have c4:=kD A.out.bl bG bB.out
   have d4:=kD A.out.bl bH bC.out
   clear aJ hc
   by_cases hlt:k<Y
   ·obtain ⟨x,hx⟩:∃ x,v.kids[k]?=some x:=⟨_,Qx (by rw [HM.out];exact hlt)⟩
    obtain ⟨y,hy⟩:∃ y,kids[k]?=some y:=⟨_,Qx (by rw [aG.out];exact hlt)⟩
    have V:Below w w wr:=(HG.out.thn A.out).bl
    obtain ⟨ga,oa,x3,m3,x4,m4,rfl,J,aQ,a0,a1,a2,a3,a4⟩:=(aI.out.below V).val hx
    obtain ⟨gb,ob,tk,ts,tn,t3,n3,bP,t4,n4,bQ,rfl,M,aR,e0,e1,e2,e3,e4⟩:=(aH.out.below V).ty hy
    have HX:=Qq (HP.out x (Qy hx) y (Qy hy))
    have I:=HC.out
    rw [Qvr hx hy] at I
    have aP:=HU.out.below V
    obtain ⟨bE,bF,bD⟩:=Qxn aQ aR aP
    generalize p x y=c at HX I
    have bT:(0:Int)<=(k:Int):=Qvu
    have bU:(k:Int)<Y:=Qvu
    have aC:∀ n os,Calls prog 198 #[.slice up us.length uc,.agg (vcs x x3 m3 x4 m4).toArray,.agg #[tk,.string ts,tn,.slice t3 n3 bP,.slice t4 n4 bQ]] (Sort.grow (wr.drewN n) os) fun e w'=>e=.returned (.bool c)/\Gr (Sort.grow (wr.drewN n) os) w':=fun n os=>HX.out _ _ _ _ _ _ _ (bD.out.below (Y7 _ _ _).bl) (bE.out.move (.of_below (Y7 _ _ _).bl) Qyv) (bF.out.move (.of_below (Y7 _ _ _).bl) Qyv)
    unfold vcs at aC
    have A0:=Zm J a0;have A1:=Zm J a1;have A2:=Zm J a2;have A3:=Zm J a3;have A4:=Zm J a4
    have E0:=Zm M e0;have E1:=Zm M e1;have E2:=Zm M e2;have E3:=Zm M e3;have E4:=Zm M e4
    have C4:=Zm aK c4;have D4:=Zm aL d4
    clear a0 a1 a2 a3 a4 e0 e1 e2 e3 e4 aQ aR hx hy aP V
    cases c with
    | true=>
     have bA:=Qq (show eqL p (v.kids.drop (k+1)) (kids.drop (k+1))=r from by rw [Bool.true_and] at I;exact I)
     clear I
     go_wp2_with fail
     go_quiet_grown (first | (go_at_call 198;refine Calls.grown_of (aC _ _)))
     go_wp2_with fail
     go_roundw
     case rel=>exact ⟨k+1,Qvu,by go_num,bA.out,A.out.thn (Y7 _ _ _)⟩
     case measure=>simp [intOf];omega
    | false=>
     obtain rfl:false=r:=I
     go_wp2_with fail
     go_quiet_grown (first | (go_at_call 198;refine Calls.grown_of (aC _ _)))
     go_wp2_with fail
     go_ret
     exact ⟨rfl,(HG.out.thn A.out).thn (Y7 _ _ _)⟩
   obtain rfl:k=Y:=Qvu
   have bM:r=true:=by
    rw [<- HC.out,List.drop_of_length_le (by rw [HM.out];exact Q9 _),List.drop_of_length_le (by rw [aG.out];exact Q9 _)];rfl
   subst bM
   go_wp2_with fail
   go_ret
   exact ⟨rfl,HG.out.thn A.out⟩
 have hq:(v.kind==4)=false:=by simpa using h4
 have bV:(v.kind != 4)=true:=by simpa using h4
 rw [hq]
 clear hu hv ht aF U aE aD hp
 go_enter func198,ntmps198
 go_wp2_with fail
 go_ret
 exact ⟨rfl,Vs _ _ _⟩
theorem Sl.byte {S:Nat->Prop} {w:World} {p:Option Addr} {n cap:Nat} {xs:Bs} (h:Sl Zt S w (.slice p n cap) xs) {i:Nat} {x:UInt8} (hx:xs[i]?=some x):
  ∃ b off,p=some ⟨b,off,none⟩/\Qxw w b (off+i) (.int .u8 x.toNat)/\b<w.heap.size:=by
 obtain ⟨b,off,cs,rfl,hb,-,hk,hR,hc⟩:=h.elem hx
 obtain rfl:cs=[.int .u8 x.toNat]:=hR
 have:=hc 0 _ rfl
 exact ⟨b,off,rfl,by simpa [Zt] using this,hb⟩
theorem Ro (S:Nat->Prop) (va vb:Value) (a b:Bs) (w:World) (ha:Sl Zt S w va a) (hb:Sl Zt S w vb b):
  Calls prog 89 #[va,vb] w fun e w'=>e=.returned (.bool (eqL (fun (x y:UInt8)=>decide (x=y)) a b))/\Below w w w':=by
 obtain ⟨pa,ca,rfl,aE⟩:=ha.len
 obtain ⟨pb,cb,rfl,aF⟩:=hb.len
 have HA:=Qq ha;have HB:=Qq hb
 clear ha hb
 by_cases hn:a.length=b.length
 ·obtain ⟨n,J⟩:=eX (b.length)
  rw [J] at hn aF HB
  rw [hn] at HA aE
  rw [hn,J]
  obtain ⟨r,hr⟩:=eX (eqL (fun (x y:UInt8)=>decide (x=y)) a b)
  rw [hr]
  obtain ⟨HR,N,O⟩:=Qxn hr hn J
  clear hr hn J
  go_enter func89,ntmps89
  go_wp2_with fail
  go_loopw [13] (fun i wr=>∃ k:Nat,k<=n/\i=.int .i64 k/\Aside (eqL (fun (x y:UInt8)=>decide (x=y)) (a.drop k) (b.drop k)=r)/\Below w w wr) (fun i _=>n - (intOf i).toNat)
  case atStart=>exact ⟨0,Q8 _,rfl,HR.out,Qz _ _⟩
  obtain ⟨k,aM,rfl,hE,T⟩:=hrel
  have A:=Qq T
  clear T
  by_cases hlt:k<n
  ·have aK:(0:Int)<=(k:Int):=Qvu
   have aL:(k:Int)<(n:Int):=Qvu
   have D:k<a.length:=by rw [N.out];exact hlt
   have I:k<b.length:=by rw [O.out];exact hlt
   obtain ⟨x,hx⟩:∃ x,a[k]?=some x:=⟨_,Qx D⟩
   obtain ⟨y,hy⟩:∃ y,b[k]?=some y:=⟨_,Qx I⟩
   have V:a.drop k=x::a.drop (k+1):=by rw [Qp D];rw [Qx D] at hx;cases hx;rfl
   have Y:b.drop k=y::b.drop (k+1):=by rw [Qp I];rw [Qx I] at hy;cases hy;rfl
   obtain ⟨ba,oa,rfl,c1,-⟩:=(HA.out.below A.out).byte hx
   obtain ⟨bb,ob,rfl,c2,-⟩:=(HB.out.below A.out).byte hy
   have U:(decide (x=y)&&eqL (fun (x y:UInt8)=>decide (x=y)) (a.drop (k+1)) (b.drop (k+1)))=r:=by have:=hE.out;rw [V,Y] at this;exact this
   have M:=Qq U
   clear hE U V Y D I hx hy
   by_cases Z:x=y
   ·subst Z
    have aG:((x.toNat:Int) != (x.toNat:Int))=false:=Qxz
    go_wp2_with fail
    go_quiet (fail)
    go_wp2
    go_roundw
    case measure=>simp [intOf];omega
    case rel=>exact ⟨k+1,Qvu,by go_num,(show Aside _ from by have:=M.out;simp at this;exact this),A.out.thn (Zn _ _)⟩
   have aA:¬ (x.toNat:Int)=(y.toNat:Int):=fun e=>Z (UInt8.toNat_inj.mp Qvu)
   have aG:((x.toNat:Int) != (y.toNat:Int))=true:=by rw [bne_iff_ne];exact aA
   have aI:r=false:=by have:=M.out;rw [decide_eq_false Z,Bool.false_and] at this;exact this.symm
   subst aI
   have aN:((x.toNat:Int)==(y.toNat:Int))=false:=by rw [<- Qt,beq_iff_eq];exact aA
   clear Z
   go_wp2_with fail
   go_quiet (fail)
   go_wp2
   go_ret
   exact ⟨rfl,A.out.thn (Zn _ _)⟩
  have aJ:r=true:=by
   have:=hE.out
   rw [Qu (by rw [N.out];omega),Qu (by rw [O.out];omega)] at this
   exact this.symm
  subst aJ
  clear hE
  go_wp2_with fail
  go_ret
  exact ⟨rfl,A.out⟩
 rw [Ut _ a b hn]
 have Z:((a.length:Int) != (b.length:Int))=true:=by rw [bne_iff_ne];omega
 clear hn
 go_enter func89,ntmps89
 go_wp2_with fail
 go_ret
 exact ⟨rfl,Qz _ _⟩
theorem Fp (S:Nat->Prop) (va vb:Value) (a b:Bs) (w:World) (ha:Sl Zt S w va a) (hb:Sl Zt S w vb b):
  Calls prog 13 #[va,vb] w fun e w'=>e=.returned (.bool (eqL (fun (x y:UInt8)=>decide (x=y)) a b))/\Below w w w':=by
 obtain ⟨pa,ca,rfl,aE⟩:=ha.len
 obtain ⟨pb,cb,rfl,aF⟩:=hb.len
 have HA:=Qq ha;have HB:=Qq hb
 clear ha hb
 by_cases hn:a.length=b.length
 ·obtain ⟨n,J⟩:=eX (b.length)
  rw [J] at hn aF HB
  rw [hn] at HA aE
  rw [hn,J]
  obtain ⟨r,hr⟩:=eX (eqL (fun (x y:UInt8)=>decide (x=y)) a b)
  rw [hr]
  obtain ⟨HR,N,O⟩:=Qxn hr hn J
  clear hr hn J
  go_enter func13,ntmps13
  go_wp2_with fail
  go_loopw [5] (fun i wr=>∃ k:Nat,k<=n/\i=.int .i64 k/\Aside (eqL (fun (x y:UInt8)=>decide (x=y)) (a.drop k) (b.drop k)=r)/\Below w w wr) (fun i _=>n - (intOf i).toNat)
  case atStart=>exact ⟨0,Q8 _,rfl,HR.out,Qz _ _⟩
  obtain ⟨k,aM,rfl,hE,T⟩:=hrel
  have A:=Qq T
  clear T
  by_cases hlt:k<n
  ·have aK:(0:Int)<=(k:Int):=Qvu
   have aL:(k:Int)<(n:Int):=Qvu
   have D:k<a.length:=by rw [N.out];exact hlt
   have I:k<b.length:=by rw [O.out];exact hlt
   obtain ⟨x,hx⟩:∃ x,a[k]?=some x:=⟨_,Qx D⟩
   obtain ⟨y,hy⟩:∃ y,b[k]?=some y:=⟨_,Qx I⟩
   have V:a.drop k=x::a.drop (k+1):=by rw [Qp D];rw [Qx D] at hx;cases hx;rfl
   have Y:b.drop k=y::b.drop (k+1):=by rw [Qp I];rw [Qx I] at hy;cases hy;rfl
   obtain ⟨ba,oa,rfl,c1,-⟩:=(HA.out.below A.out).byte hx
   obtain ⟨bb,ob,rfl,c2,-⟩:=(HB.out.below A.out).byte hy
   have U:(decide (x=y)&&eqL (fun (x y:UInt8)=>decide (x=y)) (a.drop (k+1)) (b.drop (k+1)))=r:=by have:=hE.out;rw [V,Y] at this;exact this
   have M:=Qq U
   clear hE U V Y D I hx hy
   by_cases Z:x=y
   ·subst Z
    have aG:((x.toNat:Int) != (x.toNat:Int))=false:=Qxz
    go_wp2_with fail
    go_quiet (fail)
    go_wp2
    go_roundw
    case measure=>simp [intOf];omega
    case rel=>exact ⟨k+1,Qvu,by go_num,(show Aside _ from by have:=M.out;simp at this;exact this),A.out.thn (Zn _ _)⟩
   have aA:¬ (x.toNat:Int)=(y.toNat:Int):=fun e=>Z (UInt8.toNat_inj.mp Qvu)
   have aG:((x.toNat:Int) != (y.toNat:Int))=true:=by rw [bne_iff_ne];exact aA
   have aI:r=false:=by have:=M.out;rw [decide_eq_false Z,Bool.false_and] at this;exact this.symm
   subst aI
   have aN:((x.toNat:Int)==(y.toNat:Int))=false:=by rw [<- Qt,beq_iff_eq];exact aA
   clear Z
   go_wp2_with fail
   go_quiet (fail)
   go_wp2
   go_ret
   exact ⟨rfl,A.out.thn (Zn _ _)⟩
  have aJ:r=true:=by
   have:=hE.out
   rw [Qu (by rw [N.out];omega),Qu (by rw [O.out];omega)] at this
   exact this.symm
  subst aJ
  clear hE
  go_wp2_with fail
  go_ret
  exact ⟨rfl,A.out⟩
 rw [Ut _ a b hn]
 have Z:((a.length:Int) != (b.length:Int))=true:=by rw [bne_iff_ne];omega
 clear hn
 go_enter func13,ntmps13
 go_wp2_with fail
 go_ret
 exact ⟨rfl,Qz _ _⟩
end Go.Proofs.YtlanplhphiikjaaGreatDoor
