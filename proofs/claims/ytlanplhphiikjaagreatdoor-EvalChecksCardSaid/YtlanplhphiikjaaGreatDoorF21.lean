import Derived.Test.YtlanplhphiikjaaGreatDoorF20
set_option maxRecDepth 100000
set_option maxHeartbeats 400000000
namespace Go.Proofs.YtlanplhphiikjaaGreatDoor
open Go.RowKit Go.Shelf Go.Lib Tryz
def Hj (s:Sc) (l:List Rel) (r:Rf) (v:Val):Bool:=match Yn v r.column with
 | some u=>(Fy s l r.table [u]).isSome
 | none=>false
theorem N8 {S:Nat->Prop} {w w6:World} {cs:List Value} {u:Val} {b:Nat} {E:TypeId} (hv:Z5 S w cs u) (hb:Below w w w6) (hc:w6.heap[b]?=some (.cells cs.toArray E (0,0))):Sl Zc (fun _=>True) w6 (.slice (some ⟨b,0,none⟩) 1 1) [u]:=
 Sl.of_css (css:=[cs]) Od (Cs.one (Z5.move hv (.of_below hb) (fun _ _ _=>trivial))) trivial (Z3 hc) (fun j x hx=>by
  rw [Nat.zero_add,Qk _ _ _ _ _ _ hc]
  simpa using hx)
theorem Nc (A B C:Nat) (S S1 S2:Nat->Prop) (s:Sc) (uv tv lv:Value) (l:List Rel) (r:Rf) (rows:List Val) (w:World) (hA0:w.cell? ⟨A,0,none⟩=some (sv r.column)) (hA1:w.cell? ⟨A,1,none⟩=some (sv r.table))
  (hB0:w.cell? ⟨B,0,none⟩=some uv) (hB1:w.cell? ⟨B,1,none⟩=some tv) (hC:w.cell? ⟨C,0,none⟩=some lv) (hs:Ug S1 w [uv,tv] s) (hl:Sl Yd S2 w lv l) (hkl:∀ t ∈ s.tables,t.key.length<=1000):
  Xo prog 120 #[Om A,Om B,Om C] Zc S rows (Hj s l r) w:=by
 intro W v cs hb _ hr
 have aO:=hs
 obtain ⟨aW,aV,aP,hu,ht⟩:=aO
 cases aP
 obtain ⟨up,uc,rfl,_⟩:=hu.len
 obtain ⟨tp,tc,rfl,_⟩:=ht.len
 obtain ⟨lp,lc,rfl,aU⟩:=hl.len
 have a0:=kD hb (Qv w _ hA0) hA0
 have a1:=kD hb (Qv w _ hA1) hA1
 have b0:=kD hb (Qv w _ hB0) hB0
 have b1:=kD hb (Qv w _ hB1) hB1
 have c0:=kD hb (Qv w _ hC) hC
 have aK:A<W.heap.size:=Qv _ _ a0
 have aL:B<W.heap.size:=Qv _ _ b0
 have aM:C<W.heap.size:=Qv _ _ c0
 have V:=hs.below hb
 have U:=hl.below hb
 have HG:=Qq (fun W' (h':Below W W W')=>B7 S v cs r.column W' (Z5.move (show Z5 S W cs v from hr) (.of_below h') P8))
 have aC:=Qq (fun W' (h':Below W W W') (kv:Value) (u:Val) (hk:Sl Zc (fun _=>True) W' kv [u])=>Mj S1 S2 (fun _=>True) s _ _ l r.table kv [u] W' (V.below h') (U.below h') hk hkl)
 obtain ⟨p3,k3,p4,k4,D,_⟩:=Z5.cells (show Z5 S W cs v from hr)
 simp only [vcs] at D
 subst D
 obtain ⟨res,M⟩:=eX (Hj s l r v)
 rw [M]
 have N:res=(match Yn v r.column with | some u=>(Fy s l r.table [u]).isSome | none=>false):=M.symm
 show Calls prog 120 #[.agg (Ou v p3 k3 p4 k4),Om A,Om B,Om C] W (fun e w'=>e=.returned (.bool res)/\Below W W w')
 clear M hs hl V U hb hr hA0 hA1 hB0 hB1 hC hu ht hkl
 unfold sv at *
 cases hg:Yn v r.column with
 | none=>
  rw [hg] at HG N
  have HR:=Qq (show res=false from N)
  clear N hg
  go_enter func120,ntmps120
  go_wp2_with fail
  refine (HG.out _ (Zb _ _)).mono ?_
  rintro e Z ⟨O,rfl,I,L⟩
  have J:=Qq ((Zb W _).thn L)
  obtain ⟨q3,l3,q4,l4,D,_⟩:=Z5.cells I
  simp only [vcs,Option.getD_none] at D
  subst D
  clear I L
  go_wp2_with fail
  go_ret
  rw [HR.out]
  exact ⟨rfl,J.out.alloc (Ob J.out.size) _⟩
 | some u=>
  rw [hg] at HG N
  have HR:=Qq (show res=(Fy s l r.table [u]).isSome from N)
  clear N hg
  go_enter func120,ntmps120
  go_wp2_with fail
  refine (HG.out _ (Zb _ _)).mono ?_
  rintro e Z ⟨O,rfl,I,L⟩
  have G:=(Zb W _).thn L
  obtain ⟨q3,l3,q4,l4,D,_⟩:=Z5.cells I
  simp only [vcs,Option.getD_some] at D
  subst D
  have aF:=kC G a1
  have aH:=kC G b0
  have aT:=kC G b1
  have aJ:=kC G c0
  have aE:=Qq I;have J:=Qq G
  have aQ:A<Z.heap.size:=Qv _ _ aF
  have aR:B<Z.heap.size:=Qv _ _ aH
  have aS:C<Z.heap.size:=Qv _ _ aJ
  clear a0 a1 b0 b1 c0 L G I aK aL aM
  go_wp2_with fail
  refine (aC.out _ (J.out.thn (Zl _ _ _)) _ u (N8 aE.out (Zl _ _ _) (Q1 _ _ _))).mono ?_
  rintro e w4 ⟨O,rfl,Y,T⟩
  obtain ⟨q3,l3,q4,l4,D,_⟩:=Z5.cells Y
  simp only [vcs] at D
  subst D
  have aB:=Qq (J.out.thn ((Zl Z _ _).thn T))
  clear Y T
  go_wp2_with fail
  go_ret
  rw [HR.out]
  exact ⟨rfl,aB.out⟩
end Go.Proofs.YtlanplhphiikjaaGreatDoor
