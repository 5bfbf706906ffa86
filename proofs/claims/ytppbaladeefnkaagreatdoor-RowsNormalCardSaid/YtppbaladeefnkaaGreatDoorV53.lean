import Derived.Test.YtppbaladeefnkaaGreatDoorV52
import Derived.Test.YtppbaladeefnkaaGreatDoorV48
import Derived.Test.YtppbaladeefnkaaGreatDoorV51
import Derived.Test.YtppbaladeefnkaaGreatDoorRows
import Derived.Test.YtppbaladeefnkaaGreatDoorCards
import Derived.Test.YtppbaladeefnkaaGreatDoorTie
import Derived.ProofKit
import Derived.Lib.LaidU8
import Derived.LaidMore
import Derived.OpenShut
import Derived.ShutString
import Derived.MakeChecks
import Derived.Lay
import Derived.SevenTiedAt
import Derived.Stop.Joined
import Derived.ChangeOld
import Derived.Below
set_option maxRecDepth 100000
set_option maxHeartbeats 400000000
namespace Go.Proofs.YtppbaladeefnkaaGreatDoor
open Go.RowKit Go.Shelf Go.Lib _root_.Go.Proofs.Tryz
theorem C0 (HCk:Dk) (S1 S2 S3 S4:Nat→Prop) (lv nv mv kv:Value) (ls ns ms ks:List Int) (w:World) (hl0:Y6 S1 w lv ls) (hn0:Y6 S2 w nv ns) (hm0:Y6 S3 w mv ms) (hk0:Y6 S4 w kv ks) (hi1:V9 ls) (hi2:V9 ns) (hi3:V9 ms) (hi4:V9 ks) (hkw:Xe w):
  Calls prog 5 #[lv,nv,mv,kv] w fun e w'=>e=.returned (.bool true)∧Below w.heap.size w w':=by
 obtain ⟨s,hsd⟩:=eX (Gen.schema (Zp ls 0 13).toNat (Zp ls 1 3==0) (decide (0<Zp ls 2 3)) (Zp ls 3 2==0))
 have hG:Pv s:=by rw [← hsd];exact Ht _ _ _ _
 have hne:0<s.tables.length:=by rw [← hsd];simp [Gen.schema]
 have hfew:=hG.few
 have hnames:(Yh s).map Rel.table=s.tables.map Tbl.name:=by simp [Yh,Function.comp_def]
 have hnl:∀ t ∈ s.tables,t.name.length≤1000000:=by
  rw [← hsd]
  intro t ht
  refine Qc (m:=1) ?_ (by omega)
  unfold Gen.schema at ht
  rcases List.mem_append.1 ht with h | h
  ·rcases List.mem_cons.1 h with rfl | h
   ·exact Q9 1
   obtain rfl:=List.mem_singleton.1 h
   exact Q9 1
  split at h
  ·obtain rfl:=List.mem_singleton.1 h
   exact Q9 1
  cases h
 have hdy:∀ W e w',Om s W e w'→DyN W e w':=by
  rintro W e w' ⟨l,p,cap,rfl,h1,h2,⟨d,h5⟩,h3,h4⟩
  exact ⟨l,p,l.length,cap,rfl,rfl,fun r hr=>(h1 r hr).2,by rw [h5];exact hG.once.sublist (List.drop_sublist _ _),by omega,h3.rel,h4⟩
 refine Cy s (by rw [hnames];exact hG.once) hfew hnl lv nv mv kv (Zp ks 0 8) w ?_ (fun W cs hW hsc=>?_) (fun W cs hW hsc=>?_) (fun W hW=>?_) (fun W hW=>R9 W (hkw.below hW))
 ·refine (M2 S1 lv ls (Zp ls 0 13).toNat _ _ _ w hl0 hi1 (fun W hW=>Lc S1 lv ls W (hl0.below hW) hi1) rfl rfl rfl).mono ?_
  rintro e w' ⟨cs,rfl,h1,h2⟩
  rw [hsd] at h1
  obtain ⟨uv,tv,rfl,hu,ht⟩:=h1
  obtain ⟨up,uc,rfl,_⟩:=hu.len
  obtain ⟨tp,tc,rfl,_⟩:=ht.len
  exact ⟨_,_,_,_,_,_,rfl,⟨_,_,rfl,hu.mono (fun _ _ _=>trivial),ht.mono (fun _ _ _=>trivial)⟩,h2⟩
 ·exact (Gg HCk s hG hne _ S2 S3 cs nv mv ns ms W hsc (hn0.below hW) (hm0.below hW) hi2 hi3).mono (fun e w' h=>hdy W e w' h)
 ·exact (Gg HCk s hG hne _ S3 S4 cs mv kv ms ks W hsc (hm0.below hW) (hk0.below hW) hi3 hi4).mono (fun e w' h=>hdy W e w' h)
 exact Zt S4 kv ks 0 8 W (hk0.below hW) hi4 (by decide) (by decide)
open Go.ChangeShapes Go.WideShapes Go.ChangeAt Go.RowKit
open Go.ChangeMaps (open_string shut_string)
theorem own:ownKnob Tryz.prog.godebug=none:=by kernel_rfl
theorem Hz:laidOutB Tryz.prog=true:=by kernel_rfl
theorem Bn {P:Program} {w:World} {nm:String} {ls:List Bs} {g:Nat} {t e:TypeId} (h:Lib.VarReads P w nm (.agg (ls.map fun l=>.lit (.string l))))
  (hg:P.globalNamed nm=some g) (ht:(P.globals[g]?).map (·.type)=some t) (hu:P.underlying t=some (.array ls.length e)) (he:P.underlying e=some .string) (hc:P.cellsOf e=1):
  w.rangeAt g 0 (svs ls):=by
 obtain ⟨g',t',cs,fuel,p,hg',ht',hv,hd⟩:=h
 obtain rfl:=Qb (hg.symm.trans hg')
 obtain rfl:=Qb (ht.symm.trans ht')
 intro j v hj
 rw [Nat.zero_add,World.var?_cell hg hv j]
 obtain ⟨l,hl,rfl⟩:∃ l,ls[j]?=some l∧v=sv l:=by
  simp only [svs,List.getElem?_map,Option.map_eq_some_iff] at hj
  obtain ⟨l,h1,h2⟩:=hj
  exact ⟨l,h1,h2.symm⟩
 have hjl:j<ls.length:=(Qj hl).1
 obtain ⟨f',d,q,hd1,hd2⟩:=Lib.array_elem hu hd j hjl
 rw [hc,Nat.mul_one] at hd2
 obtain ⟨s,hs,hx,_⟩:=DataW.trod_string he hd2
 simp only [List.getElem?_map,hl,Option.map_some,Option.some.injEq] at hd1
 simp only [Prod.mk.injEq] at hx
 obtain ⟨rfl,_⟩:=hx
 simp only [DataW.lit.injEq,Lit.string.injEq] at hd1
 subst hd1
 have h0:((cs.toList.drop j).take 1)[0]?=some (.string s):=by rw [hs];rfl
 rw [List.getElem?_take_of_lt (by omega),List.getElem?_drop,Nat.add_zero,Array.getElem?_toList] at h0
 rw [h0]
 rfl
theorem gKws : Tryz.prog.globalNamed "schemalens/lexer.keywords"=some 5:=by kernel_rfl
theorem tKws:(Tryz.prog.globals[5]?).map (·.type)=some 250:=by kernel_rfl
set_option maxRecDepth 100000
theorem Ow {w:World} (h:laidMetH Tryz.prog Rows.rowsNormalRow.laid w):Xe w:=by
 rw [MakeChecks.laidMetH_plain _ _ _ (by kernel_rfl)] at h
 have h1:Lib.VarReads Tryz.prog w "schemalens/lexer.keywords" Rows.laid_schemalens_lexer_keywords:=Lib.laidMet.reads h (.tail _ (.tail _ (.tail _ (.tail _ (.tail _ (.tail _ (.head _)))))))
 exact Bn (ls:=kws) h1 gKws tKws Tryz.underlying250 Tryz.underlying9 (by kernel_rfl)
theorem Jk {H:Type} {enc:TypeId × Value→H} {W:World} {base:Nat} {v:Value} {d:DataW H} {p:List MemPlace} (hv:Value.okWide Tryz.prog W .any base 22 v)
  (h:DataW.Trod enc Tryz.prog W 0 (fun _=>true) true 22 v d p):∃ zs,Y6 (fun _=>True) W v zs∧V9 zs:=by
 obtain ⟨a,len,cap,rfl⟩:=okWide_slice Tryz.underlying22 hv
 obtain ⟨fuel,hf⟩:=h
 rcases open_ints Tryz.underlying22 Tryz.underlying3 (by kernel_rfl) hf with ⟨hcs,_⟩ | ⟨x,l,c,zs,hcs,_,hl,hm,hz,_,hcell,hwz⟩
 ·simp [Value.cells] at hcs
  obtain ⟨rfl,rfl,rfl⟩:=hcs
  exact ⟨[],⟨none,0,rfl,by simp,fun h=>absurd rfl h⟩,fun z hz=>by cases hz⟩
 simp [Value.cells] at hcs
 obtain ⟨rfl,rfl,rfl⟩:=hcs
 simp only [if_true] at hz
 have hlen:(zs.take len).length=len:=by simp;omega
 refine ⟨zs.take len,⟨_,cap,by rw [hlen],by rw [hlen];unfold maxLen at hm;omega,fun hne=>?_⟩,fun z hzm=>?_⟩
 ·have hpos:0<len:=by
   rw [← hlen]
   exact List.length_pos_iff.2 hne
  obtain ⟨b,off,spot⟩:=x
  have hspot:spot=none:=by simpa [Addr.add] using World.cell?_spot (hcell 0 (by omega))
  subst hspot
  have hat:∀ i z,(zs.take len)[i]?=some z→W.cell? ⟨b,off+i,none⟩=some (.int .i64 z):=fun i z hi=>by
   have hil:i<len:=by have:=(Qj hi).1;omega
   rw [List.getElem?_take_of_lt hil] at hi
   have:=hcell i (by omega)
   rw [List.getD_eq_getElem?_getD,hi] at this
   rwa [show ((⟨b,off,none⟩:Addr).add i)=⟨b,off+i,none⟩ by unfold Addr.add;split <;> simp_all,Option.getD_some] at this
  obtain ⟨z0,hz0⟩:∃ z,(zs.take len)[0]?=some z:=⟨_,Qx (by rw [hlen];exact hpos)⟩
  exact ⟨b,off,rfl,trivial,Qv _ _ (hat 0 z0 hz0),hat⟩
 have:=hwz z (List.mem_of_mem_take hzm)
 simpa [Lit.wf,IntKind.min,IntKind.max,IntKind.signed,IntKind.bits] using this
theorem T3:Dk:=fun S0 S1 s cs lv l w h1 h2 h3 h4 h5 h6=>Mn S0 S1 s cs lv l w h1 h2 h3 h4 h5 h6
theorem Ap (os:Os) (started:os.Started) (H:Type) (enc:TypeId × Value→H):
  ReturnsInHanded {} Tryz.checked os 5 .any (fun w args=>(Rows.rowsNormalSpec.pre enc Tryz.prog Tryz.f5 Rows.rowsNormalRow.domain false w args∧laidMetH Tryz.prog Rows.rowsNormalRow.laid w)∧sizedMet enc Tryz.prog Tryz.f5 (OpenSpec.ofChange Rows.rowsNormalSpec) false w args)
   (Rows.rowsNormalSpec.post enc Tryz.prog Tryz.f5 false true false false):=by
 refine returnsInHanded_of_change_and (C:=Tryz.checked) (X:=fun w _=>laidMetH Tryz.prog Rows.rowsNormalRow.laid w) (fun _ _ _ hh h=>h.of_heap hh) own started (by kernel_rfl) Tryz.func5
  (ChangeSpec.witness_shaped (enc:=enc) (C:=Tryz.checked) (os:=os) (X:=fun w _=>laidMetH Tryz.prog Rows.rowsNormalRow.laid w) false (World.laidAll Tryz.prog os Rows.rowsNormalRow.laid) #[.slice none 0 0,.slice none 0 0,.slice none 0 0,.slice none 0 0] 8 (World.laidAll_os _ _ _)
   (World.shaped_of_ZipB (by kernel_rfl) (by kernel_rfl)) (by kernel_rfl) (by kernel_rfl) (by kernel_rfl)
   (by rw [MakeChecks.laidMetH_plain _ _ _ (by kernel_rfl)];exact laidMet_laidAll _ (by kernel_rfl) (by kernel_rfl))) ?_
 intro W base args ds gs before hval0 hW _ _ hL _
 have hval:∀ (j:Nat) t v,Tryz.f5.params[j]?=some t→args[j]?=some v→Value.okWide Tryz.prog W .any base t v:=hval0
 have hW':=hW
 obtain ⟨p,q,hA0,hV,rfl,_,_⟩:=hW
 have hA:DataW.TrodAll enc Tryz.prog W 0 (fun _=>true) true Tryz.f5.params.toList args.toList ds p:=hA0
 rw [Tryz.params5] at hA hval
 obtain ⟨v0,vs0,d0,ds0,p0,q0,hargs,rfl,rfl,h0,r0⟩:=trodAll_cons hA
 obtain ⟨v1,vs1,d1,ds1,p1,q1,rfl,rfl,rfl,h1,r1⟩:=trodAll_cons r0
 obtain ⟨v2,vs2,d2,ds2,p2,q2,rfl,rfl,rfl,h2,r2⟩:=trodAll_cons r1
 obtain ⟨v3,vs3,d3,ds3,p3,q3,rfl,rfl,rfl,h3,r3⟩:=trodAll_cons r2
 obtain ⟨rfl,rfl,rfl⟩:=trodAll_nil r3
 obtain rfl:args=#[v0,v1,v2,v3]:=by cases args;simp_all
 obtain ⟨rfl,rfl⟩:=trodVars_none hV
 have k0:=h0
 have lt0:∀ x ∈ p0,x.block<W.heap.size:=by obtain ⟨m,hm⟩:=k0;exact DataW.trod_lt m _ _ _ hm
 obtain ⟨z0,hz0,hl0⟩:=Jk (hval 0 22 v0 rfl rfl) h0
 have k1:=h1
 have lt1:∀ x ∈ p1,x.block<W.heap.size:=by obtain ⟨m,hm⟩:=k1;exact DataW.trod_lt m _ _ _ hm
 obtain ⟨z1,hz1,hl1⟩:=Jk (hval 1 22 v1 rfl rfl) h1
 have k2:=h2
 have lt2:∀ x ∈ p2,x.block<W.heap.size:=by obtain ⟨m,hm⟩:=k2;exact DataW.trod_lt m _ _ _ hm
 obtain ⟨z2,hz2,hl2⟩:=Jk (hval 2 22 v2 rfl rfl) h2
 have k3:=h3
 have lt3:∀ x ∈ p3,x.block<W.heap.size:=by obtain ⟨m,hm⟩:=k3;exact DataW.trod_lt m _ _ _ hm
 obtain ⟨z3,hz3,hl3⟩:=Jk (hval 3 22 v3 rfl rfl) h3
 clear hA0 hval0
 refine (C0 T3 _ _ _ _ v0 v1 v2 v3 z0 z1 z2 z3 W hz0 hz1 hz2 hz3 hl0 hl1 hl2 hl3 (Ow hL)).mono fun e W' ⟨he,bel⟩=>?_
 subst he
 exact ⟨_,rfl,_,_,_,[],_,[],hW',trodAll_mk1 (shut_bool Tryz.underlying4 _),(trodAll_cons_mk (Below.trod Hz (by kernel_rfl) (of_decide_eq_true (by kernel_rfl)) k0 bel lt0) (trodAll_cons_mk (Below.trod Hz (by kernel_rfl) (of_decide_eq_true (by kernel_rfl)) k1 bel lt1) (trodAll_cons_mk (Below.trod Hz (by kernel_rfl) (of_decide_eq_true (by kernel_rfl)) k2 bel lt2) (trodAll_cons_mk (Below.trod Hz (by kernel_rfl) (of_decide_eq_true (by kernel_rfl)) k3 bel lt3) trodAll_mk0)))),rfl,bel.frame _,fun h=>by cases h⟩
theorem C2:Rows.RowsNormalSaid:=
 OpenClaim.holds_of_wide 5 Tryz.f5 rfl rfl rfl rfl rfl rfl rfl ⟨rfl,rfl,rfl,rfl,rfl⟩ rfl rfl rfl rfl rfl (by kernel_rfl) Tryz.func5 (by kernel_rfl)
  (of_decide_eq_true (by kernel_rfl)) (by unfold Func.isWrapper;first | (rw [if_pos (by decide +kernel)];kernel_rfl) | (rw [if_neg (by decide +kernel)];exact ⟨rfl,rfl⟩))
  (fun os started H enc _=>Ap os started H enc)
theorem rowsNormal_proved:Rows.RowsNormalCardSaid:=
 Claim7.holds_tied_plain_at .later [] [.data,.data,.data,.data,.sentinel,.sentinel,.widerDeep,.data,.pinned] true (true, "331b13e1f6b770af449e390ba836dd9aec1731ef3a39a80905472fcda2023072") true C2 (fun _ h=>by cases h) (by kernel_rfl) (fun _ h=>by cases h) rowsNormal_row_tie rfl ⟨rfl,rfl⟩ (by kernel_rfl) rfl
  (fun f fn hf hfn=>by
   obtain rfl:f=5:=Qb ((show Tryz.prog.funcNamed "schemalens/schemalenslaw17.RowsNormal"=some 5 by kernel_rfl).symm.trans hf) |>.symm
   obtain rfl:fn=Tryz.f5:=(Qb (Tryz.func5.symm.trans hfn)).symm
   exact ⟨by kernel_rfl,fun j t ht=>by
    rw [Tryz.params5] at ht
    have hm:t ∈ [22,22,22,22]:=by simpa using Array.mem_of_getElem? ht
    have hall:([22,22,22,22].all fun u=>!Tryz.prog.wantsStandIn u)=true:=by kernel_rfl
    exact (show Tryz.prog.wantsStandIn t=false by simpa using List.all_eq_true.1 hall t hm)⟩)
  (by kernel_rfl)
end Go.Proofs.YtppbaladeefnkaaGreatDoor
