/- RowsSound returns true for every input, and each argument reads afterwards as it read before. Condition: when the call begins, the listed package variables hold what the program's own text lays there (tied to that text). -/
import Derived.Test.YtcljcblceodciaaGreatDoorU49
import Derived.Test.YtcljcblceodciaaGreatDoorRows
import Derived.Test.YtcljcblceodciaaGreatDoorCards
import Derived.Test.YtcljcblceodciaaGreatDoorTie
set_option maxRecDepth 100000
set_option maxHeartbeats 400000000
namespace Go.Proofs.YtcljcblceodciaaGreatDoor
open Go.ChangeShapes Go.WideShapes Go.ChangeAt Go.RowKit
open Go.ChangeMaps (open_string shut_string)
theorem own:ownKnob Tryz.prog.godebug=none:=Cd
theorem Lr:laidOutB Tryz.prog=true:=Cd
theorem H9 {P:Program} {w:World} {nm:String} {ls:List Bs} {g:Nat} {t e:TypeId} (h:Lib.VarReads P w nm (.agg (ls.map fun l=>.lit (.string l))))
  (hg:P.globalNamed nm=some g) (ht:(P.globals[g]?).map (·.type)=some t) (hu:P.underlying t=some (.array ls.length e)) (he:P.underlying e=some .string) (hc:P.cellsOf e=1):
  w.rangeAt g 0 (svs ls):=by
 obtain ⟨g',t',cs,M,p,G,J,hv,hd⟩:=h
 obtain rfl:=Qb (hg.symm.trans G)
 obtain rfl:=Qb (ht.symm.trans J)
 intro j v hj
 rw [Nat.zero_add,World.var?_cell hg hv j]
 obtain ⟨l,hl,rfl⟩:∃ l,ls[j]?=some l/\v=sv l:=by
  simp only [svs,List.getElem?_map,Option.map_eq_some_iff] at hj
  obtain ⟨l,h1,h2⟩:=hj
  exact ⟨l,h1,h2.symm⟩
 have I:j<ls.length:=(Qj hl).1
 obtain ⟨f',d,q,A,D⟩:=Lib.array_elem hu hd j I
 rw [hc,Nat.mul_one] at D
 obtain ⟨s,hs,hx,_⟩:=DataW.trod_string he D
 simp only [List.getElem?_map,hl,Option.map_some,Zv] at A
 simp only [Prod.mk.injEq] at hx
 obtain ⟨rfl,_⟩:=hx
 simp only [DataW.lit.injEq,Lit.string.injEq] at A
 subst A
 have h0:((cs.toList.drop j).take 1)[0]?=some (.string s):=by rw [hs];rfl
 rw [List.getElem?_take_of_lt C7,List.getElem?_drop,Nat.add_zero,Array.getElem?_toList] at h0
 rw [h0]
 rfl
theorem gKws : Tryz.prog.globalNamed "schemalens/lexer.keywords"=some 5:=Cd
theorem tKws:(Tryz.prog.globals[5]?).map (·.type)=some 238:=Cd
set_option maxRecDepth 100000
theorem Pe {w:World} (h:laidMetH Tryz.prog Rows.rowsSoundRow.laid w):Xh w:=by
 rw [MakeChecks.laidMetH_plain _ _ _ Cd] at h
 have h1:Lib.VarReads Tryz.prog w "schemalens/lexer.keywords" Rows.laid_schemalens_lexer_keywords:=Lib.laidMet.reads h (.tail _ (.tail _ (.tail _ (.tail _ (.tail _ (.tail _ (.head _)))))))
 exact H9 (ls:=kws) h1 gKws tKws Tryz.underlying238 Tryz.underlying9 Cd
theorem Kv {H:Type} {enc:TypeId × Value->H} {W:World} {base:Nat} {v:Value} {d:DataW H} {p:List MemPlace} (hv:Value.okWide Tryz.prog W .any base 22 v)
  (h:DataW.Trod enc Tryz.prog W 0 (fun _=>true) true 22 v d p):∃ zs,Xd (fun _=>True) W v zs/\Uh zs:=by
 obtain ⟨a,len,cap,rfl⟩:=okWide_slice Tryz.underlying22 hv
 obtain ⟨aC,hf⟩:=h
 rcases open_ints Tryz.underlying22 Tryz.underlying3 Cd hf with ⟨G,_⟩ | ⟨x,l,c,zs,G,_,hl,hm,Z,_,D,Y⟩
 ·simp [Value.cells] at G
  obtain ⟨rfl,rfl,rfl⟩:=G
  exact ⟨[],⟨none,0,rfl,Ca,fun h=>absurd rfl h⟩,fun z Z=>by cases Z⟩
 simp [Value.cells] at G
 obtain ⟨rfl,rfl,rfl⟩:=G
 simp only [if_true] at Z
 have A:(zs.take len).length=len:=by simp;omega
 refine ⟨zs.take len,⟨_,cap,by rw [A],by rw [A];unfold maxLen at hm;omega,fun V=>?_⟩,fun z aB=>?_⟩
 ·have N:0<len:=by
   rw [<- A]
   exact List.length_pos_iff.2 V
  obtain ⟨b,I,O⟩:=x
  have J:O=none:=by simpa [Addr.add] using World.cell?_spot (D 0 C7)
  subst J
  have M:∀ i z,(zs.take len)[i]?=some z->W.cell? ⟨b,I+i,none⟩=some (.int .i64 z):=fun i z T=>by
   have U:i<len:=by have:=(Qj T).1;omega
   rw [List.getElem?_take_of_lt U] at T
   have:=D i C7
   rw [Qs,T] at this
   rwa [show ((⟨b,I,none⟩:Addr).add i)=⟨b,I+i,none⟩ by unfold Addr.add;split <;> simp_all,Option.getD_some] at this
  obtain ⟨z0,aA⟩:∃ z,(zs.take len)[0]?=some z:=⟨_,Qx (by rw [A];exact N)⟩
  exact ⟨b,I,rfl,trivial,Qv _ _ (M 0 z0 aA),M⟩
 have:=Y z (List.mem_of_mem_take aB)
 simpa [Lit.wf,IntKind.min,IntKind.max,IntKind.signed,IntKind.bits] using this
theorem Tt:Du:=fun S0 S1 s cs lv l w h1 h2 h3 h4 h5 h6=>P6 S0 S1 s cs lv l w h1 h2 h3 h4 h5 h6
theorem Gc (os:Os) (started:os.Started) (H:Type) (enc:TypeId × Value->H):
  ReturnsInHanded {} Tryz.checked os 4 .any (fun w args=>(Rows.rowsSoundSpec.pre enc Tryz.prog Tryz.f4 Rows.rowsSoundRow.domain false w args/\laidMetH Tryz.prog Rows.rowsSoundRow.laid w)/\sizedMet enc Tryz.prog Tryz.f4 (OpenSpec.ofChange Rows.rowsSoundSpec) false w args)
   (Rows.rowsSoundSpec.post enc Tryz.prog Tryz.f4 false true false false):=by
 refine returnsInHanded_of_change_and (C:=Tryz.checked) (X:=fun w _=>laidMetH Tryz.prog Rows.rowsSoundRow.laid w) (fun _ _ _ hh h=>h.of_heap hh) own started Cd Tryz.func4
  (ChangeSpec.witness_shaped (enc:=enc) (C:=Tryz.checked) (os:=os) (X:=fun w _=>laidMetH Tryz.prog Rows.rowsSoundRow.laid w) false (World.laidAll Tryz.prog os Rows.rowsSoundRow.laid) #[Cm,Cm,Cm] 8 (World.laidAll_os _ _ _)
   (World.shaped_of_ZipB Cd Cd) Cd Cd Cd
   (by rw [MakeChecks.laidMetH_plain _ _ _ Cd];exact laidMet_laidAll _ Cd Cd)) ?_
 intro W G args ds gs M D hW _ _ hL _
 have A:∀ (j:Nat) t v,Tryz.f4.params[j]?=some t->args[j]?=some v->Value.okWide Tryz.prog W .any G t v:=D
 have N:=hW
 obtain ⟨p,q,I,hV,rfl,_,_⟩:=hW
 have hA:DataW.TrodAll enc Tryz.prog W 0 (fun _=>true) true Tryz.f4.params.toList args.toList ds p:=I
 rw [Tryz.params4] at hA A
 obtain ⟨v0,aJ,d0,aG,p0,q0,O,rfl,rfl,h0,r0⟩:=trodAll_cons hA
 obtain ⟨v1,aK,d1,aH,p1,q1,rfl,rfl,rfl,h1,r1⟩:=trodAll_cons r0
 obtain ⟨v2,aL,d2,aI,p2,q2,rfl,rfl,rfl,h2,r2⟩:=trodAll_cons r1
 obtain ⟨rfl,rfl,rfl⟩:=trodAll_nil r2
 obtain rfl:args=#[v0,v1,v2]:=by cases args;simp_all
 obtain ⟨rfl,rfl⟩:=trodVars_none hV
 have k0:=h0
 have aB:∀ x ∈ p0,x.block<W.heap.size:=by obtain ⟨m,J⟩:=k0;exact DataW.trod_lt m _ _ _ J
 obtain ⟨z0,Y,T⟩:=Kv (A 0 22 v0 rfl rfl) h0
 have k1:=h1
 have aC:∀ x ∈ p1,x.block<W.heap.size:=by obtain ⟨m,J⟩:=k1;exact DataW.trod_lt m _ _ _ J
 obtain ⟨z1,Z,U⟩:=Kv (A 1 22 v1 rfl rfl) h1
 have k2:=h2
 have aD:∀ x ∈ p2,x.block<W.heap.size:=by obtain ⟨m,J⟩:=k2;exact DataW.trod_lt m _ _ _ J
 obtain ⟨z2,aA,V⟩:=Kv (A 2 22 v2 rfl rfl) h2
 clear I D
 refine (Hb Tt _ _ _ v0 v1 v2 z0 z1 z2 W Y Z aA T U V (Pe hL)).mono fun e W' ⟨he,bel⟩=>?_
 subst he
 exact ⟨_,rfl,_,_,_,[],_,[],N,trodAll_mk1 (shut_bool Tryz.underlying4 _),(trodAll_cons_mk (Below.trod Lr Cd (of_decide_eq_true Cd) k0 bel aB) (trodAll_cons_mk (Below.trod Lr Cd (of_decide_eq_true Cd) k1 bel aC) (trodAll_cons_mk (Below.trod Lr Cd (of_decide_eq_true Cd) k2 bel aD) trodAll_mk0))),rfl,bel.frame _,fun h=>by cases h⟩
theorem Hh:Rows.RowsSoundSaid:=
 OpenClaim.holds_of_wide 4 Tryz.f4 rfl rfl rfl rfl rfl rfl rfl ⟨rfl,rfl,rfl,rfl,rfl⟩ rfl rfl rfl rfl rfl Cd Tryz.func4 Cd
  (of_decide_eq_true Cd) (by unfold Func.isWrapper;first | (rw [if_pos (by decide +kernel)];kernel_rfl) | (rw [if_neg (by decide +kernel)];exact ⟨rfl,rfl⟩))
  (fun os A H enc _=>Gc os A H enc)
theorem rowsSound_proved:Rows.RowsSoundCardSaid:=
 Claim7.holds_tied_plain_at .later [] [.data,.data,.data,.data,.sentinel,.sentinel,.widerDeep,.data,.pinned] true (true, "bf0e519e7ae3af1b74dcc002e8f1718b959f1bb4b0cafde09698f3fdcca2a9af") true Hh (fun _ h=>by cases h) Cd (fun _ h=>by cases h) rowsSound_row_tie rfl ⟨rfl,rfl⟩ Cd rfl
  (fun f fn hf D=>by
   obtain rfl:f=4:=Qb ((show Tryz.prog.funcNamed "schemalens/schemalenslaw17.RowsSound"=some 4 by kernel_rfl).symm.trans hf) |>.symm
   obtain rfl:fn=Tryz.f4:=(Qb (Tryz.func4.symm.trans D)).symm
   exact ⟨Cd,fun j t ht=>by
    rw [Tryz.params4] at ht
    have hm:t ∈ [22,22,22]:=by simpa using Array.mem_of_getElem? ht
    have A:([22,22,22].all fun u=>!Tryz.prog.wantsStandIn u)=true:=Cd
    exact (show Tryz.prog.wantsStandIn t=false by simpa using List.all_eq_true.1 A t hm)⟩)
  Cd
end Go.Proofs.YtcljcblceodciaaGreatDoor
