import Derived.Test.YtlanplhphiikjaaGreatDoorF46
import Derived.Test.YtlanplhphiikjaaGreatDoorRows
import Derived.Test.YtlanplhphiikjaaGreatDoorCards
import Derived.Test.YtlanplhphiikjaaGreatDoorTie
set_option maxRecDepth 100000
set_option maxHeartbeats 400000000
namespace Go.Proofs.YtlanplhphiikjaaGreatDoor
open Go.ChangeShapes Go.WideShapes Go.ChangeAt Go.RowKit
open Go.ChangeMaps (open_string shut_string)
theorem own:ownKnob Tryz.prog.godebug=none:=Og
theorem Bw:laidOutB Tryz.prog=true:=Og
theorem Gy {P:Program} {w:World} {nm:String} {ls:List Bs} {g:Nat} {t e:TypeId} (h:Lib.VarReads P w nm (.agg (ls.map fun l=>.lit (.string l))))
  (hg:P.globalNamed nm=some g) (ht:(P.globals[g]?).map (·.type)=some t) (hu:P.underlying t=some (.array ls.length e)) (he:P.underlying e=some .string) (hc:P.cellsOf e=1):
  w.rangeAt g 0 (svs ls):=by
 obtain ⟨g',t',cs,M,p,I,L,hv,hd⟩:=h
 obtain rfl:=Q6 (hg.symm.trans I)
 obtain rfl:=Q6 (ht.symm.trans L)
 intro j v hj
 rw [Nat.zero_add,World.var?_cell hg hv j]
 obtain ⟨l,hl,rfl⟩:∃ l,ls[j]?=some l/\v=sv l:=by
  simp only [svs,List.getElem?_map,Option.map_eq_some_iff] at hj
  obtain ⟨l,h1,h2⟩:=hj
  exact ⟨l,h1,h2.symm⟩
 have J:j<ls.length:=(Qj hl).1
 obtain ⟨f',d,q,D,G⟩:=Lib.array_elem hu hd j J
 rw [hc,Nat.mul_one] at G
 obtain ⟨s,hs,hx,_⟩:=DataW.trod_string he G
 simp only [List.getElem?_map,hl,Option.map_some,Qu] at D
 simp only [Prod.mk.injEq] at hx
 obtain ⟨rfl,_⟩:=hx
 simp only [DataW.lit.injEq,Lit.string.injEq] at D
 subst D
 have h0:((cs.toList.drop j).take 1)[0]?=some (.string s):=by rw [hs];rfl
 rw [List.getElem?_take_of_lt Oa,List.getElem?_drop,Nat.add_zero,Array.getElem?_toList] at h0
 rw [h0]
 rfl
theorem gKws : Tryz.prog.globalNamed "schemalens/lexer.keywords"=some 5:=Og
theorem tKws:(Tryz.prog.globals[5]?).map (·.type)=some 324:=Og
set_option maxRecDepth 100000
theorem Hi {w:World} (h:laidMetH Tryz.prog Rows.evalChecksRow.laid w):X7 w:=by
 rw [MakeChecks.laidMetH_plain _ _ _ Og] at h
 have h1:Lib.VarReads Tryz.prog w "schemalens/lexer.keywords" Rows.laid_schemalens_lexer_keywords:=Lib.laidMet.reads h (.tail _ (.tail _ (.tail _ (.tail _ (.tail _ (.tail _ (.head _)))))))
 exact Gy (ls:=kws) h1 gKws tKws Tryz.underlying324 Tryz.underlying9 Og
theorem Je {H:Type} {enc:TypeId × Value->H} {W:World} {base:Nat} {v:Value} {d:DataW H} {p:List MemPlace} (hv:Value.okWide Tryz.prog W .any base 22 v)
  (h:DataW.Trod enc Tryz.prog W 0 (fun _=>true) true 22 v d p):∃ zs,Xh (fun _=>True) W v zs/\Ke zs:=by
 obtain ⟨a,len,cap,rfl⟩:=okWide_slice Tryz.underlying22 hv
 obtain ⟨aC,hf⟩:=h
 rcases open_ints Tryz.underlying22 Tryz.underlying3 Og hf with ⟨I,_⟩ | ⟨x,l,c,zs,I,_,hl,hm,Z,_,G,Y⟩
 ·simp [Value.cells] at I
  obtain ⟨rfl,rfl,rfl⟩:=I
  exact ⟨[],⟨none,0,rfl,Od,fun h=>absurd rfl h⟩,fun z Z=>by cases Z⟩
 simp [Value.cells] at I
 obtain ⟨rfl,rfl,rfl⟩:=I
 simp only [if_true] at Z
 have D:(zs.take len).length=len:=by simp;omega
 refine ⟨zs.take len,⟨_,cap,by rw [D],by rw [D];unfold maxLen at hm;omega,fun V=>?_⟩,fun z aB=>?_⟩
 ·have N:0<len:=by
   rw [<- D]
   exact List.length_pos_iff.2 V
  obtain ⟨b,J,O⟩:=x
  have L:O=none:=by simpa [Addr.add] using World.cell?_spot (G 0 Oa)
  subst L
  have M:∀ i z,(zs.take len)[i]?=some z->W.cell? ⟨b,J+i,none⟩=some (.int .i64 z):=fun i z T=>by
   have U:i<len:=by have:=(Qj T).1;omega
   rw [List.getElem?_take_of_lt U] at T
   have:=G i Oa
   rw [Qm,T] at this
   rwa [show ((⟨b,J,none⟩:Addr).add i)=⟨b,J+i,none⟩ by unfold Addr.add;split <;> simp_all,Option.getD_some] at this
  obtain ⟨z0,aA⟩:∃ z,(zs.take len)[0]?=some z:=⟨_,Qx (by rw [D];exact N)⟩
  exact ⟨b,J,rfl,trivial,Qv _ _ (M 0 z0 aA),M⟩
 have:=Y z (List.mem_of_mem_take aB)
 simpa [Lit.wf,IntKind.min,IntKind.max,IntKind.signed,IntKind.bits] using this
theorem Jh (os:Os) (started:os.Started) (H:Type) (enc:TypeId × Value->H):
  ReturnsInHanded {} Tryz.checked os 4 .any (fun w args=>(Rows.evalChecksSpec.pre enc Tryz.prog Tryz.f4 Rows.evalChecksRow.domain false w args/\laidMetH Tryz.prog Rows.evalChecksRow.laid w)/\sizedMet enc Tryz.prog Tryz.f4 (OpenSpec.ofChange Rows.evalChecksSpec) false w args)
   (Rows.evalChecksSpec.post enc Tryz.prog Tryz.f4 false true false false):=by
 refine returnsInHanded_of_change_and (C:=Tryz.checked) (X:=fun w _=>laidMetH Tryz.prog Rows.evalChecksRow.laid w) (fun _ _ _ hh h=>h.of_heap hh) own started Og Tryz.func4
  (ChangeSpec.witness_shaped (enc:=enc) (C:=Tryz.checked) (os:=os) (X:=fun w _=>laidMetH Tryz.prog Rows.evalChecksRow.laid w) false (World.laidAll Tryz.prog os Rows.evalChecksRow.laid) #[Ot,Ot,On,On] 8 (World.laidAll_os _ _ _)
   (World.shaped_of_ZipB Og Og) Og Og Og
   (by rw [MakeChecks.laidMetH_plain _ _ _ Og];exact laidMet_laidAll _ Og Og)) ?_
 intro W I args ds gs N G hW _ _ hL _
 have D:∀ (j:Nat) t v,Tryz.f4.params[j]?=some t->args[j]?=some v->Value.okWide Tryz.prog W .any I t v:=G
 have O:=hW
 obtain ⟨p,q,J,hV,rfl,_,_⟩:=hW
 have hA:DataW.TrodAll enc Tryz.prog W 0 (fun _=>true) true Tryz.f4.params.toList args.toList ds p:=J
 rw [Tryz.params4] at hA D
 obtain ⟨v0,aI,d0,aE,p0,q0,T,rfl,rfl,h0,r0⟩:=trodAll_cons hA
 obtain ⟨v1,aJ,d1,aF,p1,q1,rfl,rfl,rfl,h1,r1⟩:=trodAll_cons r0
 obtain ⟨v2,aK,d2,aG,p2,q2,rfl,rfl,rfl,h2,r2⟩:=trodAll_cons r1
 obtain ⟨v3,aL,d3,aH,p3,q3,rfl,rfl,rfl,h3,r3⟩:=trodAll_cons r2
 obtain ⟨rfl,rfl,rfl⟩:=trodAll_nil r3
 obtain rfl:args=#[v0,v1,v2,v3]:=by cases args;simp_all
 obtain ⟨rfl,rfl⟩:=trodVars_none hV
 have k0:=h0
 have aB:∀ x ∈ p0,x.block<W.heap.size:=by obtain ⟨m,Y⟩:=k0;exact DataW.trod_lt m _ _ _ Y
 obtain ⟨z0,Z,U⟩:=Je (D 0 22 v0 rfl rfl) h0
 have k1:=h1
 have aC:∀ x ∈ p1,x.block<W.heap.size:=by obtain ⟨m,Y⟩:=k1;exact DataW.trod_lt m _ _ _ Y
 obtain ⟨z1,aA,V⟩:=Je (D 1 22 v1 rfl rfl) h1
 obtain ⟨a2,rfl,rfl,rfl,w2⟩:=open_int Tryz.underlying3 (D 2 3 v2 rfl rfl) h2
 have L:-9223372036854775808<=a2/\a2<=9223372036854775807:=by have:=w2;simpa [Lit.wf,IntKind.min,IntKind.max,IntKind.signed,IntKind.bits] using this
 obtain ⟨a3,rfl,rfl,rfl,w3⟩:=open_int Tryz.underlying3 (D 3 3 v3 rfl rfl) h3
 have M:-9223372036854775808<=a3/\a3<=9223372036854775807:=by have:=w3;simpa [Lit.wf,IntKind.min,IntKind.max,IntKind.signed,IntKind.bits] using this
 clear J G
 refine (Fc _ _ v0 v1 z0 z1 a2 a3  W Z aA U V L.1 L.2 M.1 M.2  (Hi hL)).mono fun e W' ⟨he,bel⟩=>?_
 subst he
 exact ⟨_,rfl,_,_,_,[],_,[],O,trodAll_mk1 (shut_bool Tryz.underlying4 _),(trodAll_cons_mk (Below.trod Bw Og (of_decide_eq_true Og) k0 bel aB) (trodAll_cons_mk (Below.trod Bw Og (of_decide_eq_true Og) k1 bel aC) (trodAll_cons_mk (shut_int Tryz.underlying3 w2) (trodAll_cons_mk (shut_int Tryz.underlying3 w3) trodAll_mk0)))),rfl,bel.frame _,fun h=>by cases h⟩
end Go.Proofs.YtlanplhphiikjaaGreatDoor
