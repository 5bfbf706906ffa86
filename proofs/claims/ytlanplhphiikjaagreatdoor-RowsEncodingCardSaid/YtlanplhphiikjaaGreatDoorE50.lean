import Derived.Test.YtlanplhphiikjaaGreatDoorE49
import Derived.Test.YtlanplhphiikjaaGreatDoorRows
import Derived.Test.YtlanplhphiikjaaGreatDoorCards
import Derived.Test.YtlanplhphiikjaaGreatDoorTie
set_option maxRecDepth 100000
set_option maxHeartbeats 400000000
namespace Go.Proofs.YtlanplhphiikjaaGreatDoor
open Go.ChangeShapes Go.WideShapes Go.ChangeAt Go.RowKit
open Go.ChangeMaps (open_string shut_string)
theorem own:ownKnob Tryz.prog.godebug=none:=Qxx
theorem Gf:laidOutB Tryz.prog=true:=Qxx
theorem Fu {P:Program} {w:World} {nm:String} {ls:List Bs} {g:Nat} {t e:TypeId} (h:Lib.VarReads P w nm (.agg (ls.map fun l=>.lit (.string l))))
  (hg:P.globalNamed nm=some g) (ht:(P.globals[g]?).map (·.type)=some t) (hu:P.underlying t=some (.array ls.length e)) (he:P.underlying e=some .string) (hc:P.cellsOf e=1):
  w.rangeAt g 0 (svs ls):=by
 obtain ⟨g',t',cs,N,p,I,M,hv,hd⟩:=h
 obtain rfl:=Qb (hg.symm.trans I)
 obtain rfl:=Qb (ht.symm.trans M)
 intro j v hj
 rw [Nat.zero_add,World.var?_cell hg hv j]
 obtain ⟨l,hl,rfl⟩:∃ l,ls[j]?=some l/\v=sv l:=by
  simp only [svs,List.getElem?_map,Option.map_eq_some_iff] at hj
  obtain ⟨l,h1,h2⟩:=hj
  exact ⟨l,h1,h2.symm⟩
 have J:j<ls.length:=(Qj hl).1
 obtain ⟨f',d,q,A,D⟩:=Lib.array_elem hu hd j J
 rw [hc,Nat.mul_one] at D
 obtain ⟨s,hs,hx,_⟩:=DataW.trod_string he D
 simp only [List.getElem?_map,hl,Option.map_some,Zv] at A
 simp only [Prod.mk.injEq] at hx
 obtain ⟨rfl,_⟩:=hx
 simp only [DataW.lit.injEq,Lit.string.injEq] at A
 subst A
 have h0:((cs.toList.drop j).take 1)[0]?=some (.string s):=by rw [hs];rfl
 rw [List.getElem?_take_of_lt Qvu,List.getElem?_drop,Nat.add_zero,Array.getElem?_toList] at h0
 rw [h0]
 rfl
theorem gKws : Tryz.prog.globalNamed "schemalens/lexer.keywords"=some 5:=Qxx
theorem tKws:(Tryz.prog.globals[5]?).map (·.type)=some 324:=Qxx
theorem gSyms : Tryz.prog.globalNamed "schemalens/lexer.symbols"=some 6:=Qxx
theorem tSyms:(Tryz.prog.globals[6]?).map (·.type)=some 325:=Qxx
set_option maxRecDepth 100000
theorem Av {w:World} (h:laidMetH Tryz.prog Rows.rowsEncodingRow.laid w):J7 w:=by
 rw [MakeChecks.laidMetH_plain _ _ _ Qxx] at h
 have h1:Lib.VarReads Tryz.prog w "schemalens/lexer.keywords" Rows.laid_schemalens_lexer_keywords:=Lib.laidMet.reads h (.tail _ (.tail _ (.tail _ (.tail _ (.tail _ (.tail _ (.head _)))))))
 have h2:Lib.VarReads Tryz.prog w "schemalens/lexer.symbols" Rows.laid_schemalens_lexer_symbols:=Lib.laidMet.reads h (.tail _ (.tail _ (.tail _ (.tail _ (.tail _ (.tail _ (.tail _ (.head _))))))))
 exact ⟨Fu (ls:=syms) h2 gSyms tSyms Tryz.underlying325 Tryz.underlying9 Qxx,Fu (ls:=kws) h1 gKws tKws Tryz.underlying324 Tryz.underlying9 Qxx⟩
theorem Dz {H:Type} {enc:TypeId × Value->H} {W:World} {base:Nat} {v:Value} {d:DataW H} {p:List MemPlace} (hv:Value.okWide Tryz.prog W .any base 22 v)
  (h:DataW.Trod enc Tryz.prog W 0 (fun _=>true) true 22 v d p):∃ zs,Xa (fun _=>True) W v zs/\Uh zs:=by
 obtain ⟨a,len,cap,rfl⟩:=okWide_slice Tryz.underlying22 hv
 obtain ⟨aB,hf⟩:=h
 rcases open_ints Tryz.underlying22 Tryz.underlying3 Qxx hf with ⟨I,_⟩ | ⟨x,l,c,zs,I,_,hl,hm,Y,_,D,V⟩
 ·simp [Value.cells] at I
  obtain ⟨rfl,rfl,rfl⟩:=I
  exact ⟨[],⟨none,0,rfl,Qxz,fun h=>absurd rfl h⟩,fun z Y=>by cases Y⟩
 simp [Value.cells] at I
 obtain ⟨rfl,rfl,rfl⟩:=I
 simp only [if_true] at Y
 have A:(zs.take len).length=len:=by simp;omega
 refine ⟨zs.take len,⟨_,cap,by rw [A],by rw [A];unfold maxLen at hm;omega,fun U=>?_⟩,fun z aA=>?_⟩
 ·have N:0<len:=by
   rw [<- A]
   exact List.length_pos_iff.2 U
  obtain ⟨b,off,spot⟩:=x
  have J:spot=none:=by simpa [Addr.add] using World.cell?_spot (D 0 Qvu)
  subst J
  have M:∀ i z,(zs.take len)[i]?=some z->W.cell? ⟨b,off+i,none⟩=some (.int .i64 z):=fun i z O=>by
   have T:i<len:=by have:=(Qj O).1;omega
   rw [List.getElem?_take_of_lt T] at O
   have:=D i Qvu
   rw [Qs,O] at this
   rwa [show ((⟨b,off,none⟩:Addr).add i)=⟨b,off+i,none⟩ by unfold Addr.add;split <;> simp_all,Option.getD_some] at this
  obtain ⟨z0,Z⟩:∃ z,(zs.take len)[0]?=some z:=⟨_,Qx (by rw [A];exact N)⟩
  exact ⟨b,off,rfl,trivial,Qv _ _ (M 0 z0 Z),M⟩
 have:=V z (List.mem_of_mem_take aA)
 simpa [Lit.wf,IntKind.min,IntKind.max,IntKind.signed,IntKind.bits] using this
theorem St {H:Type} {enc:TypeId × Value->H} {W:World} {base:Nat} {v:Value} {d:DataW H} {p:List MemPlace} (hv:Value.okWide Tryz.prog W .any base 23 v)
  (h:DataW.Trod enc Tryz.prog W 0 (fun _=>true) true 23 v d p):∃ q n cap,v=.slice q n cap/\n<=cap/\∃ bs:Bs,(if n<=40 then n else 40)=bs.length/\Sl Zt (fun _=>True) W (.slice q bs.length cap) bs:=by
 obtain ⟨a,len,cap,rfl⟩:=okWide_slice Tryz.underlying23 hv
 obtain ⟨aC,hf⟩:=h
 rcases open_ints Tryz.underlying23 Tryz.underlying5 Qxx hf with ⟨I,_⟩ | ⟨x,l,c,zs,I,_,hl,hm,hz,_,D,aA⟩
 ·simp [Value.cells] at I
  obtain ⟨rfl,rfl,rfl⟩:=I
  exact ⟨none,0,0,rfl,Q9 _,[],rfl,Sl.nil _ _ _⟩
 simp [Value.cells] at I
 obtain ⟨rfl,rfl,rfl⟩:=I
 simp only [if_true] at hz
 obtain ⟨m,O⟩:=eX ((if len<=40 then len else 40))
 have aD:m<=len/\m<=40:=by rw [<- O];split <;> omega
 have A:((zs.take m).map fun z=>UInt8.ofNat z.toNat).length=m:=by rw [Z7,Qm];omega
 refine ⟨some x,len,cap,rfl,hl,(zs.take m).map fun z=>UInt8.ofNat z.toNat,by rw [A];exact O,?_⟩
 rw [A]
 refine ⟨some x,cap,by rw [A],by rw [A];omega,fun Y=>?_⟩
 have T:0<m:=by
  rw [<- A]
  exact List.length_pos_iff.2 Y
 obtain ⟨b,off,spot⟩:=x
 have M:spot=none:=by simpa [Addr.add] using World.cell?_spot (D 0 Qvu)
 subst M
 have N:∀ i (y:UInt8),((zs.take m).map fun z=>UInt8.ofNat z.toNat)[i]?=some y->W.cell? ⟨b,off+i,none⟩=some (.int .u8 y.toNat):=fun i y U=>by
  obtain ⟨z,J,rfl⟩:∃ z,(zs.take m)[i]?=some z/\UInt8.ofNat z.toNat=y:=by
   rw [List.getElem?_map,Option.map_eq_some_iff] at U
   exact U
  have V:i<m:=by have:=(Qj J).1;rw [Qm] at this;omega
  rw [List.getElem?_take_of_lt V] at J
  have Z:=aA z (Qy J)
  have hr:0<=z/\z<=255:=by simpa [Lit.wf,IntKind.min,IntKind.max,IntKind.signed,IntKind.bits] using Z
  have:=D i Qvu
  rw [Qs,J] at this
  rw [show ((⟨b,off,none⟩:Addr).add i)=⟨b,off+i,none⟩ by unfold Addr.add;split <;> simp_all,Option.getD_some] at this
  rw [this]
  have h8:(UInt8.ofNat z.toNat).toNat=z.toNat:=by
   rw [UInt8.toNat_ofNat']
   exact Nat.mod_eq_of_lt Qvu
  rw [h8,Int.toNat_of_nonneg hr.1]
 obtain ⟨y0,aB⟩:∃ y,((zs.take m).map fun z=>UInt8.ofNat z.toNat)[0]?=some y:=⟨_,Qx (by rw [A];exact T)⟩
 exact ⟨b,off,rfl,trivial,Qv _ _ (N 0 y0 aB),fun i y U=>⟨[.int .u8 y.toNat],fun j u hj=>by
  obtain rfl:j=0:=by
   cases j with
   | zero=>rfl
   | succ j=>simp at hj
  obtain rfl:Value.int .u8 y.toNat=u:=by simpa using hj
  have h:=N i y U
  rw [show off+i=off+i*Zt.k+0 by show _=off+i*1+0;omega] at h
  exact h,rfl⟩⟩
theorem Qzf:Dp:=fun S0 S1 s cs lv l w h1 h2 h3 h4 h5 h6=>Tt S0 S1 s cs lv l w h1 h2 h3 h4 h5 h6
theorem Fh (os:Os) (started:os.Started) (H:Type) (enc:TypeId × Value->H):
  ReturnsInHanded {} Tryz.checked os 3 .any (fun w args=>(Rows.rowsEncodingSpec.pre enc Tryz.prog Tryz.f3 Rows.rowsEncodingRow.domain false w args/\laidMetH Tryz.prog Rows.rowsEncodingRow.laid w)/\sizedMet enc Tryz.prog Tryz.f3 (OpenSpec.ofChange Rows.rowsEncodingSpec) false w args)
   (Rows.rowsEncodingSpec.post enc Tryz.prog Tryz.f3 false true false false):=by
 refine returnsInHanded_of_change_and (C:=Tryz.checked) (X:=fun w _=>laidMetH Tryz.prog Rows.rowsEncodingRow.laid w) (fun _ _ _ hh h=>h.of_heap hh) own started Qxx Tryz.func3
  (ChangeSpec.witness_shaped (enc:=enc) (C:=Tryz.checked) (os:=os) (X:=fun w _=>laidMetH Tryz.prog Rows.rowsEncodingRow.laid w) false (World.laidAll Tryz.prog os Rows.rowsEncodingRow.laid) #[Qxe,Qxe,Qxe,Qxc,.int .u8 0,Qxe] 8 (World.laidAll_os _ _ _)
   (World.shaped_of_ZipB Qxx Qxx) Qxx Qxx Qxx
   (by rw [MakeChecks.laidMetH_plain _ _ _ Qxx];exact laidMet_laidAll _ Qxx Qxx)) ?_
 intro W base args ds gs V D hW _ _ hL _
 have A:∀ (j:Nat) t v,Tryz.f3.params[j]?=some t->args[j]?=some v->Value.okWide Tryz.prog W .any base t v:=D
 have Z:=hW
 obtain ⟨p,q,J,hV,rfl,_,_⟩:=hW
 have hA:DataW.TrodAll enc Tryz.prog W 0 (fun _=>true) true Tryz.f3.params.toList args.toList ds p:=J
 rw [Tryz.params3] at hA A
 obtain ⟨v0,aW,d0,aQ,p0,q0,aA,rfl,rfl,h0,r0⟩:=trodAll_cons hA
 obtain ⟨v1,aX,d1,aR,p1,q1,rfl,rfl,rfl,h1,r1⟩:=trodAll_cons r0
 obtain ⟨v2,aY,d2,aS,p2,q2,rfl,rfl,rfl,h2,r2⟩:=trodAll_cons r1
 obtain ⟨v3,aZ,d3,aT,p3,q3,rfl,rfl,rfl,h3,r3⟩:=trodAll_cons r2
 obtain ⟨v4,bA,d4,aU,p4,q4,rfl,rfl,rfl,h4,r4⟩:=trodAll_cons r3
 obtain ⟨v5,bB,d5,aV,p5,q5,rfl,rfl,rfl,h5,r5⟩:=trodAll_cons r4
 obtain ⟨rfl,rfl,rfl⟩:=trodAll_nil r5
 obtain rfl:args=#[v0,v1,v2,v3,v4,v5]:=by cases args;simp_all
 obtain ⟨rfl,rfl⟩:=trodVars_none hV
 have k0:=h0
 have aH:∀ x ∈ p0,x.block<W.heap.size:=by obtain ⟨m,I⟩:=k0;exact DataW.trod_lt m _ _ _ I
 obtain ⟨z0,aE,aB⟩:=Dz (A 0 22 v0 rfl rfl) h0
 have k1:=h1
 have aI:∀ x ∈ p1,x.block<W.heap.size:=by obtain ⟨m,I⟩:=k1;exact DataW.trod_lt m _ _ _ I
 obtain ⟨z1,aF,aC⟩:=Dz (A 1 22 v1 rfl rfl) h1
 have k2:=h2
 have aJ:∀ x ∈ p2,x.block<W.heap.size:=by obtain ⟨m,I⟩:=k2;exact DataW.trod_lt m _ _ _ I
 obtain ⟨z2,aG,aD⟩:=Dz (A 2 22 v2 rfl rfl) h2
 obtain ⟨a3,rfl,rfl,rfl,w3⟩:=open_int Tryz.underlying3 (A 3 3 v3 rfl rfl) h3
 have M:-9223372036854775808<=a3/\a3<=9223372036854775807:=by have:=w3;simpa [Lit.wf,IntKind.min,IntKind.max,IntKind.signed,IntKind.bits] using this
 obtain ⟨a4,rfl,rfl,rfl,w4⟩:=open_int Tryz.underlying5 (A 4 5 v4 rfl rfl) h4
 have N:0<=a4/\a4<=255:=by have:=w4;simpa [Lit.wf,IntKind.min,IntKind.max,IntKind.signed,IntKind.bits] using this
 have k5:=h5
 have aK:∀ x ∈ p5,x.block<W.heap.size:=by obtain ⟨m,I⟩:=k5;exact DataW.trod_lt m _ _ _ I
 obtain ⟨aP,aO,aN,rfl,T,Y,O,U⟩:=St (A 5 23 v5 rfl rfl) h5
 clear J D
 refine (Ef Qzf _ _ _ _ v0 v1 v2 z0 z1 z2 a3 a4 aP aO aN Y W aE aF aG aB aC aD M.1 M.2 N.1 N.2 T O U (Av hL)).mono fun e W' ⟨he,bel⟩=>?_
 subst he
 exact ⟨_,rfl,_,_,_,[],_,[],Z,trodAll_mk1 (shut_bool Tryz.underlying4 _),(trodAll_cons_mk (Below.trod Gf Qxx (of_decide_eq_true Qxx) k0 bel aH) (trodAll_cons_mk (Below.trod Gf Qxx (of_decide_eq_true Qxx) k1 bel aI) (trodAll_cons_mk (Below.trod Gf Qxx (of_decide_eq_true Qxx) k2 bel aJ) (trodAll_cons_mk (shut_int Tryz.underlying3 w3) (trodAll_cons_mk (shut_int Tryz.underlying5 w4) (trodAll_cons_mk (Below.trod Gf Qxx (of_decide_eq_true Qxx) k5 bel aK) trodAll_mk0)))))),rfl,bel.frame _,fun h=>by cases h⟩
end Go.Proofs.YtlanplhphiikjaaGreatDoor
