import Derived.Test.YtlanplhphiikjaaGreatDoorE16
set_option maxRecDepth 100000
set_option maxHeartbeats 400000000
namespace Go.Proofs.YtlanplhphiikjaaGreatDoor
open Go.RowKit Go.Shelf Go.Lib Tryz
theorem Cp (a b:Int):∃ m:Nat,bits BinOp.or IntKind.u64 a b=(m:Int):=
 ⟨(bits BinOp.or IntKind.u64 a b).toNat,by
  have:0<=bits BinOp.or IntKind.u64 a b:=by
   show 0<=IntKind.u64.wrap _
   rw [IntKind.wrap_u64];omega
  omega⟩
theorem Cg (c:UInt8):IntKind.u64.wrap (bits BinOp.andNot IntKind.u8 (c.toNat:Int) 128)=((c.toNat % 128:Nat):Int):=by
 rw [Qzd,IntKind.wrap_u64];omega
theorem u_val (m k:Nat) (c:UInt8) (P:Int) (hP:P=2 ^ (7*k)) (hm:m<2 ^ (7*k)) (hk:k<=9) (hc:c.toNat<128) (h9:k=9->c.toNat<=1):bits BinOp.or IntKind.u64 (m:Int) (IntKind.u64.wrap (IntKind.u64.wrap (bits BinOp.andNot IntKind.u8 (c.toNat:Int) 128)*P))=((m+c.toNat*2 ^ (7*k):Nat):Int):=by
 rw [Cg,Nat.mod_eq_of_lt hc,hP]
 refine R8 m c.toNat k hm hk ?_
 by_cases h:k=9
 ·subst h
  exact Nat.lt_of_le_of_lt (h9 rfl) Qxv
 exact Qa hc (Nat.pow_le_pow_right (n:=2) Qvu (show 7<=64 - 7*k by omega))
theorem u_more (m k:Nat) (c:UInt8) (hm:m<2 ^ (7*k)) (hk:k<=8) (hc:¬ c.toNat<128):bits BinOp.or IntKind.u64 (m:Int) (IntKind.u64.wrap (IntKind.u64.wrap (bits BinOp.andNot IntKind.u8 (c.toNat:Int) 128)*2 ^ (7*k)))=((m+(c.toNat - 128)*2 ^ (7*k):Nat):Int)/\m+(c.toNat - 128)*2 ^ (7*k)<2 ^ (7*(k+1)):=by
 have A:=c.toNat_lt
 rw [Cg,show c.toNat % 128=c.toNat - 128 by omega]
 refine ⟨R8 m _ k hm Qvu (Qa (show c.toNat - 128<2 ^ 7 by omega) (Nat.pow_le_pow_right (n:=2) Qvu Qvu)),?_⟩
 have e7:(2:Nat) ^ 7=128:=Qxv
 rw [show 7*(k+1)=7*k+7 by omega,Nat.pow_add,e7]
 have h1:(c.toNat - 128)*2 ^ (7*k)<=127*2 ^ (7*k):=Nat.mul_le_mul_right _ Qvu
 omega
theorem O0 (S:Nat->Prop) (g:Nat) (w:World) (o:Option Bs) (hS:∀ b,S b->b≠g) (h:RAt S g w o):
  Calls prog 42 #[Qxb g] w (Ei S g w (.int .u64 (rdU o).1) (rdU o).2):=by
 have aY:=Qq h;have HS:=Qq hS
 obtain ⟨R,Z⟩:=eX (rdU o)
 rw [Z]
 have bA:=Qq (show Ge 0 0 o=R by rw [Wt];exact Z)
 clear h hS Z
 go_enter func42,ntmps42
 go_wp2_with fail
 go_loopw [3,4] (fun n i wr=>∃ (k m:Nat) (o':Option Bs),n=.int .u64 m/\i=.int .i64 k/\k<=10/\Aside (Ge m k o'=R)/\Aside (o'≠none->k<=9/\m<2 ^ (7*k))/\Aside (RAt S g wr o')/\Aside (Zr (fun b=>b=g) g w wr)) (fun _ i _=>10 - (intOf i).toNat)
 case atStart=>exact ⟨0,0,o,rfl,rfl,Qvu,bA.out,fun _=>⟨Qvu,Qxz⟩,aY.out,Zr.refl _ _ _⟩
 obtain ⟨k,m,o',rfl,rfl,hk,hE,hB,hA,hG⟩:=hrel
 have HE:=Qq (show Ge m k o'=R from hE);have HG:=Qq (show Zr (fun b=>b=g) g w wr from hG)
 have HN:=Qq (Sp S g wr o' HS.out hA)
 have aZ:=Qq (show RAt S g wr o' from hA)
 have aJ:o'≠none->k<=9/\m<2 ^ (7*k):=hB
 obtain ⟨p,b,cap,e,h1,h2,h3,ho⟩:=hA
 have c1:=rA1 h1
 clear h1 h2 h3 hE hB hG
 by_cases he:e=0
 ·subst he
  rw [if_pos rfl] at ho
  subst ho
  obtain ⟨aS,hm⟩:=aJ Qxz
  clear aJ
  cases b with
  | nil=>
   rw [show Tz (some ([]:Bs))=(0,none) from rfl] at HN
   have Z:R=(0,none):=HE.out.symm
   have HF:=Qq (fun W (h:RAt S g W none)=>F9 S g W none 2 HS.out h Qvu)
   have O:=Qq Z
   have bI:10 - (k+1)<10 - k:=Qvu
   clear Z hm
   rw [show (((0:UInt8).toNat:Nat):Int)=0 from rfl] at HN
   go_wp2_with (first | (go_at_call 90;refine (HF.out _ N.out).mono ?_;rintro e9 w3 ⟨rfl,D,Y⟩;obtain ⟨p3,b3,aQ,e3,U,aG,aI,J⟩:=id D;have x1:=rA1 U;have bF:(e3==(0:Int))=false:=(by rcases Classical.em (e3=0) with h | h;rw [if_pos h] at J;cases J;simpa using h);have aD:=Qq D;have aC:=Qq (M.out.trans Y);clear U aG aI J Y D) | (go_at_call 44;refine HN.out.mono ?_;rintro e9 w2 ⟨rfl,A,V⟩;obtain ⟨p2,b2,aP,e2,T,aF,aH,I⟩:=id A;have d1:=rA1 T;have aT:(e2==(0:Int))=false:=(by rcases Classical.em (e2=0) with h | h;rw [if_pos h] at I;cases I;simpa using h);have N:=Qq A;have M:=Qq V;clear T aF aH I V A))
   all_goals
    go_roundw
    case measure=>simp [intOf];omega
    case rel=>
     obtain ⟨m2,aK⟩:=Cp _ _
     exact ⟨k+1,m2,none,congrArg (Value.int .u64) aK,by go_num,Qvu,O.out.symm,fun h=>absurd rfl h,(by first | exact aD.out | exact N.out),(by first | exact HG.out.trans aC.out | exact HG.out.trans M.out)⟩
  | cons c r=>
   rw [show Tz (some (c::r))=(c,some r) from rfl] at HN
   have bH:=c.toNat_lt
   have bG:((c.toNat:Int)==0)=decide (c.toNat=0):=by rw [Bool.eq_iff_iff];simp
   have HM:=Qq hm
   clear hm
   have HF:=Qq (fun W (h:RAt S g W (some r))=>F9 S g W (some r) 2 HS.out h Qvu)
   go_wp2_with (first | (go_at_call 90;refine (HF.out _ N.out).mono ?_;rintro e9 w3 ⟨rfl,D,Y⟩;obtain ⟨p3,b3,aQ,e3,U,aG,aI,J⟩:=id D;have x1:=rA1 U;have bF:(e3==(0:Int))=false:=(by rcases Classical.em (e3=0) with h | h;rw [if_pos h] at J;cases J;simpa using h);have aD:=Qq D;have aC:=Qq (M.out.trans Y);clear U aG aI J Y D) | (go_at_call 44;refine HN.out.mono ?_;rintro e9 w2 ⟨rfl,A,V⟩;obtain ⟨p2,b2,aP,e2,T,aF,aH,I⟩:=id A;have d1:=rA1 T;have aT:e2=0:=(by rcases Classical.em (e2=0) with h | h;exact h;rw [if_neg h] at I;cases I);subst aT;have N:=Qq A;have M:=Qq V;clear T aF aH I V A))
   all_goals clear bG
   all_goals first
    | (
      have O:=Qq (HE.out.symm.trans (Qvm m k c r Qvu Qvu))
      go_ret
      rw [O.out]
      refine ⟨Ys ?_,N.out,HG.out.trans M.out⟩
      first
       | exact u_val m k c _ rfl HM.out aS Qvu Qvu
       | (
        obtain rfl:k=9:=Qvu
        exact u_val m 9 c _ Qxv HM.out aS Qvu Qvu))
    | (
      have aB:=Qq (show ¬ (k=9/\1<c.toNat\/0<k/\c.toNat=0) by omega)
      have aM:=Qq (show ¬ c.toNat<128 by omega)
      go_roundw
      case measure=>simp [intOf];omega
      case rel=>
       obtain ⟨e1,e2⟩:=u_more m k c HM.out Qvu aM.out
       exact ⟨k+1,_,some r,congrArg (Value.int .u64) e1,by go_num,Qvu,(Qvh m k c r aB.out aM.out).symm.trans HE.out,fun _=>⟨Qvu,e2⟩,N.out,HG.out.trans M.out⟩)
    | (
      have aB:=Qq (show k=9/\1<c.toNat\/0<k/\c.toNat=0 by omega)
      go_roundw
      case measure=>simp [intOf];omega
      case rel=>
       obtain ⟨m2,aK⟩:=Cp _ _
       exact ⟨k+1,m2,none,congrArg (Value.int .u64) aK,by go_num,Qvu,(show Ge m2 (k+1) none=R from (rdAt_bad m k c r aB.out).symm.trans HE.out),fun h=>absurd rfl h,aD.out,HG.out.trans aC.out⟩)
 have hn:o'=none:=ho.trans (if_neg he)
 subst hn
 have hq:(e==(0:Int))=false:=by simpa using he
 have Z:R=(0,none):=HE.out.symm
 have O:=Qq Z
 clear ho he Z aJ
 go_wp2_with fail
 go_ret
 rw [O.out]
 exact ⟨rfl,aZ.out,HG.out⟩
theorem and_one (z:Nat) (hz:z<18446744073709551616):bits BinOp.and IntKind.u64 (z:Int) 1=((z % 2:Nat):Int):=by
 show IntKind.u64.wrap ((BitVec.ofInt 64 (z:Int) &&& BitVec.ofInt 64 1).toNat:Int)=_
 rw [BitVec.ofInt_natCast,show BitVec.ofInt 64 1=BitVec.ofNat 64 1 from rfl,BitVec.toNat_and,BitVec.toNat_ofNat,BitVec.toNat_ofNat,Nat.mod_eq_of_lt (by simpa using hz),show (1:Nat) % 2 ^ 64=1 by decide,Nat.and_one_is_mod,IntKind.wrap_u64]
 omega
theorem xor_neg (x:Int) (h0:0<=x) (h1:x<9223372036854775808):bits BinOp.xor IntKind.i64 x (-1)=-x - 1:=by
 show IntKind.i64.wrap ((BitVec.ofInt 64 x ^^^ BitVec.ofInt 64 (-1)).toNat:Int)=_
 have e:BitVec.ofInt 64 (-1)=BitVec.allOnes 64:=Qxv
 rw [e,BitVec.xor_allOnes,BitVec.toNat_not,BitVec.toNat_ofInt,IntKind.wrap_i64]
 omega
theorem xor_nil (x:Int) (h0:0<=x) (h1:x<9223372036854775808):bits BinOp.xor IntKind.i64 x 0=x:=by
 show IntKind.i64.wrap ((BitVec.ofInt 64 x ^^^ BitVec.ofInt 64 0).toNat:Int)=_
 have e:BitVec.ofInt 64 0=0#64:=Qxv
 rw [e,BitVec.xor_zero,BitVec.toNat_ofInt,IntKind.wrap_i64]
 omega
theorem unzz_any (z:Nat) (hz:z<18446744073709551616) (w:World):Calls prog 41 #[.int .u64 z] w fun e w'=>e=.returned (.int .i64 (Hc z))/\w=w':=by
 have A:=and_one z hz
 by_cases h:z % 2=0
 ·rw [h] at A
  have D:=Qq (show bits BinOp.xor IntKind.i64 ((z:Int) / 2) 0=Hc z by rw [xor_nil _ Qvu Qvu];unfold Hc;rw [if_pos h];omega)
  clear h
  rw [show (((0:Nat):Nat):Int)=0 from rfl] at A
  go_enter func41,ntmps41
  go_wp2_with fail
  go_ret
  exact ⟨Ys D.out,rfl⟩
 rw [show z % 2=1 by omega] at A
 have D:=Qq (show bits BinOp.xor IntKind.i64 ((z:Int) / 2) (-1)=Hc z by rw [xor_neg _ Qvu Qvu];unfold Hc;rw [if_neg h];omega)
 clear h
 rw [show (((1:Nat):Nat):Int)=1 from rfl] at A
 go_enter func41,ntmps41
 go_wp2_with fail
 go_ret
 exact ⟨Ys D.out,rfl⟩
end Go.Proofs.YtlanplhphiikjaaGreatDoor
