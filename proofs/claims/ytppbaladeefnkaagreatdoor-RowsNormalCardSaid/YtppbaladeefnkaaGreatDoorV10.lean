import Derived.Test.YtppbaladeefnkaaGreatDoorV08
set_option maxRecDepth 100000
set_option maxHeartbeats 400000000
namespace Go.Proofs.YtppbaladeefnkaaGreatDoor
open Go.RowKit Go.Shelf Go.Lib Tryz
def Gq (S:Nat→Prop) (w:World) (v:Val) (e:Ending) (w':World):Prop:=∃ cs',e=.returned (.agg cs'.toArray)∧Qh S w' cs' v∧Below w.heap.size w w'
def J9 (b:Bool):Val:=.mk 2 (if b then 1 else 0) [] [] []
theorem E6 (S:Nat→Prop) (w:World) (b:Bool):Qh S w [.int .i64 2,.int .i64 (if b then 1 else 0),.string ⟨#[]⟩,.slice none 0 0,.slice none 0 0] (J9 b):=
 Zn (s:=[]) (by simp) (Sl.nil _ _ _) (Sl.nil _ _ _)
theorem Pc (w:World):Calls prog 164 #[.bool true] w fun e w'=>e=.returned (.tuple #[])∧w=w':=by
 go_enter func164,ntmps164
 go_wp2_with fail
 go_end0
 exact ⟨rfl,rfl⟩
theorem Fq (b:Bool) (S:Nat→Prop) (w:World):Calls prog 165 #[.bool b] w (Gq S w (J9 b)):=by
 cases b
 ·go_enter func165,ntmps165
  go_wp2_with fail
  generalize hW:w.alloc _=W
  have hb:=eqB hW (Qn _ _)
  have hR:=eqH (b:=w.heap.size) hW (Qw _ _)
  refine Q7 (v:=.agg #[.int .i64 2,.int .i64 0,.string ⟨#[]⟩,.slice none 0 0,.slice none 0 0]) (by simp [results,results165,go_sem,Qk _ _ _ _ _ _ hR]) rfl ⟨_,rfl,E6 _ _ false,hb⟩
 go_enter func165,ntmps165
 go_wp2_with fail
 generalize hW:w.alloc _=W
 have hb:=eqB hW (Qn _ _)
 have hR:=eqH (b:=w.heap.size) hW (Qw _ _)
 refine Q7 (v:=.agg #[.int .i64 2,.int .i64 1,.string ⟨#[]⟩,.slice none 0 0,.slice none 0 0]) (by simp [results,results165,go_sem,Qk _ _ _ _ _ _ hR]) rfl ⟨_,rfl,E6 _ _ true,hb⟩
theorem of_ok (k:Int) (S:Nat→Prop) (v:Val) (cs:List Value) (w:World) (h:Qh S w cs v) (hk:v.kind=k):Calls prog 161 #[.int .i64 k,.agg cs.toArray] w fun e w'=>e=.returned (.agg cs.toArray)∧Below w.heap.size w w':=by
 have HM:=Qq Pc
 obtain ⟨p3,k3,p4,k4,hcs,_⟩:=Qh.cells h
 simp only [vcs] at hcs
 subst hcs
 subst hk
 clear h
 go_enter func161,ntmps161
 go_wp2_with (go_at_call 164;refine (HM.out _).mono ?_;rintro e w' ⟨rfl,rfl⟩)
 generalize hW:(w.alloc _).alloc _=W
 have hb:=eqB hW (Zv _ _ _)
 have hR:=eqH (b:=w.heap.size+1) hW (Q6 _ _ _)
 refine Q7 (v:=.agg #[.int .i64 v.kind,.int .i64 v.n,.string ⟨v.s.toArray⟩,.slice p3 v.names.length k3,.slice p4 v.kids.length k4]) (by simp [results,results161,go_sem,Qk _ _ _ _ _ _ hR]) rfl ⟨rfl,hb⟩
theorem fld1 (a b c d e:Value) (w:World):(Instr.field 44 (.agg #[a,b,c,d,e]) 1).run prog w=.ok b w:=by
 simp [Instr.field,go_sem,part,asAgg]
theorem truth_ok (b:Bool) (S:Nat→Prop) (cs:List Value) (w:World) (h:Qh S w cs (J9 b)):Calls prog 129 #[.agg cs.toArray] w fun e w'=>e=.returned (.bool b)∧Below w.heap.size w w':=by
 have HO:=Qq (fun W (hb:Below w.heap.size w W)=>of_ok 2 S (J9 b) cs W (Qh.move h (.of_below hb) (fun _ _ h=>h)) rfl)
 obtain ⟨p3,k3,p4,k4,hcs,_⟩:=Qh.cells h
 simp only [vcs] at hcs
 subst hcs
 clear h
 have hk:(J9 b).kind=2:=rfl
 have hn:((J9 b).n==1)=b:=by cases b <;> rfl
 generalize J9 b=v at hk hn HO ⊢
 subst hn
 rw [hk] at HO ⊢
 clear hk
 have HO2:Hid (∀ W,Below w.heap.size w W→Calls prog 161 #[.int .i64 2,.agg #[.int .i64 2,.int .i64 v.n,.string ⟨v.s.toArray⟩,.slice p3 v.names.length k3,.slice p4 v.kids.length k4]] W fun e w'=>e=.returned (.agg #[.int .i64 2,.int .i64 v.n,.string ⟨v.s.toArray⟩,.slice p3 v.names.length k3,.slice p4 v.kids.length k4])∧Below W.heap.size W w'):=HO
 clear HO
 have hf:=fld1 (.int .i64 2) (.int .i64 v.n) (.string ⟨v.s.toArray⟩) (.slice p3 v.names.length k3) (.slice p4 v.kids.length k4)
 go_enter func129,ntmps129
 go_wp2_with (go_at_call 161;refine (HO2.out _ (Qn _ _)).mono ?_;rintro e w' ⟨rfl,hw⟩)
 go_ret
 exact ⟨rfl,(Qn _ _).thn hw⟩
theorem Sl.int {S:Nat→Prop} {w:World} {p:Option Addr} {n cap:Nat} {xs:List Int} (h:Sl Kz S w (.slice p n cap) xs) {i:Nat} {x:Int} (hx:xs[i]?=some x):
  ∃ b off,p=some ⟨b,off,none⟩∧w.cell? ⟨b,off+i,none⟩=some (.int .i64 x)∧True:=by
 obtain ⟨p',c',h1,_,h3⟩:=h
 simp only [Value.slice.injEq] at h1
 obtain ⟨rfl,_,_⟩:=h1
 obtain ⟨b,off,e,_,_,hc⟩:=h3 (by intro e;subst e;simp at hx)
 obtain ⟨cs,h4,h5⟩:=hc i x hx
 refine ⟨b,off,e,?_,trivial⟩
 have:=h4 0 (.int .i64 x) (by rw [h5];rfl)
 rwa [Nat.add_zero,show Kz.k=1 from rfl,Nat.mul_one] at this
theorem Np (S:Nat→Prop) (v:Value) (l:List Int) (x:Int) (w:World) (hs:Sl Kz S w v l):
  Calls prog 191 #[v,.int .i64 x] w fun e w'=>e=.returned (.int .i64 (Y9 (fun y=>decide (y=x)) l))∧w=w':=by
 obtain ⟨p,cap,rfl,hl⟩:=hs.len
 have HS:=Qq hs
 clear hs
 obtain ⟨n,hn⟩:=eX (l.length)
 rw [hn] at HS hl;rw [hn]
 have HN:=Qq hn
 clear hn
 go_enter func191,ntmps191
 go_wp2_with fail
 go_loop [8] (fun i=>∃ k:Nat,k≤n∧i=.int .i64 k∧Aside (∀ (j:Nat) (y:Int),j<k→l[j]?=some y→decide (y=x)=false)) (fun i=>n - (intOf i).toNat)
 case atStart=>exact ⟨0,Q8 _,rfl,fun j _ hj=>absurd hj (Nat.not_lt_zero _)⟩
 obtain ⟨k,hk,rfl,A⟩:=hrel
 by_cases hlt:k<n
 ·have hi1:(0:Int)≤(k:Int):=by omega
  have hi2:(k:Int)<(n:Int):=by omega
  obtain ⟨y,hy⟩:∃ y,l[k]?=some y:=⟨_,Qx (by rw [HN.out];exact hlt)⟩
  obtain ⟨b,off,rfl,hc,-⟩:=HS.out.int hy
  have HY:=Qq hy
  clear hy
  by_cases he:y=x
  ·have hq:(x==y)=true:=by rw [he];simp
   have hq2:decide (x=y)=true:=by rw [he];simp
   have HE:=Qq he
   clear he
   go_wp2_with fail
   go_ret
   refine ⟨?_,rfl⟩
   rw [Vb HY.out (by rw [HE.out];simp) A.out]
   rfl
  have hq:(x==y)=false:=by rw [← Bool.not_eq_true,beq_iff_eq];exact fun e=>he e.symm
  have hq2:decide (x=y)=false:=by simpa using fun e=>he e.symm
  have HE:=Qq he
  clear he
  go_wp2_with fail
  go_round
  case measure=>simp [intOf];omega
  case rel=>
   refine ⟨k+1,by omega,by go_num,(show Aside _ from fun j z hj hz=>?_)⟩
   by_cases e:j=k
   ·subst e
    have:=HY.out
    rw [this] at hz
    cases hz
    simpa using HE.out
   exact A.out j z (by omega) hz
 have hltz:¬ (k:Int)<(n:Int):=by omega
 have:k=n:=by omega
 subst this
 go_wp2_with fail
 go_ret
 refine ⟨?_,rfl⟩
 rw [Xf (fun j y hy=>A.out j y (by have:=(Qj hy).1;have:=HN.out;omega) hy)]
 rfl
theorem O7 (S:Nat→Prop) (v:Value) (l:List Int) (x:Int) (w:World) (hs:Sl Kz S w v l):
  Calls prog 158 #[v,.int .i64 x] w fun e w'=>e=.returned (.bool (l.any fun y=>decide (y=x)))∧w=w':=by
 rw [← Dr]
 have HI:=Qq (fun W=>Np S v l x W)
 have HS:=Qq hs
 clear hs
 generalize Y9 _ l=i at HI ⊢
 go_enter func158,ntmps158
 go_wp2_with (go_at_call 191;refine (HI.out _ HS.out).mono ?_;rintro e w' ⟨rfl,rfl⟩)
 go_ret
 exact ⟨rfl,rfl⟩
mutual
def Ux:Ex→Bool
 | .mk k _ _ _ _ _ kids _ _=>!([4,10,15,16].any fun y=>decide (y=k))&&Et kids
def Et:List Ex→Bool
 | []=>true
 | e::l=>Ux e&&Et l
end
theorem O8 (l:List Ex):Et l=!(l.any fun e=>!Ux e):=by
 induction l with
 | nil=>rfl
 | cons e l ih=>simp only [Et,ih,List.any_cons,Bool.not_or,Bool.not_not]
def Es (e:Ex):Prop:=∀ (S:Nat→Prop) (cs:List Value) (w:World),Z6 S w cs e →
 Calls prog 127 #[.agg cs.toArray] w fun r w'=>r=.returned (.bool (Ux e))∧Below w.heap.size w w'
theorem Rm (S:Nat→Prop) (kids:List Ex) (ih:∀ x ∈ kids,Es x) (w:World):Xp prog 160 #[] Ys S kids (fun e=>!Ux e) w:=by
 intro W x cs hb hx hr
 have HI:=Qq (fun W' (h':Below W.heap.size W W')=>ih x hx S cs W' (Ys.frame hr (.of_below h')))
 obtain ⟨k,s1,n,s2,p1,n1,c1,p2,n2,c2,p3,n3,c3,a,z,hcs⟩:=Z6.cells (show Z6 S W cs x from hr)
 subst hcs
 show Calls prog 160 #[.agg #[.int .i64 k,.string s1,.int .i64 n,.string s2,.slice p1 n1 c1,.slice p2 n2 c2,.slice p3 n3 c3,.int .i64 a,.int .i64 z]] W (fun e w'=>e=.returned (.bool (!Ux x))∧Below W.heap.size W w')
 generalize Ux x=b at HI ⊢
 clear hb hx hr ih
 go_enter func160,ntmps160
 go_wp2_with (go_at_call 127;refine (HI.out _ (Qn _ _)).mono ?_;rintro e w' ⟨rfl,hw⟩)
 go_ret
 exact ⟨rfl,(Qn _ _).thn hw⟩
theorem sl_ints4 (w:World) (a b c d:Int) (g:Nat) (E:TypeId) (h:w.heap[g]?=some (.cells #[.int .i64 a,.int .i64 b,.int .i64 c,.int .i64 d] E (0,0))):Sl Kz (fun _=>True) w (.slice (some ⟨g,0,none⟩) 4 4) [a,b,c,d]:=by
 refine Sl.of_css (r:=Kz) (xs:=[a,b,c,d]) (css:=[[.int .i64 a],[.int .i64 b],[.int .i64 c],[.int .i64 d]]) (by simp) ?_ trivial (Qf h) (fun j u hu=>?_)
 ·exact (Cs.one (r:=Kz) rfl).app ((Cs.one (r:=Kz) rfl).app ((Cs.one (r:=Kz) rfl).app (Cs.one (r:=Kz) rfl)))
 rw [Nat.zero_add,Qk _ _ _ _ _ _ h]
 simpa using hu
theorem Sk (k:Int) (nm:Bs) (n:Int) (s:Bs) (names binds:List Bs) (kids:List Ex) (a z:Int) (ih:∀ x ∈ kids,Es x):Es (.mk k nm n s names binds kids a z):=by
 intro S cs w h
 obtain ⟨nv,bv,kv,rfl,hm,hs,hn,hb,hk⟩:=Zf.1 h
 obtain ⟨np,nc,rfl,_⟩:=hn.len
 obtain ⟨bp,bc,rfl,_⟩:=hb.len
 obtain ⟨kp,kc,rfl,hkl⟩:=hk.len
 have HC:=Qq (fun W (hb:Below w.heap.size w W)=>L2 Tryz.cfExpr Ys isAgg35 sizeOf35 160 #[] (enters_of func160 (by kernel_rfl) rfl) S (.slice kp kids.length kc) kids W (fun e=>!Ux e) (hk.below hb) (Rm S kids ih W))
 have HI:=Qq (fun W g (h:W.heap[g]?=some (.cells #[.int .i64 4,.int .i64 10,.int .i64 15,.int .i64 16] 3 (0,0)))=>O7 _ (.slice (some ⟨g,0,none⟩) 4 4) [4,10,15,16] k W (sl_ints4 W 4 10 15 16 g _ h))
 have hF:Ux (.mk k nm n s names binds kids a z)=(!([4,10,15,16].any fun y=>decide (y=k))&&!(kids.any fun e=>!Ux e)):=by rw [Ux,O8]
 rw [hF]
 obtain ⟨q,hq⟩:=eX (([4,10,15,16].any fun y=>decide (y=k)))
 obtain ⟨q2,hq2⟩:=eX ((kids.any fun e=>!Ux e))
 rw [hq] at HI
 rw [hq2] at HC
 rw [hq,hq2]
 clear hF hq hq2 h hn hb hk ih
 unfold sv
 cases q
 ·rw [Bool.not_false,Bool.true_and]
  go_enter func127,ntmps127
  go_wp2_with fail
  refine (HI.out _ (w.heap.size+1) (Q6 _ _ _)).mono ?_
  rintro e w1 ⟨rfl,rfl⟩
  go_wp2_with (go_at_call 159;refine (HC.out _ (Zv _ _ _)).mono ?_;rintro e w' ⟨rfl,hw⟩)
  go_ret
  exact ⟨rfl,(Zv _ _ _).thn hw⟩
 go_enter func127,ntmps127
 go_wp2_with fail
 refine (HI.out _ (w.heap.size+1) (Q6 _ _ _)).mono ?_
 rintro e w1 ⟨rfl,rfl⟩
 go_wp2_with fail
 go_ret
 exact ⟨rfl,Zv _ _ _⟩
theorem simpAt:∀ x:Ex,Es x
 | .mk k nm n s names binds kids a z=>Sk k nm n s names binds kids a z fun x _=>simpAt x
termination_by x=>SizeOf.sizeOf x
decreasing_by
 have:=List.sizeOf_lt_of_mem ‹_ ∈ kids›
 simp only [Ex.mk.sizeOf_spec]
 omega
end Go.Proofs.YtppbaladeefnkaaGreatDoor
