import Derived.Test.YtlanplhphiikjaaGreatDoorE41
import Derived.Test.YtlanplhphiikjaaGreatDoorE28
import Derived.Test.YtlanplhphiikjaaGreatDoorE46
set_option maxRecDepth 100000
set_option maxHeartbeats 400000000
namespace Go.Proofs.YtlanplhphiikjaaGreatDoor
open Go.RowKit Go.Shelf Go.Lib Tryz
theorem Ck {x:Bs} (h:x.length<=16):(wT x).length<=26:=by
 unfold wT;rw [Ql]
 have:=Kw (n:=x.length) Qvu
 omega
theorem Oz:∀ (ks:List Val) (ns:List Bs),(∀ x ∈ ns,x.length<=16)->(∀ x ∈ ks,(Y6 x).length<=70)->(Yt true ns ks).length<=96*ks.length
 | [],_,_,_=>by simp [Yt]
 | v::ks,ns,hn,hk=>by
  rw [Yt,if_pos rfl]
  simp only [Ql,List.length_cons]
  have h1:=hk v (List.mem_cons_self ..)
  have h2:=Oz ks ns.tail (fun x A=>hn x (List.mem_of_mem_tail A)) (fun x A=>hk x (List.mem_cons_of_mem _ A))
  have h3:(wT (ns.headD [])).length<=26:=Ck (by
   cases ns with
   | nil=>simp
   | cons a l=>exact hn a (List.mem_cons_self ..))
  omega
theorem Vo.size {v:Val} (h:Vo v):(Y6 v).length<=500:=by
 obtain ⟨hg,hf,hk,A⟩:=h
 cases hg with
 | int n=>cases A
 | text s=>cases A
 | bool n _=>cases A
 | make s kids _ _ _=>cases A
 | list kids _=>cases A
 | record names kids hl hn hs hgk=>
  have h1:=Jp (n:=4) Qvu Qvu
  have I:kids.length<=5:=hf
  have h2:=Jp (n:=(kids.length:Int)) Qvu Qvu
  have h3:=Oz kids names (fun x D=>(hn x D).len) (fun x D=>(hk x D).small)
  rw [Y6,if_neg Qxv,if_neg Qxv,if_neg Qxv,show ((4:Int)==4)=true from rfl]
  simp only [Ql]
  omega
theorem Gh (fl:Bool):∀ (ks:List Val) (ns:List Bs) (x:Val),x ∈ ks->(Y6 x).length<=(Yt fl ns ks).length
 | [],_,_,h=>by cases h
 | v::ks,ns,x,h=>by
  rw [Yt]
  simp only [Ql]
  rcases Z3.1 h with rfl | h
  ·omega
  have:=Gh fl ks ns.tail x h;omega
theorem Gz (fl:Bool):∀ (ks:List Val) (ns:List Bs),ks.length<=(Yt fl ns ks).length
 | [],_=>Qxz
 | v::ks,ns=>by
  rw [Yt]
  simp only [Ql,List.length_cons]
  have h1:=Sv v
  have h2:=Gz fl ks ns.tail
  omega
theorem Ea {T:Type} (f:T->Bs) (M:Nat):∀ l:List T,(∀ x ∈ l,(f x).length<=M)->(l.flatMap f).length<=M*l.length
 | [],_=>Qxz
 | x::l,h=>by
  rw [List.flatMap_cons,Ql,List.length_cons,Nat.mul_add,Nat.mul_one]
  have h1:=h x (List.mem_cons_self ..)
  have h2:=Ea f M l (fun y hy=>h y (List.mem_cons_of_mem _ hy))
  omega
theorem T7 {l:List Rel} (h:∀ r ∈ l,(∀ v ∈ r.rows,Vo v)/\r.rows.length<=8) (hn:∀ r ∈ l,r.table.length<=16) (hl:l.length<=3):(Ju l).length<=25000:=by
 have h1:∀ r ∈ l,(Xh r).length<=4200:=fun r hr=>by
  obtain ⟨h2,h3⟩:=h r hr
  have h4:=Ea Vf 510 r.rows (fun v hv=>by
   have:=(h2 v hv).size
   unfold Vf wT;rw [Ql]
   have:=Kw (n:=(Y6 v).length) Qvu
   omega)
  have h5:=Ck (hn r hr)
  have h6:=Jp (n:=(r.rows.length:Int)) Qvu Qvu
  unfold Xh
  simp only [Ql]
  omega
 have h7:=Ea Xh 4200 l h1
 have h8:=Jp (n:=(l.length:Int)) Qvu Qvu
 unfold Ju
 rw [Ql]
 omega
theorem X6.full {v:Val} (h:X6 v):(Y6 v).length<=1000000->U7 v:=by
 induction h with
 | int n hb=>exact fun _=>.int (.inl rfl) ⟨Qvu,Qvu⟩
 | text s=>
  intro A
  rw [Y6,if_neg Qxv,if_pos rfl] at A
  simp only [Ql] at A
  exact .text (by unfold wT at A;rw [Ql] at A;omega)
 | bool n hn=>exact fun _=>.int (.inr rfl) ⟨Qvu,Qvu⟩
 | make s kids A hl _ ih=>
  intro I
  rw [Y6,if_neg Qxv,if_neg Qxv,if_pos rfl,show ((3:Int)==4)=false from rfl] at I
  simp only [Ql] at I
  exact .make (Qxj A.len) Qvu (fun x D=>ih x D (by have:=Gh false kids [] x D;omega))
 | record names kids hl hn _ _ ih=>
  intro I
  rw [Y6,if_neg Qxv,if_neg Qxv,if_neg Qxv,show ((4:Int)==4)=true from rfl] at I
  simp only [Ql] at I
  exact .record hl (fun s A=>by have:=(hn s A).len;omega) (by have:=Gz true kids names;omega) (fun x D=>ih x D (by have:=Gh true kids names x D;omega))
 | list kids _ ih=>
  intro I
  rw [Y6,if_neg Qxv,if_neg Qxv,if_neg Qxv,show ((5:Int)==4)=false from rfl] at I
  simp only [Ql] at I
  exact .list (by have:=Gz false kids [];omega) (fun x D=>ih x D (by have:=Gh false kids [] x D;omega))
theorem Az {l:List Rel} (h:∀ r ∈ l,(∀ v ∈ r.rows,Vo v)/\r.rows.length<=8) (hn:∀ r ∈ l,r.table.length<=16):Gu l:=fun r A=>
 ⟨by have:=hn r A;omega,fun x D=>⟨((h r A).1 x D).good.full (by have:=((h r A).1 x D).size;omega),fun S cs w hi hT=>Nc x ((h r A).1 x D).good S cs w hi hT.kws⟩⟩
theorem U7.wok {v:Val} (h:U7 v):WOk v:=by
 induction h with
 | int hk hn=>exact .mk _ _ _ _ _ (by unfold I64;omega) hn (fun h=>Qxz) (fun _=>rfl) (fun x A=>by cases A)
 | text hs=>exact .mk _ _ _ _ _ ⟨Qvu,Qvu⟩ ⟨Qvu,Qvu⟩ (fun h=>Qxz) (fun _=>rfl) (fun x A=>by cases A)
 | make hs hl hk ih=>exact .mk _ _ _ _ _ ⟨Qvu,Qvu⟩ ⟨Qvu,Qvu⟩ (fun h=>Qvu) (fun h=>Qvu) ih
 | record hl hs hk hv ih=>exact .mk _ _ _ _ _ ⟨Qvu,Qvu⟩ ⟨Qvu,Qvu⟩ (fun h=>Qvu) (fun h=>Qvu) ih
 | list hl hk ih=>exact .mk _ _ _ _ _ ⟨Qvu,Qvu⟩ ⟨Qvu,Qvu⟩ (fun h=>Qvu) (fun h=>Qvu) ih
theorem setByte {S:Nat->Prop} {w:World} {g off n cap:Nat} {b:Bs} (h:Sl Zt S w (.slice (some ⟨g,off,none⟩) n cap) b) (k:Nat) (hk:k<n) (y:UInt8):
  Sl Zt S (w.setCell ⟨g,off+k,none⟩ (.int .u8 y.toNat)) (.slice (some ⟨g,off,none⟩) n cap) (b.set k y):=by
 obtain ⟨p',c',e,hl,h3⟩:=h
 have hn:n=b.length:=by
  simp only [Qr] at e
  exact e.2.1
 subst hn
 refine ⟨_,_,by rw [List.length_set],by rw [List.length_set];exact hl,fun _=>?_⟩
 simp only [Qr] at e
 obtain ⟨b',O,J,hS,M,hc⟩:=h3 (fun e=>by subst e;simp at hk)
 rw [<- e.1] at J
 simp only [Zv,Addr.mk.injEq,and_true] at J
 obtain ⟨rfl,rfl⟩:=J
 refine ⟨g,off,rfl,hS,by rw [World.size_setCell];exact M,fun i x A=>⟨[.int .u8 x.toNat],fun j u hj=>?_,rfl⟩⟩
 obtain rfl:j=0:=by
  cases j with
  | zero=>rfl
  | succ j=>simp at hj
 obtain rfl:Value.int .u8 x.toNat=u:=by simpa using hj
 obtain ⟨I,D⟩:∃ I,b[i]?=some I:=by
  have:=(Qj A).1
  rw [List.length_set] at this
  exact ⟨_,Qx this⟩
 obtain ⟨cs,h4,h5⟩:=hc i I D
 rw [show cs=[.int .u8 I.toNat] from h5] at h4
 have h6:=h4 0 _ rfl
 by_cases e:i=k
 ·subst e
  rw [List.getElem?_set_self hk] at A
  obtain rfl:=Qb A
  show World.cell? _ ⟨g,off+i*1+0,none⟩=_
  have e1:off+i*1+0=off+i:=Qvu
  rw [e1]
  have h7:w.cell? ⟨g,off+i*1+0,none⟩=some (.int .u8 I.toNat):=h6
  rw [e1] at h7
  exact World.cell?_setCell_same _ _ _ h7
 rw [List.getElem?_set_ne (Ne.symm e)] at A
 rw [D] at A
 obtain rfl:=Qb A
 have N:(⟨g,off+k,none⟩:Addr)≠⟨g,off+i*Zt.k+0,none⟩:=fun e2=>e (by
  have e3:=congrArg Addr.off e2
  have e4:off+k=off+i*1+0:=e3
  omega)
 exact (World.cell?_setCell_other _ _ _ _ N).trans h6
theorem encR_pos (l:List Rel):1<=(Ju l).length:=by
 unfold Ju
 rw [Ql]
 have:=Db l.length
 omega
theorem Qkq {k:Nat} {two ref third:Bool} {t:Tbl} (h:t ∈ (Gen.schema k two ref third).tables):t.name.length<=16:=by
 unfold Gen.schema at h
 rcases Z4.1 h with h | h
 ·rcases Z3.1 h with rfl | h
  ·simp
  obtain rfl:=Z5.1 h
  simp
 cases third with
 | false=>cases h
 | true=>
  obtain rfl:=Z5.1 h
  simp
theorem T9 {l:List Rel} {ts:List Tbl} {d:Nat} (h:l.map Rel.table=(ts.map Tbl.name).drop d) (hn:∀ t ∈ ts,t.name.length<=16):∀ r ∈ l,r.table.length<=16:=fun r hr=>by
 have h1:r.table ∈ l.map Rel.table:=List.mem_map.2 ⟨r,hr,rfl⟩
 rw [h] at h1
 obtain ⟨t,ht,e⟩:=List.mem_map.1 (Zw h1)
 rw [<- e]
 exact hn t ht
theorem own_zero (w:World):Own Zt 5 (fun _=>True) w (w.alloc (.cells #[] 5)) (.slice (some ⟨w,0,none⟩) 0 0) [] []:=
 ⟨World.ownsRow_lit w #[] 0 (Q9 _) (Q8 _) rfl,Cs.nil _ _ _⟩
theorem Qqm {y:Int} (h1:0<=y) (h2:y<=255):(((UInt8.ofNat y.toNat).toNat:Nat):Int)=y:=by
 rw [UInt8.toNat_ofNat',Nat.mod_eq_of_lt Qvu]
 omega
theorem Zr.drew {G:Nat->Prop} {B:Nat} {w W:World} (h:Zr G B w W):Zr G B w W.drew:=⟨h.below.drew,h.keep⟩
theorem RAt.drew {S:Nat->Prop} {g:Nat} {w:World} {o:Option Bs} (h:RAt S g w o):RAt S g w.drew o:=h
theorem Zr.cellAt {g B:Nat} {w W:World} (h:Zr (fun b=>b=g) B w W) {p:Addr} {u:Value} (hc:w.cell? p=some u) (_:p.spot=none) (hlt:p.block<w.heap.size) (hne:p.block≠g):W.cell? p=some u:=
 (World.cell?_of_block (h.keep _ hlt hne)).trans hc
theorem Qqi (nm:Bs) (n:Int) (s:Bs) (names binds:List Bs) (kids:List Ex) (a z:Int) (d:Nat) (hN:Mv 14 nm names binds kids.length) (ih:∀ x ∈ kids,Xi d x):∀ (S:Nat->Prop) (ce:List Value) (nv vv:Value) (ns:List Bs) (vs:List Val) (w:World),Y1 S w ce (.mk 14 nm n s names binds kids a z)->Sl Zg S w nv ns->Sl Zc S w vv vs->ns.length<=vs.length->vs.length+(d+1)<=1000->(∀ v ∈ vs,Y0 v) ->
  Calls prog 247 #[ce,nv,vv] w (Xy S w (opV (fun x=>Y5 d x ns vs) nm kids)):=by
 obtain ⟨D,A⟩:=hN.op rfl
 unfold He at D
 simp only [Z3,Z2,or_false] at D
 rcases D with h | h | h | h | h | h | h | h | h | h | h
 ·exact Vd nm n s names binds kids a z d (by rw [A,h];rfl) (by simp [h]) ih
 ·exact Vd nm n s names binds kids a z d (by rw [A,h];rfl) (by simp [h]) ih
 ·exact Vd nm n s names binds kids a z d (by rw [A,h];rfl) (by simp [h]) ih
 ·exact Vd nm n s names binds kids a z d (by rw [A,h];rfl) (by simp [h]) ih
 ·exact Vd nm n s names binds kids a z d (by rw [A,h];rfl) (by simp [h]) ih
 ·exact Vd nm n s names binds kids a z d (by rw [A,h];rfl) (by simp [h]) ih
 ·exact Vd nm n s names binds kids a z d (by rw [A,h];rfl) (by simp [h]) ih
 ·exact Qvk nm h n s names binds kids a z d (by rw [A,h];rfl) ih
 ·exact Qkv nm h n s names binds kids a z d (by rw [A,h];rfl) ih
 ·exact roper_or nm h n s names binds kids a z d (by rw [A,h];rfl) ih
 exact Qje nm h n s names binds kids a z d (by rw [A,h];rfl) ih
theorem Mb:∀ (d:Nat) (e:Ex),WfE d e->Xi d e
 | 0,e,h=>by cases h
 | d+1,.mk k nm n s names binds kids a z,h=>by
  cases h with
  | mk _ _ _ _ _ _ _ _ _ _ hN hk=>
   have ih:∀ x ∈ kids,Xi d x:=fun x hx=>Mb d x (hk x hx)
   by_cases h0:k=0
   ·subst h0;exact Qvn nm n s names binds kids a z d ih
   by_cases h1:k=1
   ·subst h1
    by_cases hq:(s.length:Int)<=4096
    ·exact Pc nm n s names binds kids a z d ih hq
    exact O2 nm n s names binds kids a z d ih (by simpa using hq)
   by_cases h2:k=2
   ·subst h2;exact Wu nm n s names binds kids a z d ih
   by_cases h3:k=3
   ·subst h3;exact Qkt nm n s names binds kids a z d ih
   by_cases h11:k=11
   ·subst h11;exact Qvd nm n s names binds kids a z d ih (hN.two rfl)
   by_cases h12:k=12
   ·subst h12;exact reval_if nm n s names binds kids a z d ih (hN.three rfl)
   by_cases h13:k=13
   ·subst h13;exact T0 nm n s names binds kids a z d (Qjr nm n s names binds kids a z d ih (hN.mtch rfl).1 (hN.mtch rfl).2)
   by_cases h14:k=14
   ·subst h14;exact Mt nm n s names binds kids a z d (Qqi nm n s names binds kids a z d hN ih)
   exact Wn k nm n s names binds kids a z d ih hN h0 h1 h2 h3 h11 h12 h13 h14
theorem Tv (k:Nat):Xi 8 (Gen.check k):=Mb 8 _ (wf_check k)
theorem Qqq:Xi 8 Gen.yes:=Mb 8 _ (wf_yes _)
end Go.Proofs.YtlanplhphiikjaaGreatDoor
