import Derived.Test.YtlanplhphiikjaaGreatDoorE27
import Derived.Test.YtlanplhphiikjaaGreatDoorE29
set_option maxRecDepth 100000
set_option maxHeartbeats 400000000
namespace Go.Proofs.YtlanplhphiikjaaGreatDoor
open Go.RowKit Go.Shelf Go.Lib Tryz
def okN (b:Bool) (ns:List Bs):Nat->Bool
 | 0=>b
 | i+1=>okN b ns i&&(Eu 2 (ns.getD i [])&&(decide (i=0)||Op.bytesLess (ns.getD (i - 1) []) (ns.getD i [])))
theorem Qqc (names:List Bs) (kids:List Val) (c:Bool) (hc:Pb kids c) (hl:∀ x ∈ names,x.length<=1000000):V6 (.mk 4 0 [] names kids) (okN ((kids.length:Int)==(names.length:Int)) names names.length&&!c):=by
 intro S cs w h hT
 obtain ⟨p3,k3,p4,k4,aG,V,hk,_⟩:=Za.cells h
 simp only [vcs,Val.kind,Val.n,Val.s,Val.names,Val.kids] at aG V
 subst aG
 have HK:=Qq (fun W (hb:Below w w W)=>hc S _ W (hk.below hb) (hT.of_below hb))
 obtain ⟨HN,HS,HT⟩:=Qxn V hl hT
 simp only [Val.kids] at HK
 have aV:names.length<=1000000:=by obtain ⟨_,_,_,h⟩:=V.len;omega
 clear h hk hT hc V hl
 generalize kids.length=q at HK |-
 obtain ⟨n,hn⟩:=eX (names.length)
 rw [hn] at aV HN |-
 have HL:=Qq hn
 clear hn
 go_enter func88,ntmps88
 go_wp2_with fail
 obtain ⟨W1,T⟩:=eX (w.alloc (.cells #[.int .i64 4,Qxc,Qxd,.slice p3 n k3,.slice p4 q k4] 48))
 rw [T]
 have aE:=eqB T (Ze _ _)
 have aD:=eqH (b:=w.heap.size) T (Qw _ _)
 have aK:=Qq aE;have aN:=Qq aD
 clear T aE aD
 obtain ⟨Z,aA⟩:=eX (((q:Int)==(n:Int)))
 rw [aA]
 go_loopw [3,93] (fun ok i wr=>∃ k:Nat,k<=n/\i=.int .i64 k/\ok=.bool (okN Z names k)/\Below W1 W1 wr) (fun _ i _=>n - (intOf i).toNat)
 case atStart=>exact ⟨0,Q8 _,rfl,by simp [okN],Qz _ _⟩
 have aC:=Qq aA;clear aA
 obtain ⟨k,bB,rfl,rfl,O⟩:=hrel
 have U:=kB O aN.out
 have aP:=Z8 U
 have c4:=rA4 U;have c3:=rA3 U
 have J:=Qq (aK.out.thn O);have I:=Qq O
 clear O U
 by_cases hlt:k<n
 ·have aT:(0:Int)<=(k:Int):=Qvu
  have aU:(k:Int)<(n:Int):=Qvu
  obtain ⟨x,hx⟩:∃ x,names[k]?=some x:=⟨_,Qx (by rw [HL.out];exact hlt)⟩
  have D:names.getD k []=x:=by rw [Qs,hx];rfl
  obtain ⟨b,off,rfl,hc,-⟩:=(HN.out.below J.out).str hx
  have A:=Qq (word_str x wr (HS.out x (Qy hx)) (HT.out.of_below J.out))
  unfold sv at A
  cases hok:okN Z names k with
  | false=>
   have Y:=Qq (show okN Z names (k+1)=false by rw [okN,hok];rfl)
   clear hx D hok
   go_wp2_with fail
   go_roundw
   case measure=>simp [intOf];omega
   case rel=>exact ⟨k+1,Qvu,by go_num,by rw [Y.out],I.out⟩
  | true=>
   cases hf:Eu 2 x with
   | false=>
    rw [hf] at A
    have Y:=Qq (show okN Z names (k+1)=false by rw [okN,hok,D,hf];rfl)
    clear hx D hok hf
    go_wp2_with (go_at_call 138;refine A.out.mono ?_;rintro e w' ⟨rfl,M⟩;have N:=Qq M;clear M)
    go_roundw
    case measure=>simp [intOf];omega
    case rel=>exact ⟨k+1,Qvu,by go_num,by rw [Y.out],I.out.thn N.out⟩
   | true=>
    rw [hf] at A
    cases k with
    | zero=>
     have Y:=Qq (show okN Z names 1=true by rw [okN,hok,D,hf];rfl)
     clear hx D hok hf
     rw [show ((0:Nat):Int)=0 from rfl] at aT aU |-
     rw [Nat.add_zero] at hc
     go_wp2_with (go_at_call 138;refine A.out.mono ?_;rintro e w' ⟨rfl,M⟩;have N:=Qq M;clear M)
     go_roundw
     case measure=>simp [intOf];omega
     case rel=>exact ⟨1,Qvu,rfl,by rw [Y.out],I.out.thn N.out⟩
    | succ k'=>
     obtain ⟨y,hy⟩:∃ y,names[k']?=some y:=⟨_,Qx (by rw [HL.out];omega)⟩
     have aI:names.getD k' []=y:=by rw [Qs,hy];rfl
     obtain ⟨b',aJ,he,aS,-⟩:=(HN.out.below J.out).str hy
     obtain ⟨rfl,rfl,-⟩:b=b'/\off=aJ/\True:=by simpa using he
     obtain ⟨aO,aF⟩:=eX (Op.bytesLess y x)
     have Y:=Qq (show okN Z names (k'+1+1)=aO by rw [okN,hok,D,hf,show k'+1 - 1=k' from rfl,aI,aF];simp)
     have aR:=Qv wr _ hc
     have aY:(0:Int)<=(k':Int):=Qvu
     have aZ:(k':Int)<(n:Int):=Qvu
     have bA:((k':Int)+1==0)=false:=by simp;omega
     clear hx hy he D aI hok hf
     go_wp2_with fail
     refine A.out.mono ?_
     rintro e w2 ⟨rfl,M⟩
     have d3:=kD M aP c3
     have dc:=kD M aR aS
     have N:=Qq M
     clear M
     go_wp2_with fail
     go_roundw
     case measure=>simp [intOf];omega
     case rel=>exact ⟨k'+1+1,Qvu,by go_num,by rw [Y.out],I.out.thn N.out⟩
 have aH:k=n:=Qvu
 subst aH
 cases hok:okN Z names k with
 | false=>
  go_wp2_with fail
  go_ret
  exact ⟨by rw [aC.out,hok];rfl,J.out⟩
 | true=>
  go_wp2_with (go_at_call 94;refine (HK.out _ J.out).mono ?_;rintro e w' ⟨rfl,M⟩)
  go_ret
  exact ⟨by rw [aC.out,hok];rfl,J.out.thn M⟩
inductive Qkk (M:Nat):Val->Prop
 | mk (k n:Int) (s:Bs) (ns:List Bs) (ks:List Val):s.length<=M->(∀ x ∈ ns,x.length<=M)->(∀ x ∈ ks,Qkk M x)->Qkk M (.mk k n s ns ks)
theorem valid_of {k n:Int} {s:Bs} {ns:List Bs} {ks:List Val} {c b:Bool} (hc:Pb ks c) (hs:s.length<=1000000) (h:VAt k n ⟨s.toArray⟩ ns.length ks.length c (Eu 3 s) b):V6 (.mk k n s ns ks) b:=by
 intro S cs w hv hT
 obtain ⟨p3,k3,p4,k4,A,_,hk,_⟩:=Za.cells hv
 simp only [vcs,Val.kind,Val.n,Val.s,Val.names,Val.kids] at A
 subst A
 exact h p3 k3 p4 k4 w (fun W hb=>hc S _ W (hk.below hb) (hT.of_below hb)) (fun W hb=>Tq s W hs (hT.of_below hb))
theorem Qkl {v:Val} (h:Qkk 1000000 v):∃ b,V6 v b:=by
 induction h with
 | mk k n s ns ks hs hns _ ih=>
  obtain ⟨c,hc⟩:=kids_is ks ih
  have A:∀ {b:Bool},VAt k n ⟨s.toArray⟩ ns.length ks.length c (Eu 3 s) b->∃ b,V6 (.mk k n s ns ks) b:=fun h=>⟨_,valid_of hc hs h⟩
  by_cases h0:k=0
  ·subst h0
   by_cases e1:s=[]
   ·subst e1
    by_cases e2:ns=[]
    ·subst e2
     by_cases e3:ks=[]
     ·subst e3;exact A (vat_g0 _ _ _)
     exact A (vat_g0n _ _ _ _ (by have:=J2 e3;simp;omega))
    exact A (vat_c0 _ _ _ _ _ (by have:=J2 e2;omega))
   exact A (vat_b0 _ _ _ _ _ _ (Lm e1))
  by_cases h2:k=2
  ·subst h2
   by_cases e1:s=[]
   ·subst e1
    by_cases e2:ns=[]
    ·subst e2
     by_cases e3:ks=[]
     ·subst e3
      by_cases n0:n=0
      ·subst n0;exact A (vat_g20 _ _)
      by_cases n1:n=1
      ·subst n1;exact A (vat_g21 _ _)
      exact A (vat_g2g _ _ _ n0 n1)
     exact A (vat_g2n _ _ _ _ (by have:=J2 e3;simp;omega))
    exact A (vat_c2 _ _ _ _ _ (by have:=J2 e2;omega))
   exact A (vat_b2 _ _ _ _ _ _ (Lm e1))
  by_cases n0:n=0
  ·subst n0
   by_cases h1:k=1
   ·subst h1
    by_cases e2:ns=[]
    ·subst e2
     by_cases e3:ks=[]
     ·subst e3;exact A (vat_g1 _ _ _)
     exact A (vat_g1n _ _ _ _ (by have:=J2 e3;simp;omega))
    exact A (vat_c1 _ _ _ _ _ (by have:=J2 e2;omega))
   by_cases h3:k=3
   ·subst h3
    by_cases e2:ns=[]
    ·subst e2
     by_cases e3:(ks.length:Int)<=1
     ·cases hf:Eu 3 s with
      | true=>exact A (by rw [hf];exact vat_g3t _ _ _ e3)
      | false=>exact A (by rw [hf];exact vat_g3f _ _ _ e3)
     exact A (vat_g3n _ _ _ _ e3)
    exact A (vat_c3 _ _ _ _ _ (by have:=J2 e2;omega))
   by_cases e1:s=[]
   ·subst e1
    by_cases h4:k=4
    ·subst h4;exact ⟨_,Qqc ns ks c hc hns⟩
    by_cases e2:ns=[]
    ·subst e2
     by_cases h5:k=5
     ·subst h5;exact A (vat_g5 _ _ _)
     exact A (vat_gx _ _ _ _ h0 h1 h2 h3 h4 h5)
    exact A (vat_c _ _ _ _ _ h0 h1 h2 h3 h4 (by have:=J2 e2;omega))
   exact A (vat_b _ _ _ _ _ _ h0 h1 h2 h3 (Lm e1))
  exact A (vat_a _ _ _ _ _ _ _ h0 h2 n0)
structure Fj (t:Tbl):Prop where
 few:t.columns.length<=5
 refs:t.refs.length<=1000
 words:∀ c ∈ t.columns,V8 c.name
 once:(t.columns.map Col.name).Nodup
 types:∀ c ∈ t.columns,Dm c.type\/c.type.kind=3
theorem Dc (l:List Int) (i:Nat) (m:Int) (hm:1<=m):0<=Yo l i m/\Yo l i m<m:=by
 unfold Yo
 split
 ·exact Hy _ m Qvu
 omega
theorem Wj (s:Sc) (hsg:Jb s.sums) (t:Ty) (hl:Dm t\/t.kind=3) (n:Int) (hn0:0<=n) (hn1:n<=1000000) (S0 S1:Nat->Prop) (cs ct:List Value) (w:World) (hs:Vj S0 w cs s) (ht:Xc S1 w ct t):
  Calls prog 78 #[cs,ct,n] w (Jl 70 w):=by
 rcases hl with h | h
 ·exact (Hz s t h n hn0 S0 S1 cs ct w hs ht).mono (fun _ _ h=>h.wide)
 obtain ⟨k,nm,tn,names,kids⟩:=t
 cases (show k=3 from h)
 exact Tb s hsg nm tn names kids n hn0 hn1 S0 S1 cs ct w hs ht
theorem Na:∀ {ks:List Bs} {row:Val} {l:List Val},keyOf ks row=some l->∀ v ∈ l,v ∈ row.kids
 | [],row,l,h,v,hv=>by
  simp only [keyOf,Zv] at h
  subst h;simp at hv
 | k::ks,row,l,h,v,hv=>by
  unfold keyOf at h
  split at h
  ·rename_i u l' h1 h2
   obtain rfl:=Qb h
   rcases Z3.1 hv with rfl | hv
   ·unfold Xj at h1
    split at h1
    ·split at h1
     ·exact Qy h1
     cases h1
    cases h1
   exact Na h2 v hv
  cases h
theorem X6.kid {v:Val} (h:X6 v):∀ x ∈ v.kids,X6 x:=by
 cases h with
 | int n=>intro x A;simp [Val.kids] at A
 | text s=>intro x A;simp [Val.kids] at A
 | bool n _=>intro x A;simp [Val.kids] at A
 | make s kids _ _ hk=>exact hk
 | record names kids _ _ _ hk=>exact hk
 | list kids hk=>exact hk
structure Tk (v:Val):Prop where
 good:X6 v
 kids:∀ u ∈ v.kids,Kq 70 u
 record:v.kind=4
theorem rec2_in {names:List Bs} {vals:List Val} (hl:names.length=vals.length) (hd:names.Nodup):∀ v ∈ (Yu (names.zip vals)).2,v ∈ vals:=by
 have h1:(names.zip vals).map Prod.fst=names:=List.map_fst_zip (Nat.le_of_eq hl)
 have h2:(names.zip vals).map Prod.snd=vals:=List.map_snd_zip (Nat.le_of_eq hl.symm)
 obtain ⟨a,b,c⟩:=Lr _ (names.zip vals) rfl (by rw [h1];exact hd)
 rw [h2] at c
 exact c
def Tl (S:Nat->Prop) (w:World) (m:Nat) (e:Ending) (w':World):Prop:=∃ v p3 k3 p4 k4,e=.returned (.agg (vcs v p3 k3 p4 k4).toArray)/\Tk v/\(v.kids.length<=m/\v.kids.length<=k4)/\Za (fun b=>S b\/w<=b) w' (vcs v p3 k3 p4 k4) v/\Below w w w'
theorem Ao {l:List Rel} {x:Bs} {v:Val} (h:v ∈ V0 l x):∃ r ∈ l,v ∈ r.rows:=by
 unfold V0 at h
 split at h
 ·rename_i i hi
  unfold Vt at hi
  have hl:=(List.findIdx?_eq_some_iff_getElem.1 hi).1
  rw [Qs,Qx hl,Option.getD_some] at h
  exact ⟨_,Qd hl,h⟩
 simp at h
structure Uy (S:Nat->Prop) (W1 wr:World) (nv vv:Value) (xs:List Bs) (vals:List Val):Prop where
 old:∀ b,S b->b<W1.heap.size
 below:Below W1 W1 wr
 names:∃ css,Own Zg 9 (fun _=>True) W1 wr nv xs css
 vals:∃ css,Own Zc 48 (fun b=>(S b\/W1.heap.size<=b)/\some b≠nv.ownBlock) W1 wr vv vals css
theorem Uy.grow {S:Nat->Prop} {W1 wr wr':World} {nv vv:Value} {xs:List Bs} {vals:List Val} (h:Uy S W1 wr nv vv xs vals) (hb:Below wr wr wr'):Uy S W1 wr' nv vv xs vals:=by
 obtain ⟨h0,h1,⟨c1,h2⟩,⟨c2,h3⟩⟩:=h
 exact ⟨h0,h1.thn hb,⟨c1,h2.below hb⟩,⟨c2,h3.below hb⟩⟩
theorem Uy.addName {S:Nat->Prop} {W1 w w1:World} {nv vv nv':Value} {xs xs':List Bs} {vals:List Val} {css:List (List Value)} (h:Uy S W1 w nv vv xs vals) (hO:Own Zg 9 (fun _=>True) W1 w1 nv' xs' css) (hL:Fg W1 w w1 nv nv'):Uy S W1 w1 nv' vv xs' vals:=by
 obtain ⟨h0,h1,⟨c1,h2⟩,⟨c2,A⟩⟩:=h
 refine ⟨h0,h1.trans hL.below,⟨_,hO⟩,⟨c2,Us A.row (fun b hb hv=>hL.other b hb (fun e=>Yp A.row h2.row Qxv hv e.symm)),?_⟩⟩
 refine A.cs.move (fun b hb D=>hL.other b D hb.1.2) (fun b hb h=>⟨⟨h.1.1,fun e=>?_⟩,h.2⟩)
 rcases hL.at' with e' | ⟨g,e',hg⟩
 ·exact h.1.2 (by rw [e,e'])
 rw [e'] at e
 have:=Qb e
 omega
theorem Uy.addVal {S:Nat->Prop} {W1 w w1:World} {nv vv vv':Value} {xs:List Bs} {vals vals':List Val} {css:List (List Value)} (h:Uy S W1 w nv vv xs vals) (hO:Own Zc 48 (fun b=>(S b\/W1<=b)/\some b≠nv.ownBlock) W1 w1 vv' vals' css) (hL:Fg W1 w w1 vv vv'):Uy S W1 w1 nv vv' xs vals':=by
 obtain ⟨h0,h1,⟨c1,h2⟩,⟨c2,h3⟩⟩:=h
 exact ⟨h0,h1.trans hL.below,⟨c1,B7 h2 (fun b hb hv=>hL.other b hb (fun e=>Yp h2.row h3.row Qxv hv e.symm))⟩,⟨_,hO⟩⟩
def ValMid (wr:World) (t15:Value) (wx:World):Prop:=∃ G v q3 m3 q4 m4,t15=.pointer (some ⟨G,0,none⟩)/\wx.heap[G]?=some (.cells (Qxf v q3 m3 q4 m4) 48 (0,0))/\Kq 70 v/\Za (fun b=>wr<=b/\b≠G) wx (vcs v q3 m3 q4 m4) v/\Below wr wr wx/\wr.heap.size<=G
def Nr (S5:Nat->Prop) (wo:World) (G:Nat) (wr:World):Prop:=Below wo wo wr/\∃ v q3 m3 q4 m4,wr.heap[G]?=some (.cells (Qxf v q3 m3 q4 m4) 48 (0,0))/\Kq 70 v/\Za S5 wr (vcs v q3 m3 q4 m4) v
theorem Nr.grow {S5:Nat->Prop} {wo:World} {G:Nat} {wr wr':World} (h:Nr S5 wo G wr) (hb:Below wr wr wr'):Nr S5 wo G wr':=by
 obtain ⟨h1,v,q3,m3,q4,m4,h2,h3,h4⟩:=h
 exact ⟨h1.thn hb,v,q3,m3,q4,m4,kB hb h2,h3,h4.move (.of_below hb) Qyv⟩
def TabMid (S:Nat->Prop) (wr:World) (T:Tbl) (b:Bool) (t18 t19:Value) (wx:World):Prop:=∃ G cp9 cc9 kp9 kc9 rp9 rc9 k9 s19 n9 s29 p19 n19 c19 p29 n29 c29 p39 n39 c39 a9 z9,t18=.pointer (some ⟨G,0,none⟩)/\t19=.bool b/\wx.heap[G]?=some (.cells (Qxg T cp9 cc9 kp9 kc9 rp9 rc9 k9 s19 n9 s29 p19 n19 c19 p29 n29 c29 p39 n39 c39 a9 z9) 61 (0,0))/\Zl.R S wx (Qxg T cp9 cc9 kp9 kc9 rp9 rc9 k9 s19 n9 s29 p19 n19 c19 p29 n29 c29 p39 n39 c39 a9 z9) T/\Below wr wr wx/\wr.heap.size<=G
def KeyMid (S:Nat->Prop) (wr:World) (l:List Val) (t20:Value) (wx:World):Prop:=∃ p c,t20=.slice p l.length c/\Sl Zc (fun b=>S b\/wr<=b) wx (.slice p l.length c) l/\Below wr wr wx
theorem Nh (S0 S1 S2 S3:Nat->Prop) (s:Sc) (cs:List Value) (lv:Value) (l:List Rel) (t:Tbl) (ct:List Value) (nv:Value) (ns:List Int) (at':Nat) (w:World) (hs0:Vj S0 w cs s) (hl0:∃ p c,lv=.slice p l.length c) (HRo:Hid (∀ tn W,Below w w W->Calls prog 79 #[lv,sv tn] W (An (fun b=>S1 b/\b<w) W (V0 l tn)))) (ht:Zl.R S2 w ct t) (hn0:Xa S3 w nv ns) (hi:Uh ns) (hat:at'<=1000) (hT:Fj t) (hsg:Jb s.sums) (hk:∀ t ∈ s.tables,t.key.length<=1000) (hR:∀ r ∈ l,∀ v ∈ r.rows,Tk v):
  Calls prog 30 #[cs,lv,ct,nv,at'] w (Tl S1 w t.columns.length):=by
 have hs:Vj (fun b=>S0 b/\b<w) w cs s:=by
  obtain ⟨uv,tv,h1,h2,h3⟩:=hs0
  exact ⟨uv,tv,h1,h2.mono (fun b hb h=>⟨h,hb⟩),h3.mono (fun b hb h=>⟨h,hb⟩)⟩
 clear hs0
 have mS:=Qq hs
 have fN:=Qq (fun (ty:Ty) (hty:Dm ty\/ty.kind=3) (q:Int) (cQ:0<=q) (cR:q<=1000000) (S':Nat->Prop) (cty:List Value) W (hW:Below w w W) (hc:Xc S' W cty ty)=>Wj s hsg ty hty q cQ cR (fun b=>S0 b/\b<w) S' cs cty W (hs.below hW) hc)
 have cZ:=Qq (fun tn W (hW:Below w w W)=>Mf (fun b=>S0 b/\b<w) s cs tn W (hs.below hW))
 have fA:=Qq (fun (k:Nat) W (hW:Below w w W)=>Yr S3 nv ns (at'+k) 100000 W (hn0.below hW) hi Qvu Qvu)
 obtain ⟨HK,HR,bQ⟩:=Qxn hk hR hT
 obtain ⟨uv,tv,rfl,hu,hK⟩:=hs
 obtain ⟨up,uc,rfl,_⟩:=hu.len
 obtain ⟨tp,tc,rfl,_⟩:=hK.len
 obtain ⟨lp,lc,rfl⟩:=hl0
 obtain ⟨np,nc,rfl,_⟩:=hn0.len
 obtain ⟨mX,kL,nS,nR,nY,lN,k0,nZ,n0,oA,nV,nT,mU,nW,n20,mV,nX,nU,mW,a0,z0,rfl,_,bZ,_,cC,_⟩:=Yj ht
 unfold tcs
 obtain ⟨n,hn⟩:=eX (t.columns.length)
 obtain ⟨m,hm⟩:=eX (t.refs.length)
 have nJ:n<=900:=Qxj hT.few
 have nI:m<=1000:=Qxj hT.refs
 rw [hn] at bZ |-
 rw [hm] at cC |-
 obtain ⟨HC,jY,HN,HM⟩:=Qxo bZ cC hn hm
 clear ht hn0 hu hK bZ cC hn hm hT hsg hk hR
 simp only [Int.natCast_add] at fA
 obtain ⟨i0,j1,j2,j3,j4⟩:=Y4 (P:=prog) (t:=48) (z:=.agg zV) (n:=5) (b:=80) Qxx
 obtain ⟨HJ,jL,jM,jN⟩:=Qxo j1 j2 j3 j4
 clear j1 j2 j3 j4
 obtain ⟨i9,j1,j2,j3,j4⟩:=Y4 (P:=prog) (t:=9) (z:=.string ⟨#[]⟩) (n:=1) (b:=16) Qxx
 obtain ⟨HI,jI,jJ,jK⟩:=Qxo j1 j2 j3 j4
 clear j1 j2 j3 j4
 unfold sv at HRo cZ
 go_enter func30,ntmps30
 go_wp2_with fail
 generalize bD:((w.alloc _).alloc _).alloc _=W1
 have gN:=eqB bD (U8 _ _ _ _)
 have gE:=eqH (b:=w.heap.size) bD (Yc _ _ _ _)
 have gH:=eqH (b:=w.heap.size+1) bD (Y8 _ _ _ _)
 have gL:=eqH (b:=w.heap.size+1+1) bD (Yz _ _ _ _)
 have hY:W1=w.heap.size+3:=by rw [<- bD];simp
 obtain ⟨iT,fF,fH,kI,kK⟩:=Qxp gN gE gH gL hY
 have hJ:Uy (fun b=>S1 b/\b<w) W1 W1 (.slice none 0 0) (.slice none 0 0) [] []:=⟨fun b hb=>by have:=hb.2;omega,Qz _ _,⟨[],Own.nil _ _ _ _ _⟩,⟨[],Own.nil _ _ _ _ _⟩⟩
 clear bD gN gE gH gL hY
 go_loopw [11,12,13,14,15,16,17,18,19,20] (fun lO lP eL _ _ _ _ _ _ _ wr=>∃ (k:Nat) (p3:Option Addr) (aQ:Nat) (p4:Option Addr) (aA:Nat) (vals:List Val),k<=n/\lO=.slice p3 k aQ/\lP=.slice p4 k aA/\eL=.int .i64 k/\Aside (vals.length=k/\(∀ v ∈ vals,Kq 70 v)/\Uy (fun b=>S1 b/\b<w) W1 wr (.slice p3 k aQ) (.slice p4 k aA) ((t.columns.take k).map Col.name) vals)) (fun _ _ eL _ _ _ _ _ _ _ _=>n - (intOf eL).toNat)
 case atStart=>exact ⟨0,none,0,none,0,[],Q8 _,rfl,rfl,rfl,rfl,(fun v h=>by simp at h),hJ⟩
 clear hJ
 obtain ⟨k,p3,aQ,p4,aA,vals,dZ,rfl,rfl,rfl,hA⟩:=hrel
 obtain ⟨hP,hO,h2⟩:=hA.out
 obtain ⟨cM,dP,H2⟩:=Qxn hP hO h2
 have bI:=Qq h2.below;have bS:=Qq (iT.out.thn h2.below)
 have nQ:=kK.out
 have lH:=h2.below.size
 clear hA hP hO h2
 have bC:=kB bI.out fF.out
 have aW:=kB bI.out fH.out
 have gM:=kB bI.out kI.out
 obtain ⟨fG,kD,fQ⟩:=Qxn bC aW gM
 obtain ⟨s0,s1⟩:=row2 bC
 have c1:=rA1 aW
 clear bC aW gM
 by_cases bE:k<n
 ·have nF:(0:Int)<=(k:Int):=Qvu
  have nG:(k:Int)<(n:Int):=Qvu
  obtain ⟨c,hc⟩:∃ c,t.columns[k]?=some c:=⟨_,Qx (by rw [HN.out];exact bE)⟩
  have hI:=Ll hc
  obtain ⟨cb,N,tk,ts,tn,t3,n3,l3,t4,n4,l4,kS,nD,nE,gQ,dG,d0,d1,d2,d3,d4,d5⟩:=(HC.out.below bS.out).col hc
  subst kS
  have hF:=Dc ns (at'+k) 100000 Qvu
  obtain ⟨q,hq⟩:=eX (Yo ns (at'+k) 100000)
  have fB:=Qq (fA.out k)
  rw [hq] at fB hF
  obtain ⟨cQ,cR⟩:=hF
  obtain ⟨fJ,jZ,jB,jA⟩:=Qxo dG hI gQ (Qy hc)
  have HD:=Qq d0
  clear hq hc hI dG gQ
  have nH:k<900:=Qvu
  go_upto_region 7 with (go_at_call 28;refine (fB.out _ bS.out).mono ?_;rintro e w' ⟨rfl,rfl⟩)
  refine let_mvar% ?Lq1:=fun w':World=>Qxw w' w 0 (.slice up s.sums.length uc)/\Qxw w' w 1 (.slice tp s.tables.length tc)/\Qxw w' (w+1) 1 (Qxa cb N n kL)/\Qxw w' cb (N+k*6+1) tk/\Qxw w' cb (N+k*6+2) (.string ts)/\Qxw w' cb (N+k*6+3) (.int .i64 tn)/\Qxw w' cb (N+k*6+4) (.slice t3 n3 l3)/\Qxw w' cb (N+k*6+5) (.slice t4 n4 l4)/\Below wr wr w';?_
  have HS:∀ w',Below wr wr w'->?Lq1 w':=by
   intro w' h
   have D:∀ {b j:Nat} {u:Value},wr.cell? ⟨b,j,none⟩=some u->w'.cell? ⟨b,j,none⟩=some u:=fun hc=>kC h hc
   exact ⟨D s0,D s1,D c1,D d1,D d2,D d3,D d4,D d5,h⟩
  obtain ⟨bO,bP,bJ,A,aU,aV⟩:=Um HS (fun w' h=>h.2.2.2.2.2.2.2.2)
  have HP:=fun w' x0 x1 x2 x3 x4 h=>aV.out (Zp w' wr x0 x1 x2 x3 x4) (Zf (A.out w' h) (Q9 _))
  unfold Zp at HP
  have bL:=Qq HP
  clear HS HP s0 s1 c1 d1 d2 d3 d4 d5
  have fO:=Qq (fun W' (h':Below wr wr W')=>(fN.out c.type (bQ.out.types c jA.out) q cQ Qvu _ [tk,.string ts,.int .i64 tn,.slice t3 n3 l3,.slice t4 n4 l4] W' (bS.out.thn h') (fJ.out.move (.of_below h') Qyv)).mono (R':=fun e w2=>∃ v q3 m3 q4 m4,e=.returned (.agg (Qxf v q3 m3 q4 m4))/\Kq 70 v/\Za (fun b=>W'<=b) w2 (vcs v q3 m3 q4 m4) v/\Below W' W' w2/\Below wr wr w2) (by
   rintro e w2 ⟨v,q3,m3,q4,m4,rfl,g1,_,g2,g3⟩
   exact ⟨v,q3,m3,q4,m4,rfl,g1,g2,g3,h'.thn g3⟩))
  go_cut [15] from 23 to 118 (fun lQ wx=>ValMid wr lQ wx)
  case first=>
   go_region_held3 ?Lq1 (first | with_reducible exact bO.out | with_reducible exact I | with_reducible exact bJ.out _ (aU.out _ _ bP.out) | with_reducible exact aU.out _ _ I | with_reducible exact bL.out _ _ _ _ _ _ I)
    (first
     | (go_at_call 78;refine (fO.out _ (A.out _ Qxy)).mono ?_;rintro e w2 ⟨v,q3,m3,q4,m4,rfl,gU,hN,M,eD⟩;have I:=aV.out _ eD;(try (have r2:w2.heap[wr.heap.size]?=some (.cells zV 48 (0,0)):=(M.block wr Qxz).trans (Qw wr _);obtain ⟨y0,y1,y2,y3,y4⟩:=row5 r2;obtain ⟨g0,g1,g2,g3,g4⟩:=frz5 r2;have bM:=Qq r2;clear r2));obtain ⟨cH,fL,dL⟩:=Qxn gU hN M;clear gU hN M))
   all_goals
    go_wp2_with fail
    go_meet
    first
     | (have h9:=bM.out;clear h9;exact ⟨wr.heap.size,v,q3,m3,q4,m4,rfl,Vx bM.out,cH.out,Za.move fL.out (fun b hb _=>Zi (by have h:(wr.alloc _).drew.heap.size<=b:=hb;simp at h;omega)) (fun b _ hb=>by have h:(wr.alloc _).drew.heap.size<=b:=hb;simp at h;exact ⟨Qvu,Qvu⟩),Zf (A.out _ I) (Q9 _),Q9 _⟩)
     | exact ⟨w2.heap.size,v,q3,m3,q4,m4,rfl,Qw _ _,cH.out,Za.move fL.out (.of_below (Ze _ _)) (fun b hb h=>⟨by have h:wr.drew.heap.size<=b:=h;simpa using h,Qvu⟩),(A.out _ I).thn (Ze _ _),(A.out _ I).size⟩
  obtain ⟨G,v0,z3,y3,z4,y4,rfl,hG,gT,hM,bX,fY⟩:=hcut
  obtain ⟨HG,eV,fK,iV⟩:=Qxo hG gT hM bX
  clear hG gT hM bX fO
  clear bO bP bJ A aU bL aV
  obtain ⟨wo,rfl⟩:∃ wo,wo=wr:=⟨_,rfl⟩
  have eT:=Qq bI.out
  have dI:Nr (fun b=>(S1 b/\b<w)\/(wo<=b/\b≠G)) wo G wc:=⟨iV.out,v0,z3,y3,z4,y4,HG.out,eV.out,fK.out.move (.refl _ _) (fun b _ h=>.inr h)⟩
  have nC:w.heap.size+3<=G:=Qvu
  clear fK HG eV fJ fG kD fQ lH
  go_wp2_with fail
  go_loopw [16,17,18,19,20] (fun eM _ _ _ _ wr=>∃ r:Nat,r<=m/\eM=.int .i64 r/\Aside (Nr (fun b=>(S1 b/\b<w)\/(wo<=b/\b≠G)) wo G wr)) (fun eM _ _ _ _ _=>m - (intOf eM).toNat)
  case atStart=>exact ⟨0,Q8 _,rfl,dI⟩
  clear dI
  obtain ⟨r,nN,rfl,hA⟩:=hrel
  have cI:=Qq hA.out
  have iW:=Qq hA.out.1;have bR:=Qq (bS.out.thn hA.out.1)
  have cN:Below W1 W1 wr:=bI.out.thn hA.out.1
  clear hA
  have bC:=kB cN fF.out
  have aW:=kB cN fH.out
  have iU:=Qq cN
  clear cN
  obtain ⟨s0,s1⟩:=row2 bC
  have c1:=rA1 aW;have c3:=rA3 aW
  clear bC aW
  by_cases hlr:r<m
  ·have nK:(0:Int)<=(r:Int):=Qvu
   have nL:(r:Int)<(m:Int):=Qvu
   obtain ⟨f,hf⟩:∃ f,t.refs[r]?=some f:=⟨_,Qx (by rw [HM.out];exact hlr)⟩
   obtain ⟨fb,dC,nA,kU,kT,_,_,⟨gS,mN,mO⟩,dY⟩:=(jY.out.below bR.out).elem hf
   subst kU;subst gS
   have e0:=dY 0 _ rfl;have e1:=dY 1 _ rfl
   rw [show Fw.k=2 from rfl] at e0 e1
   rw [Nat.add_zero] at e0
   unfold sv at e0 e1
   obtain ⟨rows,aY⟩:=eX (V0 l f.table)
   have bN:=Qq (HRo.out f.table wr bR.out)
   rw [aY] at bN
   have dO:=Qq aY
   obtain ⟨T,hT⟩:=eX ((Yy s.tables f.table).getD Tbl.zero)
   obtain ⟨b,hb⟩:=eX ((Yy s.tables f.table).isSome)
   have cL:=Qq (cZ.out f.table)
   unfold TabIs at cL
   rw [hT,hb] at cL
   have gJ:T.key.length<=1000:=by
    rw [<- hT]
    cases h:Yy s.tables f.table with
    | none=>exact Q8 _
    | some t=>exact HK.out t (List.mem_of_find?_eq_some h)
   have kA:=Qq gJ
   clear hf dY kT aY hT hb gJ
   go_upto_region 12 with (go_at_call 79;refine bN.out.mono ?_;rintro e w' ⟨rp,rc,rfl,hH,rfl⟩;have fD:=Qq hH;clear hH)
   obtain ⟨n2,eA⟩:=eX (rows.length)
   rw [eA] at fD |-
   have jS:=Qq eA
   clear eA bN
   obtain ⟨jC,iY,iZ⟩:=Qxn e0 c1 c3
   clear e0 c1
   refine let_mvar% ?Lq2:=fun w':World=>Qxw w' w 0 (.slice up s.sums.length uc)/\Qxw w' w 1 (.slice tp s.tables.length tc)/\Qxw w' (w+1) 3 (Qxa fb dC m lN)/\Qxw w' fb (dC+r*2+1) f.table/\Below wr wr w';?_
   have HS:∀ w',Below wr wr w'->?Lq2 w':=by
    intro w' h
    have D:∀ {b j:Nat} {u:Value},wr.cell? ⟨b,j,none⟩=some u->w'.cell? ⟨b,j,none⟩=some u:=fun hc=>kC h hc
    exact ⟨D s0,D s1,D c3,D e1,h⟩
   obtain ⟨bO,bP,bJ,A,aU,aV⟩:=Um HS (fun w' h=>h.2.2.2.2)
   have HP:=fun w' x0 x1 x2 x3 x4 x5 x6 x7 x8 x9 lY lZ mA h=>aV.out (Vn w' wr x0 x1 x2 x3 x4 x5 x6 x7 x8 x9 lY lZ mA) (Xo (A.out w' h) (Q9 _))
   unfold Vn at HP
   have bL:=Qq HP
   clear HS HP s0 s1 c3 e1
   have fI:=Qq (fun W' (h':Below wr wr W')=>(cL.out W' (bR.out.thn h')).mono (R':=fun e w2=>∃ Z Y aC aB aK aJ k9 aL n9 aM aG aD O aH aE U aI aF V a9 z9,e=.returned (.tuple #[.agg (Qxg T Z Y aC aB aK aJ k9 aL n9 aM aG aD O aH aE U aI aF V a9 z9),.bool b])/\Zl.R (fun b=>S0 b/\b<w) w2 (Qxg T Z Y aC aB aK aJ k9 aL n9 aM aG aD O aH aE U aI aF V a9 z9) T/\Below W' W' w2/\Below wr wr w2) (by
    rintro e w2 ⟨mY,rfl,g1,g2⟩
    obtain ⟨Z,Y,aC,aB,aK,aJ,k9,aL,n9,aM,aG,aD,O,aH,aE,U,aI,aF,V,a9,z9,gR,_⟩:=Yj g1
    simp only [tcs] at gR
    subst gR
    exact ⟨Z,Y,aC,aB,aK,aJ,k9,aL,n9,aM,aG,aD,O,aH,aE,U,aI,aF,V,a9,z9,rfl,g1,g2,h'.thn g2⟩))
   clear cL
   go_cut [18,19] from 44 to 105 (fun lR lS wx=>TabMid (fun b=>S0 b/\b<w) wr T b lR lS wx)
   case first=>
    go_region_held3 ?Lq2 (first | with_reducible exact bO.out | with_reducible exact I | with_reducible exact bJ.out _ (aU.out _ _ bP.out) | with_reducible exact aU.out _ _ I | with_reducible exact bL.out _ _ _ _ _ _ _ _ _ _ _ _ _ _ I)
     (first
      | (go_at_call 80;refine (fI.out _ (A.out _ Qxy)).mono ?_;rintro e w2 ⟨Z,Y,aC,aB,aK,aJ,k9,aL,n9,aM,aG,aD,O,aH,aE,U,aI,aF,V,a9,z9,rfl,hL,M,eD⟩;have I:=aV.out _ eD;(try (have r2:w2.heap[wr.heap.size]?=some (.cells zT 61 (0,0)):=(M.block wr Qxz).trans (Qw wr _);obtain ⟨y0,y1,y2,y3,y4,y5,y6,y7,y8,y9,oB,oC,oD⟩:=row13 r2;obtain ⟨g0,g1,g2,g3,g4,g5,g6,g7,g8,g9,dR,dS,dT⟩:=frz13 r2;have bM:=Qq r2;clear r2));have cK:=Qq hL;have dL:=Qq M;clear hL M))
    all_goals
     go_wp2_with fail
     go_meet
     first
      | (have h9:=bM.out;clear h9;exact ⟨wr.heap.size,Z,Y,aC,aB,aK,aJ,k9,aL,n9,aM,aG,aD,O,aH,aE,U,aI,aF,V,a9,z9,rfl,rfl,Me bM.out,Zl.frame cK.out (fun b hb _=>J0 (by have:=hb.2;have:=bR.out.size;omega)),Xo (A.out _ I) (Q9 _),Q9 _⟩)
      | exact ⟨w2.heap.size,Z,Y,aC,aB,aK,aJ,k9,aL,n9,aM,aG,aD,O,aH,aE,U,aI,aF,V,a9,z9,rfl,rfl,Qw _ _,Zl.frame cK.out (.of_below (Ze _ _)),(A.out _ I).thn (Ze _ _),(A.out _ I).size⟩
   obtain ⟨G2,Z,Y,aC,aB,aK,aJ,k9,aL,n9,aM,aG,aD,O,aH,aE,U,aI,aF,V,a9,z9,rfl,rfl,fW,gI,bX,mK⟩:=hcut
   obtain ⟨cH,cK,aO⟩:=Qxn fW gI bX
   clear fW gI bX fI
   clear bO bP bJ A aU bL aV
   have J:=Qq (cI.out.grow aO.out);have kH:=Qq (bR.out.thn aO.out)
   have cO:∀ {b j:Nat} {x:Value},wr.cell? ⟨b,j,none⟩=some x->wc.cell? ⟨b,j,none⟩=some x:=fun hx=>kC aO.out hx
   have e0:=cO jC.out;have c1:=cO iY.out;have c3:=cO iZ.out
   have d0:=kC (iW.out.thn aO.out) HD.out
   clear cO cI
   have lG:(f.column==c.name)=false\/((f.column==c.name)=true/\b=false)\/((f.column==c.name)=true/\b=true/\n2=0)\/((f.column==c.name)=true/\b=true/\0<n2):=by
    cases (f.column==c.name) <;> cases b <;> simp <;> omega
   rcases lG with hq | ⟨hq,rfl⟩ | ⟨hq,rfl,hz⟩ | ⟨hq,rfl,hz⟩
   focus
    go_upto_region 13 with fail
    go_quiet (fail)
    have aP:=Qq (J.out.grow (Zn wc nq))
    have cB:r+1<=m:=hlr
    clear J
    go_wp2_with fail
    go_roundw
    case measure=>simp [intOf];omega
    case rel=>
     refine ⟨r+1,cB,?_,?_⟩
     ·go_num
     exact aP.out
   focus
    go_upto_region 13 with fail
    go_quiet (fail)
    have aP:=Qq (J.out.grow (Zn wc nq))
    have cB:r+1<=m:=hlr
    clear J
    go_wp2_with fail
    go_roundw
    case measure=>simp [intOf];omega
    case rel=>
     refine ⟨r+1,cB,?_,?_⟩
     ·go_num
     exact aP.out
   focus
    have hg:¬ (0:Int)<(n2:Int):=Qvu
    go_upto_region 13 with fail
    go_quiet (fail)
    have aP:=Qq (J.out.grow (Zn wc nq))
    have cB:r+1<=m:=hlr
    clear J
    go_wp2_with fail
    go_roundw
    case measure=>simp [intOf];omega
    case rel=>
     refine ⟨r+1,cB,?_,?_⟩
     ·go_num
     exact aP.out
   focus
    have hg:(0:Int)<(n2:Int):=Qvu
    obtain ⟨m8,lC⟩:=eX (q.tmod (n2:Int))
    have gP:=Gs q n2 cQ hg
    rw [lC] at gP
    obtain ⟨mL,mM⟩:=gP
    obtain ⟨j,rfl⟩:∃ j:Nat,m8=(j:Int):=⟨m8.toNat,Qvu⟩
    have kY:j<n2:=Qvu
    obtain ⟨y,hy⟩:∃ y,rows[j]?=some y:=⟨_,Qx (by rw [jS.out];exact kY)⟩
    obtain ⟨rb,mQ,mF,mD,mG,mE,lF,nM,hU,a0,a1,a2,a3,a4⟩:=(fD.out.below aO.out).val hy
    subst lF
    have gX:∀ u ∈ y.kids,Kq 70 u:=by
     obtain ⟨ro,h1,h2⟩:=Ao (l:=l) (x:=f.table) (v:=y) (by rw [dO.out];exact Qy hy)
     exact (HR.out ro h1 y h2).kids
    have kG:=Qq hU;have jH:=Qq gX
    clear hy hU gX
    obtain ⟨g0,g1,g2,g3,g4,g5,g6,g7,g8,g9,dR,dS,dT⟩:=row13 cH.out
    go_upto_region 13 with fail
    go_quiet (fail)
    obtain ⟨wq,eF⟩:=eX (wc.drewN nq)
    have bY:Below wc wc wq:=by rw [<- eF];exact Zn _ _
    rw [eF]
    obtain ⟨eU,bK,mT⟩:=Qxn bY (J.out.grow bY) (kH.out.thn bY)
    have D:∀ {b j:Nat} {x:Value},wc.cell? ⟨b,j,none⟩=some x->wq.cell? ⟨b,j,none⟩=some x:=fun hx=>kC bY hx
    have g0:=D g0;have g1:=D g1;have g2:=D g2;have g3:=D g3;have g4:=D g4;have g5:=D g5;have g6:=D g6;have g7:=D g7;have g8:=D g8;have g9:=D g9;have dR:=D dR;have dS:=D dS;have dT:=D dT;have a0:=D a0;have a1:=D a1;have a2:=D a2;have a3:=D a3;have a4:=D a4
    clear D eF bY e0 c1 c3 d0
    go_upto_region 14 with fail
    obtain ⟨kl,cP⟩:=eX ((keyOf T.key y).getD [])
    have hB:∀ u ∈ kl,Kq 70 u:=fun u hu=>by
     cases hk:keyOf T.key y with
     | none=>rw [<- cP,hk] at hu;simp at hu
     | some l'=>rw [<- cP,hk] at hu;exact jH.out u (Na hk u hu)
    have jQ:=Qq hB;have jR:=Qq cP
    clear cP hB
    have eW:=Qq (fun W' (hW:Below wq wq W')=>(Bk (fun b=>S0 b/\b<w) (fun b=>S1 b/\b<w) T y (Qxg T Z Y aC aB aK aJ k9 aL n9 aM aG aD O aH aE U aI aF V a9 z9) (Qxf y mF mD mG mE) W' (Zl.frame cK.out (.of_below (eU.out.thn hW))) (kG.out.move (.of_below (eU.out.thn hW)) Qyv) kA.out).mono (R':=fun e w2=>∃ p c,e=.returned (.slice p kl.length c)/\Sl Zc (fun b=>(fun b=>S1 b/\b<w.heap.size) b\/wq<=b) w2 (.slice p kl.length c) kl/\Below wq wq w2) (by
     rintro e w2 ⟨p,c,rfl,h3,h4⟩
     rw [jR.out] at h3 |-
     have nP:=hW.size
     exact ⟨p,c,rfl,h3.mono (fun b _ h=>h.imp id (fun h=>Qvu)),hW.thn h4⟩))
    go_cut [20] from 44 to 105 (fun lT wx=>KeyMid (fun b=>S1 b/\b<w) wq kl lT wx)
    case first=>
     go_region_with (go_at_call 81;refine (eW.out _ (Qz _ _).drew).mono ?_;rintro e w2 ⟨p,kc,rfl,gY,M⟩;have jO:=Qq gY;have dL:=Qq M;clear gY M)
     all_goals
      go_wp2_with fail
      go_meet
      exact ⟨p,kc,rfl,jO.out,dL.out⟩
    obtain ⟨kp,kc,rfl,hD,dF⟩:=hcut
    have cY:=Qq (bK.out.grow dF)
    have eY:=Qq hD
    obtain ⟨kn,dZ⟩:=eX (kl.length)
    rw [dZ] at eY |-
    have nB:G<wq.heap.size:=by obtain ⟨_,_,_,_,_,_,h,_⟩:=bK.out;exact Z8 h
    obtain ⟨fV,v1,b3,o3,b4,o4,bV,_,_⟩:=cY.out
    have jD:=Qq bV;have iX:=Qq fV
    clear hD dF eW fV
    by_cases hk1:kn=1
    ·subst hk1
     obtain ⟨u,rfl⟩:=List.length_eq_one_iff.1 dZ
     obtain ⟨ub,mR,u3,iD,u4,iF,lJ,lI,hQ,u0,u1,lU,lV,lW⟩:=Sl.val eY.out (i:=0) rfl
     subst lJ
     simp only [Nat.zero_mul,Nat.add_zero] at u0 u1 lU lV lW
     have cR:((1:Int)==1)=true:=rfl
     obtain ⟨y0,y1,y2,y3,y4⟩:=row5 bV
     obtain ⟨f0,f1,f2,f3,f4⟩:=frz5 bV
     have kF:=Qq hQ;have jF:=Qq (jQ.out u Qxz)
     clear bV hQ lI
     go_wp2_with fail
     go_roundw
     case measure=>simp [intOf];omega
     case rel=>
      refine ⟨r+1,Qvu,by go_num,(show Aside _ from ?_)⟩
      show Nr (fun b=>(S1 b/\b<w)\/(wo<=b/\b≠G)) wo G (Qxl wc G u u3 iD u4 iF)
      refine ⟨Zf iX.out fY,u,u3,iD,u4,iF,Vx jD.out,jF.out,kF.out.move (fun b hb _=>Zi (by rcases hb with h | h;exact (by have:=h.2;omega);exact (by have h':wq.heap.size<=b:=h;omega))) (fun b _ hb=>by
       rcases hb with h | h
       ·exact .inl h
       have h':wq.heap.size<=b:=h
       have:=bK.out.1.size
       exact .inr ⟨Qvu,Qvu⟩)⟩
    have cR:((kn:Int)==1)=false:=by rw [<- Qt,beq_iff_eq];omega
    clear bV
    go_wp2_with fail
    go_roundw
    case measure=>simp [intOf];omega
    case rel=>exact ⟨r+1,Qvu,by go_num,cY.out⟩
  have mP:r=m:=Qvu
  have hq:¬ (r:Int)<(m:Int):=Qvu
  obtain ⟨dV,v,q3,m3,q4,m4,hG,gW,hS⟩:=cI.out
  have fZ:=Z8 hG
  have d0:=kC dV HD.out
  have eQ:=Qq (H2.out.grow dV)
  have eB:∀ b,wo.heap.size<=b->some b≠(Value.slice p3 k aQ).ownBlock/\some b≠(Value.slice p4 k aA).ownBlock:=fun b hb=>by
   obtain ⟨x1,eG⟩:=H2.out.names
   obtain ⟨x2,eH⟩:=H2.out.vals
   exact ⟨fun e=>by have:=(eG.row.lt b e.symm).2;omega,fun e=>by have:=(eH.row.lt b e.symm).2;omega⟩
  have dH:∀ b,b<w.heap.size->some b≠(Value.slice p3 k aQ).ownBlock/\some b≠(Value.slice p4 k aA).ownBlock:=fun b hb=>by
   obtain ⟨x1,eG⟩:=H2.out.names
   obtain ⟨x2,eH⟩:=H2.out.vals
   exact ⟨fun e=>by have:=(eG.row.lt b e.symm).1;omega,fun e=>by have:=(eH.row.lt b e.symm).1;omega⟩
  have hE:∀ b,(fun b=>(S1 b/\b<w.heap.size)\/(wo.heap.size<=b/\b≠G)) b->some b≠(Value.slice p3 k aQ).ownBlock/\some b≠(Value.slice p4 k aA).ownBlock:=fun b hb=>by
   rcases hb with h | h
   ·exact dH b h.2
   exact eB b h.1
  obtain ⟨dA,bB⟩:=eQ.out.names
  obtain ⟨jV,HG,jG,fP,jT,cJ⟩:=Qxr bB hG gW hS eB hE
  have gK:=iU.out.size
  have aX:((t.columns.take k).map Col.name).length=k:=by rw [Z7,Qm,HN.out];omega
  have jU:=Qq aX
  clear hG gW hS dV bB eB dH hE aX cI s0 s1
  go_upto_region 18 with (at_builtin;refine Yf (r:=Zg) Qxv rfl (.tmp 106) (.tmp 113) _ rfl 9 i9 (.string ⟨#[]⟩) 16 underlying46 HI.out jI.out jJ.out jK.out rfl Qvu (fun _=>True) W1 wr (.slice p3 k aQ) ((t.columns.take k).map Col.name) dA [c.name] c.name rfl jV.out rfl ⟨rfl,jB.out⟩ (by simp [Value.oneCell']) k jU.out Qvu gK ?_;intro p7 bT mI w7 gB bA;have fX:=(bA.other G fZ (jT.out G fY).1).trans HG.out;obtain ⟨b0,b1,b2,b3,b4⟩:=row5 fX;have cE:=fP.out.move (fun b hb bE=>bA.other b bE (cJ.out b hb).1) Qyv;obtain ⟨fM,eP,eZ⟩:=Qxn cE (eQ.out.addName gB bA) bA;have nO:=bA.size;clear fX cE gB bA)
  obtain ⟨dB,bW⟩:=eP.out.vals
  have gD:Zc.R (But (fun b=>((fun b=>S1 b/\b<w.heap.size) b\/W1<=b)/\some b≠(Value.slice p7 (k+1) bT).ownBlock) (.slice p4 k aA)) w7 (Qxf v q3 m3 q4 m4) v:=Za.move (S:=fun b=>(fun b=>(S1 b/\b<w.heap.size)\/(wo.heap.size<=b/\b≠G)) b/\b<wr) ((fP.out.move (S':=fun b=>(fun b=>(S1 b/\b<w.heap.size)\/(wo.heap.size<=b/\b≠G)) b/\b<wr) (.refl _ _) (fun b hb h=>⟨h,hb⟩)).move (fun b hb bE=>eZ.out.other b bE (cJ.out b hb.1).1) Qyv) (.refl _ _) (fun b _ hb=>by
   refine ⟨⟨?_,fun e=>?_⟩,(cJ.out b hb.1).2⟩
   ·rcases hb.1 with h | h
    ·exact .inl h
    exact .inr (by have:=eT.out.size;have h1:=h.1;omega)
   rcases eZ.out.at' with e' | ⟨g,e',hg⟩
   ·exact (cJ.out b hb.1).1 (by rw [e,e'])
   rw [e'] at e
   have h1:=Qb e
   have h2:=hb.2
   omega)
  have jW:=Qq bW;have jX:=Qq gD
  clear bW gD d0
  go_wp2_with (at_builtin;refine Yf (r:=Zc) Qxv rfl (.tmp 115) (.tmp 117) _ rfl 48 i0 (.agg zV) 80 underlying40 HJ.out jL.out jM.out jN.out rfl Qvu (fun b=>((fun b=>S1 b/\b<w.heap.size) b\/W1<=b)/\some b≠(Value.slice p7 (k+1) bT).ownBlock) W1 w7 (.slice p4 k aA) vals dB (Qxf v q3 m3 q4 m4) v rfl jW.out rfl jX.out (by simp [Value.oneCell']) k cM.out Qvu Qvu ?_;intro p8 fS mJ w8 gC gA;have iS:=Qq (eP.out.addVal gC gA);clear gC gA)
  go_roundw
  case measure=>simp [intOf];omega
  case rel=>
   refine ⟨k+1,p7,bT,p8,fS,vals++[v],bE,rfl,rfl,by go_num,(show Aside _ from ⟨by rw [Ql,cM.out];rfl,fun u hu=>?_,?_⟩)⟩
   ·rcases Z4.1 hu with h | h
    ·exact dP.out u h
    simp only [Z3,Z2,or_false] at h
    subst h;exact jG.out
   rw [jZ.out,List.map_append]
   exact iS.out
 have hC:k=n:=Qvu
 subst hC
 have cA:t.columns.take k=t.columns:=Zj (by rw [HN.out];exact Q9 _)
 obtain ⟨dA,bB⟩:=H2.out.names
 obtain ⟨dB,bW⟩:=H2.out.vals
 rw [cA] at bB
 have aX:(t.columns.map Col.name).length=vals.length:=by rw [Z7,HN.out,cM.out]
 have gF:Sl Zg (fun b=>(fun b=>S1 b/\b<w.heap.size) b\/W1<=b) wr (.slice p3 k aQ) (t.columns.map Col.name):=(B7 (S':=fun b=>W1<=b) bB (fun _ _ _=>rfl)).sl (by rw [Z7,HN.out];omega) (fun b hb=>.inr hb) (fun b _ hb=>.inr hb)
 have gG:Sl Zc (fun b=>(fun b=>S1 b/\b<w.heap.size) b\/W1<=b) wr (.slice p4 k aA) vals:=bW.sl (by rw [cM.out];omega) (fun b hb=>.inr hb) (fun b _ hb=>hb.1)
 have eE:∀ x ∈ t.columns.map Col.name,V8 x:=fun x hx=>by
  obtain ⟨c,hc,rfl⟩:=List.mem_map.1 hx
  exact bQ.out.words c hc
 have fC:=Qq ((Hx _ _ _ _ vals wr gF gG eE (by rw [Z7,HN.out];omega)).mono (R':=fun e w2=>∃ v q3 m3 q4 m4,e=.returned (.tuple #[.agg (Qxf v q3 m3 q4 m4),Qxc])/\Tk v/\(v.kids.length<=k/\v.kids.length<=m4)/\Za (fun b=>(fun b=>S1 b/\b<w.heap.size) b\/W1<=b) w2 (vcs v q3 m3 q4 m4) v/\Below wr wr w2) (by
  rintro e w2 ⟨hb,h⟩
  rcases h with ⟨mZ,_,_,lE⟩ | ⟨a3,l3,a4,l4,_,rfl,_,kZ,hv⟩
  ·exact absurd ⟨aX,fun i j x kW hi hj=>by
    have kX:=(Qj hj).1
    exact (List.pairwise_iff_getElem.1 bQ.out.once) i j (Qj hi).1 kX kW (by rw [(Qj hi).2,(Qj hj).2])⟩ lE
  obtain ⟨g1,g2⟩:=Qvj aX eE bQ.out.once (fun v hv=>(dP.out v hv).good)
  exact ⟨_,a3,l3,a4,l4,rfl,⟨g1,fun u hu=>dP.out u (rec2_in aX bQ.out.once u hu),rfl⟩,⟨by show (Yu _).2.length<=k;rw [g2,Z7,HN.out];exact Q9 _,by show (Yu _).2.length<=l4;rw [g2];exact kZ⟩,hv.move (.refl _ _) (fun b _ h=>h.elim id (fun h=>.inr Qvu)),hb⟩))
 have lA:w.heap.size+1+1<wr.heap.size:=Qvu
 clear bB bW gF gG eE aX cA s0 s1
 go_upto_region 20 with (go_at_call 82;refine fC.out.mono ?_;rintro e w7 ⟨v,q3,m3,q4,m4,rfl,gV,gZ,cE,gO⟩;obtain ⟨jE,jP,fM,eR⟩:=Qxo gV gZ cE gO;clear gV gZ cE gO)
 generalize dW:w7.alloc _=W8
 have dX:=eqB dW (Ze _ _)
 have hX:=eqH (b:=w7.heap.size) dW (Qw _ _)
 have cS:=kE (eR.out.thn dX) lA fQ.out
 obtain ⟨v0,v1,v2,v3,v4⟩:=row5 hX
 obtain ⟨y0,y1,y2,y3,y4⟩:=row5 cS
 obtain ⟨f0,f1,f2,f3,f4⟩:=frz5 cS
 have kJ:=Qq cS;have eS:=Qq dX
 clear dW hX cS dX
 go_wp2_with fail
 show bodyPost _ _ _ _ _ (Qxl W8 (w+1+1) v q3 m3 q4 m4)
 refine Q7 (v:=.agg (Qxf v q3 m3 q4 m4)) (by simp [results,results30,go_sem,Zd kJ.out]) rfl ⟨v,q3,m3,q4,m4,rfl,jE.out,jP.out,?_,Zf (bS.out.thn (eR.out.thn eS.out)) Qvu⟩
 exact ((fM.out.move (.of_below eS.out) Qyv).move (fun b hb _=>Zi (by
  rcases hb with h | h
  ·have:=h.2;omega
  omega)) (fun b _ h=>h.elim (fun h=>.inl h.1) (fun h=>.inr Qvu)))
theorem rrow_any (S0 S1 S2 S3:Nat->Prop) (s:Sc) (cs:List Value) (lv:Value) (l:List Rel) (t:Tbl) (ct:List Value) (nv:Value) (ns:List Int) (at':Nat) (w:World) (hs0:Vj S0 w cs s) (hl0:Sl Yx S1 w lv l) (ht:Zl.R S2 w ct t) (hn0:Xa S3 w nv ns) (hi:Uh ns) (hat:at'<=1000) (hT:Fj t) (hsg:Jb s.sums) (hk:∀ t ∈ s.tables,t.key.length<=1000) (hR:∀ r ∈ l,∀ v ∈ r.rows,Tk v):
  Calls prog 30 #[cs,lv,ct,nv,at'] w (Tl S1 w t.columns.length):=
 Nh S0 S1 S2 S3 s cs lv l t ct nv ns at' w hs0 (by obtain ⟨p,c,h,_⟩:=hl0.len;exact ⟨p,c,h⟩) (Qq (fun tn W hW=>N2 (fun b=>S1 b/\b<w) lv l tn W ((hl0.mono (fun b hb h=>⟨h,hb⟩)).below hW))) ht hn0 hi hat hT hsg hk hR
def Qjl (P:Nat->Prop):Rd Rel where
 k:=2
 R S w cs x:=∃ v,cs=[sv x.table,v]/\x.table.length<=1000000/\Sl Zc (fun b=>S b/\P b) w v x.rows
 len h:=by obtain ⟨v,rfl,_⟩:=h;rfl
 frame h hA:=by obtain ⟨v,rfl,A,D⟩:=h;exact ⟨v,rfl,A,D.frame (fun b hb=>hA b hb.1)⟩
 mono h hS:=by obtain ⟨v,rfl,A,D⟩:=h;exact ⟨v,rfl,A,D.mono (fun b hb h=>⟨hS b hb h.1,h.2⟩)⟩
theorem Sl.relOf {P:Nat->Prop} {S:Nat->Prop} {w:World} {v:Value} {l:List Rel} (h:Sl (Qjl P) S w v l):Sl Yx S w v l:=by
 obtain ⟨p,cap,h1,h2,h3⟩:=h
 refine ⟨p,cap,h1,h2,fun D=>?_⟩
 obtain ⟨b,off,e,hS,hb,hc⟩:=h3 D
 refine ⟨b,off,e,hS,hb,fun i x hx=>?_⟩
 obtain ⟨cs,A,v,hv,h4,h5⟩:=hc i x hx
 exact ⟨cs,A,v,hv,h4,h5.mono (fun b _ h=>h.1)⟩
theorem rrows_P (P:Nat->Prop) (S:Nat->Prop) (v:Value) (l:List Rel) (x:Bs) (w:World) (hs:Sl (Qjl P) S w v l):
  Calls prog 79 #[v,sv x] w (An (fun b=>S b/\P b) w (V0 l x)):=by
 have D:=Qq (fun W (h:w=W)=>Fd S v l x W (h ▸ hs.relOf))
 rcases Ke l x with ⟨M,J⟩ | ⟨i,r,M,J,N⟩
 ·have I:V0 l x=[]:=by unfold V0;rw [M]
  rw [I]
  rw [J] at D
  clear M J I
  obtain ⟨p,cap,rfl,hl⟩:=hs.len
  clear hs
  unfold sv at D |-
  go_enter func79,ntmps79
  go_wp2_with (go_at_call 31;refine (D.out _ rfl).mono ?_;rintro e w' ⟨rfl,rfl⟩)
  go_ret
  exact ⟨none,0,rfl,Sl.nil _ _ _,rfl⟩
 have I:V0 l x=r.rows:=by unfold V0;rw [M];simp [N]
 rw [I]
 rw [J] at D
 clear M J I
 obtain ⟨p,cap,rfl,hl⟩:=hs.len
 have Z:=(Qj N).1
 obtain ⟨b,off,cs,rfl,T,_,_,⟨rv,rfl,_,A⟩,hc⟩:=hs.elem N
 have c1:=hc 1 _ rfl
 rw [show (Qjl P).k=2 from rfl] at c1
 obtain ⟨q,qc,rfl,_⟩:=A.len
 have O:=Qq A
 have U:(0:Int)<=(i:Int):=Qvu
 have V:(i:Int)<(l.length:Int):=Qvu
 have Y:decide ((i:Int)<0)=false:=Qxz
 clear hs N hc A
 unfold sv at D |-
 go_enter func79,ntmps79
 go_wp2_with (go_at_call 31;refine (D.out _ rfl).mono ?_;rintro e w' ⟨rfl,rfl⟩)
 go_ret
 exact ⟨q,qc,rfl,O.out,rfl⟩
theorem rrow_P (P:Nat->Prop) (S0 S1 S2 S3:Nat->Prop) (s:Sc) (cs:List Value) (lv:Value) (l:List Rel) (t:Tbl) (ct:List Value) (nv:Value) (ns:List Int) (at':Nat) (w:World) (hs0:Vj S0 w cs s) (hl0:Sl (Qjl P) S1 w lv l) (ht:Zl.R S2 w ct t) (hn0:Xa S3 w nv ns) (hi:Uh ns) (hat:at'<=1000) (hT:Fj t) (hsg:Jb s.sums) (hk:∀ t ∈ s.tables,t.key.length<=1000) (hR:∀ r ∈ l,∀ v ∈ r.rows,Tk v):
  Calls prog 30 #[cs,lv,ct,nv,at'] w (Tl (fun b=>S1 b/\P b) w t.columns.length):=
 Nh S0 (fun b=>S1 b/\P b) S2 S3 s cs lv l t ct nv ns at' w hs0 (by obtain ⟨p,c,h,_⟩:=hl0.len;exact ⟨p,c,h⟩) (Qq (fun tn W hW=>by
  refine (rrows_P P (fun b=>S1 b/\b<w) lv l tn W ((hl0.mono (fun b hb h=>⟨h,hb⟩)).below hW)).mono ?_
  rintro e w2 ⟨p,c,h1,h2,h3⟩
  exact ⟨p,c,h1,h2.mono (fun b _ h=>⟨⟨h.1.1,h.2⟩,h.1.2⟩),h3⟩)) ht hn0 hi hat hT hsg hk hR
theorem Qqp {l:List Rel} {t:Bs} {i:Nat} (h:Vt l t=some i):∃ r,l[i]?=some r/\r.table=t:=by
 unfold Vt at h
 obtain ⟨h1,h2,_⟩:=List.findIdx?_eq_some_iff_getElem.1 h
 exact ⟨_,Qx h1,of_decide_eq_true h2⟩
theorem Qvb {l:List Rel} {i:Nat} (zs:List Val):(l.set i ⟨(l.getD i ⟨[],[]⟩).table,zs⟩).map Rel.table=l.map Rel.table:=by
 apply List.ext_getElem?
 intro j
 simp only [List.getElem?_map,List.getElem?_set]
 by_cases hj:i=j
 ·subst hj
  rw [if_pos rfl]
  by_cases hl:i<l.length
  ·rw [if_pos hl];simp [Qx hl]
  rw [if_neg hl,List.getElem?_eq_none Qvu]
 rw [if_neg hj]
theorem Qvl (l:List Rel) (t:Bs) (x:Val):(Js l t x).map Rel.table=l.map Rel.table:=by
 unfold Js;cases Vt l t with
 | none=>rfl
 | some i=>exact Qvb _
theorem R5 {p q:List Val->Prop} {l:List Rel} (h:∀ r ∈ l,p r.rows) (t:Bs) (x:Val) (hp:∀ xs,p xs->q (J3 xs x)) (hq:∀ xs,p xs->q xs):∀ r ∈ Js l t x,q r.rows:=by
 unfold Js
 cases e:Vt l t with
 | none=>exact fun r A=>hq _ (h r A)
 | some i=>
  obtain ⟨r0,D,_⟩:=Qqp e
  intro r A
  rcases List.mem_or_eq_of_mem_set A with A | rfl
  ·exact hq _ (h r A)
  show q (J3 _ x)
  rw [show (l.getD i ⟨[],[]⟩).rows=r0.rows by simp [D]]
  exact hp _ (h r0 (Qy D))
structure UpSt (T:List Bs) (c:Nat) (l:List Rel):Prop where
 tabs:l.map Rel.table=T
 up:∀ r ∈ l,UpV r.rows
 few:∀ r ∈ l,r.rows.length<=c
theorem Qki (l:List Val) (x:Val):(J3 l x).length<=l.length+1:=by
 unfold J3
 split
 ·omega
 simp;omega
theorem UpSt.ins {T:List Bs} {c:Nat} {l:List Rel} (h:UpSt T c l) (t:Bs) (x:Val):UpSt T (c+1) (Js l t x):=
 ⟨by rw [Qvl];exact h.tabs,R5 h.up t x (fun xs A=>Qjz A x) (fun _ h=>h),R5 (p:=fun xs=>xs.length<=c) (q:=fun xs=>xs.length<=c+1) h.few t x (fun xs A=>Qc (Qki xs x) Qvu) (fun xs A=>Qvu)⟩
theorem Oo {A B:Type} {p:A->B->Bool}:∀ {a:List A} {b:List B},a.length=b.length->(∀ (i:Nat) (x:A) (y:B),a[i]?=some x->b[i]?=some y->p x y=true)->eqL p a b=true
 | [],[],_,_=>rfl
 | [],_::_,h,_=>by simp at h
 | _::_,[],h,_=>by simp at h
 | x::s,y::t,h,hp=>by
  unfold eqL
  rw [hp 0 x y rfl rfl,Oo (by simpa using h) (fun i x' y' h1 h2=>hp (i+1) x' y' (by simpa using h1) (by simpa using h2))];rfl
end Go.Proofs.YtlanplhphiikjaaGreatDoor
