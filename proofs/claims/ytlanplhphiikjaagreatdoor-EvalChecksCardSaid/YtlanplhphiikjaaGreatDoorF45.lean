import Derived.Test.YtlanplhphiikjaaGreatDoorF38
set_option maxRecDepth 100000
set_option maxHeartbeats 400000000
namespace Go.Proofs.YtlanplhphiikjaaGreatDoor
open Go.RowKit Go.Shelf Go.Lib Tryz
def TB (X:Nat->Prop) (W:World) (A:Nat) (t:Tbl):Prop:=∃ cs,W.heap[A]?=some (.cells cs.toArray 61 (0,0))/\Zg.R X W cs t
theorem TB.lt {X:Nat->Prop} {W:World} {A:Nat} {t:Tbl} (h:TB X W A t):A<W.heap.size:=by obtain ⟨cs,h,_⟩:=h;exact Z3 h
theorem TB.keep {X:Nat->Prop} {W W':World} {A:Nat} {t:Tbl} (h:TB X W A t) (hA:W'.heap[A]?=W.heap[A]?) (hX:∀ b,X b->b<W.heap.size->W'.heap[b]?=W.heap[b]?):TB X W' A t:=by
 obtain ⟨cs,h1,h2⟩:=h
 exact ⟨cs,hA.trans h1,Zg.frame h2 (fun b hb hl=>hX b hb hl)⟩
theorem Vh (l:List Int) (i:Nat) (m:Int) (hm:0<m):0<=Xi l i m/\Xi l i m<m:=by
 unfold Xi
 split
 ·exact Uq _ _ hm
 exact ⟨Int.le_refl _,hm⟩
theorem Vu {W W':World} {b j:Nat} {x:Value} {cs:Array Value} {t:TypeId} (h:W.heap[b]?=some (.cells cs t (0,0))) (hW:W.setCell ⟨b,j,none⟩ x=W'):W'.heap[b]?=some (.cells (cs.setIfInBounds j x) t (0,0))/\(∀ k,k≠b->W'.heap[k]?=W.heap[k]?)/\(∀ B,B<=b->Below B W W'):=by
 subst hW
 refine ⟨Qd _ _ _ _ _ _ h,fun k hk=>Z4 hk,fun B hB=>(Qz B W).setCell (p:=⟨b,j,none⟩) hB _⟩
theorem TB.shrink {X:Nat->Prop} {W:World} {A:Nat} {t:Tbl} (h:TB X W A t):TB (fun b=>X b/\b<W.heap.size) W A t:=by
 obtain ⟨cs,h1,h2⟩:=h
 exact ⟨cs,h1,Zg.mono h2 (fun b hb h=>⟨h,hb⟩)⟩
theorem TB.mono {X X':Nat->Prop} {W:World} {A:Nat} {t:Tbl} (h:TB X W A t) (hX:∀ b,b<W.heap.size->X b->X' b):TB X' W A t:=by
 obtain ⟨cs,h1,h2⟩:=h
 exact ⟨cs,h1,Zg.mono h2 hX⟩
theorem TB.cell3 {X:Nat->Prop} {W:World} {A:Nat} {t:Tbl} (h:TB X W A t):∃ rv,W.cell? ⟨A,3,none⟩=some rv/\W.frozen? ⟨A,3,none⟩=false:=by
 obtain ⟨cs,h1,cv,kv,rv,ec,rfl,_⟩:=h
 exact ⟨rv,(Qk _ _ 3 _ _ _ h1).trans rfl,fA 3 h1⟩
theorem Dy {W:World} {A j:Nat} {v:Value} {o:Obj} (hA:A<=W.heap.size):Below A W ((W.setCell ⟨A,j,none⟩ v).alloc o):=
 ((Qz A W).setCell (p:=⟨A,j,none⟩) (Q4 _) v).alloc (by simp [World.setCell];exact hA) o
theorem TB.refs {X:Nat->Prop} {W:World} {A:Nat} {t:Tbl} (h:TB X W A t) (hXA:¬ X A) {v:Value} {rs:List Rf} (o:Obj) (hv:Sl Dz X ((W.setCell ⟨A,3,none⟩ v).alloc o) v rs):TB X ((W.setCell ⟨A,3,none⟩ v).alloc o) A ⟨t.name,t.columns,t.key,rs,t.check⟩:=by
 obtain ⟨cs,h1,cv,kv,rv,ec,rfl,hn,hc,hk,hr,he⟩:=h
 have h2:(W.setCell ⟨A,3,none⟩ v).heap[A]?=some (.cells (sv t.name::cv::kv::v::ec).toArray 61 (0,0)):=(Qd _ _ _ _ _ _ h1).trans (by simp)
 have hs:(W.setCell ⟨A,3,none⟩ v).heap.size=W.heap.size:=by simp [World.setCell]
 have D:Ys X W ((W.setCell ⟨A,3,none⟩ v).alloc o):=fun b hb hl=>by rw [(Zb _ o).block b (by omega),Z4 (show b≠A from fun e=>hXA (e ▸ hb))]
 exact ⟨_,Zh h2 _,cv,kv,v,ec,rfl,hn,hc.frame D,hk.frame D,hv,he.move D (fun _ _ h=>h)⟩
theorem TB.keyf {X:Nat->Prop} {W:World} {A:Nat} {t:Tbl} (h:TB X W A t) (hXA:¬ X A) {v:Value} {rs:List Bs} (o:Obj) (hv:Sl Zi X ((W.setCell ⟨A,2,none⟩ v).alloc o) v rs):TB X ((W.setCell ⟨A,2,none⟩ v).alloc o) A ⟨t.name,t.columns,rs,t.refs,t.check⟩:=by
 obtain ⟨cs,h1,cv,kv,rv,ec,rfl,hn,hc,hk,hr,he⟩:=h
 have h2:(W.setCell ⟨A,2,none⟩ v).heap[A]?=some (.cells (sv t.name::cv::v::rv::ec).toArray 61 (0,0)):=(Qd _ _ _ _ _ _ h1).trans (by simp)
 have hs:(W.setCell ⟨A,2,none⟩ v).heap.size=W.heap.size:=by simp [World.setCell]
 have D:Ys X W ((W.setCell ⟨A,2,none⟩ v).alloc o):=fun b hb hl=>by rw [(Zb _ o).block b (by omega),Z4 (show b≠A from fun e=>hXA (e ▸ hb))]
 exact ⟨_,Zh h2 _,cv,v,rv,ec,rfl,hn,hc.frame D,hv,hr.frame D,he.move D (fun _ _ h=>h)⟩
theorem Fk (s:Array UInt8) (w:World):Calls prog 49 #[.string ⟨s⟩] w fun e w'=>e=.returned (.agg #[.int .i64 3,.string ⟨s⟩,.int .i64 0,.string ⟨#[]⟩,.slice none 0 0,.slice none 0 0,.slice none 0 0,.int .i64 0,.int .i64 0])/\Below w.heap.size w w':=by
 go_enter func49,ntmps49
 go_wp2_with fail
 generalize hW:World.alloc w _=W
 have hb:=eqB hW (Zb _ _)
 have hR:=eqH (b:=w.heap.size) hW (Qw _ _)
 exact Q2 (v:=.agg #[.int .i64 3,.string ⟨s⟩,.int .i64 0,.string ⟨#[]⟩,.slice none 0 0,.slice none 0 0,.slice none 0 0,.int .i64 0,.int .i64 0]) (by simp [results,results49,go_sem,Qk _ _ _ _ _ _ hR]) rfl ⟨rfl,hb⟩
theorem TB.below {X:Nat->Prop} {W W':World} {A:Nat} {t:Tbl} (h:TB X W A t) (hb:Below W.heap.size W W'):TB X W' A t:=h.keep (hb.block _ h.lt) (fun b _ hl=>hb.block b hl)
theorem TB.cell9 {X:Nat->Prop} {W:World} {A:Nat} {t:Tbl} (h:TB X W A t):∃ u0 u1 u2 u3 u4 u5 u6 u7 u8,W.cell? ⟨A,4,none⟩=some u0/\W.frozen? ⟨A,4,none⟩=false/\W.cell? ⟨A,5,none⟩=some u1/\W.frozen? ⟨A,5,none⟩=false/\W.cell? ⟨A,6,none⟩=some u2/\W.frozen? ⟨A,6,none⟩=false/\W.cell? ⟨A,7,none⟩=some u3/\W.frozen? ⟨A,7,none⟩=false/\W.cell? ⟨A,8,none⟩=some u4/\W.frozen? ⟨A,8,none⟩=false/\W.cell? ⟨A,9,none⟩=some u5/\W.frozen? ⟨A,9,none⟩=false/\W.cell? ⟨A,10,none⟩=some u6/\W.frozen? ⟨A,10,none⟩=false/\W.cell? ⟨A,11,none⟩=some u7/\W.frozen? ⟨A,11,none⟩=false/\W.cell? ⟨A,12,none⟩=some u8/\W.frozen? ⟨A,12,none⟩=false:=by
 obtain ⟨cs,D,cv,kv,rv,ec,rfl,_,_,_,_,he⟩:=h
 obtain ⟨k,s1,n,s2,p1,n1,c1,p2,n2,c2,p3,n3,c3,a,z,rfl⟩:=Yj.cells he
 exact ⟨_,_,_,_,_,_,_,_,_,(Qk _ _ 4 _ _ _ D).trans rfl,fA 4 D,(Qk _ _ 5 _ _ _ D).trans rfl,fA 5 D,(Qk _ _ 6 _ _ _ D).trans rfl,fA 6 D,(Qk _ _ 7 _ _ _ D).trans rfl,fA 7 D,(Qk _ _ 8 _ _ _ D).trans rfl,fA 8 D,(Qk _ _ 9 _ _ _ D).trans rfl,fA 9 D,(Qk _ _ 10 _ _ _ D).trans rfl,fA 10 D,(Qk _ _ 11 _ _ _ D).trans rfl,fA 11 D,(Qk _ _ 12 _ _ _ D).trans rfl,fA 12 D⟩
theorem g15_chk {X:Nat->Prop} {W Ws:World} {A:Nat} {t:Tbl} {v0 v1 v2 v3 v4 v5 v6 v7 v8:Value} (h:TB X W A t) (hXA:¬ X A)
  (hW:((((((((W.setCell ⟨A,4,none⟩ v0).setCell ⟨A,5,none⟩ v1).setCell ⟨A,6,none⟩ v2).setCell ⟨A,7,none⟩ v3).setCell ⟨A,8,none⟩ v4).setCell ⟨A,9,none⟩ v5).setCell ⟨A,10,none⟩ v6).setCell ⟨A,11,none⟩ v7).setCell ⟨A,12,none⟩ v8=Ws):(∀ b,b≠A->Ws.heap[b]?=W.heap[b]?)/\(∀ B,B<=A->Below B W Ws)/\∀ e,Yj X Ws [v0,v1,v2,v3,v4,v5,v6,v7,v8] e->TB X Ws A ⟨t.name,t.columns,t.key,t.refs,e⟩:=by
 obtain ⟨cs,h0,D,G,I,ec,rfl,hn,hc,hk,hr,he⟩:=h
 obtain ⟨k,s1,n,s2,Z,Y,V,U,T,O,N,M,L,a,z,rfl⟩:=Yj.cells he
 subst hW
 have h1:(W.setCell ⟨A,4,none⟩ v0).heap[A]?=some (.cells #[sv t.name,D,G,I,v0,.string s1,.int .i64 n,.string s2,.slice Z Y V,.slice U T O,.slice N M L,.int .i64 a,.int .i64 z] 61 (0,0)):=by rw [Qd _ _ _ _ _ _ h0];rfl
 have h2:((W.setCell ⟨A,4,none⟩ v0).setCell ⟨A,5,none⟩ v1).heap[A]?=some (.cells #[sv t.name,D,G,I,v0,v1,.int .i64 n,.string s2,.slice Z Y V,.slice U T O,.slice N M L,.int .i64 a,.int .i64 z] 61 (0,0)):=by rw [Qd _ _ _ _ _ _ h1];rfl
 have h3:(((W.setCell ⟨A,4,none⟩ v0).setCell ⟨A,5,none⟩ v1).setCell ⟨A,6,none⟩ v2).heap[A]?=some (.cells #[sv t.name,D,G,I,v0,v1,v2,.string s2,.slice Z Y V,.slice U T O,.slice N M L,.int .i64 a,.int .i64 z] 61 (0,0)):=by rw [Qd _ _ _ _ _ _ h2];rfl
 have h4:((((W.setCell ⟨A,4,none⟩ v0).setCell ⟨A,5,none⟩ v1).setCell ⟨A,6,none⟩ v2).setCell ⟨A,7,none⟩ v3).heap[A]?=some (.cells #[sv t.name,D,G,I,v0,v1,v2,v3,.slice Z Y V,.slice U T O,.slice N M L,.int .i64 a,.int .i64 z] 61 (0,0)):=by rw [Qd _ _ _ _ _ _ h3];rfl
 have h5:(((((W.setCell ⟨A,4,none⟩ v0).setCell ⟨A,5,none⟩ v1).setCell ⟨A,6,none⟩ v2).setCell ⟨A,7,none⟩ v3).setCell ⟨A,8,none⟩ v4).heap[A]?=some (.cells #[sv t.name,D,G,I,v0,v1,v2,v3,v4,.slice U T O,.slice N M L,.int .i64 a,.int .i64 z] 61 (0,0)):=by rw [Qd _ _ _ _ _ _ h4];rfl
 have h6:((((((W.setCell ⟨A,4,none⟩ v0).setCell ⟨A,5,none⟩ v1).setCell ⟨A,6,none⟩ v2).setCell ⟨A,7,none⟩ v3).setCell ⟨A,8,none⟩ v4).setCell ⟨A,9,none⟩ v5).heap[A]?=some (.cells #[sv t.name,D,G,I,v0,v1,v2,v3,v4,v5,.slice N M L,.int .i64 a,.int .i64 z] 61 (0,0)):=by rw [Qd _ _ _ _ _ _ h5];rfl
 have h7:(((((((W.setCell ⟨A,4,none⟩ v0).setCell ⟨A,5,none⟩ v1).setCell ⟨A,6,none⟩ v2).setCell ⟨A,7,none⟩ v3).setCell ⟨A,8,none⟩ v4).setCell ⟨A,9,none⟩ v5).setCell ⟨A,10,none⟩ v6).heap[A]?=some (.cells #[sv t.name,D,G,I,v0,v1,v2,v3,v4,v5,v6,.int .i64 a,.int .i64 z] 61 (0,0)):=by rw [Qd _ _ _ _ _ _ h6];rfl
 have h8:((((((((W.setCell ⟨A,4,none⟩ v0).setCell ⟨A,5,none⟩ v1).setCell ⟨A,6,none⟩ v2).setCell ⟨A,7,none⟩ v3).setCell ⟨A,8,none⟩ v4).setCell ⟨A,9,none⟩ v5).setCell ⟨A,10,none⟩ v6).setCell ⟨A,11,none⟩ v7).heap[A]?=some (.cells #[sv t.name,D,G,I,v0,v1,v2,v3,v4,v5,v6,v7,.int .i64 z] 61 (0,0)):=by rw [Qd _ _ _ _ _ _ h7];rfl
 have h9:(((((((((W.setCell ⟨A,4,none⟩ v0).setCell ⟨A,5,none⟩ v1).setCell ⟨A,6,none⟩ v2).setCell ⟨A,7,none⟩ v3).setCell ⟨A,8,none⟩ v4).setCell ⟨A,9,none⟩ v5).setCell ⟨A,10,none⟩ v6).setCell ⟨A,11,none⟩ v7).setCell ⟨A,12,none⟩ v8).heap[A]?=some (.cells #[sv t.name,D,G,I,v0,v1,v2,v3,v4,v5,v6,v7,v8] 61 (0,0)):=by rw [Qd _ _ _ _ _ _ h8];rfl
 have ho:∀ b,b≠A->(((((((((W.setCell ⟨A,4,none⟩ v0).setCell ⟨A,5,none⟩ v1).setCell ⟨A,6,none⟩ v2).setCell ⟨A,7,none⟩ v3).setCell ⟨A,8,none⟩ v4).setCell ⟨A,9,none⟩ v5).setCell ⟨A,10,none⟩ v6).setCell ⟨A,11,none⟩ v7).setCell ⟨A,12,none⟩ v8).heap[b]?=W.heap[b]?:=fun b hb=>by rw [Z4 hb,Z4 hb,Z4 hb,Z4 hb,Z4 hb,Z4 hb,Z4 hb,Z4 hb,Z4 hb]
 have hA:Ys X W (((((((((W.setCell ⟨A,4,none⟩ v0).setCell ⟨A,5,none⟩ v1).setCell ⟨A,6,none⟩ v2).setCell ⟨A,7,none⟩ v3).setCell ⟨A,8,none⟩ v4).setCell ⟨A,9,none⟩ v5).setCell ⟨A,10,none⟩ v6).setCell ⟨A,11,none⟩ v7).setCell ⟨A,12,none⟩ v8):=fun b hb _=>ho b (show b≠A from fun e=>hXA (e ▸ hb))
 exact ⟨ho,fun B J=>((((((((((Qz B W).setCell (p:=⟨A,4,none⟩) J _).setCell (p:=⟨A,5,none⟩) J _).setCell (p:=⟨A,6,none⟩) J _).setCell (p:=⟨A,7,none⟩) J _).setCell (p:=⟨A,8,none⟩) J _).setCell (p:=⟨A,9,none⟩) J _).setCell (p:=⟨A,10,none⟩) J _).setCell (p:=⟨A,11,none⟩) J _).setCell (p:=⟨A,12,none⟩) J _),fun e hx=>⟨_,h9,D,G,I,_,rfl,hn,hc.frame hA,hk.frame hA,hr.frame hA,hx⟩⟩
structure B15 (w W:World):Prop where
 res:W.heap[w.heap.size]?=some (.cells #[.slice none 0 0,.slice none 0 0] 27 (0,0))
 t3:W.heap[w.heap.size+1]?=some (.cells zY 65 (0,0))
 t4:W.heap[w.heap.size+1+1]?=some (.cells #[.int .i64 1,.string ⟨#[]⟩,.int .i64 0,.slice none 0 0,.slice none 0 0] 65 (0,0))
 t5:W.heap[w.heap.size+1+1+1]?=some (.cells #[.int .i64 2,.string ⟨#[]⟩,.int .i64 0,.slice none 0 0,.slice none 0 0] 65 (0,0))
 t6:W.heap[w.heap.size+1+1+1+1]?=some (.cells #[.int .i64 3,.string ⟨#[67,111,108,111,114]⟩,.int .i64 0,.slice none 0 0,.slice none 0 0] 65 (0,0))
 t7:W.heap[w.heap.size+1+1+1+1+1]?=some (.cells #[.int .i64 3,.string ⟨#[83,105,122,101]⟩,.int .i64 0,.slice none 0 0,.slice none 0 0] 65 (0,0))
 sums:Sl Vi (fun b=>w.heap.size<b/\b<w.heap.size+9) W (.slice (some ⟨w.heap.size+1+1+1+1+1+1+1+1,0,none⟩) 2 2) G15.sums
 below:Below w.heap.size w W
 size:w.heap.size+12<=W.heap.size
theorem B15.step {w W W':World} (h:B15 w W) (hb:Below (w.heap.size+9) W W'):B15 w W':=by
 have:=h.size
 have:=hb.size
 exact ⟨kE hb (by omega) h.res,kE hb (by omega) h.t3,kE hb (by omega) h.t4,kE hb (by omega) h.t5,kE hb (by omega) h.t6,kE hb (by omega) h.t7,h.sums.frame (fun b D _=>hb.block b D.2),h.below.trans (hb.mono (by omega)),by omega⟩
theorem TB.cell2 {X:Nat->Prop} {W:World} {A:Nat} {t:Tbl} (h:TB X W A t):∃ rv,W.cell? ⟨A,2,none⟩=some rv/\W.frozen? ⟨A,2,none⟩=false:=by
 obtain ⟨cs,h1,cv,kv,rv,ec,rfl,_⟩:=h
 exact ⟨kv,(Qk _ _ 2 _ _ _ h1).trans rfl,fA 2 h1⟩
theorem TB.noref {X:Nat->Prop} {W W':World} {A:Nat} {t:Tbl} (h:TB X W A t) (hXA:¬ X A) (hW:W.setCell ⟨A,3,none⟩ (.slice none 0 0)=W'):TB X W' A ⟨t.name,t.columns,t.key,[],t.check⟩:=by
 obtain ⟨cs,h1,cv,kv,rv,ec,rfl,hn,hc,hk,hr,he⟩:=h
 obtain ⟨h2,ho,_⟩:=Vu h1 hW
 have D:Ys X W W':=fun b hb _=>ho b (fun e=>hXA (e ▸ hb))
 exact ⟨sv t.name::cv::kv::.slice none 0 0::ec,h2.trans (by simp),cv,kv,_,ec,rfl,hn,hc.frame D,hk.frame D,Sl.nil _ _ _,he.move D (fun _ _ h=>h)⟩
theorem TB.load {X:Nat->Prop} {W:World} {A:Nat} {t:Tbl} (h:TB X W A t):∃ cp cc kp kc rp rc k s1 n s2 p1 n1 c1 p2 n2 c2 p3 n3 c3 a z,W.heap[A]?=some (.cells #[.string ⟨t.name.toArray⟩,.slice cp t.columns.length cc,.slice kp t.key.length kc,.slice rp t.refs.length rc,.int .i64 k,.string s1,.int .i64 n,.string s2,.slice p1 n1 c1,.slice p2 n2 c2,.slice p3 n3 c3,.int .i64 a,.int .i64 z] 61 (0,0))/\Zg.R X W [.string ⟨t.name.toArray⟩,.slice cp t.columns.length cc,.slice kp t.key.length kc,.slice rp t.refs.length rc,.int .i64 k,.string s1,.int .i64 n,.string s2,.slice p1 n1 c1,.slice p2 n2 c2,.slice p3 n3 c3,.int .i64 a,.int .i64 z] t:=by
 obtain ⟨cs,h1,h2⟩:=h
 obtain ⟨M,L,O,N,aC,aB,k9,aD,n9,aE,Y,T,G,Z,U,I,aA,V,J,a9,z9,D,_⟩:=Zr h2
 simp only [tcs] at D
 subst D
 exact ⟨_,_,_,_,_,_,_,_,_,_,_,_,_,_,_,_,_,_,_,_,_,h1,h2⟩
structure P15 (w W:World) (A1 A2 A3:Nat) (tp ti:Tbl):Prop where
 place:TB (fun b=>(w.heap.size+9<b/\b≠A1)/\b<A2) W A1 tp
 item:TB (fun b=>(w.heap.size+9<b/\b≠A1/\b≠A2)/\b<A3) W A2 ti
 low:B15 w W
 a1:w.heap.size+9<A1
 a2:A1<A2
 a3:A2<A3
theorem P15.step {w W W':World} {A1 A2 A3:Nat} {tp ti:Tbl} (h:P15 w W A1 A2 A3 tp ti) (hb:Below A3 W W'):P15 w W' A1 A2 A3 tp ti:=
 ⟨h.place.keep (hb.block _ (Nat.lt_trans h.a2 h.a3)) (fun b D _=>hb.block _ (Nat.lt_trans D.2 h.a3)),h.item.keep (hb.block _ h.a3) (fun b D _=>hb.block _ D.2),h.low.step (hb.mono (by have:=h.a1;have:=h.a2;have:=h.a3;omega)),h.a1,h.a2,h.a3⟩
theorem is15_i (a r c:Bool):Uy (G15.item a r c):=.inr (.inl ⟨a,r,c,rfl⟩)
theorem is15_p (a b:Bool):Uy (G15.place a b):=.inl ⟨a,b,rfl⟩
theorem is15_s (r k:Bool):Uy (G15.shop r k):=.inr (.inr ⟨r,k,rfl⟩)
def Po (w:World) (e:Ending) (w':World):Prop:=∃ ts sv tv,e=.returned (.agg #[sv,tv])/\Ug (fun b=>w.heap.size<=b) w' [sv,tv] ⟨G15.sums,ts⟩/\Below w.heap.size w w'/\ts≠[]/\ts.length<=3/\∀ t ∈ ts,Uy t
theorem Bz {w W W':World} {ts:List Tbl} {css:List (List Value)} {cells:Array Value} {n:Nat} {sv:Value} (hB:B15 w W) (hsv:sv=.slice (some ⟨w.heap.size+1+1+1+1+1+1+1+1,0,none⟩) 2 2) (hc:Cs Zg (fun b=>w.heap.size+9<b) W css ts) (hcc:css.flatten=cells.toList) (hn:n=ts.length) (hl:ts.length<=3)
  {Wy:World} (hWy:W.alloc (.cells cells 61 (0,0))=Wy) (hW:(Wy.setCell ⟨w.heap.size,0,none⟩ sv).setCell ⟨w.heap.size,1,none⟩ (.slice (some ⟨W.heap.size,0,none⟩) n n)=W'):
  W'.heap[w.heap.size]?=some (.cells #[sv,.slice (some ⟨W.heap.size,0,none⟩) n n] 27 (0,0))/\Ug (fun b=>w.heap.size<=b) W' [sv,.slice (some ⟨W.heap.size,0,none⟩) n n] ⟨G15.sums,ts⟩/\Below w.heap.size w W':=by
 subst hsv
 subst hWy
 have hs:=hB.size
 have h1:=Qd _ _ 0 _ _ (.slice (some ⟨w.heap.size+1+1+1+1+1+1+1+1,0,none⟩) 2 2) (Zh hB.res (.cells cells 61 (0,0)))
 have h3:=Qd _ _ 1 _ _ (.slice (some ⟨W.heap.size,0,none⟩) n n) h1
 rw [hW] at h3
 have ho:∀ b,b≠w.heap.size->b<W.heap.size->W'.heap[b]?=W.heap[b]?:=fun b hb hl=>by
  rw [<- hW,Z4 hb,Z4 hb,(Zb _ _).block b hl]
 have G:W'.heap[W.heap.size]?=some (.cells cells 61 (0,0)):=by rw [<- hW,Z4 (by show W.heap.size≠w.heap.size;omega),Z4 (by show W.heap.size≠w.heap.size;omega)];exact Qw _ _
 have D:Below w.heap.size w W':=by
  rw [<- hW]
  exact ((hB.below.thn (Zb _ _)).setCell (p:=⟨w.heap.size,0,none⟩) (Q4 _) _).setCell (p:=⟨w.heap.size,1,none⟩) (Q4 _) _
 refine ⟨h3.trans (by simp),⟨_,_,rfl,(hB.sums.frame (fun b hb hl=>ho b (by have:=hb.1;omega) hl)).mono (fun b _ hb=>by have:=hb.1;omega),?_⟩,D⟩
 exact Y2 G (by omega) (hc.move (S':=fun b=>w.heap.size<=b) (fun b hb hl=>ho b (by have:w.heap.size+9<b:=hb;omega) hl) (fun b _ hb=>by have:w.heap.size+9<b:=hb;omega)) hcc hn (by show ts.length<=1000000;omega)
theorem Bi (S:Nat->Prop) (v:Value) (l:List Int) (w:World) (hs:Xh S w v l) (hi:Ke l):
  Calls prog 20 #[v] w (Po w):=by
 have HP:=Qq (fun (i:Nat) (m:Int) (hm:1<=m) (hm2:m<=1000000000) W (hb:Below w.heap.size w W)=>Gl S v l i m W (hs.below hb) hi hm hm2)
 obtain ⟨p,cap,rfl,_⟩:=hs.len
 clear hs hi
 go_enter func20,ntmps20
 go_upto_region 9 with fail
 generalize G:World.alloc _ _=W9
 have g0:=eqH (b:=w.heap.size) G (Zh (Zh (Zh (Zh (Zh (Zh (Zh (Zh (Zh (Zh (Zh (Uv rfl _) _) _) _) _) _) _) _) _) _) _) _)
 have g1:=eqH (b:=w.heap.size+1) G (Zh (Zh (Zh (Zh (Zh (Zh (Zh (Zh (Zh (Zh (Uv (by simp) _) _) _) _) _) _) _) _) _) _) _)
 have g2:=eqH (b:=w.heap.size+1+1) G (Zh (Zh (Zh (Zh (Zh (Zh (Zh (Zh (Zh (Uv (by simp) _) _) _) _) _) _) _) _) _) _)
 have g3:=eqH (b:=w.heap.size+1+1+1) G (Zh (Zh (Zh (Zh (Zh (Zh (Zh (Zh (Uv (by simp) _) _) _) _) _) _) _) _) _)
 have g4:=eqH (b:=w.heap.size+1+1+1+1) G (Zh (Zh (Zh (Zh (Zh (Zh (Zh (Uv (by simp) _) _) _) _) _) _) _) _)
 have g5:=eqH (b:=w.heap.size+1+1+1+1+1) G (Zh (Zh (Zh (Zh (Zh (Zh (Uv (by simp) _) _) _) _) _) _) _)
 have g6:=eqH (b:=w.heap.size+1+1+1+1+1+1) G (Zh (Zh (Zh (Zh (Zh (Uv (by simp) _) _) _) _) _) _)
 have g7:=eqH (b:=w.heap.size+1+1+1+1+1+1+1) G (Zh (Zh (Zh (Zh (Uv (by simp) _) _) _) _) _)
 have g8:=eqH (b:=w.heap.size+1+1+1+1+1+1+1+1) G (Zh (Zh (Zh (Uv (by simp) _) _) _) _)
 have g9:=eqH (b:=w.heap.size+1+1+1+1+1+1+1+1+1) G (Zh (Zh (Uv (by simp) _) _) _)
 have fY:=eqH (b:=w.heap.size+1+1+1+1+1+1+1+1+1+1) G (Zh (Uv (by simp) _) _)
 have fZ:=eqH (b:=w.heap.size+1+1+1+1+1+1+1+1+1+1+1) G (Uv (by simp) _)
 have gJ:=eqB G (Kd (Kd (Kd (Kd (Kd (Kd (Kd (Kd (Kd (Kd (Kd (Zb w _) _) _) _) _) _) _) _) _) _) _) _)
 have gP:W9.heap.size=w.heap.size+12:=by rw [<- G];simp
 clear G
 have dQ:Sl Vi (fun b=>w.heap.size<b/\b<w.heap.size+9) W9 (.slice (some ⟨w.heap.size+1+1+1+1+1+1+1+1,0,none⟩) 2 2) G15.sums:=by
  refine Y2 (xs:=G15.sums) g8 (by omega) ((Cs.one (r:=Vi) (x:=G15.color) (c:=[.string ⟨#[67,111,108,111,114]⟩,.slice (some ⟨w.heap.size+1+1+1+1+1+1,0,none⟩) 2 2]) ⟨_,rfl,by decide,?_⟩).app (Cs.one (r:=Vi) (x:=G15.size) (c:=[.string ⟨#[83,105,122,101]⟩,.slice (some ⟨w.heap.size+1+1+1+1+1+1+1,0,none⟩) 2 2]) ⟨_,rfl,by decide,?_⟩)) rfl rfl (by decide)
  ·exact Y2 (xs:=G15.color.ctors) g6 (by omega) ((Cs.one (r:=F8) (Bf [82,101,100] false 0 (by decide))).app (Cs.one (r:=F8) (Bf [66,108,117,101] false 0 (by decide)))) rfl rfl (by decide)
  exact Y2 (xs:=G15.size.ctors) g7 (by omega) ((Cs.one (r:=F8) (Bf [83,109,97,108,108] false 0 (by decide))).app (Cs.one (r:=F8) (Bf [66,105,103] true 0 (by decide)))) rfl rfl (by decide)
 have eT:=Qq (B15.mk g0 g1 g2 g3 g4 g5 dQ gJ (by omega))
 have eQ:=Qq fY;have eR:=Qq fZ;have G9:=Qq g9;have fT:=Qq gP
 clear g0 g1 g2 g3 g4 g5 g6 g7 g8 g9 fY fZ dQ gJ gP
 have hz:=Vh l 0 2 (by decide)
 obtain ⟨z,L⟩:=eX (Xi l 0 2)
 have dW:Hid (∀ W,Below w.heap.size w W->Calls prog 28 #[.slice p l.length cap,.int .i64 0,.int .i64 2] W fun e w'=>e=.returned (.int .i64 z)/\W=w'):=Qq (fun W hb=>by have:=HP.out 0 2 (by decide) (by decide) W hb;rw [L] at this;exact this)
 rw [L] at hz
 clear L
 go_cut [] from 34 (fun wx=>∃ (a:Bool) (c:Nat),wx.heap[w.heap.size+1+1+1+1+1+1+1+1+1+1+1]?=some (.cells #[.string ⟨#[112,108,97,99,101]⟩,.slice (some ⟨c,0,none⟩) 3 3,.slice (some ⟨w.heap.size+1+1+1+1+1+1+1+1+1+1,0,none⟩) 1 1,.slice none 0 0,.int .i64 2,.string ⟨#[]⟩,.int .i64 1,.string ⟨#[]⟩,.slice none 0 0,.slice none 0 0,.slice none 0 0,.int .i64 0,.int .i64 0] 61 (0,0))/\wx.heap[c]?=some (.cells #[.string ⟨#[105,100]⟩,.int .i64 (if a then 1 else 0),.string ⟨#[]⟩,.int .i64 0,.slice none 0 0,.slice none 0 0,.string ⟨#[110,97,109,101]⟩,.int .i64 1,.string ⟨#[]⟩,.int .i64 0,.slice none 0 0,.slice none 0 0,.string ⟨#[111,112,101,110]⟩,.int .i64 2,.string ⟨#[]⟩,.int .i64 0,.slice none 0 0,.slice none 0 0] 79 (0,0))/\w.heap.size+1+1+1+1+1+1+1+1+1+1+1<c/\wx.heap[w.heap.size+1+1+1+1+1+1+1+1+1+1]?=some (.cells #[.string ⟨#[105,100]⟩] 9 (0,0))/\B15 w wx)
 case first=>
  have aF:=Qq (show (fun (W':World)=>B15 w W'/\W'.heap[w.heap.size+1+1+1+1+1+1+1+1+1]?=some (.cells #[.int .i64 0,.string ⟨#[]⟩,.int .i64 0,.slice none 0 0,.slice none 0 0,.int .i64 1,.string ⟨#[]⟩,.int .i64 0,.slice none 0 0,.slice none 0 0] 65 (0,0))) W9.drew from ⟨eT.out.step (Qz _ _).drew,G9.out⟩)
  have aT:=Qq (show W9.drew.heap[w.heap.size+1+1+1+1+1+1+1+1+1+1]?=_ from eQ.out)
  have aU:=Qq (show W9.drew.heap[w.heap.size+1+1+1+1+1+1+1+1+1+1+1]?=_ from eR.out)
  have aQ:=Qq (show W9.drew.heap.size=w.heap.size+12 from fT.out)
  have jJ:z=0\/z=1:=by omega
  clear hz
  rcases jJ with rfl | rfl
  ·have HD:∀ W,(fun (W':World)=>B15 w W'/\W'.heap[w.heap.size+1+1+1+1+1+1+1+1+1]?=some (.cells #[.int .i64 0,.string ⟨#[]⟩,.int .i64 0,.slice none 0 0,.slice none 0 0,.int .i64 1,.string ⟨#[]⟩,.int .i64 0,.slice none 0 0,.slice none 0 0] 65 (0,0))) W->W.cell? ⟨w.heap.size+1+1+1+1+1+1+1+1+1,0,none⟩=some (.int .i64 0)/\W.cell? ⟨w.heap.size+1+1+1+1+1+1+1+1+1,1,none⟩=some (.string ⟨#[]⟩)/\W.cell? ⟨w.heap.size+1+1+1+1+1+1+1+1+1,2,none⟩=some (.int .i64 0)/\W.cell? ⟨w.heap.size+1+1+1+1+1+1+1+1+1,3,none⟩=some (.slice none 0 0)/\W.cell? ⟨w.heap.size+1+1+1+1+1+1+1+1+1,4,none⟩=some (.slice none 0 0)/\W.cell? ⟨w.heap.size+1+1,0,none⟩=some (.int .i64 1)/\W.cell? ⟨w.heap.size+1+1,1,none⟩=some (.string ⟨#[]⟩)/\W.cell? ⟨w.heap.size+1+1,2,none⟩=some (.int .i64 0)/\W.cell? ⟨w.heap.size+1+1,3,none⟩=some (.slice none 0 0)/\W.cell? ⟨w.heap.size+1+1,4,none⟩=some (.slice none 0 0)/\W.cell? ⟨w.heap.size+1+1+1,0,none⟩=some (.int .i64 2)/\W.cell? ⟨w.heap.size+1+1+1,1,none⟩=some (.string ⟨#[]⟩)/\W.cell? ⟨w.heap.size+1+1+1,2,none⟩=some (.int .i64 0)/\W.cell? ⟨w.heap.size+1+1+1,3,none⟩=some (.slice none 0 0)/\W.cell? ⟨w.heap.size+1+1+1,4,none⟩=some (.slice none 0 0):=fun W h=>⟨(Qk _ _ _ _ _ _ h.2).trans rfl,(Qk _ _ _ _ _ _ h.2).trans rfl,(Qk _ _ _ _ _ _ h.2).trans rfl,(Qk _ _ _ _ _ _ h.2).trans rfl,(Qk _ _ _ _ _ _ h.2).trans rfl,(Qk _ _ _ _ _ _ h.1.t4).trans rfl,(Qk _ _ _ _ _ _ h.1.t4).trans rfl,(Qk _ _ _ _ _ _ h.1.t4).trans rfl,(Qk _ _ _ _ _ _ h.1.t4).trans rfl,(Qk _ _ _ _ _ _ h.1.t4).trans rfl,(Qk _ _ _ _ _ _ h.1.t5).trans rfl,(Qk _ _ _ _ _ _ h.1.t5).trans rfl,(Qk _ _ _ _ _ _ h.1.t5).trans rfl,(Qk _ _ _ _ _ _ h.1.t5).trans rfl,(Qk _ _ _ _ _ _ h.1.t5).trans rfl⟩
   have HD:=Qq HD
   refine wp_region_held_drew (S:=(fun (W':World)=>B15 w W'/\W'.heap[w.heap.size+1+1+1+1+1+1+1+1+1]?=some (.cells #[.int .i64 0,.string ⟨#[]⟩,.int .i64 0,.slice none 0 0,.slice none 0 0,.int .i64 1,.string ⟨#[]⟩,.int .i64 0,.slice none 0 0,.slice none 0 0] 65 (0,0)))) (by kernel_rfl) aF.out (fun J=>?_)
   refine tkD (v:=?_) 0 (fun I D=>?_) ?_;rotate_left
   ·(obtain ⟨i0,i1,i2,i3,i4,T,U,V,Y,Z,y0,y1,y2,y3,y4⟩:=HD.out I D;go_simp;try with_reducible rfl)
   refine tkD (v:=?_) 1 (fun I D=>?_) ?_;rotate_left
   ·(obtain ⟨i0,i1,i2,i3,i4,T,U,V,Y,Z,y0,y1,y2,y3,y4⟩:=HD.out I D;go_simp;try with_reducible rfl)
   refine tkD (v:=?_) 6 (fun I D=>?_) ?_;rotate_left
   ·(obtain ⟨i0,i1,i2,i3,i4,T,U,V,Y,Z,y0,y1,y2,y3,y4⟩:=HD.out I D;go_simp;try with_reducible rfl)
   refine tkD (v:=?_) 7 (fun I D=>?_) ?_;rotate_left
   ·(obtain ⟨i0,i1,i2,i3,i4,T,U,V,Y,Z,y0,y1,y2,y3,y4⟩:=HD.out I D;go_simp;try with_reducible rfl)
   refine tkD (v:=?_) 8 (fun I D=>?_) ?_;rotate_left
   ·(obtain ⟨i0,i1,i2,i3,i4,T,U,V,Y,Z,y0,y1,y2,y3,y4⟩:=HD.out I D;go_simp;try with_reducible rfl)
   refine tkD (v:=?_) 9 (fun I D=>?_) ?_;rotate_left
   ·(obtain ⟨i0,i1,i2,i3,i4,T,U,V,Y,Z,y0,y1,y2,y3,y4⟩:=HD.out I D;go_simp;try with_reducible rfl)
   generalize W9.drew=wd at J aF aT aU aQ |-
   refine rdD 2 (fun K hK=>?_) Qh
   go_simp
   refine (dW.out _ aF.out.1.below).mono ?_
   rintro e w' ⟨rfl,rfl⟩
   try dsimp only
   refine hK.out _ _ aF.out (fun J=>?_)
   clear hK K
   refine tkD (v:=?_) 3 (fun I D=>?_) ?_;rotate_left
   ·(obtain ⟨i0,i1,i2,i3,i4,T,U,V,Y,Z,y0,y1,y2,y3,y4⟩:=HD.out I D;go_simp;try with_reducible rfl)
   refine tkD (v:=?_) 4 (fun I D=>?_) ?_;rotate_left
   ·(obtain ⟨i0,i1,i2,i3,i4,T,U,V,Y,Z,y0,y1,y2,y3,y4⟩:=HD.out I D;go_simp;try with_reducible rfl)
   refine tkD (v:=?_) 5 (fun I D=>?_) ?_;rotate_left
   ·(obtain ⟨i0,i1,i2,i3,i4,T,U,V,Y,Z,y0,y1,y2,y3,y4⟩:=HD.out I D;go_simp;try with_reducible rfl)
   refine rdD 10 (fun K hK=>?_) Qh
   go_simp
   generalize bN:World.alloc wd _=we
   have aR:=Zp bN
   have cM:=Y5 bN
   have bM:=Qq (show (fun (W':World)=>B15 w W'/\W'.heap[w.heap.size+1+1+1+1+1+1+1+1+1]?=some (.cells #[.int .i64 0,.string ⟨#[]⟩,.int .i64 0,.slice none 0 0,.slice none 0 0,.int .i64 1,.string ⟨#[]⟩,.int .i64 0,.slice none 0 0,.slice none 0 0] 65 (0,0))) we from ⟨aF.out.1.step (aR.mono (by have:=aQ.out;omega)),Ki aR (Z3 aF.out.2) aF.out.2⟩)
   have cD:=Ki aR (Z3 aT.out) aT.out
   have M:=Ki aR (Z3 aU.out) aU.out
   have dZ:=Qq cM;have dY:=Qq cD;have cC:=Qq M
   clear cM cD aR bN
   try dsimp only
   refine hK.out _ _ bM.out (fun J=>?_)
   clear hK K
   refine tkD (v:=?_) 11 (fun I D=>?_) ?_;rotate_left
   ·(obtain ⟨i0,i1,i2,i3,i4,T,U,V,Y,Z,y0,y1,y2,y3,y4⟩:=HD.out I D;go_simp;try with_reducible rfl)
   have f1:=fA 1 M;have y1:=rA1 M
   clear M
   refine rdD 12 (fun K hK=>?_) Qh
   go_simp
   generalize aY:World.setCell we _ _=wf
   obtain ⟨hA,ho,hB⟩:=Vu cC.out aY
   have cE:B15 w wf:=bM.out.1.step (hB _ (by omega))
   refine hK.out _ _ ⟨cE,(ho _ (by omega)).trans bM.out.2⟩ (fun J=>?_)
   clear hK K f1 y1
   refine wpAnyH_done (by kernel_rfl) ?_ _
   go_wp2_with fail
   go_meet
   exact ⟨false,_,hA.trans rfl,(ho _ (by have:=aQ.out;omega)).trans dZ.out,by have:=aQ.out;omega,(ho _ (by omega)).trans dY.out,cE⟩
  have HD:∀ W,(fun (W':World)=>B15 w W'/\W'.heap[w.heap.size+1+1+1+1+1+1+1+1+1]?=some (.cells #[.int .i64 0,.string ⟨#[]⟩,.int .i64 0,.slice none 0 0,.slice none 0 0,.int .i64 1,.string ⟨#[]⟩,.int .i64 0,.slice none 0 0,.slice none 0 0] 65 (0,0))) W->W.cell? ⟨w.heap.size+1+1+1+1+1+1+1+1+1,5,none⟩=some (.int .i64 1)/\W.cell? ⟨w.heap.size+1+1+1+1+1+1+1+1+1,6,none⟩=some (.string ⟨#[]⟩)/\W.cell? ⟨w.heap.size+1+1+1+1+1+1+1+1+1,7,none⟩=some (.int .i64 0)/\W.cell? ⟨w.heap.size+1+1+1+1+1+1+1+1+1,8,none⟩=some (.slice none 0 0)/\W.cell? ⟨w.heap.size+1+1+1+1+1+1+1+1+1,9,none⟩=some (.slice none 0 0)/\W.cell? ⟨w.heap.size+1+1,0,none⟩=some (.int .i64 1)/\W.cell? ⟨w.heap.size+1+1,1,none⟩=some (.string ⟨#[]⟩)/\W.cell? ⟨w.heap.size+1+1,2,none⟩=some (.int .i64 0)/\W.cell? ⟨w.heap.size+1+1,3,none⟩=some (.slice none 0 0)/\W.cell? ⟨w.heap.size+1+1,4,none⟩=some (.slice none 0 0)/\W.cell? ⟨w.heap.size+1+1+1,0,none⟩=some (.int .i64 2)/\W.cell? ⟨w.heap.size+1+1+1,1,none⟩=some (.string ⟨#[]⟩)/\W.cell? ⟨w.heap.size+1+1+1,2,none⟩=some (.int .i64 0)/\W.cell? ⟨w.heap.size+1+1+1,3,none⟩=some (.slice none 0 0)/\W.cell? ⟨w.heap.size+1+1+1,4,none⟩=some (.slice none 0 0):=fun W h=>⟨(Qk _ _ _ _ _ _ h.2).trans rfl,(Qk _ _ _ _ _ _ h.2).trans rfl,(Qk _ _ _ _ _ _ h.2).trans rfl,(Qk _ _ _ _ _ _ h.2).trans rfl,(Qk _ _ _ _ _ _ h.2).trans rfl,(Qk _ _ _ _ _ _ h.1.t4).trans rfl,(Qk _ _ _ _ _ _ h.1.t4).trans rfl,(Qk _ _ _ _ _ _ h.1.t4).trans rfl,(Qk _ _ _ _ _ _ h.1.t4).trans rfl,(Qk _ _ _ _ _ _ h.1.t4).trans rfl,(Qk _ _ _ _ _ _ h.1.t5).trans rfl,(Qk _ _ _ _ _ _ h.1.t5).trans rfl,(Qk _ _ _ _ _ _ h.1.t5).trans rfl,(Qk _ _ _ _ _ _ h.1.t5).trans rfl,(Qk _ _ _ _ _ _ h.1.t5).trans rfl⟩
  have HD:=Qq HD
  refine wp_region_held_drew (S:=(fun (W':World)=>B15 w W'/\W'.heap[w.heap.size+1+1+1+1+1+1+1+1+1]?=some (.cells #[.int .i64 0,.string ⟨#[]⟩,.int .i64 0,.slice none 0 0,.slice none 0 0,.int .i64 1,.string ⟨#[]⟩,.int .i64 0,.slice none 0 0,.slice none 0 0] 65 (0,0)))) (by kernel_rfl) aF.out (fun J=>?_)
  refine tkD (v:=?_) 0 (fun I D=>?_) ?_;rotate_left
  ·(obtain ⟨i0,i1,i2,i3,i4,T,U,V,Y,Z,y0,y1,y2,y3,y4⟩:=HD.out I D;go_simp;try with_reducible rfl)
  refine tkD (v:=?_) 1 (fun I D=>?_) ?_;rotate_left
  ·(obtain ⟨i0,i1,i2,i3,i4,T,U,V,Y,Z,y0,y1,y2,y3,y4⟩:=HD.out I D;go_simp;try with_reducible rfl)
  refine tkD (v:=?_) 6 (fun I D=>?_) ?_;rotate_left
  ·(obtain ⟨i0,i1,i2,i3,i4,T,U,V,Y,Z,y0,y1,y2,y3,y4⟩:=HD.out I D;go_simp;try with_reducible rfl)
  refine tkD (v:=?_) 7 (fun I D=>?_) ?_;rotate_left
  ·(obtain ⟨i0,i1,i2,i3,i4,T,U,V,Y,Z,y0,y1,y2,y3,y4⟩:=HD.out I D;go_simp;try with_reducible rfl)
  refine tkD (v:=?_) 8 (fun I D=>?_) ?_;rotate_left
  ·(obtain ⟨i0,i1,i2,i3,i4,T,U,V,Y,Z,y0,y1,y2,y3,y4⟩:=HD.out I D;go_simp;try with_reducible rfl)
  refine tkD (v:=?_) 9 (fun I D=>?_) ?_;rotate_left
  ·(obtain ⟨i0,i1,i2,i3,i4,T,U,V,Y,Z,y0,y1,y2,y3,y4⟩:=HD.out I D;go_simp;try with_reducible rfl)
  generalize W9.drew=wd at J aF aT aU aQ |-
  refine rdD 2 (fun K hK=>?_) Qh
  go_simp
  refine (dW.out _ aF.out.1.below).mono ?_
  rintro e w' ⟨rfl,rfl⟩
  try dsimp only
  refine hK.out _ _ aF.out (fun J=>?_)
  clear hK K
  refine tkD (v:=?_) 3 (fun I D=>?_) ?_;rotate_left
  ·(obtain ⟨i0,i1,i2,i3,i4,T,U,V,Y,Z,y0,y1,y2,y3,y4⟩:=HD.out I D;go_simp;try with_reducible rfl)
  refine tkD (v:=?_) 4 (fun I D=>?_) ?_;rotate_left
  ·(obtain ⟨i0,i1,i2,i3,i4,T,U,V,Y,Z,y0,y1,y2,y3,y4⟩:=HD.out I D;go_simp;try with_reducible rfl)
  refine tkD (v:=?_) 5 (fun I D=>?_) ?_;rotate_left
  ·(obtain ⟨i0,i1,i2,i3,i4,T,U,V,Y,Z,y0,y1,y2,y3,y4⟩:=HD.out I D;go_simp;try with_reducible rfl)
  refine rdD 10 (fun K hK=>?_) Qh
  go_simp
  generalize bN:World.alloc wd _=we
  have aR:=Zp bN
  have cM:=Y5 bN
  have bM:=Qq (show (fun (W':World)=>B15 w W'/\W'.heap[w.heap.size+1+1+1+1+1+1+1+1+1]?=some (.cells #[.int .i64 0,.string ⟨#[]⟩,.int .i64 0,.slice none 0 0,.slice none 0 0,.int .i64 1,.string ⟨#[]⟩,.int .i64 0,.slice none 0 0,.slice none 0 0] 65 (0,0))) we from ⟨aF.out.1.step (aR.mono (by have:=aQ.out;omega)),Ki aR (Z3 aF.out.2) aF.out.2⟩)
  have cD:=Ki aR (Z3 aT.out) aT.out
  have M:=Ki aR (Z3 aU.out) aU.out
  have dZ:=Qq cM;have dY:=Qq cD;have cC:=Qq M
  clear cM cD aR bN
  try dsimp only
  refine hK.out _ _ bM.out (fun J=>?_)
  clear hK K
  refine tkD (v:=?_) 11 (fun I D=>?_) ?_;rotate_left
  ·(obtain ⟨i0,i1,i2,i3,i4,T,U,V,Y,Z,y0,y1,y2,y3,y4⟩:=HD.out I D;go_simp;try with_reducible rfl)
  have f1:=fA 1 M;have y1:=rA1 M
  clear M
  refine rdD 12 (fun K hK=>?_) Qh
  go_simp
  generalize aY:World.setCell we _ _=wf
  obtain ⟨hA,ho,hB⟩:=Vu cC.out aY
  have cE:B15 w wf:=bM.out.1.step (hB _ (by omega))
  refine hK.out _ _ ⟨cE,(ho _ (by omega)).trans bM.out.2⟩ (fun J=>?_)
  clear hK K f1 y1
  refine wpAnyH_done (by kernel_rfl) ?_ _
  go_wp2_with fail
  go_meet
  exact ⟨true,_,hA.trans rfl,(ho _ (by have:=aQ.out;omega)).trans dZ.out,by have:=aQ.out;omega,(ho _ (by omega)).trans dY.out,cE⟩
 obtain ⟨a,c,hA,hC,jC,hK,hB⟩:=hcut
 obtain ⟨wa,rfl⟩:∃ wa,wa=wc:=⟨_,rfl⟩
 have HA:=Qq hA;have HC:=Qq hC;have HK:=Qq hK;have HB:=Qq hB
 clear hA hC hK hB eT G9 eQ eR fT dW hz
 obtain ⟨i0,j1,j2,j3,j4⟩:=Y3 (P:=prog) (t:=79) (z:=.agg #[.string ⟨#[]⟩,.int .i64 0,.string ⟨#[]⟩,.int .i64 0,.slice none 0 0,.slice none 0 0]) (n:=6) (b:=96) (by kernel_rfl)
 have dJ:=Qq (show prog.underlying 55=some (.slice 79) from by kernel_rfl)
 have HJ:=Qq j1;have fC:=Qq j2;have fD:=Qq j3;have fE:=Qq j4
 clear j1 j2 j3 j4
 have hz:=Vh l 1 2 (by decide)
 obtain ⟨z,L⟩:=eX (Xi l 1 2)
 have fJ:Hid (∀ W,Below w.heap.size w W->Calls prog 28 #[.slice p l.length cap,.int .i64 1,.int .i64 2] W fun e w'=>e=.returned (.int .i64 z)/\W=w'):=Qq (fun W hb=>by have:=HP.out 1 2 (by decide) (by decide) W hb;rw [L] at this;exact this)
 rw [L] at hz
 clear L
 go_upto_if 48 with (go_at_call 28;refine (fJ.out _ HB.out.below).mono ?_;rintro e w' ⟨rfl,rfl⟩)
 go_cut [] from 46 (fun wx=>∃ b:Bool,TB (fun b=>w.heap.size+9<b/\b≠w.heap.size+1+1+1+1+1+1+1+1+1+1+1) wx (w.heap.size+1+1+1+1+1+1+1+1+1+1+1) (G15.place a b)/\B15 w wx)
 case first=>
  have kI:=Z3 HC.out;have kU:=HB.out.size
  by_cases hq:z=1
  ·subst hq
   have M:=HA.out
   have f1:=fA 1 M;have y1:=Qk _ _ 1 _ _ _ M
   have h6:=HB.out.t6
   have T:=Qk _ _ 0 _ _ _ h6;have U:=Qk _ _ 1 _ _ _ h6;have V:=Qk _ _ 2 _ _ _ h6;have Y:=Qk _ _ 3 _ _ _ h6;have Z:=Qk _ _ 4 _ _ _ h6
   simp only [Qa,Qb,Qc] at y1 T U V Y Z
   have HO:Hid (Own Yy 79 (fun b=>w.heap.size+9<b/\b≠w.heap.size+1+1+1+1+1+1+1+1+1+1+1) (w.heap.size+1+1+1+1+1+1+1+1+1+1+1+1) wa (.slice (some ⟨c,0,none⟩) 3 3) (G15.place a false).columns _):=Qq (M7 (xs:=(G15.place a false).columns) HC.out (by omega) ((Cs.one (r:=Yy) (X5 [105,100] (if a then 1 else 0) [] (by decide) (by decide))).app ((Cs.one (r:=Yy) (X5 [110,97,109,101] 1 [] (by decide) (by decide))).app (Cs.one (r:=Yy) (X5 [111,112,101,110] 2 [] (by decide) (by decide))))) rfl rfl (by simp [G15.place]))
   clear M h6
   go_wp2_with (at_builtin;refine Yc (r:=Yy) (by decide) rfl (.tmp 50) (.tmp 53) _ rfl 79 i0 (.agg #[.string ⟨#[]⟩,.int .i64 0,.string ⟨#[]⟩,.int .i64 0,.slice none 0 0,.slice none 0 0]) 96 dJ.out HJ.out fC.out fD.out fE.out rfl (by omega) (fun b=>w.heap.size+9<b/\b≠w.heap.size+1+1+1+1+1+1+1+1+1+1+1) (w.heap.size+1+1+1+1+1+1+1+1+1+1+1+1) wa (.slice (some ⟨c,0,none⟩) 3 3) (G15.place a false).columns _ [.string ⟨#[99,111,108,111,114]⟩,.int .i64 3,.string ⟨#[67,111,108,111,114]⟩,.int .i64 0,.slice none 0 0,.slice none 0 0] ⟨[99,111,108,111,114],G15.colorT⟩ rfl HO.out rfl (X5 [99,111,108,111,114] 3 [67,111,108,111,114] (by decide) (by decide)) (by intro u hu;simp only [Zy,Zx,or_false] at hu;rcases hu with rfl | rfl | rfl | rfl | rfl | rfl <;> rfl) 3 rfl (by omega) (by omega) ?_;intro p5 fV css5 w5 gF eC;have iS:=Qq gF;have fH:=Qq eC;have M:=(eC.other (w.heap.size+1+1+1+1+1+1+1+1+1+1+1) (by omega) (fun e=>by have:=(HO.out.row.lt _ e.symm).1;omega)).trans HA.out;have iL:=Qq M;have f1:=fA 1 M;have y1:=rA1 M;clear gF eC M)
   go_meet
   generalize aY:World.setCell w5 _ _=wf
   obtain ⟨hA,ho,hB⟩:=Vu iL.out aY
   have jA:(G15.place a false).columns++[⟨[99,111,108,111,114],G15.colorT⟩]=(G15.place a true).columns:=by simp [G15.place]
   have gG:=iS.out
   rw [jA] at gG
   exact ⟨true,⟨_,(hA.trans rfl:wf.heap[w.heap.size+1+1+1+1+1+1+1+1+1+1+1]?=some (.cells #[.string ⟨#[112,108,97,99,101]⟩,.slice p5 4 fV,.slice (some ⟨w.heap.size+1+1+1+1+1+1+1+1+1+1,0,none⟩) 1 1,.slice none 0 0,.int .i64 2,.string ⟨#[]⟩,.int .i64 1,.string ⟨#[]⟩,.slice none 0 0,.slice none 0 0,.slice none 0 0,.int .i64 0,.int .i64 0] 61 (0,0))),_,_,_,_,rfl,by simp [G15.place],(gG.sl (by simp [G15.place]) (fun b hb=>⟨by omega,by omega⟩) (fun b _ hb=>hb)).frame (fun b hb _=>ho b hb.2),Y2 ((ho _ (by omega)).trans ((fH.out.other _ (by omega) (fun e=>by have:=(HO.out.row.lt _ e.symm).1;omega)).trans HK.out)) ⟨by omega,by omega⟩ (D8 [105,100] (by decide)) rfl rfl (by simp [G15.place]),Sl.nil _ _ _,Dw _ _ none none none 0 0 0⟩,HB.out.step ((fH.out.below.mono (by omega)).trans (hB _ (by omega)))⟩
  go_wp2_with fail
  go_meet
  refine ⟨false,⟨_,HA.out,_,_,_,_,rfl,by simp [G15.place],Y2 HC.out ⟨by omega,by omega⟩ ((Cs.one (r:=Yy) (X5 [105,100] (if a then 1 else 0) [] (by decide) (by decide))).app ((Cs.one (r:=Yy) (X5 [110,97,109,101] 1 [] (by decide) (by decide))).app (Cs.one (r:=Yy) (X5 [111,112,101,110] 2 [] (by decide) (by decide))))) rfl rfl (by simp [G15.place]),Y2 HK.out ⟨by omega,by omega⟩ (D8 [105,100] (by decide)) rfl rfl (by simp [G15.place]),Sl.nil _ _ _,Dw _ _ none none none 0 0 0⟩,HB.out⟩
 obtain ⟨b,eE,hB⟩:=hcut
 obtain ⟨wb,rfl⟩:∃ wb,wb=wc:=⟨_,rfl⟩
 have aP:=Qq (TB.shrink eE);have HB:=Qq hB
 have gB:=eE.lt
 obtain ⟨kK,hA,cv,kv,rv,ec,rfl,_,cK,_⟩:=eE
 obtain ⟨pc,cc,rfl,_⟩:=cK.len
 obtain ⟨cb,dL,cd,jF,iZ,kH,_,jH,aL⟩:=cK.elem (i:=0) (x:=⟨[105,100],G15.idT a⟩) rfl
 obtain rfl:pc=some ⟨cb,dL,none⟩:=jF
 obtain ⟨tc,jB,_,eI⟩:=jH
 obtain ⟨m1,m2,m3,m4,m5,m6,m7,m8,m9,rfl⟩:=eI.cells
 subst jB
 have d0:=aL 1 _ rfl;have d1:=aL 2 _ rfl;have d2:=aL 3 _ rfl;have d3:=aL 4 _ rfl;have d4:=aL 5 _ rfl
 simp only [show Yy.k=6 from rfl,Nat.add_zero,Nat.zero_mul] at d0 d1 d2 d3 d4
 have gM:1<=(G15.place a b).columns.length:=by simp [G15.place]
 have ya:=rA1 hA
 generalize (G15.place a b).columns.length=nc at ya gM
 have jD:(0:Int)<(nc:Int):=by omega
 have jE:0<nc:=by omega
 have fQ:=Qq eI
 have N:=Qq (fun (W:World) (h:B15 w W/\W.heap[w.heap.size+1+1+1+1+1+1+1+1+1+1+1]?=wb.heap[w.heap.size+1+1+1+1+1+1+1+1+1+1+1]?/\W.heap[cb]?=wb.heap[cb]?)=>(show W.cell? ⟨w.heap.size+1,0,none⟩=some (.int .i64 0)/\W.cell? ⟨w.heap.size+1,1,none⟩=some (.string ⟨#[]⟩)/\W.cell? ⟨w.heap.size+1,2,none⟩=some (.int .i64 0)/\W.cell? ⟨w.heap.size+1,3,none⟩=some (.slice none 0 0)/\W.cell? ⟨w.heap.size+1,4,none⟩=some (.slice none 0 0)/\W.cell? ⟨w.heap.size+1+1+1+1+1,0,none⟩=some (.int .i64 3)/\W.cell? ⟨w.heap.size+1+1+1+1+1,1,none⟩=some (.string ⟨#[83,105,122,101]⟩)/\W.cell? ⟨w.heap.size+1+1+1+1+1,2,none⟩=some (.int .i64 0)/\W.cell? ⟨w.heap.size+1+1+1+1+1,3,none⟩=some (.slice none 0 0)/\W.cell? ⟨w.heap.size+1+1+1+1+1,4,none⟩=some (.slice none 0 0)/\W.cell? ⟨w.heap.size+1+1+1+1+1+1+1+1+1+1+1,1,none⟩=some (.slice (some ⟨cb,dL,none⟩) nc cc)/\_/\_/\_/\_/\_ from ⟨(Qk _ _ _ _ _ _ h.1.t3).trans rfl,(Qk _ _ _ _ _ _ h.1.t3).trans rfl,(Qk _ _ _ _ _ _ h.1.t3).trans rfl,(Qk _ _ _ _ _ _ h.1.t3).trans rfl,(Qk _ _ _ _ _ _ h.1.t3).trans rfl,(Qk _ _ _ _ _ _ h.1.t7).trans rfl,(Qk _ _ _ _ _ _ h.1.t7).trans rfl,(Qk _ _ _ _ _ _ h.1.t7).trans rfl,(Qk _ _ _ _ _ _ h.1.t7).trans rfl,(Qk _ _ _ _ _ _ h.1.t7).trans rfl,(World.cell?_of_block h.2.1).trans ya,(World.cell?_of_block h.2.2).trans d0,(World.cell?_of_block h.2.2).trans d1,(World.cell?_of_block h.2.2).trans d2,(World.cell?_of_block h.2.2).trans d3,(World.cell?_of_block h.2.2).trans d4⟩))
 clear HA HC HK fJ hz hA cK aL eI d0 d1 d2 d3 d4 ya
 go_upto_region 13 with fail
 generalize G:World.alloc (World.alloc wb _) _=wd
 have cJ:=eqB G (Kd (Zb wb _) _)
 have gQ:wd.heap.size=wb.heap.size+2:=by rw [<- G];simp
 have k0:=eqH (b:=wb.heap.size) G (Zh (Uv rfl _) _)
 have k1:=eqH (b:=wb.heap.size+1) G (Uv (by simp) _)
 have gN:=HB.out.size
 have eV:=Qq (HB.out.step (cJ.mono (by omega)))
 have fF:=Qq k0;have dU:=Qq k1;have eU:=Qq cJ;have aQ:=Qq gQ
 have eS:=Qq (cJ.block _ gB);have eW:=Qq (cJ.block _ iZ)
 clear G cJ gQ k0 k1
 obtain ⟨A2,gC⟩:=eX (wb.heap.size+1)
 rw [gC] at dU |-
 go_cut [] from 59 (fun wx=>TB (fun b=>w.heap.size+9<b/\b≠w.heap.size+1+1+1+1+1+1+1+1+1+1+1/\b≠A2) wx A2 (G15.item a false false)/\TB (fun b=>(w.heap.size+9<b/\b≠w.heap.size+1+1+1+1+1+1+1+1+1+1+1)/\b<A2) wx (w.heap.size+1+1+1+1+1+1+1+1+1+1+1) (G15.place a b)/\B15 w wx)
 case first=>
  have bG:=Qq (show (fun (W:World)=>B15 w W/\W.heap[w.heap.size+1+1+1+1+1+1+1+1+1+1+1]?=wb.heap[w.heap.size+1+1+1+1+1+1+1+1+1+1+1]?/\W.heap[cb]?=wb.heap[cb]?) wd.drew from ⟨eV.out.step (Qz _ _).drew,eS.out,eW.out⟩)
  have bY:=Qq (show wd.drew.heap[A2]?=_ from dU.out)
  have bZ:=Qq (show wd.drew.heap[wb.heap.size]?=_ from fF.out)
  have fS:=Qq (show wd.drew.heap.size=_ from aQ.out)
  have dH:=Qq (show Below wb.heap.size wb wd.drew from eU.out.drew)
  refine wp_region_held_drew (S:=(fun (W:World)=>B15 w W/\W.heap[w.heap.size+1+1+1+1+1+1+1+1+1+1+1]?=wb.heap[w.heap.size+1+1+1+1+1+1+1+1+1+1+1]?/\W.heap[cb]?=wb.heap[cb]?)) (by kernel_rfl) bG.out (fun J=>?_)
  refine tkD (v:=?_) 0 (fun I D=>?_) ?_;rotate_left
  ·(obtain ⟨T,U,V,Y,Z,y0,y1,y2,y3,y4,ya,e0,e1,e2,e3,e4⟩:=N.out I D;go_simp;try with_reducible rfl)
  refine tkD (v:=?_) 1 (fun I D=>?_) ?_;rotate_left
  ·(obtain ⟨T,U,V,Y,Z,y0,y1,y2,y3,y4,ya,e0,e1,e2,e3,e4⟩:=N.out I D;go_simp;try with_reducible rfl)
  refine tkD (v:=?_) 2 (fun I D=>?_) ?_;rotate_left
  ·(obtain ⟨T,U,V,Y,Z,y0,y1,y2,y3,y4,ya,e0,e1,e2,e3,e4⟩:=N.out I D;go_simp;try with_reducible rfl)
  refine tkD (v:=?_) 3 (fun I D=>?_) ?_;rotate_left
  ·(obtain ⟨T,U,V,Y,Z,y0,y1,y2,y3,y4,ya,e0,e1,e2,e3,e4⟩:=N.out I D;go_simp;try with_reducible rfl)
  refine tkD (v:=?_) 4 (fun I D=>?_) ?_;rotate_left
  ·(obtain ⟨T,U,V,Y,Z,y0,y1,y2,y3,y4,ya,e0,e1,e2,e3,e4⟩:=N.out I D;go_simp;try with_reducible rfl)
  refine tkD (v:=?_) 5 (fun I D=>?_) ?_;rotate_left
  ·(obtain ⟨T,U,V,Y,Z,y0,y1,y2,y3,y4,ya,e0,e1,e2,e3,e4⟩:=N.out I D;go_simp;try with_reducible rfl)
  refine tkD (v:=?_) 6 (fun I D=>?_) ?_;rotate_left
  ·(obtain ⟨T,U,V,Y,Z,y0,y1,y2,y3,y4,ya,e0,e1,e2,e3,e4⟩:=N.out I D;go_simp;try with_reducible rfl)
  refine tkD (v:=?_) 7 (fun I D=>?_) ?_;rotate_left
  ·(obtain ⟨T,U,V,Y,Z,y0,y1,y2,y3,y4,ya,e0,e1,e2,e3,e4⟩:=N.out I D;go_simp;try with_reducible rfl)
  refine tkD (v:=?_) 8 (fun I D=>?_) ?_;rotate_left
  ·(obtain ⟨T,U,V,Y,Z,y0,y1,y2,y3,y4,ya,e0,e1,e2,e3,e4⟩:=N.out I D;go_simp;try with_reducible rfl)
  refine tkD (v:=?_) 9 (fun I D=>?_) ?_;rotate_left
  ·(obtain ⟨T,U,V,Y,Z,y0,y1,y2,y3,y4,ya,e0,e1,e2,e3,e4⟩:=N.out I D;go_simp;try with_reducible rfl)
  refine tkD (v:=?_) 10 (fun I D=>?_) ?_;rotate_left
  ·(obtain ⟨T,U,V,Y,Z,y0,y1,y2,y3,y4,ya,e0,e1,e2,e3,e4⟩:=N.out I D;go_simp;try with_reducible rfl)
  refine tkD (v:=?_) 11 (fun I D=>?_) ?_;rotate_left
  ·(obtain ⟨T,U,V,Y,Z,y0,y1,y2,y3,y4,ya,e0,e1,e2,e3,e4⟩:=N.out I D;go_simp;try with_reducible rfl)
  generalize wd.drew=we at J bG bY bZ fS dH |-
  refine rdD 12 (fun K hK=>?_) Qh
  go_simp
  generalize aY:World.alloc we _=wf
  have bO:=Zp aY
  have eJ:=Y5 aY
  have M:=Ki bO (Z3 bY.out) bY.out
  have iO:=Qq M
  have iQ:=Qq (Ki bO (Z3 bZ.out) bZ.out)
  have jI:=fS.out
  rw [jI] at eJ
  have fR:=Qq eJ
  have cS:=Qq (show (fun (W:World)=>B15 w W/\W.heap[w.heap.size+1+1+1+1+1+1+1+1+1+1+1]?=wb.heap[w.heap.size+1+1+1+1+1+1+1+1+1+1+1]?/\W.heap[cb]?=wb.heap[cb]?) wf from ⟨bG.out.1.step (bO.mono (by omega)),kE bO (by omega) bG.out.2.1,kE bO (by omega) bG.out.2.2⟩)
  have iM:=Qq (dH.out.thn bO)
  clear eJ bO aY
  try dsimp only
  refine hK.out _ _ cS.out (fun J=>?_)
  clear hK K
  refine tkD (v:=?_) 13 (fun I D=>?_) ?_;rotate_left
  ·(obtain ⟨T,U,V,Y,Z,y0,y1,y2,y3,y4,ya,e0,e1,e2,e3,e4⟩:=N.out I D;go_simp;try with_reducible rfl)
  have f1:=fA 1 M;have y1:=rA1 M
  clear M
  refine rdD 14 (fun K hK=>?_) Qh
  go_simp
  generalize iY:World.setCell wf _ _=wg
  obtain ⟨hA,ho,hB⟩:=Vu iO.out iY
  have gD:B15 w wg:=cS.out.1.step (hB _ (by omega))
  refine hK.out _ _ ⟨gD,(ho _ (by omega)).trans cS.out.2.1,(ho _ (by omega)).trans cS.out.2.2⟩ (fun J=>?_)
  refine wpAnyH_done (by kernel_rfl) ?_ _
  have eF:Below wb.heap.size wb wg:=iM.out.trans (hB _ (by omega))
  have kW:wb.heap.size+2<wf.heap.size:=by have:=Z3 fR.out;omega
  go_wp2_with fail
  go_meet
  refine ⟨⟨_,(hA.trans rfl:wg.heap[A2]?=some (.cells #[.string ⟨#[105,116,101,109]⟩,.slice (some ⟨wb.heap.size+2,0,none⟩) 4 4,.slice (some ⟨wb.heap.size,0,none⟩) 1 1,.slice none 0 0,.int .i64 2,.string ⟨#[]⟩,.int .i64 1,.string ⟨#[]⟩,.slice none 0 0,.slice none 0 0,.slice none 0 0,.int .i64 0,.int .i64 0] 61 (0,0))),_,_,_,_,rfl,by simp [G15.item],?_,Y2 ((ho _ (by omega)).trans iQ.out) ⟨by omega,by omega,by omega⟩ (D8 [105,100] (by decide)) rfl rfl (by simp [G15.item]),Sl.nil _ _ _,Dw _ _ none none none 0 0 0⟩,(aP.out.keep (eF.block _ gB) (fun b _ hl=>eF.block _ hl)).mono (fun b _ h=>⟨h.1,by have:=h.2;omega⟩),gD⟩
  refine Y2 (xs:=(G15.item a false false).columns) ((ho _ (by omega)).trans fR.out) ⟨by omega,by omega,by omega⟩ ((Cs.one (r:=Yy) (X5 [105,100] 0 [] (by decide) (by decide))).app ((Cs.one (r:=Yy) (X5 [110] 0 [] (by decide) (by decide))).app ((Cs.one (r:=Yy) (x:=⟨[97,116],G15.idT a⟩) (c:=[.string ⟨#[97,116]⟩,.int .i64 m1,.string m2,.int .i64 m3,.slice m4 m5 m6,.slice m7 m8 m9]) ⟨_,rfl,by simp,fQ.out.move (.of_below eF) (fun b hb h=>⟨h.1,h.2,by omega⟩)⟩).app (Cs.one (r:=Yy) (X5 [115,105,122,101] 3 [83,105,122,101] (by decide) (by decide)))))) rfl rfl (by simp [G15.item])
 obtain ⟨hI,bH,hB⟩:=hcut
 have eB:w.heap.size+1+1+1+1+1+1+1+1+1+1+1<A2:=by omega
 obtain ⟨wi,rfl⟩:∃ wi,wi=wc:=⟨_,rfl⟩
 have aJ:=Qq hI;have aP:=Qq bH;have HB:=Qq hB
 clear hI bH hB fQ N
 have hz:=Vh l 2 3 (by decide)
 obtain ⟨z,L⟩:=eX (Xi l 2 3)
 have fK:Hid (∀ W,Below w.heap.size w W->Calls prog 28 #[.slice p l.length cap,.int .i64 2,.int .i64 3] W fun e w'=>e=.returned (.int .i64 z)/\W=w'):=Qq (fun W hb=>by have:=HP.out 2 3 (by decide) (by decide) W hb;rw [L] at this;exact this)
 rw [L] at hz
 clear L
 go_upto_if 75 with (go_at_call 28;refine (fK.out _ HB.out.below).mono ?_;rintro e w' ⟨rfl,rfl⟩)
 go_cut [] from 73 (fun wx=>∃ r:Bool,TB (fun b=>w.heap.size+9<b/\b≠w.heap.size+1+1+1+1+1+1+1+1+1+1+1/\b≠A2) wx A2 (G15.item a r false)/\TB (fun b=>(w.heap.size+9<b/\b≠w.heap.size+1+1+1+1+1+1+1+1+1+1+1)/\b<A2) wx (w.heap.size+1+1+1+1+1+1+1+1+1+1+1) (G15.place a b)/\B15 w wx)
 case first=>
  by_cases hq:0<z
  ·have M:=aJ.out.cell3
   obtain ⟨rv,y3,f3⟩:=M
   have eH:=aJ.out.lt
   go_wp2_with fail
   go_meet
   have O:=Dy (W:=wi) (A:=A2) (j:=3) (v:=.slice (some ⟨wi.heap.size,0,none⟩) 1 1) (o:=.cells #[.string ⟨#[97,116]⟩,.string ⟨#[112,108,97,99,101]⟩] 82) (by omega)
   have jG:=HB.out.size
   exact ⟨true,aJ.out.refs (fun h=>h.2.2 rfl) _ (Y2 (xs:=[(⟨[97,116],[112,108,97,99,101]⟩:Rf)]) (Uv (by simp [World.setCell]) _) ⟨by omega,by omega,by omega⟩ (Cs.one (r:=Dz) (x:=(⟨[97,116],[112,108,97,99,101]⟩:Rf)) (c:=[.string ⟨#[97,116]⟩,.string ⟨#[112,108,97,99,101]⟩]) ⟨rfl,by decide,by decide⟩) rfl rfl (by simp)),aP.out.keep (O.block _ eB) (fun b hb _=>O.block _ hb.2),HB.out.step (O.mono (by omega))⟩
  go_wp2_with fail
  go_meet
  exact ⟨false,aJ.out,aP.out,HB.out⟩
 obtain ⟨r,hI,bH,hB⟩:=hcut
 obtain ⟨wj,rfl⟩:∃ wj,wj=wc:=⟨_,rfl⟩
 have aJ:=Qq hI;have aP:=Qq bH;have HB:=Qq hB
 clear hI bH hB fK hz
 have hz:=Vh l 3 3 (by decide)
 obtain ⟨z,L⟩:=eX (Xi l 3 3)
 have fL:Hid (∀ W,Below w.heap.size w W->Calls prog 28 #[.slice p l.length cap,.int .i64 3,.int .i64 3] W fun e w'=>e=.returned (.int .i64 z)/\W=w'):=Qq (fun W hb=>by have:=HP.out 3 3 (by decide) (by decide) W hb;rw [L] at this;exact this)
 rw [L] at hz
 clear L
 go_upto_if 81 with (go_at_call 28;refine (fL.out _ HB.out.below).mono ?_;rintro e w' ⟨rfl,rfl⟩)
 go_cut [] from 79 (fun wx=>∃ c:Bool,TB (fun b=>w.heap.size+9<b/\b≠w.heap.size+1+1+1+1+1+1+1+1+1+1+1/\b≠A2) wx A2 (G15.item a r c)/\TB (fun b=>(w.heap.size+9<b/\b≠w.heap.size+1+1+1+1+1+1+1+1+1+1+1)/\b<A2) wx (w.heap.size+1+1+1+1+1+1+1+1+1+1+1) (G15.place a b)/\B15 w wx)
 case first=>
  by_cases hq:z=0
  ·subst hq
   have eH:=aJ.out.lt
   go_wp2_with (go_at_call 49;refine (Fk _ _).mono ?_;rintro e wk ⟨rfl,eG⟩;have eZ:=Qq ((aJ.out.below eG).below (Zb wk (.cells #[.int .i64 3,.string ⟨#[110]⟩,.int .i64 0,.string ⟨#[]⟩,.slice none 0 0,.slice none 0 0,.slice none 0 0,.int .i64 0,.int .i64 0,.int .i64 0,.string ⟨#[]⟩,.int .i64 9,.string ⟨#[]⟩,.slice none 0 0,.slice none 0 0,.slice none 0 0,.int .i64 0,.int .i64 0] 59)));obtain ⟨u0,u1,u2,u3,u4,u5,u6,u7,u8,y0,f0,y1,f1,y2,f2,y3,f3,y4,f4,y5,f5,y6,f6,y7,f7,y8,f8⟩:=eZ.out.cell9)
   go_meet
   generalize cH:World.setCell _ _ _=ws
   obtain ⟨ho,O,hT⟩:=g15_chk eZ.out (fun h=>h.2.2 rfl) cH
   have jG:=HB.out.size
   have kV:=eG.size
   have bI:Below A2 wj ws:=((eG.mono (by omega)).trans ((Zb wk _).mono (by omega))).trans (O _ (Q4 _))
   exact ⟨true,hT lt9 (Xd (nm:=[60]) (s:=[]) (by simp) (by simp) (Sl.nil _ _ _) (Sl.nil _ _ _) (Y2 (xs:=[Gen.var [110],Gen.int 9]) ((ho _ (by omega)).trans (Qw wk _)) ⟨by omega,by omega,by omega⟩ ((Cs.one (r:=Vv) (x:=Gen.var [110]) (Xd (nm:=[110]) (s:=[]) (by simp) (by simp) (Sl.nil _ _ _) (Sl.nil _ _ _) (Sl.nil _ _ _))).app (Cs.one (r:=Vv) (x:=Gen.int 9) (Xd (nm:=[]) (s:=[]) (by simp) (by simp) (Sl.nil _ _ _) (Sl.nil _ _ _) (Sl.nil _ _ _)))) rfl rfl (by simp))),aP.out.keep (bI.block _ eB) (fun b hb _=>bI.block _ hb.2),HB.out.step (bI.mono (by omega))⟩
  go_wp2_with fail
  go_meet
  exact ⟨false,aJ.out,aP.out,HB.out⟩
 obtain ⟨cc,hI,bH,hB⟩:=hcut
 obtain ⟨wk,rfl⟩:∃ wk,wk=wc:=⟨_,rfl⟩
 have aJ:=Qq hI.shrink;have aP:=Qq bH;have HB:=Qq hB
 clear hI bH hB fL hz
 go_upto_region 19 with fail
 generalize G:World.alloc (World.alloc wk _) _=wl
 have bI:=eqB G (Kd (Zb wk _) _)
 have gR:wl.heap.size=wk.heap.size+2:=by rw [<- G];simp
 have k0:=eqH (b:=wk.heap.size) G (Zh (Uv rfl _) _)
 have k1:=eqH (b:=wk.heap.size+1) G (Uv (by simp) _)
 have gO:=HB.out.size
 have gL:=aJ.out.lt
 obtain ⟨A3,dN⟩:=eX (wk.heap.size+1)
 rw [dN] at k1 |-
 have iX:A2<A3:=by omega
 have bX:=Qq (HB.out.step (bI.mono (by omega)))
 have fP:=Qq (aP.out.below bI)
 have fB:=Qq ((aJ.out.below bI).mono (X':=((fun b=>(w.heap.size+9<b/\b≠w.heap.size+1+1+1+1+1+1+1+1+1+1+1/\b≠A2)/\b<A3))) (fun b _ h=>⟨h.1,by have:=h.2;omega⟩))
 have fG:=Qq k0;have fO:=Qq k1;have fU:=Qq gR
 have h4:=bX.out.t4;have h3:=bX.out.t3;have h5:=bX.out.t5
 have T:=Qk _ _ 0 _ _ _ h3;have U:=Qk _ _ 1 _ _ _ h3;have V:=Qk _ _ 2 _ _ _ h3;have Y:=Qk _ _ 3 _ _ _ h3;have Z:=Qk _ _ 4 _ _ _ h3
 have y0:=Qk _ _ 0 _ _ _ h4;have y1:=Qk _ _ 1 _ _ _ h4;have y2:=Qk _ _ 2 _ _ _ h4;have y3:=Qk _ _ 3 _ _ _ h4;have y4:=Qk _ _ 4 _ _ _ h4
 have z0:=Qk _ _ 0 _ _ _ h5;have z1:=Qk _ _ 1 _ _ _ h5;have z2:=Qk _ _ 2 _ _ _ h5;have z3:=Qk _ _ 3 _ _ _ h5;have z4:=Qk _ _ 4 _ _ _ h5
 have g1:=Qk _ _ 1 _ _ _ k1;have f1:=fA 1 k1
 simp only [Qa,Qb,Qc] at T U V Y Z y0 y1 y2 y3 y4 z0 z1 z2 z3 z4 g1
 have gK:=Z3 k1
 clear h3 h4 h5 k0 k1 G bI gR
 go_upto_region 20 with fail
 generalize G:World.alloc (World.setCell wl _ _) _=wm
 have hA:=eqH (b:=A3) G (Zh ((Qd _ _ _ _ _ _ fO.out).trans rfl) _)
 have hC:=eqH (b:=wl.heap.size) G (Uv (by simp [World.setCell]) _)
 have gS:=fU.out
 have O:Below A3 wl wm:=by rw [<- G];exact Dy (by omega)
 have hK:wm.heap[wk.heap.size]?=some (.cells #[.string ⟨#[105,100]⟩] 9 (0,0)):=kE O (by omega) fG.out
 have hP:P15 w wm (w.heap.size+1+1+1+1+1+1+1+1+1+1+1) A2 A3 (G15.place a b) (G15.item a r cc):=P15.step (W:=wl) ⟨fP.out,fB.out,bX.out,by omega,eB,iX⟩ O
 have hS:TB (fun b=>A2<b/\b≠A3) wm A3 (G15.shop false false):=⟨_,hA,_,_,_,_,rfl,by simp [G15.shop],Y2 hC ⟨by omega,by omega⟩ ((Cs.one (r:=Yy) (X5 [105,100] 1 [] (by decide) (by decide))).app ((Cs.one (r:=Yy) (X5 [115,101,108,108,115] 0 [] (by decide) (by decide))).app (Cs.one (r:=Yy) (X5 [111,112,101,110] 2 [] (by decide) (by decide))))) rfl rfl (by simp [G15.shop]),Y2 hK ⟨by omega,by omega⟩ (D8 [105,100] (by decide)) rfl rfl (by simp [G15.shop]),Sl.nil _ _ _,Dw _ _ none none none 0 0 0⟩
 have cQ:=Qq hP;have cA:=Qq hS
 clear hA hC hK hP hS O G gS aP aJ HB fP fB bX fG fO fU T U V Y Z y0 y1 y2 y3 y4 z0 z1 z2 z3 z4 g1 f1 gO gL dN gK
 have hz:=Vh l 4 2 (by decide)
 obtain ⟨z,L⟩:=eX (Xi l 4 2)
 have fM:Hid (∀ W,Below w.heap.size w W->Calls prog 28 #[.slice p l.length cap,.int .i64 4,.int .i64 2] W fun e w'=>e=.returned (.int .i64 z)/\W=w'):=Qq (fun W hb=>by have:=HP.out 4 2 (by decide) (by decide) W hb;rw [L] at this;exact this)
 rw [L] at hz
 clear L
 go_upto_if 100 with (go_at_call 28;refine (fM.out _ cQ.out.low.below).mono ?_;rintro e w' ⟨rfl,rfl⟩)
 go_cut [] from 98 (fun wx=>∃ q:Bool,TB (fun b=>A2<b/\b≠A3) wx A3 (G15.shop q false)/\P15 w wx (w.heap.size+1+1+1+1+1+1+1+1+1+1+1) A2 A3 (G15.place a b) (G15.item a r cc))
 case first=>
  by_cases hq:z=0
  ·subst hq
   obtain ⟨rv,y3,f3⟩:=cA.out.cell3
   have eH:=cA.out.lt
   go_wp2_with fail
   go_meet
   have O:=Dy (W:=wm) (A:=A3) (j:=3) (v:=.slice (some ⟨wm.heap.size,0,none⟩) 1 1) (o:=.cells #[.string ⟨#[115,101,108,108,115]⟩,.string ⟨#[105,116,101,109]⟩] 82) (by omega)
   exact ⟨true,cA.out.refs (fun h=>h.2 rfl) _ (Y2 (xs:=[(⟨[115,101,108,108,115],[105,116,101,109]⟩:Rf)]) (Uv (by simp [World.setCell]) _) ⟨by omega,by omega⟩ (Cs.one (r:=Dz) (x:=(⟨[115,101,108,108,115],[105,116,101,109]⟩:Rf)) (c:=[.string ⟨#[115,101,108,108,115]⟩,.string ⟨#[105,116,101,109]⟩]) ⟨rfl,by decide,by decide⟩) rfl rfl (by simp)),cQ.out.step O⟩
  go_wp2_with fail
  go_meet
  exact ⟨false,cA.out,cQ.out⟩
 obtain ⟨q,hS,hP⟩:=hcut
 obtain ⟨wn,rfl⟩:∃ wn,wn=wc:=⟨_,rfl⟩
 have cR:=Qq hP;have cB:=Qq hS
 clear hP hS cQ cA fM hz
 have hz:=Vh l 5 4 (by decide)
 obtain ⟨z,L⟩:=eX (Xi l 5 4)
 have fN:Hid (∀ W,Below w.heap.size w W->Calls prog 28 #[.slice p l.length cap,.int .i64 5,.int .i64 4] W fun e w'=>e=.returned (.int .i64 z)/\W=w'):=Qq (fun W hb=>by have:=HP.out 5 4 (by decide) (by decide) W hb;rw [L] at this;exact this)
 rw [L] at hz
 clear L
 go_upto_if 106 with (go_at_call 28;refine (fN.out _ cR.out.low.below).mono ?_;rintro e w' ⟨rfl,rfl⟩)
 go_cut [] from 104 (fun wx=>∃ kk:Bool,TB (fun b=>A2<b/\b≠A3) wx A3 (G15.shop q kk)/\P15 w wx (w.heap.size+1+1+1+1+1+1+1+1+1+1+1) A2 A3 (G15.place a b) (G15.item a r cc))
 case first=>
  by_cases hq:z=0
  ·subst hq
   obtain ⟨rv,y3,f3⟩:=cB.out.cell2
   have eH:=cB.out.lt
   go_wp2_with fail
   go_meet
   have O:=Dy (W:=wn) (A:=A3) (j:=2) (v:=.slice (some ⟨wn.heap.size,0,none⟩) 2 2) (o:=.cells #[.string ⟨#[105,100]⟩,.string ⟨#[115,101,108,108,115]⟩] 9) (by omega)
   exact ⟨true,cB.out.keyf (fun h=>h.2 rfl) _ (Y2 (xs:=[([105,100]:Bs),[115,101,108,108,115]]) (Uv (by simp [World.setCell]) _) ⟨by omega,by omega⟩ (strs2 _ _ [105,100] [115,101,108,108,115] (by decide) (by decide)) rfl rfl (by simp)),cR.out.step O⟩
  go_wp2_with fail
  go_meet
  exact ⟨false,cB.out,cR.out⟩
 obtain ⟨kk,hS,hP⟩:=hcut
 obtain ⟨wo,rfl⟩:∃ wo,wo=wc:=⟨_,rfl⟩
 have aC:=Qq hP;have iT:=Qq hS
 have cI:=‹∀ (a:Act) (w_1:World),Code.wp prog _ _ a w_1->_›
 refine cI _ _ ?_
 clear hP hS cR cB fN hz cI jC dJ HJ fC fD fE eU aQ eS eW fF eV dU gN gM jD jE aJ aP HB
 have hz:=Vh l 6 4 (by decide)
 obtain ⟨z,L⟩:=eX (Xi l 6 4)
 have dX:Hid (∀ W,Below w.heap.size w W->Calls prog 28 #[.slice p l.length cap,.int .i64 6,.int .i64 4] W fun e w'=>e=.returned (.int .i64 z)/\W=w'):=Qq (fun W hb=>by have:=HP.out 6 4 (by decide) (by decide) W hb;rw [L] at this;exact this)
 rw [L] at hz
 clear L
 have kR:=aC.out.a1;have kS:=aC.out.a2;have kT:=aC.out.a3
 have hR:=aC.out.low.res
 obtain ⟨r0,r1⟩:=row2 hR
 have f0:=fA 0 hR;have f1:=fA 1 hR
 have dI:=Qq (show w.heap.size<wo.heap.size from Z3 hR)
 clear hR
 by_cases hq:z=0
 ·subst hq
  obtain ⟨rv,y3,f3⟩:=aC.out.item.cell3
  clear r0 r1 f0 f1 dI
  go_upto_region 27 with (go_at_call 28;refine (dX.out _ aC.out.low.below).mono ?_;rintro e w' ⟨rfl,rfl⟩)
  generalize cH:World.setCell wo _ _=ws
  have hI:=aC.out.item.noref (fun h=>h.1.2.2 rfl) cH
  obtain ⟨kJ,dP,_⟩:=aC.out.item
  obtain ⟨_,ho,hB⟩:=Vu dP cH
  have eD:=aC.out.low.step (hB _ (by omega))
  obtain ⟨tI,bP,cG⟩:∃ t,Uy t/\TB ((fun b=>(w.heap.size+9<b/\b≠w.heap.size+1+1+1+1+1+1+1+1+1+1+1/\b≠A2)/\b<A3)) ws A2 t:=⟨_,is15_i a false cc,hI⟩
  obtain ⟨v0,v1,v2,v3,v4,v5,v6,v7,v8,v9,cV,cW,cX,cY,cZ,dA,dB,dC,dD,dE,dF,hv,aL⟩:=cG.load
  have cP:=Qq aL;have fI:=Qq eD
  have hR:=eD.res
  have c0:=rA0 hv;have c1:=rA1 hv;have c2:=rA2 hv;have c3:=rA3 hv;have c4:=rA4 hv;have c5:=rA5 hv;have c6:=rA6 hv;have c7:=rA7 hv;have c8:=rA8 hv;have c9:=rA9 hv;have iU:=rA10 hv;have iV:=rA11 hv;have iW:=rA12 hv;have r0:=rA0 hR;have r1:=rA1 hR
  have f0:=fA 0 hR;have f1:=fA 1 hR
  have dI:=Qq (show w.heap.size<ws.heap.size from Z3 hR)
  clear y3 f3 cH hI cG dP ho hB eD hv aL hR r0 r1 f0 f1
  have aG:=Zh fI.out.res (.cells #[.string ⟨tI.name.toArray⟩,.slice v0 tI.columns.length v1,.slice v2 tI.key.length v3,.slice v4 tI.refs.length v5,.int .i64 v6,.string v7,.int .i64 v8,.string v9,.slice cV cW cX,.slice cY cZ dA,.slice dB dC dD,.int .i64 dE,.int .i64 dF] 61 (0,0))
  obtain ⟨r0,r1⟩:=row2 aG
  have f0:=fA 0 aG;have f1:=fA 1 aG
  clear aG
  repeat (first | go_skip | go_guarded | go_step)
  generalize G:World.setCell (World.setCell _ _ _) _ _=wz
  obtain ⟨hR,hS,hB⟩:=Bz (ts:=[tI]) fI.out rfl (Cs.one (r:=Zg) (Zg.mono cP.out (fun b _ h=>h.1.1))) rfl rfl (by simp) rfl G
  exact (show bodyPost prog Tryz.f20 (Po w) Exit.ret _ wz from Q2 (v:=.agg #[.slice (some ⟨w.heap.size+1+1+1+1+1+1+1+1,0,none⟩) 2 2,.slice (some ⟨ws.heap.size,0,none⟩) 1 1]) (by simp [results,results20,go_sem,Qk _ _ _ _ _ _ hR]) rfl ⟨_,_,_,rfl,hS,hB,by simp,by simp,fun t ht=>by rw [Z0] at ht;exact ht ▸ bP⟩)
 obtain ⟨tI,bP,cG⟩:∃ t,Uy t/\TB ((fun b=>(w.heap.size+9<b/\b≠w.heap.size+1+1+1+1+1+1+1+1+1+1+1/\b≠A2)/\b<A3)) wo A2 t:=⟨_,is15_i a r cc,aC.out.item⟩
 obtain ⟨tP,dM,gH⟩:∃ t,Uy t/\TB (fun b=>(w.heap.size+9<b/\b≠w.heap.size+1+1+1+1+1+1+1+1+1+1+1)/\b<A2) wo (w.heap.size+1+1+1+1+1+1+1+1+1+1+1) t:=⟨_,is15_p a b,aC.out.place⟩
 obtain ⟨v0,v1,v2,v3,v4,v5,v6,v7,v8,v9,cV,cW,cX,cY,cZ,dA,dB,dC,dD,dE,dF,hv,aL⟩:=cG.load
 obtain ⟨u0,u1,u2,u3,u4,u5,u6,u7,u8,u9,gV,gW,gX,gY,gZ,hD,hE,hF,hH,hJ,hL,hu,cL⟩:=gH.load
 have cP:=Qq aL;have eY:=Qq cL
 have c0:=rA0 hv;have c1:=rA1 hv;have c2:=rA2 hv;have c3:=rA3 hv;have c4:=rA4 hv;have c5:=rA5 hv;have c6:=rA6 hv;have c7:=rA7 hv;have c8:=rA8 hv;have c9:=rA9 hv;have iU:=rA10 hv;have iV:=rA11 hv;have iW:=rA12 hv;have d0:=rA0 hu;have d1:=rA1 hu;have d2:=rA2 hu;have d3:=rA3 hu;have d4:=rA4 hu;have d5:=rA5 hu;have d6:=rA6 hu;have d7:=rA7 hu;have d8:=rA8 hu;have d9:=rA9 hu;have kL:=rA10 hu;have kM:=rA11 hu;have kN:=rA12 hu
 clear hv aL hu cL cG gH
 by_cases hq1:z=1
 ·subst hq1
  clear r0 r1 f0 f1
  have aG:=Zh aC.out.low.res (.cells #[.string ⟨tI.name.toArray⟩,.slice v0 tI.columns.length v1,.slice v2 tI.key.length v3,.slice v4 tI.refs.length v5,.int .i64 v6,.string v7,.int .i64 v8,.string v9,.slice cV cW cX,.slice cY cZ dA,.slice dB dC dD,.int .i64 dE,.int .i64 dF,.string ⟨tP.name.toArray⟩,.slice u0 tP.columns.length u1,.slice u2 tP.key.length u3,.slice u4 tP.refs.length u5,.int .i64 u6,.string u7,.int .i64 u8,.string u9,.slice gV gW gX,.slice gY gZ hD,.slice hE hF hH,.int .i64 hJ,.int .i64 hL] 61 (0,0))
  obtain ⟨r0,r1⟩:=row2 aG
  have f0:=fA 0 aG;have f1:=fA 1 aG
  clear aG
  repeat (first | ((go_at_call 28;refine (dX.out _ aC.out.low.below).mono ?_;rintro e w' ⟨rfl,rfl⟩);dsimp only) | go_skip | go_guarded | go_step)
  generalize G:World.setCell (World.setCell _ _ _) _ _=wz
  obtain ⟨hR,hS,hB⟩:=Bz (ts:=[tI,tP]) aC.out.low rfl ((Cs.one (r:=Zg) (Zg.mono cP.out (fun b _ h=>h.1.1))).app (Cs.one (r:=Zg) (Zg.mono eY.out (fun b _ h=>h.1.1)))) rfl rfl (by simp) rfl G
  exact (show bodyPost prog Tryz.f20 (Po w) Exit.ret _ wz from Q2 (v:=.agg #[.slice (some ⟨w.heap.size+1+1+1+1+1+1+1+1,0,none⟩) 2 2,.slice (some ⟨wo.heap.size,0,none⟩) 2 2]) (by simp [results,results20,go_sem,Qk _ _ _ _ _ _ hR]) rfl ⟨_,_,_,rfl,hS,hB,by simp,by simp,fun t ht=>by simp only [Zy,Zx,or_false] at ht;rcases ht with rfl | rfl <;> first | exact bP | exact dM⟩)
 obtain ⟨tS,gA,gI⟩:∃ t,Uy t/\TB (fun b=>A2<b/\b≠A3) wo A3 t:=⟨_,is15_s q kk,iT.out⟩
 obtain ⟨q0,q1,q2,q3,q4,q5,q6,q7,q8,q9,jL,jM,jN,jO,jP,jQ,jR,jS,jT,jU,jV,hu,cL⟩:=gI.load
 have iN:=Qq cL
 obtain ⟨e0,e1,e2,e3,e4,e5,e6,e7,e8,e9,kO,kP,kQ⟩:=row13 hu
 clear hu cL gI
 clear r0 r1 f0 f1
 have aG:=Zh aC.out.low.res (.cells #[.string ⟨tI.name.toArray⟩,.slice v0 tI.columns.length v1,.slice v2 tI.key.length v3,.slice v4 tI.refs.length v5,.int .i64 v6,.string v7,.int .i64 v8,.string v9,.slice cV cW cX,.slice cY cZ dA,.slice dB dC dD,.int .i64 dE,.int .i64 dF,.string ⟨tP.name.toArray⟩,.slice u0 tP.columns.length u1,.slice u2 tP.key.length u3,.slice u4 tP.refs.length u5,.int .i64 u6,.string u7,.int .i64 u8,.string u9,.slice gV gW gX,.slice gY gZ hD,.slice hE hF hH,.int .i64 hJ,.int .i64 hL,.string ⟨tS.name.toArray⟩,.slice q0 tS.columns.length q1,.slice q2 tS.key.length q3,.slice q4 tS.refs.length q5,.int .i64 q6,.string q7,.int .i64 q8,.string q9,.slice jL jM jN,.slice jO jP jQ,.slice jR jS jT,.int .i64 jU,.int .i64 jV] 61 (0,0))
 obtain ⟨r0,r1⟩:=row2 aG
 have f0:=fA 0 aG;have f1:=fA 1 aG
 clear aG
 repeat (first | ((go_at_call 28;refine (dX.out _ aC.out.low.below).mono ?_;rintro e w' ⟨rfl,rfl⟩);dsimp only) | go_skip | go_guarded | go_step)
 generalize G:World.setCell (World.setCell _ _ _) _ _=wz
 obtain ⟨hR,hS,hB⟩:=Bz (ts:=[tI,tP,tS]) aC.out.low rfl ((Cs.one (r:=Zg) (Zg.mono cP.out (fun b _ h=>h.1.1))).app ((Cs.one (r:=Zg) (Zg.mono eY.out (fun b _ h=>h.1.1))).app (Cs.one (r:=Zg) (Zg.mono iN.out (fun b _ h=>by have:A2<b:=h.1;omega))))) rfl rfl (by simp) rfl G
 exact (show bodyPost prog Tryz.f20 (Po w) Exit.ret _ wz from Q2 (v:=.agg #[.slice (some ⟨w.heap.size+1+1+1+1+1+1+1+1,0,none⟩) 2 2,.slice (some ⟨wo.heap.size,0,none⟩) 3 3]) (by simp [results,results20,go_sem,Qk _ _ _ _ _ _ hR]) rfl ⟨_,_,_,rfl,hS,hB,by simp,by simp,fun t ht=>by simp only [Zy,Zx,or_false] at ht;rcases ht with rfl | rfl | rfl <;> first | exact bP | exact dM | exact gA⟩)
end Go.Proofs.YtlanplhphiikjaaGreatDoor
