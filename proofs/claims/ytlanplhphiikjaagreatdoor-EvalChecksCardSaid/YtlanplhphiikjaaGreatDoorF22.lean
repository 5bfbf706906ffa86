import Derived.Test.YtlanplhphiikjaaGreatDoorF19
set_option maxRecDepth 100000
set_option maxHeartbeats 400000000
namespace Go.Proofs.YtlanplhphiikjaaGreatDoor
open Go.RowKit Go.Shelf Go.Lib Tryz
theorem Oz (p:Addr) (w:World):
  CallsD prog 123 #[.pointer (some p)] .returning w fun e u' w'=>e=.returned (.tuple #[])/\u'=.returning/\w'=w:=by
 refine callsD_of_wpS func123 rfl fun c₀ cs hu=>?_
 apply wpS_seq
 apply wpS_region
 simp [wpOpsS,go_sem,recoverD,hu,ntmps123,Exit.thenS]
 rw [show (#[Value.pointer (some p)]++(Array.replicate 9 undef).setIfInBounds 3 Value.nilIface)=#[.pointer (some p),undef,undef,undef,.nilIface,undef,undef,undef,undef,undef] from rfl]
 refine wpS_of_wp ?_
 go_wp2_with fail
 cases c₀
 simp_all [bodyPostS,results,results123]
def Hv (v:Val):List (Bs × Val):=(v.names.zip v.kids).reverse
theorem B0 (l:List Bs) (m:List Val):l.zip (m.take l.length)=l.zip m:=by
 induction l generalizing m with
 | nil=>rfl
 | cons a l ih=>cases m with
  | nil=>rfl
  | cons b m=>simp [ih]
theorem zip_snoc (l:List Bs) (m:List Val) (k:Nat) (x:Bs) (u:Val) (hx:l[k]?=some x) (hu:m[k]?=some u):((l.take (k+1)).zip (m.take (k+1))).reverse=(x,u)::((l.take k).zip (m.take k)).reverse:=by
 rw [List.take_add_one,List.take_add_one,hx,hu]
 have h1:k<l.length:=(Qj hx).1
 have h2:k<m.length:=(Qj hu).1
 rw [List.zip_append (by rw [Qf,Qf];omega)]
 simp
theorem sat_ok (S0 S1:Nat->Prop) (t:Tbl) (v:Val) (ct cr:List Value) (b:Bool) (w:World) (ht0:Zg.R S0 w ct t) (hr0:Z5 S1 w cr v) (hsi:Uz t.check=true) (hev:EvV t.check (Hv v) (Yb b)) (hln:v.names.length<=v.kids.length):
  Calls prog 71 #[ct,cr] w fun e w'=>e=.returned (.bool b)/\Below w w w':=by
 have bM:∀ (fn:Fn) (first cap:Array Value) (w:World),(Instr.makeFunc fn first cap).run prog w=.ok (.func fn first cap) w:=fun _ _ _ _=>rfl
 have ht:Zg.R (fun b=>b<w) w ct t:=Zg.mono ht0 (fun b hb _=>hb)
 have hr:Z5 (fun b=>b<w) w cr v:=hr0.move (.refl _ _) (fun b hb _=>hb)
 obtain ⟨bG,bF,bQ,bP,bY,bX,k9,bZ,n9,cA,bU,bR,bC,bV,bS,bD,bW,bT,bE,a9,z9,G,_,_,_,_,T⟩:=Zr ht
 simp only [tcs] at G
 subst G
 obtain ⟨p3,k3,p4,k4,G,U,aC,_⟩:=Z5.cells hr
 simp only [vcs] at G
 subst G
 have aB:=Qq (fun W (hb:Below w w W)=>hsi ▸ simpAt t.check _ _ W (Yj.move T (.of_below hb) P8))
 have Z:=Qq (fun p W (hb:Below w w W) (he:Vq (fun _=>True) W p (Hv v))=>hev (fun _=>True) _ _ p W (Yj.move T (.of_below hb) P8) he)
 have aA:=Qq U;have aR:=Qq aC
 obtain ⟨n,hn⟩:=eX (v.names.length)
 have bO:n<=1000000:=by rw [<- hn];obtain ⟨_,_,_,h⟩:=U.len;exact h
 rw [hn] at aA hln |-
 have HN:=Qq hn;have aS:=Qq hln
 clear ht ht0 hr hr0 T U aC hsi hev hn hln
 go_enter_defers func71,ntmps71
 go_wp2_with fail
 refine (aB.out _ (Yr _ _ _ _)).mono ?_
 rintro e w1 ⟨rfl,J⟩
 have h0:=(J.block w (by simp;omega)).trans (Ze w _ _ _)
 have h1:=(J.block (w+1) Od).trans (Zf w _ _ _)
 have h2:=(J.block (w+1+1) Od).trans (Z9 w _ _ _)
 have aN:=Qq ((Yr w _ _ _).thn J)
 obtain ⟨H0,H1,H2⟩:=Px h0 h1 h2
 have x3:=rA3 h1;have x4:=rA4 h1
 clear J h0 h1 h2 aB
 go_wp2_with fail
 go_loopw [5,16] (fun p i wr=>∃ k:Nat,k<=n/\i=.int .i64 k/\Vq (fun _=>True) wr p ((v.names.take k).zip (v.kids.take k)).reverse/\Below w1 w1 wr) (fun _ i _=>n - (intOf i).toNat)
 case atStart=>exact ⟨0,Q3 _,rfl,by simp only [List.take_zero,List.zip_nil_left,List.reverse_nil];exact .nil,Qz _ _⟩
 obtain ⟨k,bL,rfl,hE,I⟩:=hrel
 have Y:=Qq I
 have L:=Qq (aN.out.thn I)
 have D:=Qq (kB I H0.out)
 have aK:=Qq (kB I H2.out)
 have y4:=rA4 ((kB I H1.out))
 obtain ⟨q,rfl⟩:=hE.ptr
 have HE:=Qq hE
 clear I hE
 by_cases hlt:k<n
 ·have bH:(0:Int)<=(k:Int):=Oa
  have bI:(k:Int)<(n:Int):=Oa
  have aE:k<v.kids.length:=Ob aS.out
  have bJ:(k:Int)<(v.kids.length:Int):=Oa
  obtain ⟨x,hx⟩:∃ x,v.names[k]?=some x:=⟨_,Qx (by rw [HN.out];exact hlt)⟩
  obtain ⟨u,hu⟩:∃ u,v.kids[k]?=some u:=⟨_,Qx aE⟩
  obtain ⟨nb,bB,rfl,bN,aG⟩:=(aA.out.below L.out).str hx
  obtain ⟨kb,bA,q3,l3,q4,l4,rfl,bK,aF,d0,d1,d2,d3,d4⟩:=(aR.out.below L.out).val hu
  have HZ:=Qq (zip_snoc v.names v.kids k x u hx hu)
  have aV:=Qq aG;have aU:=Qq aF
  clear hx hu aF aG aE
  go_wp2_with fail
  go_roundw
  case measure=>simp [intOf];omega
  case rel=>
   refine ⟨k+1,Oa,by go_num,?_,Y.out.alloc (Ob Y.out.size) _⟩
   rw [HZ.out]
   exact .cons _ q x u q3 l3 q4 l4 _ trivial (Qw _ _) aV.out (Z5.move aU.out (.of_below (Zb _ _)) (fun _ _ _=>trivial)) (HE.out.move (.of_below (Zb _ _)) P8)
 have aD:k=n:=Oa
 have hd:decide ((k:Int)<(n:Int))=false:=by simpa using hlt
 have hz:((v.names.take k).zip (v.kids.take k)).reverse=Hv v:=by
  unfold Hv
  rw [aD,<- HN.out,List.take_length,B0]
 rw [hz] at HE
 have aQ:=Qq (Z.out (.pointer q) wr L.out HE.out)
 have z4:=rA4 D.out;have z5:=rA5 D.out;have z6:=rA6 D.out;have z7:=rA7 D.out;have z8:=rA8 D.out;have cF:=rA9 D.out;have cC:=rA10 D.out;have cD:=rA11 D.out;have cE:=rA12 D.out
 clear hz aD HE Z
 go_wp2_with fail
 refine aQ.out.mono ?_
 rintro e w5 ⟨aW,rfl,V,N⟩
 have aT:=Qq (truth_ok b _ aW w5 V)
 obtain ⟨q3,l3,q4,l4,G,_⟩:=Z5.cells V
 simp only [vcs] at G
 subst G
 have aL:=Qq (kB N aK.out)
 have aO:=Qq (L.out.thn N)
 clear V N
 go_wp2_with fail
 refine aT.out.mono ?_
 rintro e w6 ⟨rfl,O⟩
 have M:=kB O aL.out
 have aP:=Qq (aO.out.thn O)
 have f0:=fA 0 M;have r0:=rA0 M
 have aM:=Qq M
 clear O M
 go_wp2_with fail
 refine leaves_cons (f:=123) (args:=#[.pointer (some ⟨w+1+1,0,none⟩)]) Od (by simp [go_sem]) ?_
 refine (Oz ⟨w+1+1,0,none⟩ _).mono ?_
 rintro e u' cB ⟨rfl,rfl,rfl⟩
 have hc:(w6.setCell ⟨w+1+1,0,none⟩ (.bool b)).cell? ⟨w+1+1,0,none⟩=some (.bool b):=by
  rw [Qk _ _ 0 _ _ _ (Qd _ _ _ _ _ _ aM.out)]
  rfl
 have hb:Below w w (w6.setCell ⟨w+1+1,0,none⟩ (.bool b)):=aP.out.setCell (by show w<=w.heap.size+1+1;omega) _
 refine ⟨.bool b,by simp [results,results71,go_sem,hc],rfl,hb⟩
theorem Xp {W:World} {R b j:Nat} {x0 x1 x2 x3 x4 u:Value} (h:b≠R) (hc:W.cell? ⟨b,j,none⟩=some u):(Zn W R x0 x1 x2 x3 x4).cell? ⟨b,j,none⟩=some u:=(World.cell?_of_block (Za h)).trans hc
structure Ua (w:World) where
 wd:World
 below:Below w w wd
instance {w:World}:Inhabited (Ua w):=⟨⟨w,Qz _ _⟩⟩
theorem Xv {P:Program} {id:Nat} {Q:Exit->Act->World->Prop} {a:Act} {w:World} {l:List Oper} (hm:P.follows .mixedOrders=true) (hB:Region.lexB .any l.toArray=true)
  (h:wpQuiet P l.toArray (fun w'=>∃ p:Ua w,w'=p.wd) (fun a'=>∀ w',(∃ p:Ua w,w'=p.wd)->Q .normal a' w') l a):(Code.region id l.toArray true).wp P Q a w:=
 wp_region_quiet (C:=fun w'=>∃ p:Ua w,w'=p.wd) hm hB ⟨⟨w.drew,(Qz _ _).drew⟩,rfl⟩ (by simpa using h)
theorem Zd {w:World} {b o:Nat} {v:Value} (hb:b<w) (h:w.cell? ⟨b,o,none⟩=some v) (p:Ua w):p.wd.cell? ⟨b,o,none⟩=some v:=kD p.below hb h
theorem Calls.later_of {P:Program} {f:FuncId} {args:Array Value} {w:World} {p:Ua w} {v:Value} (h:Calls P f args p.wd fun e w'=>e=.returned v/\Below p.wd.heap.size p.wd w'):Calls P f args p.wd fun e w''=>e=.returned v/\∃ q:Ua w,w''=q.wd:=
 h.mono fun _ w' ⟨he,hb⟩=>⟨he,⟨w',p.below.thn hb⟩,rfl⟩
end Go.Proofs.YtlanplhphiikjaaGreatDoor
