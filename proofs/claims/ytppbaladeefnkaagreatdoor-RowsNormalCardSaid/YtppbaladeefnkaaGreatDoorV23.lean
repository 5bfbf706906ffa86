import Derived.Test.YtppbaladeefnkaaGreatDoorV22
import Derived.Test.YtppbaladeefnkaaGreatDoorV19
set_option maxRecDepth 100000
set_option maxHeartbeats 400000000
namespace Go.Proofs.YtppbaladeefnkaaGreatDoor
open Go.RowKit Go.Shelf Go.Lib Tryz
def Ms (w:World) (e:Ending) (w':World):Prop:=(∃ b:Bool,e=.returned (.bool b))∧Below w.heap.size w w'
theorem Bh (S0 S1:Nat→Prop) (s:Sc) (cs:List Value) (lv:Value) (l:List Rel) (w:World) (hs:Yn S0 w cs s) (hl0:Sl Z0 S1 w lv l) (hlen:l.length=s.tables.length):
  Calls prog 109 #[.agg cs.toArray,lv] w (Ms w):=by
 obtain ⟨uv,tv,rfl,hu,ht⟩:=hs
 obtain ⟨up,uc,rfl,_⟩:=hu.len
 obtain ⟨tp,tc,rfl,hl1⟩:=ht.len
 obtain ⟨lp,lc,rfl,_⟩:=hl0.len
 have HT:=Qq ht;have HL:=Qq hl0
 have mixed:prog.follows .mixedOrders=true:=by kernel_rfl
 obtain ⟨n,hn⟩:=eX (s.tables.length)
 rw [hn] at HT hl1 ⊢
 have hm:l.length=n:=by omega
 rw [hm] at HL ⊢
 have HN:=Qq hn;have HM:=Qq hm
 clear hu ht hl0 hn hm hlen
 have hq0:((n:Int) != (n:Int))=false:=by simp
 go_enter func109,ntmps109
 go_wp2_with fail
 clear hq0
 generalize hW1:w.alloc _=W1
 have hb1:=eqB hW1 (Qn _ _)
 have hX1:=eqH (b:=w.heap.size) hW1 (Qw _ _)
 have HB1:=Qq hb1;have HX1:=Qq hX1
 clear hW1 hb1 hX1
 go_loopw [5,6] (fun i _ wr=>∃ k:Nat,k≤n∧i=.int .i64 k∧Aside (Below W1.heap.size W1 wr)) (fun i _ _=>n - (intOf i).toNat)
 case atStart=>exact ⟨0,Q8 _,rfl,Qz _ _⟩
 obtain ⟨k,hk,rfl,hBr⟩:=hrel
 have HBr:=Qq (show Below W1.heap.size W1 wr from hBr)
 have HBw:=Qq (HB1.out.thn HBr.out)
 have hXr:=kB HBr.out HX1.out
 have hXl:=Qf hXr
 obtain ⟨c0,c1⟩:=row2 hXr
 clear hBr hXr c0
 by_cases hlt:k<n
 ·have hi1:(0:Int)≤(k:Int):=by omega
  have hi2:(k:Int)<(n:Int):=by omega
  obtain ⟨r,hr⟩:∃ r,l[k]?=some r:=⟨_,Qx (by rw [HM.out];exact hlt)⟩
  obtain ⟨t,ht⟩:∃ t,s.tables[k]?=some t:=⟨_,Qx (by rw [HN.out];exact hlt)⟩
  obtain ⟨rb,roff,rcs,rfl,hrb,_,_,⟨rv,rfl,_,hrv⟩,hrc⟩:=(HL.out.below HBw.out).elem hr
  obtain ⟨tb,toff,tcs',rfl,htb,_,_,hR,htc⟩:=(HT.out.below HBw.out).elem ht
  obtain ⟨cp9,cc9,kp9,kc9,rp9,rc9,k9,s19,n9,s29,p19,n19,c19,p29,n29,c29,p39,n39,c39,a9,z9,hcs,_⟩:=Zk hR
  simp only [tcs] at hcs
  subst hcs
  have d0:=htc 0 _ rfl
  have e0:=hrc 0 _ rfl;have e1:=hrc 1 _ rfl
  rw [show Qt.k=13 from rfl,Nat.add_zero] at d0
  rw [show Z0.k=2 from rfl] at e0 e1
  rw [Nat.add_zero] at e0
  unfold sv at e0
  obtain ⟨q,m,qc,hrvq,hml⟩:∃ q m qc,rv=.slice q m qc∧r.rows.length=m:=by obtain ⟨q,qc,h,_⟩:=hrv.len;exact ⟨q,_,qc,h,rfl⟩
  subst hrvq
  have HRV:=Qq hrv;have HML:=Qq hml
  have hml2:m≤1000000:=by obtain ⟨_,_,_,h⟩:=hrv.len;omega
  clear hr ht hR htc hrc hrv hml
  by_cases he:r.table=t.name
  ·have hq1:(r.table==t.name)=true:=by rw [he];simp
   have hq2:(r.table != t.name)=false:=by rw [he];simp
   clear he
   go_wp2_with fail
   go_quiet (fail)
   go_wp2_with fail
   obtain ⟨wo,hwo⟩:=eX (wr.drewN nq)
   have hbo:Below wr.heap.size wr wo:=by rw [← hwo];exact Zy _ _
   rw [hwo]
   have HBo:=Qq hbo
   have E1:=Qq ((hbo.cell (p:=⟨rb,roff+k*2+1,none⟩) hrb).trans e1)
   have HRo:=Qq (HRV.out.below hbo)
   have hrbo:rb<wo.heap.size:=by have:=hbo.size;omega
   clear hwo hbo e0 e1 d0 c1 hq1 hq2
   go_loopw [6] (fun i wi=>∃ j:Nat,j≤m∧i=.int .i64 ((j:Int)+1)∧Aside (Below wo.heap.size wo wi)) (fun i _=>m - (intOf i).toNat)
   case atStart=>exact ⟨0,Q8 _,by simp,Qz _ _⟩
   obtain ⟨j,hj,rfl,hBi⟩:=hrel
   have HBi:=Qq (show Below wo.heap.size wo wr from hBi)
   have e1:=(HBi.out.cell (p:=⟨rb,roff+k*2+1,none⟩) hrbo).trans E1.out
   clear hBi
   by_cases hlt2:j+1<m
   ·obtain ⟨x,hx⟩:∃ x,r.rows[j]?=some x:=⟨_,Qx (by rw [HML.out];omega)⟩
    obtain ⟨y,hy⟩:∃ y,r.rows[j+1]?=some y:=⟨_,Qx (by rw [HML.out];omega)⟩
    obtain ⟨xb,xoff,p3,k3,p4,k4,rfl,hxb,hvx,d0,d1,d2,d3,d4⟩:=(HRo.out.below HBi.out).val hx
    obtain ⟨yb,yoff,q3,l3,q4,l4,he,hyb,hvy,f0,f1,f2,f3,f4⟩:=(HRo.out.below HBi.out).val hy
    obtain ⟨rfl,rfl,-⟩:xb=yb∧xoff=yoff∧True:=by simpa using he
    have hcg:=Uk hvx hvy
    have hrbi:rb<wr.heap.size:=Qv _ _ e1
    have D0:=Qs hxb d0;have D1:=Qs hxb d1;have D2:=Qs hxb d2;have D3:=Qs hxb d3;have D4:=Qs hxb d4
    have F0:=Qs hxb f0;have F1:=Qs hxb f1;have F2:=Qs hxb f2;have F3:=Qs hxb f3;have F4:=Qs hxb f4
    have E2:=Qs hrbi e1
    have hj1:IntKind.i64.wrap (j:Int)=(j:Int):=by rw [IntKind.wrap_i64];omega
    have hj2:(j:Int)<(m:Int):=by omega
    have hj3:(0:Int)<(j:Int)+1:=by omega
    have hj4:(0:Int)≤(j:Int)+1:=by omega
    have hj5:(j:Int)+1<(m:Int):=by omega
    have hj6:(0:Int)≤(j:Int):=by omega
    have hj7:((j:Int)+1).toNat=j+1:=by omega
    generalize Z1 x y=c at hcg
    have HJ1:=Qq hj1;have HJ7:=Qq hj7
    clear hx hy he hvx hvy hyb d0 d1 d2 d3 d4 f0 f1 f2 f3 f4
    by_cases hneg:c<0
    ·have hq:decide (0≤c)=false:=by simpa using hneg
     go_wp2_with fail
     go_quiet_grown (first | (go_at_call 17;refine Calls.grown_of (hcg _ _)))
     clear hj1 hj7
     go_wp2_with fail
     go_roundw
     case measure=>simp [intOf];omega
     case rel=>exact ⟨j+1,by omega,by go_num,HBi.out.thn (Z7 _ _ _).bl⟩
    have hq:decide (0≤c)=true:=by simp;omega
    go_wp2_with fail
    go_quiet_grown (first | (go_at_call 17;refine Calls.grown_of (hcg _ _)))
    clear hj1 hj7
    go_wp2_with fail
    go_ret
    exact ⟨⟨_,rfl⟩,((HBw.out.thn HBo.out).thn HBi.out).thn (Z7 _ _ _).bl⟩
   have hj5:¬ (j:Int)+1<(m:Int):=by omega
   go_wp2_with fail
   go_roundw
   case measure=>simp [intOf];omega
   case rel=>exact ⟨k+1,by omega,by go_num,(HBr.out.thn HBo.out).thn HBi.out⟩
  have hq1:(r.table==t.name)=false:=by rw [← Bool.not_eq_true,beq_iff_eq];exact he
  have hq2:(r.table != t.name)=true:=by rw [bne_iff_ne];exact he
  clear he
  go_wp2_with fail
  go_quiet (fail)
  go_wp2_with fail
  go_ret
  exact ⟨⟨_,rfl⟩,HBw.out.thn (Zy _ _)⟩
 have hkn':k=n:=by omega
 subst hkn'
 go_wp2_with fail
 go_ret
 exact ⟨⟨_,rfl⟩,HBw.out⟩
def Vo (A:List Bs × List Val) (p:Bs × Val):List Bs × List Val:=(Y8 A.1 (below A.1 p.1) p.1,Y8 A.2 (below A.1 p.1) p.2)
def Yx (z:List (Bs × Val)):List Bs × List Val:=z.foldl Vo ([],[])
theorem E9 (z:List (Bs × Val)) (p:Bs × Val):Yx (z++[p])=Vo (Yx z) p:=by unfold Yx;rw [List.foldl_append];rfl
theorem Tq {T:Type} (l:List T) (i:Nat) (x:T):(Y8 l i x).length=l.length+1:=by unfold Y8;simp [List.length_take,List.length_drop];omega
theorem Xl (z:List (Bs × Val)):(Yx z).1.length=z.length∧(Yx z).2.length=z.length:=by
 have:∀ (z:List (Bs × Val)) (A:List Bs × List Val),(z.foldl Vo A).1.length=A.1.length+z.length∧(z.foldl Vo A).2.length=A.2.length+z.length:=by
  intro z
  induction z with
  | nil=>intro A;exact ⟨rfl,rfl⟩
  | cons p z ih=>
   intro A
   obtain ⟨h1,h2⟩:=ih (Vo A p)
   rw [List.foldl_cons,h1,h2]
   unfold Vo
   simp only [Tq,List.length_cons]
   omega
 have:=this z ([],[])
 simpa [Yx] using this
def RecIs (S:Nat→Prop) (w:World) (names:List Bs) (vals:List Val) (e:Ending) (w':World):Prop:=Below w.heap.size w w' ∧
 ((∃ err:Int,err≠0∧e=.returned (.tuple #[.agg zV,.int .i64 err])∧¬ (names.length=vals.length∧∀ (i j:Nat) (x:Bs),i<j→names[i]?=some x→names[j]?=some x→False)) ∨
  (∃ p3 k3 p4 k4,names.length=vals.length∧e=.returned (.tuple #[.agg (vcs (U0 (Yx (names.zip vals)).1 (Yx (names.zip vals)).2) p3 k3 p4 k4).toArray,.int .i64 0])∧names.length≤k3∧names.length≤k4 ∧
   Qh (fun b=>S b∨w.heap.size≤b) w' (vcs (U0 (Yx (names.zip vals)).1 (Yx (names.zip vals)).2) p3 k3 p4 k4) (U0 (Yx (names.zip vals)).1 (Yx (names.zip vals)).2)))
def Ue (S:Nat→Prop) (w:World) (z:List (Bs × Val)) (wx:World):Prop:=Below w.heap.size w wx∧∃ p3 k3 p4 k4,z.length≤k3∧z.length≤k4 ∧
 wx.heap[w.heap.size+1]?=some (.cells #[.int .i64 4,.int .i64 0,.string ⟨#[]⟩,.slice p3 z.length k3,.slice p4 z.length k4] 44 (0,0))∧Qh (fun b=>(S b∧b<w.heap.size)∨w.heap.size+2≤b) wx (vcs (U0 (Yx z).1 (Yx z).2) p3 k3 p4 k4) (U0 (Yx z).1 (Yx z).2) ∧
 wx.heap[w.heap.size]?=some (.cells zV 44 (0,0))
theorem Ff (z:List (Bs × Val)) (p3:Option Addr) (k3:Nat) (p4:Option Addr) (k4:Nat):vcs (U0 (Yx z).1 (Yx z).2) p3 k3 p4 k4=[.int .i64 4,.int .i64 0,.string ⟨#[]⟩,.slice p3 z.length k3,.slice p4 z.length k4]:=by
 obtain ⟨h1,h2⟩:=Xl z
 unfold U0
 rw [vcs_mk,h1,h2]
theorem Ue.below {S:Nat→Prop} {w wr wx:World} {z:List (Bs × Val)} (h:Ue S w z wr) (hb:Below wr.heap.size wr wx):Ue S w z wx:=by
 obtain ⟨h1,p3,k3,p4,k4,h2,h3,h4,h5,h6⟩:=h
 exact ⟨h1.thn hb,p3,k3,p4,k4,h2,h3,kB hb h4,h5.move (.of_below hb) (fun _ _ h=>h),kB hb h6⟩
theorem Ue.next {S:Nat→Prop} {w wr w2:World} {z:List (Bs × Val)} {name:Bs} {x:Val} {p3:Option Addr} {k3:Nat} {p4:Option Addr} {k4:Nat} (h:Ue S w z wr) (hb:Below wr.heap.size wr w2) (h3:(Bf (U0 (Yx z).1 (Yx z).2) name x).names.length≤k3) (h4:(Bf (U0 (Yx z).1 (Yx z).2) name x).kids.length≤k4)
  (hv:Qh (fun b=>((fun b=>(S b∧b<w.heap.size)∨w.heap.size+2≤b)) b∨wr.heap.size≤b) w2 (vcs (Bf (U0 (Yx z).1 (Yx z).2) name x) p3 k3 p4 k4) (Bf (U0 (Yx z).1 (Yx z).2) name x)):
  vcs (Bf (U0 (Yx z).1 (Yx z).2) name x) p3 k3 p4 k4=[.int .i64 4,.int .i64 0,.string ⟨#[]⟩,.slice p3 (z.length+1) k3,.slice p4 (z.length+1) k4] ∧
  Ue S w (z++[(name,x)]) (Zz w2 (w.heap.size+1) (.int .i64 4) (.int .i64 0) (.string ⟨#[]⟩) (.slice p3 (z.length+1) k3) (.slice p4 (z.length+1) k4)):=by
 have hu:Bf (U0 (Yx z).1 (Yx z).2) name x=U0 (Yx (z++[(name,x)])).1 (Yx (z++[(name,x)])).2:=by rw [E9];rfl
 rw [hu] at h3 h4 hv ⊢
 have hc:=Ff (z++[(name,x)]) p3 k3 p4 k4
 obtain ⟨hl1,hl2⟩:=Xl (z++[(name,x)])
 have hz:(z++[(name,x)]).length=z.length+1:=by simp
 refine ⟨by rw [hc,hz],?_⟩
 obtain ⟨hb0,p3',k3',p4',k4',_,_,h7,_,h9⟩:=h
 have hsz:w.heap.size+1<wr.heap.size:=Qf h7
 have h7':=kE hb hsz h7
 have h9':=kB hb h9
 refine ⟨Qo (hb0.thn hb) (by omega),p3,k3,p4,k4,by rw [hz];have:(Yx (z++[(name,x)])).1.length≤k3:=h3;omega,by rw [hz];have:(Yx (z++[(name,x)])).2.length≤k4:=h4;omega,by rw [hz];exact Yr h7',?_,by rw [Qu (by omega)];exact h9'⟩
 refine (hv.move (S':=(fun b=>(S b∧b<w.heap.size)∨w.heap.size+2≤b)) (.refl _ _) (fun b _ h=>?_)).move (fun b hS _=>Qu ?_) (fun b _ h=>h)
 ·rcases h with h | h
  ·exact h
  exact .inr (by omega)
 rcases hS with h | h <;> omega
theorem F5 (S:Nat→Prop) (nv vv:Value) (names:List Bs) (vals:List Val) (w:World) (hn0:Sl Qp S w nv names) (hv0:Sl Ql S w vv vals) (hw:∀ x ∈ names,Xy x) (hl:names.length≤1000):
  Calls prog 72 #[nv,vv] w (RecIs S w names vals):=by
 have hn:=hn0.up
 have hv:=hv0.up
 obtain ⟨np,nc,rfl,_⟩:=hn.len
 obtain ⟨vp,vc,rfl,hvl⟩:=hv.len
 have HNs:=Qq hn;have HVs:=Qq hv;have HW:=Qq hw
 clear hn0 hv0 hn hv hw
 by_cases hlen:names.length=vals.length
 ·obtain ⟨n,hnn⟩:=eX (names.length)
  have hm:vals.length=n:=by omega
  have HN:=Qq hnn;have HM:=Qq hm;have HLen:=Qq hlen
  rw [hnn] at HNs hl ⊢
  rw [hm] at HVs hvl ⊢
  have hq:((n:Int) != (n:Int))=false:=by simp
  clear hnn hm hlen
  go_enter func72,ntmps72
  go_wp2_with fail
  generalize hW1:(w.alloc _).alloc _=W1
  have hM1:Ue S w ((names.zip vals).take 0) W1:=by
   refine ⟨by rw [← hW1];exact Zv _ _ _,none,0,none,0,Q9 _,Q9 _,by rw [← hW1];exact Q6 _ _ _,?_,by rw [← hW1];exact Q5 _ _ _⟩
   exact Zn (s:=[]) (by simp) (Sl.nil _ _ _) (Sl.nil _ _ _)
  have HM1:=Qq hM1
  clear hW1 hM1 hq
  go_loopw [7,8] (fun i _ wr=>∃ k:Nat,k≤n∧i=.int .i64 k∧Aside (Ue S w ((names.zip vals).take k) wr)∧Aside (∀ (i j:Nat) (x:Bs),j<k→i<j→names[i]?=some x→names[j]?=some x→False)) (fun i _ _=>n - (intOf i).toNat)
  case atStart=>exact ⟨0,Q8 _,rfl,HM1.out,fun i j x hj=>absurd hj (Nat.not_lt_zero _)⟩
  obtain ⟨k,hk,rfl,hM,hD⟩:=hrel
  have hM':Ue S w ((names.zip vals).take k) wr:=hM
  have HMk:=Qq hM'
  obtain ⟨hbw,p3,k3,p4,k4,h3,h4,hX,hvu,hZ⟩:=hM'
  have hzl:((names.zip vals).take k).length=k:=by rw [List.length_take,List.length_zip,HN.out,HM.out];omega
  rw [hzl] at h3 h4 hX
  have HB:=Qq hbw;have HX:=Qq hX;have HVu:=Qq hvu;have HZ:=Qq hZ;have HZl:=Qq hzl;have HD:=Qq (show ∀ (i j:Nat) (x:Bs),j<k→i<j→names[i]?=some x→names[j]?=some x→False from hD)
  have hXl:=Qf hX
  clear hM hD hbw hX hvu hZ hzl
  by_cases hlt:k<n
  ·have hi1:(0:Int)≤(k:Int):=by omega
   have hi2:(k:Int)<(n:Int):=by omega
   obtain ⟨nm,hnm⟩:∃ y,names[k]?=some y:=⟨_,Qx (by rw [HN.out];exact hlt)⟩
   obtain ⟨x,hx⟩:∃ y,vals[k]?=some y:=⟨_,Qx (by rw [HM.out];exact hlt)⟩
   obtain ⟨nb,noff,rfl,hnc,hnml⟩:=(HNs.out.below HB.out).str hnm
   obtain ⟨vb,voff,q3,l3,q4,l4,rfl,hvb,hvx,d0,d1,d2,d3,d4⟩:=(HVs.out.below HB.out).val hx
   have hnb:=Qv _ _ hnc
   have HF:=Qq (fun W=>B8 nm (HW.out nm (Qy hnm)) W)
   unfold sv at HF
   have HNm:=Qq hnm;have HXx:=Qq hx;have HVx:=Qq hvx
   clear hnm hx hvx
   go_wp2_with (go_at_call 115;refine (HF.out _).mono ?_;rintro e w5 ⟨rfl,hb5⟩;have HB5:=Qq hb5;have hnc5:=(hb5.cell (p:=⟨nb,noff+k,none⟩) hnb).trans hnc;clear hb5)
   obtain ⟨W5,rfl⟩:∃ W5:World,W5=w5:=⟨_,rfl⟩
   have hnb5:nb<W5.heap.size:=Qv _ _ hnc5
   have HNc5:=Qq hnc5;have HD4:=Qq (Qe d0 (Qe d1 (Qe d2 (Qe d3 d4))))
   clear hnc hnc5 d0 d1 d2 d3 d4
   go_loopw [8] (fun i wr2=>∃ j:Nat,j≤k∧i=.int .i64 j∧Aside (∀ (i:Nat) (y:Bs),i<j→names[i]?=some y→(y==nm)=false)∧Aside (Below W5.heap.size W5 wr2)) (fun i _=>k - (intOf i).toNat)
   case atStart=>exact ⟨0,Q8 _,rfl,fun i y hi=>absurd hi (Nat.not_lt_zero _),Qz _ _⟩
   obtain ⟨j,hj,rfl,A,hBi⟩:=hrel
   have HBi:=Qq (show Below W5.heap.size W5 wr from hBi)
   have HB9:=Qq (HB5.out.thn HBi.out)
   clear hBi
   have hnc:=(HBi.out.cell (p:=⟨nb,noff+k,none⟩) hnb5).trans HNc5.out
   by_cases hlt2:j<k
   ·have hj1:(0:Int)≤(j:Int):=by omega
    have hj2:(j:Int)<(n:Int):=by omega
    have hj3:(j:Int)<(k:Int):=by omega
    obtain ⟨y,hy⟩:∃ y,names[j]?=some y:=⟨_,Qx (by rw [HN.out];omega)⟩
    obtain ⟨nb',noff',he,hyc,-⟩:=(HNs.out.below (HB.out.thn HB9.out)).str hy
    obtain ⟨rfl,rfl,-⟩:nb=nb'∧noff=noff'∧True:=by simpa using he
    have HY:=Qq hy
    clear hy he
    by_cases heq:y=nm
    ·have hq:(y==nm)=true:=by rw [heq];simp
     have HEq:=Qq heq
     have hZ9:=kB HB9.out HZ.out
     have HZ9:=Qq hZ9
     clear heq
     go_upto_region 12 with fail
     go_quiet (fail)
     clear hq hyc hnc
     have hZq:(wr.drewN nq).heap[w.heap.size]?=some (.cells zV 44 (0,0)):=hZ9
     have HZq:=Qq hZq
     obtain ⟨z0,z1,z2,z3,z4⟩:=row5 hZq
     obtain ⟨f0,f1,f2,f3,f4⟩:=frz5 hZq
     clear hZ9 hZq
     go_wp2_with fail
     show bodyPost _ _ _ _ _ (Zz (wr.drewN nq) w.heap.size (.int .i64 0) (.int .i64 0) (.string ⟨#[]⟩) (.slice none 0 0) (.slice none 0 0))
     refine Q7 (v:=.tuple #[.agg zV,.int .i64 8]) (by simp [results,results72,go_sem,Qm HZq.out]) rfl ⟨Qo ((HB.out.thn HB9.out).thn (Zy _ _)) (Q9 _),.inl ⟨8,by decide,rfl,fun h=>h.2 j k nm (by omega) (by rw [← HEq.out];exact HY.out) HNm.out⟩⟩
    have hq:(y==nm)=false:=by rw [← Bool.not_eq_true,beq_iff_eq];exact heq
    have HQ:=Qq hq
    clear heq
    go_wp2_with fail
    go_quiet (fail)
    go_wp2_with fail
    go_roundw
    case measure=>simp [intOf];omega
    case rel=>
     refine ⟨j+1,by omega,by go_num,(show Aside _ from fun i z hi hz=>?_),HBi.out.thn (Zy _ _)⟩
     by_cases e:i=j
     ·subst e
      have:=HY.out
      rw [this] at hz
      cases hz
      exact HQ.out
     exact A.out i z (by omega) hz
   have hjk:j=k:=by omega
   subst hjk
   have hd:=HMk.out.below HB9.out
   have hXr:=kE HB9.out hXl HX.out
   obtain ⟨c0,c1,c2,c3,c4⟩:=row5 hXr
   obtain ⟨f0,f1,f2,f3,f4⟩:=frz5 hXr
   obtain ⟨d0',d1',d2',d3',d4'⟩:=HD4.out
   have d0:=(HB9.out.cell (p:=⟨vb,voff+j*5,none⟩) hvb).trans d0';have d1:=(HB9.out.cell (p:=⟨vb,voff+j*5+1,none⟩) hvb).trans d1';have d2:=(HB9.out.cell (p:=⟨vb,voff+j*5+2,none⟩) hvb).trans d2';have d3:=(HB9.out.cell (p:=⟨vb,voff+j*5+3,none⟩) hvb).trans d3';have d4:=(HB9.out.cell (p:=⟨vb,voff+j*5+4,none⟩) hvb).trans d4'
   have HIn:=Qq (fun W (hb:Below wr.heap.size wr W)=>rins_any (fun b=>(S b∧b<w.heap.size)∨w.heap.size+2≤b) (U0 (Yx ((names.zip vals).take j)).1 (Yx ((names.zip vals).take j)).2) x nm p3 k3 p4 k4 [.int .i64 x.kind,.int .i64 x.n,.string ⟨x.s.toArray⟩,.slice q3 x.names.length l3,.slice q4 x.kids.length l4] W (HVu.out.move (.of_below (HB9.out.thn hb)) (fun _ _ h=>h)) (HVx.out.move (.of_below (HB9.out.thn hb)) (fun b _ h=>.inl h)) (by have:=(Xl ((names.zip vals).take j)).1;rw [HZl.out] at this;show (Yx ((names.zip vals).take j)).1.length≤k3;omega) (by have:=(Xl ((names.zip vals).take j)).2;rw [HZl.out] at this;show (Yx ((names.zip vals).take j)).2.length≤k4;omega)
    (by have h1:=(Xl ((names.zip vals).take j)).1;have h2:=(Xl ((names.zip vals).take j)).2;show (Yx ((names.zip vals).take j)).1.length=(Yx ((names.zip vals).take j)).2.length;omega) (by have:=(Xl ((names.zip vals).take j)).1;rw [HZl.out] at this;show (Yx ((names.zip vals).take j)).1.length≤1000;omega) hnml)
   rw [Ff,HZl.out] at HIn
   unfold sv at HIn
   have HMd:=Qq hd;have HXr:=Qq hXr
   have hlt3:w.heap.size+1<wr.heap.size:=Qf hXr
   clear hd hXr d0' d1' d2' d3' d4'
   have hj2:(j:Int)<(n:Int):=by omega
   have hj3:¬ (j:Int)<(j:Int):=by omega
   go_upto_region 14 with fail
   go_region_with (go_at_call 116;refine (HIn.out _ (Qz _ _).drew).mono ?_;rintro e w7 ⟨r3,m3,r4,m4,rfl,hk3,hk4,hv7,hb7⟩;have hn7:=HMd.out.next ((Qz _ wr).drew.thn hb7) hk3 hk4 hv7;rw [HZl.out] at hn7;obtain ⟨hcs7,hm7⟩:=hn7;rw [hcs7];have HM7:=Qq hm7;have g0:=((Qz _ wr).drew.thn hb7).frozen (p:=⟨w.heap.size+1,0,none⟩) hlt3 |>.trans f0;have g1:=((Qz _ wr).drew.thn hb7).frozen (p:=⟨w.heap.size+1,1,none⟩) hlt3 |>.trans f1;have g2:=((Qz _ wr).drew.thn hb7).frozen (p:=⟨w.heap.size+1,2,none⟩) hlt3 |>.trans f2;have g3:=((Qz _ wr).drew.thn hb7).frozen (p:=⟨w.heap.size+1,3,none⟩) hlt3 |>.trans f3;have g4:=((Qz _ wr).drew.thn hb7).frozen (p:=⟨w.heap.size+1,4,none⟩) hlt3 |>.trans f4;have e0:=((Qz _ wr).drew.thn hb7).cell (p:=⟨w.heap.size+1,0,none⟩) hlt3 |>.trans c0;have e1:=((Qz _ wr).drew.thn hb7).cell (p:=⟨w.heap.size+1,1,none⟩) hlt3 |>.trans c1;have e2:=((Qz _ wr).drew.thn hb7).cell (p:=⟨w.heap.size+1,2,none⟩) hlt3 |>.trans c2;have e3:=((Qz _ wr).drew.thn hb7).cell (p:=⟨w.heap.size+1,3,none⟩) hlt3 |>.trans c3;have e4:=((Qz _ wr).drew.thn hb7).cell (p:=⟨w.heap.size+1,4,none⟩) hlt3 |>.trans c4;clear hk3 hk4 hv7 hb7 hm7 hcs7)
   all_goals
    go_wp2_with fail
    go_roundw
    case measure=>simp [intOf];omega
    case rel=>
     refine ⟨j+1,by omega,by go_num,(show Aside _ from ?_),(show Aside _ from fun i j' z hj' hi h1 h2=>?_)⟩
     ·have:(names.zip vals).take (j+1)=(names.zip vals).take j++[(nm,x)]:=by
       have hjl:j<(names.zip vals).length:=by rw [List.length_zip,HN.out,HM.out];omega
       rw [List.take_succ_eq_append_getElem hjl,List.getElem_zip]
       obtain ⟨_,e1⟩:=Qj HNm.out
       obtain ⟨_,e2⟩:=Qj HXx.out
       rw [e1,e2]
      show Ue S w _ _
      rw [this];exact HM7.out
     by_cases e:j'=j
     ·subst e
      rw [HNm.out] at h2
      cases h2
      have:=A.out i _ hi h1
      simp at this
     exact HD.out i j' z (by omega) hi h1 h2
  have hkn:k=n:=by omega
  subst hkn
  have hz:(names.zip vals).take k=names.zip vals:=List.take_of_length_le (by rw [List.length_zip,HN.out,HM.out];omega)
  rw [hz] at HVu
  have hzl2:(names.zip vals).length=k:=by rw [List.length_zip,HN.out,HM.out];omega
  have hc:=Ff (names.zip vals) p3 k3 p4 k4
  rw [hzl2] at hc
  have HC:=Qq hc
  obtain ⟨c0,c1,c2,c3,c4⟩:=row5 HX.out
  obtain ⟨z0,z1,z2,z3,z4⟩:=row5 HZ.out
  obtain ⟨f0,f1,f2,f3,f4⟩:=frz5 HZ.out
  clear hz hzl2 hc hlt
  go_wp2_with fail
  show bodyPost _ _ _ _ _ (Zz wr w.heap.size (.int .i64 4) (.int .i64 0) (.string ⟨#[]⟩) (.slice p3 k k3) (.slice p4 k k4))
  refine Q7 (v:=.tuple #[.agg #[.int .i64 4,.int .i64 0,.string ⟨#[]⟩,.slice p3 k k3,.slice p4 k k4],.int .i64 0]) (by simp [results,results72,go_sem,Qm HZ.out]) rfl ⟨Qo HB.out (Q9 _),.inr ⟨p3,k3,p4,k4,HLen.out,by rw [HC.out],by rw [HN.out];exact h3,by rw [HN.out];exact h4,?_⟩⟩
  refine HVu.out.move (fun b hS _=>Qu ?_) (fun b _ hS=>?_)
  ·rcases hS with h | h <;> omega
  rcases hS with h | h
  ·exact .inl h.1
  exact .inr (by omega)
 have hq:((names.length:Int) != (vals.length:Int))=true:=by rw [bne_iff_ne];omega
 have HLen:=Qq hlen
 clear hlen
 go_enter func72,ntmps72
 go_wp2_with fail
 exact Q7 (v:=.tuple #[.agg zV,.int .i64 1]) (by simp [results,results72,go_sem]) rfl ⟨Qn _ _,.inl ⟨1,by decide,rfl,fun h=>HLen.out h.1⟩⟩
end Go.Proofs.YtppbaladeefnkaaGreatDoor
