import Derived.Test.YtppbaladeefnkaaGreatDoorV37
set_option maxRecDepth 100000
set_option maxHeartbeats 400000000
namespace Go.Proofs.YtppbaladeefnkaaGreatDoor
open Go.RowKit Go.Shelf Go.Lib Tryz
def Ey:Px (Us.P4):=by
 apply Px.mk
 case all=>
  intro HP1
  intro S0 S1 s l w up uc _ tp tc lp lc _ HU HTO HRO HSO n HLL HL HNm hl1 HSc HT HN HNl W1 HB1 HX1 HZ1 hlt w5 HB5 _ _ u30 u31 u32 u33 u34 u35 u36 u37 u38 u39 u40 u41 u42 u43 u44 u45 u46 u47 u48 k hkk HBr HWr _ _ _ _ _ u8 u9 u49 u50 u51 u52 u53 u54 u55 u56 u57 u58 u59 u60 u61 u62 u63 u64 u65 u66 u67 u68 u69 u70 u71 u72 u73 u74 u75 u76 u77 u78 u79 u80 u81 u82 u83 u84 u85 u86 u87 u88 u89 u90 u91 u92 u93 u94 u95 u96 u97 _ _ _ _ _ _ _ _ _ u11 u12 u13 u98 u99 u100 u101 u102 u103 u104 u105 u106 u107 u108 u109 u110 u111 u112 u113 u114 u115 u116 u117 u118 u119 u120 u121 u122 u123 u124 u125 u126 u127 u128 u129 u130 u131 u132 u133 u134 u135 u136 u137 u138 u139 u140 u141 u142 u143 u144 u145 u146 u147 u148 u149 u150 u151 u152 u153 u154 u155 u156 u157 u158 u159 u160 u161 u162 u163 u164 u165 u166 u167 u168 u169 u170 u171 u172 u173 u174 u175 u176 u177 _ _ _ _ _ _ _ _ _ wr u15 u16 u17 u18 u19 u20 u178 u179 u180 u181 u182 u183 u184 u185 u186 u187 u188 u189 u190 u191 u192 u193 u194 u195 u196 u197 u198 u199 u200 u201 u202 u203 u204 u205 u206 u207 u208 u209 u210 u211 u212 u213 u214 u215 u216 u217 u218 u219 u220 u221 u222 u223 u224 u225 u226 u227 u228 u229 u230 u231 u232 u233 u234 u235 u236 u237 u238 u239 u240 u241 u242 u243 u244 u245 u246 u247 u248 u249 u250 u251 u252 u253 u254 u255 u256 u257 u258 u259 u260 u261 u262 u263 u264 i hki HBo HWo c1 hlt2
  have hli:i<l.length:=by rw [HNl.out];exact hlt2
  have hi1i:(0:Int)≤(i:Int):=by omega
  have hi2i:(i:Int)<(n:Int):=by omega
  obtain ⟨r,hr⟩:∃ r,l[i]?=some r:=⟨_,Qx (by rw [HNl.out];assumption)⟩
  obtain ⟨lb,loff,rcs,hlp,hlb,_,_,⟨rv,hrcs,_,hrv⟩,hrc⟩:=HL.out.elem hr
  subst hlp;subst hrcs
  obtain ⟨q,qc,hrvq,hml⟩:=hrv.len
  obtain ⟨m,hm⟩:=eX (r.rows.length)
  rw [hm] at hrvq hml
  subst hrvq
  have HRv:=Qq hrv;have HM:=Qq hm;have HRr:=Qq (HRO.out r (Qy hr))
  have HRC:=hT2 (o:=loff+i*2) (x0:=.string ⟨r.table.toArray⟩) hlb hrc
  have hlbw:lb<w.heap.size:=hlb
  clear hr hrc hrv hm hlb
  obtain ⟨t,ht⟩:∃ t,s.tables[i]?=some t:=⟨_,Qx (by rw [HN.out];assumption)⟩
  obtain ⟨tb,toff,tcs',htp,htb,_,_,hTR,htc⟩:=HT.out.elem ht
  subst htp
  obtain ⟨cp9,cc9,kp9,kc9,rp9,rc9,k9,s19,n9,s29,p19,n19,c19,p29,n29,c29,p39,n39,c39,a9,z9,hcs,htn,hcol,hkey,href,hchk⟩:=Zk hTR
  simp only [tcs] at hcs
  subst hcs
  have HTR:=Qq hTR;have HTo:=Qq (HTO.out t (Qy ht));have HRf:=Qq href
  have HTC:=hT13 (o:=toff+i*13) htb htc
  have htbw:tb<w.heap.size:=htb
  clear ht hTR htc htn hcol hkey href hchk htb
  go_upto_region 34 with fail
  clear c1
  obtain ⟨mr,hmr⟩:=eX (t.refs.length)
  have HMr:=Qq hmr
  have hmr9:mr≤1000000:=by obtain ⟨_,_,_,h⟩:=HRf.out.len;rw [← hmr];exact h
  clear hmr
  go_loopw [15,16,17,18,19,20] (fun t15 _ _ _ _ _ wr=>∃ k:Nat,k≤mr∧t15=.int .i64 k∧Aside (Below W1.heap.size W1 wr)) (fun t15 _ _ _ _ _ _=>mr - (intOf t15).toNat)
  case atStart=>exact ⟨0,Q8 _,rfl,HBo.out⟩
  obtain ⟨a,hka,rfl,hBp⟩:=hrel
  have HBp:=Qq (show Below W1.heap.size W1 wr from hBp)
  have HWp:=Qq (HB1.out.thn HBp.out)
  clear hBp
  have hXwr:=kB HBp.out HX1.out
  have c1:=rA1 hXwr
  clear hXwr
  obtain ⟨g0,g1,g2,g3,g4,g5,g6,g7,g8,g9,g10,g11,g12⟩:=HTC.out wr HWp.out
  rw [HMr.out] at g3
  by_cases hlt3:a<mr
  ·have ha1:(0:Int)≤(a:Int):=by omega
   have ha2:(a:Int)<(mr:Int):=by omega
   obtain ⟨f,hf⟩:∃ f,t.refs[a]?=some f:=⟨_,Qx (by rw [HMr.out];exact hlt3)⟩
   have HRf2:=HRf.out
   rw [HMr.out] at HRf2
   obtain ⟨fb,foff,fcs,hfp,hfb,_,_,⟨hfcs,hfl1,hfl2⟩,hfd⟩:=HRf2.elem hf
   subst hfp;subst hfcs
   have HFc:=Qq (fun W (h:Below w.heap.size w W)=>Qe (show W.cell? ⟨fb,foff+a*2,none⟩=some (.string ⟨f.column.toArray⟩) from kD h hfb (hfd 0 _ rfl)) (show W.cell? ⟨fb,foff+a*2+1,none⟩=some (.string ⟨f.table.toArray⟩) from kD h hfb (hfd 1 _ rfl)))
   have hfbw:fb<w.heap.size:=hfb
   clear hf hfd hfb HRf2
   go_upto_region 37 with fail
   clear c1 g0 g1 g2 g3 g4 g5 g6 g7 g8 g9 g10 g11 g12
   go_loopw [16,17,18,19,20] (fun t16 _ _ _ _ wr=>∃ k:Nat,k≤m∧t16=.int .i64 k∧Aside (Below W1.heap.size W1 wr)) (fun t16 _ _ _ _ _=>m - (intOf t16).toNat)
   case atStart=>exact ⟨0,Q8 _,rfl,HBp.out⟩
   obtain ⟨k,hkk,rfl,hBr⟩:=hrel
   have HBr:=Qq (show Below W1.heap.size W1 wr from hBr)
   have HWr:=Qq (HB1.out.thn HBr.out)
   clear hBr
   obtain ⟨e0,e1⟩:=HRC.out wr HWr.out
   by_cases hlt4:k<m
   ·rename_i j0 j1 j2 j3 j4 j5 j6 j7 j8 j9 j10 j11 j12 j13 j14 j15 j16 j17 j18 j19 j20 j21 j22 j23 j24 j25 j26 j27 j28 j29 j30 j31 j32 j33 j34 j35 j36 j37 j38 j39 j40 j41 j42 j43 j44 j45 j46 j47 j48 j49 j50 j51 j52 j53 j54 j55 j56 j57 j58 j59 j60 j61 j62 j63 j64 j65 j66 j67 j68 j69 j70 j71 j72 j73 j74 j75 j76 j77 j78 j79 j80 j81 j82 j83 j84 j85 j86 j87 j88 j89 j90 j91 j92 j93 j94 j95 j96 j97 j98 j99 j100 j101 j102 j103 j104 j105 j106 j107 j108 j109 j110 j111 j112 j113 j114 j115 j116 j117 j118 j119 j120 j121 j122 j123 j124 j125 j126 j127 j128 j129 j130 j131 j132 j133 j134 j135 j136 j137 j138 j139 j140 j141 j142 j143 j144 j145 j146 j147 j148 j149 j150 j151 j152 j153 j154 j155 j156 j157 j158 j159 j160 j161 j162 j163 j164 j165 j166 j167 j168 j169 j170 j171 j172 j173 j174 j175 j176 j177 j178 j179 j180 j181 j182 j183 j184 j185 j186 j187 j188 j189 j190 j191 j192 j193 j194 j195 j196 j197 j198 j199 j200 j201 j202 j203 j204 j205;revert S0 S1 s l w up uc j0 tc lc j1 n W1 w5 j2 j3 u30 u31 u32 u33 u34 u35 u36 u37 u38 u39 u40 u41 u42 u43 u44 u45 u46 u47 u48 j4 j5 j6 j7 j8 j9 j10 u8 u9 u49 u50 u51 u52 u53 u54 u55 u56 u57 u58 u59 u60 u61 u62 u63 u64 u65 u66 u67 u68 u69 u70 u71 u72 u73 u74 u75 u76 u77 u78 u79 u80 u81 u82 u83 u84 u85 u86 u87 u88 u89 u90 u91 u92 u93 u94 u95 u96 u97 j11 j12 j13 j14 j15 j16 j17 u11 u12 u13 u98 u99 u100 u101 u102 u103 u104 u105 u106 u107 u108 u109 u110 u111 u112 u113 u114 u115 u116 u117 u118 u119 u120 u121 u122 u123 u124 u125 u126 u127 u128 u129 u130 u131 u132 u133 u134 u135 u136 u137 u138 u139 u140 u141 u142 u143 u144 u145 u146 u147 u148 u149 u150 u151 u152 u153 u154 u155 u156 u157 u158 u159 u160 u161 u162 u163 u164 u165 u166 u167 u168 u169 u170 u171 u172 u173 u174 u175 u176 u177 j18 j19 j20 j21 j22 j23 j24 j25 u15 j26 j27 j28 j29 j30 u178 u179 u180 u181 u182 u183 j31 j32 j33 j34 j35 j36 j37 j38 j39 j40 j41 j42 j43 j44 j45 j46 j47 j48 j49 j50 j51 j52 j53 j54 j55 j56 j57 j58 j59 j60 j61 j62 j63 j64 j65 j66 j67 j68 j69 j70 j71 j72 j73 j74 j75 j76 j77 j78 j79 j80 j81 j82 j83 j84 j85 j86 j87 j88 j89 j90 j91 j92 j93 j94 j95 j96 j97 j98 j99 j100 j101 j102 j103 j104 j105 j106 j107 j108 j109 j110 j111 i r lb loff j112 j113 q qc m j114 t tb toff j115 j116 j117 j118 j119 j120 j121 cp9 cc9 kp9 kc9 rc9 k9 s19 n9 s29 p19 n19 c19 p29 n29 c29 p39 n39 c39 a9 z9 j122 j123 j124 mr j125 u16 j126 j127 j128 j129 u184 u185 u186 u187 u188 u189 u190 u191 u192 u193 u194 j130 j131 j132 j133 j134 j135 j136 j137 j138 j139 j140 j141 j142 j143 j144 j145 j146 j147 j148 j149 j150 j151 j152 j153 j154 j155 j156 j157 j158 j159 j160 j161 j162 j163 j164 j165 j166 j167 j168 j169 j170 j171 j172 j173 j174 j175 j176 j177 j178 j179 j180 j181 j182 j183 j184 j185 j186 j187 j188 j189 j190 j191 j192 j193 j194 j195 j196 j197 j198 j199 a f fb foff j200 j201 j202 j203 j204 j205 wr u17 u18 u19 u20 u195 u196 u197 u198 u199 u200 u201 u202 u203 u204 u205 u206 u207 u208 u209 u210 u211 u212 u213 u214 u215 u216 u217 u218 u219 u220 u221 u222 u223 u224 u225 u226 u227 u228 u229 u230 u231 u232 u233 u234 u235 u236 u237 u238 u239 u240 u241 u242 u243 u244 u245 u246 u247 u248 u249 u250 u251 u252 u253 u254 u255 u256 u257 u258 u259 u260 u261 u262 u263 u264 k e0 e1;exact HP1.out
   have hkm:k=m:=by omega
   have hq:¬ (k:Int)<(m:Int):=by omega
   go_wp2_with fail
   go_roundw
   case measure=>simp [intOf];omega
   case rel=>exact ⟨a+1,by omega,by go_num,HBr.out⟩
  have ham:a=mr:=by omega
  have hq:¬ (a:Int)<(mr:Int):=by omega
  go_wp2_with fail
  go_roundw
  case measure=>simp [intOf];omega
  case rel=>exact ⟨i+1,by omega,by go_num,HBp.out⟩
def Ky:Ot (Ey.P1):=by
 apply Ot.mk
 case all=>
  intro HP1 HP2
  intro S0 S1 s l w up uc _ tc lc _ HU HTO HRO HSO n hl1 HN HNl W1 HB1 HZ1 hlt w5 HB5 _ _ u30 u31 u32 u33 u34 u35 u36 u37 u38 u39 u40 u41 u42 u43 u44 u45 u46 u47 u48 _ _ _ _ _ _ _ u8 u9 u49 u50 u51 u52 u53 u54 u55 u56 u57 u58 u59 u60 u61 u62 u63 u64 u65 u66 u67 u68 u69 u70 u71 u72 u73 u74 u75 u76 u77 u78 u79 u80 u81 u82 u83 u84 u85 u86 u87 u88 u89 u90 u91 u92 u93 u94 u95 u96 u97 _ _ _ _ _ _ _ u11 u12 u13 u98 u99 u100 u101 u102 u103 u104 u105 u106 u107 u108 u109 u110 u111 u112 u113 u114 u115 u116 u117 u118 u119 u120 u121 u122 u123 u124 u125 u126 u127 u128 u129 u130 u131 u132 u133 u134 u135 u136 u137 u138 u139 u140 u141 u142 u143 u144 u145 u146 u147 u148 u149 u150 u151 u152 u153 u154 u155 u156 u157 u158 u159 u160 u161 u162 u163 u164 u165 u166 u167 u168 u169 u170 u171 u172 u173 u174 u175 u176 u177 _ _ _ _ _ _ _ _ u15 _ _ _ _ _ u178 u179 u180 u181 u182 u183 _ _ _ _ _ _ _ _ _ _ _ _ _ _ _ _ _ _ _ _ _ _ _ _ _ _ _ _ _ _ _ _ _ _ _ _ _ _ _ _ _ _ _ _ _ _ _ _ _ _ _ _ _ _ _ _ _ _ _ _ _ _ _ _ _ _ _ _ _ _ _ _ _ _ _ _ _ _ _ _ _ i hki HBo HWo hlt2 hli hi1i hi2i r lb loff _ _ HLL HL q qc m hml _ HRv HM HRr HRC hlbw t tb toff _ HSc HT HX1 HNm _ _ _ _ _ _ cp9 cc9 kp9 kc9 rc9 k9 s19 n9 s29 p19 n19 c19 p29 n29 c29 p39 n39 c39 a9 z9 HTo htbw _ _ _ mr HMr hmr9 _ u16 _ _ _ _ u184 u185 u186 u187 u188 u189 u190 u191 u192 u193 u194 _ _ _ _ _ _ _ _ _ _ _ _ _ _ _ _ _ _ _ _ _ _ _ _ _ _ _ _ _ _ _ _ _ _ _ _ _ _ _ _ _ _ _ _ _ _ _ _ _ _ _ _ _ _ _ _ _ _ _ _ _ _ _ _ _ _ _ _ _ _ a hka HBp HWp hlt3 ha1 ha2 f fb foff _ hfl1 hfl2 _ HTR HRf HTC _ HFc hfbw _ _ _ wr u17 u18 u19 u20 u195 u196 u197 u198 u199 u200 u201 u202 u203 u204 u205 u206 u207 u208 u209 u210 u211 u212 u213 u214 u215 u216 u217 u218 u219 u220 u221 u222 u223 u224 u225 u226 u227 u228 u229 u230 u231 u232 u233 u234 u235 u236 u237 u238 u239 u240 u241 u242 u243 u244 u245 u246 u247 u248 u249 u250 u251 u252 u253 u254 u255 u256 u257 u258 u259 u260 u261 u262 u263 u264 k hkk HBr HWr e0 e1 hlt4
  have hlr:k<r.rows.length:=by rw [HM.out];exact hlt4
  have hi1k:(0:Int)≤(k:Int):=by omega
  have hi2k:(k:Int)<(m:Int):=by omega
  obtain ⟨x,hx⟩:∃ x,r.rows[k]?=some x:=⟨_,Qx (by rw [HM.out];assumption)⟩
  obtain ⟨xb,xoff,xp3,xk3,xp4,xk4,hqx,hxbx,hvx,d0,d1,d2,d3,d4⟩:=HRv.out.val hx
  subst hqx
  have hxbw:xb<w.heap.size:=hxbx
  have HVx:=Qq hvx;have HOx:=Qq (HRr.out x (Qy hx))
  have HCx:=Qq (fun W (h:Below w.heap.size w W)=>(Qe (show W.cell? ⟨xb,xoff+k*5,none⟩=some (.int .i64 x.kind) from kD h hxbx d0) (Qe (show W.cell? ⟨xb,xoff+k*5+1,none⟩=some (.int .i64 x.n) from kD h hxbx d1) (Qe (show W.cell? ⟨xb,xoff+k*5+2,none⟩=some (.string ⟨x.s.toArray⟩) from kD h hxbx d2) (Qe (show W.cell? ⟨xb,xoff+k*5+3,none⟩=some (.slice xp3 x.names.length xk3) from kD h hxbx d3) (show W.cell? ⟨xb,xoff+k*5+4,none⟩=some (.slice xp4 x.kids.length xk4) from kD h hxbx d4))))))
  clear hx hvx hxbx d0 d1 d2 d3 d4
  obtain ⟨x0,x1,x2,x3,x4⟩:=HCx.out wr HWr.out
  obtain ⟨g0,g1,g2,g3,g4,g5,g6,g7,g8,g9,g10,g11,g12⟩:=HTC.out wr HWr.out
  rw [HMr.out] at g3
  have hXwr:=kB HBr.out HX1.out
  obtain ⟨c0,c1⟩:=row2 hXwr
  clear hXwr
  obtain ⟨q0,q1⟩:=HFc.out wr HWr.out
  obtain ⟨u,hu⟩:=eX ((Y1 x f.column).getD Val.zero)
  obtain ⟨b,hb⟩:=eX ((Y1 x f.column).isSome)
  have HU2:=Qq hu;have HBb:=Qq hb
  clear hu hb
  go_upto_region 39 with fail
  have HS:∀ w',Below wr.heap.size wr w'→(fun w'=>w'.cell? ⟨w.heap.size,1,none⟩=some (.slice (some ⟨tb,toff,none⟩) n tc)∧w'.cell? ⟨lb,loff+i*2+1,none⟩=some (.slice (some ⟨xb,xoff,none⟩) m qc)∧w'.cell? ⟨xb,xoff+k*5,none⟩=some (.int .i64 x.kind)∧w'.cell? ⟨xb,xoff+k*5+1,none⟩=some (.int .i64 x.n)∧w'.cell? ⟨xb,xoff+k*5+2,none⟩=some (.string ⟨x.s.toArray⟩)∧w'.cell? ⟨xb,xoff+k*5+3,none⟩=some (.slice xp3 x.names.length xk3)∧w'.cell? ⟨xb,xoff+k*5+4,none⟩=some (.slice xp4 x.kids.length xk4)∧w'.cell? ⟨tb,toff+i*13+3,none⟩=some (.slice (some ⟨fb,foff,none⟩) mr rc9)∧w'.cell? ⟨fb,foff+a*2,none⟩=some (.string ⟨f.column.toArray⟩)∧Below wr.heap.size wr w') w':=by
   intro w' h
   have hh:∀ {b j:Nat} {u:Value},wr.cell? ⟨b,j,none⟩=some u→w'.cell? ⟨b,j,none⟩=some u:=fun hc=>kC h hc
   exact ⟨hh c1,hh e1,hh x0,hh x1,hh x2,hh x3,hh x4,hh g3,hh q0,h⟩
  obtain ⟨HS0,HSr,HD',HSB',HA',HSq⟩:=X5 HS (fun w' h=>h.2.2.2.2.2.2.2.2.2)
  have HP:=fun w' x0 x1 x2 x3 x4 h=>HSq.out (Zz w' wr.heap.size x0 x1 x2 x3 x4) (Qo (HSB'.out w' h) (Q9 _))
  unfold Zz at HP
  have HP':=Qq HP
  clear HS HP c1 e1 x0 x1 x2 x3 x4 g3 q0
  have HGc:=Qq (fun W' (h':Below wr.heap.size wr W')=>(Fo _ x _ f.column W' (HVx.out.move (.of_below (HWr.out.thn h')) (fun _ _ h=>h))).mono (R':=fun e w2=>∃ u3 m3 u4 m4,e=.returned (.tuple #[.agg #[.int .i64 u.kind,.int .i64 u.n,.string ⟨u.s.toArray⟩,.slice u3 u.names.length m3,.slice u4 u.kids.length m4],.bool b])∧Qh (fun b=>S1 b∧b<w.heap.size) w2 (vcs u u3 m3 u4 m4) u∧Below W'.heap.size W' w2∧Below wr.heap.size wr w2) (by
   rintro e w2 ⟨cs',rfl,h3,h4⟩
   rw [HU2.out] at h3
   rw [HBb.out]
   obtain ⟨u3,m3,u4,m4,hcs,_⟩:=Qh.cells h3
   subst hcs
   exact ⟨u3,m3,u4,m4,rfl,h3,h4,h'.thn h4⟩))
  unfold sv vcs at HGc
  go_cut [17,18] from 195 to 264 (fun t17 t18 wx=>GotMid (fun b=>S1 b∧b<w.heap.size) wr u b t17 t18 wx)
  case first=>
   rename_i j0 j1 j2 j3 j4 j5 j6 j7 j8 j9 j10 j11 j12 j13 j14 j15 j16 j17 j18 j19 j20 j21 j22 j23 j24 j25 j26 j27 j28 j29 j30 j31 j32 j33 j34 j35 j36 j37 j38 j39 j40 j41 j42 j43 j44 j45 j46 j47 j48 j49 j50 j51 j52 j53 j54 j55 j56 j57 j58 j59 j60 j61 j62 j63 j64 j65 j66 j67 j68 j69 j70 j71 j72 j73 j74 j75 j76 j77 j78 j79 j80 j81 j82 j83 j84 j85 j86 j87 j88 j89 j90 j91 j92 j93 j94 j95 j96 j97 j98 j99 j100 j101 j102 j103 j104 j105 j106 j107 j108 j109 j110 j111 j112 j113 j114 j115 j116 j117 j118 j119 j120 j121 j122 j123 j124 j125 j126 j127 j128 j129 j130 j131 j132 j133 j134 j135 j136 j137 j138 j139 j140 j141 j142 j143 j144 j145 j146 j147 j148 j149 j150 j151 j152 j153 j154 j155 j156 j157 j158 j159 j160 j161 j162 j163 j164 j165 j166 j167 j168 j169 j170 j171 j172 j173 j174 j175 j176 j177 j178 j179 j180 j181 j182 j183 j184 j185 j186 j187 j188 j189 j190 j191 j192 j193 j194 j195 j196 j197 j198 j199 j200 j201 j202 j203 j204 j205 j206 j207 j208 j209 j210 j211 j212 j213 j214;revert S0 S1 s l w up uc j0 tc lc j1 n W1 w5 j2 j3 u30 u31 u32 u33 u34 u35 u36 u37 u38 u39 u40 u41 u42 u43 u44 u45 u46 u47 u48 j4 j5 j6 j7 j8 j9 j10 u8 u9 u49 u50 u51 u52 u53 u54 u55 u56 u57 u58 u59 u60 u61 u62 u63 u64 u65 u66 u67 u68 u69 u70 u71 u72 u73 u74 u75 u76 u77 u78 u79 u80 u81 u82 u83 u84 u85 u86 u87 u88 u89 u90 u91 u92 u93 u94 u95 u96 u97 j11 j12 j13 j14 j15 j16 j17 u11 u12 u13 u98 u99 u100 u101 u102 u103 u104 u105 u106 u107 u108 u109 u110 u111 u112 u113 u114 u115 u116 u117 u118 u119 u120 u121 u122 u123 u124 u125 u126 u127 u128 u129 u130 u131 u132 u133 u134 u135 u136 u137 u138 u139 u140 u141 u142 u143 u144 u145 u146 u147 u148 u149 u150 u151 u152 u153 u154 u155 u156 u157 u158 u159 u160 u161 u162 u163 u164 u165 u166 u167 u168 u169 u170 u171 u172 u173 u174 u175 u176 u177 j18 j19 j20 j21 j22 j23 j24 j25 u15 j26 j27 j28 j29 j30 u178 u179 u180 u181 u182 u183 j31 j32 j33 j34 j35 j36 j37 j38 j39 j40 j41 j42 j43 j44 j45 j46 j47 j48 j49 j50 j51 j52 j53 j54 j55 j56 j57 j58 j59 j60 j61 j62 j63 j64 j65 j66 j67 j68 j69 j70 j71 j72 j73 j74 j75 j76 j77 j78 j79 j80 j81 j82 j83 j84 j85 j86 j87 j88 j89 j90 j91 j92 j93 j94 j95 j96 j97 j98 j99 j100 j101 j102 j103 j104 j105 j106 j107 j108 j109 j110 j111 i r lb loff j112 j113 qc m t tb toff j114 j115 j116 j117 j118 j119 j120 cp9 cc9 kp9 kc9 rc9 k9 s19 n9 s29 p19 n19 c19 p29 n29 c29 p39 n39 c39 a9 z9 j121 j122 j123 mr j124 u16 j125 j126 j127 j128 u184 u185 u186 u187 u188 u189 u190 u191 u192 u193 u194 j129 j130 j131 j132 j133 j134 j135 j136 j137 j138 j139 j140 j141 j142 j143 j144 j145 j146 j147 j148 j149 j150 j151 j152 j153 j154 j155 j156 j157 j158 j159 j160 j161 j162 j163 j164 j165 j166 j167 j168 j169 j170 j171 j172 j173 j174 j175 j176 j177 j178 j179 j180 j181 j182 j183 j184 j185 j186 j187 j188 j189 j190 j191 j192 j193 j194 j195 j196 j197 j198 a f fb foff j199 j200 j201 j202 j203 j204 wr u17 u18 u19 u20 u195 u196 u197 u198 u199 u200 u201 u202 u203 u204 u205 u206 u207 u208 u209 u210 u211 u212 u213 u214 u215 u216 u217 u218 u219 u220 u221 u222 u223 u224 u225 u226 u227 u228 u229 u230 u231 u232 u233 u234 u235 u236 u237 u238 u239 u240 u241 u242 u243 u244 u245 u246 u247 u248 u249 u250 u251 u252 u253 u254 u255 u256 u257 u258 u259 u260 u261 u262 u263 u264 k e0 x xb xoff xp3 xk3 xp4 xk4 j205 g0 g1 g2 g4 g5 g6 g7 g8 g9 g10 g11 g12 c0 q1 u b j206 j207 j208 j209 j210 j211 j212 j213 j214;exact HP1.out
  obtain ⟨G,u3,m3,u4,m4,rfl,rfl,hG,hvu,hbc,hGl⟩:=hcut
  have HG:=Qq hG;have HVu:=Qq hvu;have HBc:=Qq (HBr.out.thn hbc);have HWc:=Qq (HWr.out.thn hbc)
  clear hG hvu hbc HGc
  clear HS0 HSr HD' HSB' HA' HP' HSq
  obtain ⟨w6,rfl⟩:∃ w6,w6=wc:=⟨_,rfl⟩
  have hk:=HG.out
  have hGw:=Qf hk
  obtain ⟨k0,k1,k2,k3,k4⟩:=row5 hk
  clear hk
  have hXw6:=kB HBc.out HX1.out
  obtain ⟨c0,c1⟩:=row2 hXw6
  clear hXw6
  obtain ⟨q0,q1⟩:=HFc.out w6 HWc.out
  obtain ⟨g0,g1,g2,g3,g4,g5,g6,g7,g8,g9,g10,g11,g12⟩:=HTC.out w6 HWc.out
  rw [HMr.out] at g3
  clear q0 g0 g1 g2 g4 g5 g6 g7 g8 g9 g10 g11 g12
  go_upto_region 40 with fail
  have HS:∀ w',Below w6.heap.size w6 w'→(fun w'=>w'.cell? ⟨w.heap.size,0,none⟩=some (.slice up s.sums.length uc)∧w'.cell? ⟨w.heap.size,1,none⟩=some (.slice (some ⟨tb,toff,none⟩) n tc)∧w'.cell? ⟨tb,toff+i*13+3,none⟩=some (.slice (some ⟨fb,foff,none⟩) mr rc9)∧w'.cell? ⟨fb,foff+a*2+1,none⟩=some (.string ⟨f.table.toArray⟩)∧w'.cell? ⟨G,0,none⟩=some (.int .i64 u.kind)∧w'.cell? ⟨G,1,none⟩=some (.int .i64 u.n)∧w'.cell? ⟨G,2,none⟩=some (.string ⟨u.s.toArray⟩)∧w'.cell? ⟨G,3,none⟩=some (.slice u3 u.names.length m3)∧w'.cell? ⟨G,4,none⟩=some (.slice u4 u.kids.length m4)∧Below w6.heap.size w6 w') w':=by
   intro w' h
   have hh:∀ {b j:Nat} {u:Value},w6.cell? ⟨b,j,none⟩=some u→w'.cell? ⟨b,j,none⟩=some u:=fun hc=>kC h hc
   exact ⟨hh c0,hh c1,hh g3,hh q1,hh k0,hh k1,hh k2,hh k3,hh k4,h⟩
  obtain ⟨HS0,HSr,HD',HSB',HA',HSq⟩:=X5 HS (fun w' h=>h.2.2.2.2.2.2.2.2.2)
  have HP:=fun w' x0 x1 x2 x3 x4 h=>HSq.out (Zz w' w6.heap.size x0 x1 x2 x3 x4) (Qo (HSB'.out w' h) (Q9 _))
  unfold Zz at HP
  have HP':=Qq HP
  clear HS HP c0 c1 g3 q1 k0 k1 k2 k3 k4
  have hp2:=fun w' x0 x1 x2 x3 x4 h=>HSq.out (Zz w' (w6.heap.size+1) x0 x1 x2 x3 x4) (Qo (HSB'.out _ h) (Nat.le_succ _))
  unfold Zz at hp2
  have HP2:=Qq hp2
  clear hp2
  have HKey:=Qq (fun W' N (hW:Below w6.heap.size w6 W') (hN:W'.heap[N]?=some (.cells #[.int .i64 u.kind,.int .i64 u.n,.string ⟨u.s.toArray⟩,.slice u3 u.names.length m3,.slice u4 u.kids.length m4] 44 (0,0)))=>(show Sl Ql (fun _=>True) W' (.slice (some ⟨N,0,none⟩) 1 1) [u] from Z4 hN trivial (Cs.one (r:=Ql) (HVu.out.move (.of_below hW) (fun _ _ _=>trivial))) rfl rfl (by simp)))
  have HLk:=Qq (fun W' kv (h':Below w6.heap.size w6 W') (hkv:Sl Ql (fun _=>True) W' kv [u])=>(M0 _ _ _ s [.slice up s.sums.length uc,.slice (some ⟨tb,toff,none⟩) n tc] (.slice (some ⟨lb,loff,none⟩) n lc) l f.table kv [u] W' (HSc.out.below (HWc.out.thn h')) (HLL.out.below (HWc.out.thn h')) hkv (fun t ht=>(HTO.out t ht).key)).mono (R':=fun e w2=>∃ (r0 r1:Int) (r2:ByteArray) (o3:Option Addr) (o4 o5:Nat) (o6:Option Addr) (o7 o8:Nat) (b':Bool),e=.returned (.tuple #[.agg #[.int .i64 r0,.int .i64 r1,.string r2,.slice o3 o4 o5,.slice o6 o7 o8],.bool b'])∧Below W'.heap.size W' w2∧Below w6.heap.size w6 w2) (by
   rintro e w2 ⟨cs',rfl,h3,h4⟩
   obtain ⟨u5,m5,u6,m6,hcs,_⟩:=Qh.cells h3
   subst hcs
   exact ⟨_,_,_,_,_,_,_,_,_,_,rfl,h4,h'.thn h4⟩))
  unfold sv at HLk
  go_cut [20] from 195 to 264 (fun t20 wx=>∃ b',t20=.bool b'∧Below w6.heap.size w6 wx)
  case first=>
   rename_i j0 j1 j2 j3 j4 j5 j6 j7 j8 j9 j10 j11 j12 j13 j14 j15 j16 j17 j18 j19 j20 j21 j22 j23 j24 j25 j26 j27 j28 j29 j30 j31 j32 j33 j34 j35 j36 j37 j38 j39 j40 j41 j42 j43 j44 j45 j46 j47 j48 j49 j50 j51 j52 j53 j54 j55 j56 j57 j58 j59 j60 j61 j62 j63 j64 j65 j66 j67 j68 j69 j70 j71 j72 j73 j74 j75 j76 j77 j78 j79 j80 j81 j82 j83 j84 j85 j86 j87 j88 j89 j90 j91 j92 j93 j94 j95 j96 j97 j98 j99 j100 j101 j102 j103 j104 j105 j106 j107 j108 j109 j110 j111 j112 j113 j114 j115 j116 j117 j118 j119 j120 j121 j122 j123 j124 j125 j126 j127 j128 j129 j130 j131 j132 j133 j134 j135 j136 j137 j138 j139 j140 j141 j142 j143 j144 j145 j146 j147 j148 j149 j150 j151 j152 j153 j154 j155 j156 j157 j158 j159 j160 j161 j162 j163 j164 j165 j166 j167 j168 j169 j170 j171 j172 j173 j174 j175 j176 j177 j178 j179 j180 j181 j182 j183 j184 j185 j186 j187 j188 j189 j190 j191 j192 j193 j194 j195 j196 j197 j198 j199 j200 j201 j202 j203 j204 j205 j206 j207 j208 j209 j210 j211 j212 j213 j214 j215 j216 j217 j218 j219 j220 j221 j222 j223 j224 j225 j226 j227 j228 j229 j230 j231 j232 j233 j234 j235 j236 j237 j238 j239 j240 j241 j242 j243 j244 j245 j246 j247 j248 j249 j250 j251 j252 j253 j254 j255 j256 j257 j258 j259 j260 j261 j262 j263 j264 j265 j266 j267 j268 j269 j270 j271 j272 j273 j274 j275 j276 j277 j278 j279 j280 j281 j282 j283 j284;revert S0 S1 s l w up uc j0 tc lc j1 n W1 w5 j2 j3 u30 u31 u32 u33 u34 u35 u36 u37 u38 u39 u40 u41 u42 u43 u44 u45 u46 u47 u48 j4 j5 j6 j7 j8 j9 j10 u8 u9 u49 u50 u51 u52 u53 u54 u55 u56 u57 u58 u59 u60 u61 u62 u63 u64 u65 u66 u67 u68 u69 u70 u71 u72 u73 u74 u75 u76 u77 u78 u79 u80 u81 u82 u83 u84 u85 u86 u87 u88 u89 u90 u91 u92 u93 u94 u95 u96 u97 j11 j12 j13 j14 j15 j16 j17 u11 u12 u13 u98 u99 u100 u101 u102 u103 u104 u105 u106 u107 u108 u109 u110 u111 u112 u113 u114 u115 u116 u117 u118 u119 u120 u121 u122 u123 u124 u125 u126 u127 u128 u129 u130 u131 u132 u133 u134 u135 u136 u137 u138 u139 u140 u141 u142 u143 u144 u145 u146 u147 u148 u149 u150 u151 u152 u153 u154 u155 u156 u157 u158 u159 u160 u161 u162 u163 u164 u165 u166 u167 u168 u169 u170 u171 u172 u173 u174 u175 u176 u177 j18 j19 j20 j21 j22 j23 j24 j25 u15 j26 j27 j28 j29 j30 u178 u179 u180 u181 u182 u183 j31 j32 j33 j34 j35 j36 j37 j38 j39 j40 j41 j42 j43 j44 j45 j46 j47 j48 j49 j50 j51 j52 j53 j54 j55 j56 j57 j58 j59 j60 j61 j62 j63 j64 j65 j66 j67 j68 j69 j70 j71 j72 j73 j74 j75 j76 j77 j78 j79 j80 j81 j82 j83 j84 j85 j86 j87 j88 j89 j90 j91 j92 j93 j94 j95 j96 j97 j98 j99 j100 j101 j102 j103 j104 j105 j106 j107 j108 j109 j110 j111 i r lb loff j112 j113 qc m t tb toff j114 j115 j116 j117 j118 j119 j120 cp9 cc9 kp9 kc9 rc9 k9 s19 n9 s29 p19 n19 c19 p29 n29 c29 p39 n39 c39 a9 z9 j121 j122 j123 mr j124 u16 j125 j126 j127 j128 u184 u185 u186 u187 u188 u189 u190 u191 u192 u193 u194 j129 j130 j131 j132 j133 j134 j135 j136 j137 j138 j139 j140 j141 j142 j143 j144 j145 j146 j147 j148 j149 j150 j151 j152 j153 j154 j155 j156 j157 j158 j159 j160 j161 j162 j163 j164 j165 j166 j167 j168 j169 j170 j171 j172 j173 j174 j175 j176 j177 j178 j179 j180 j181 j182 j183 j184 j185 j186 j187 j188 j189 j190 j191 j192 j193 j194 j195 j196 j197 j198 a f fb foff j199 j200 j201 j202 j203 j204 wr u17 u18 u19 u20 j205 j206 j207 j208 j209 j210 j211 j212 j213 j214 j215 j216 j217 j218 j219 j220 j221 j222 j223 j224 j225 j226 j227 j228 j229 j230 j231 j232 j233 j234 j235 j236 j237 j238 j239 j240 j241 j242 j243 j244 j245 j246 j247 j248 j249 j250 j251 j252 j253 j254 j255 j256 j257 j258 j259 j260 j261 j262 j263 j264 j265 j266 j267 j268 j269 j270 j271 j272 j273 j274 k e0 x xb xoff xp3 xk3 xp4 xk4 j275 g0 g1 g2 g4 g5 g6 g7 g8 g9 g10 g11 g12 c0 q1 u b j276 j277 j278 u195 u196 u197 u198 u199 u200 u201 u202 u203 u204 u205 u206 u207 u208 u209 u210 u211 u212 u213 u214 u215 u216 u217 u218 u219 u220 u221 u222 u223 u224 u225 u226 u227 u228 u229 u230 u231 u232 u233 u234 u235 u236 u237 u238 u239 u240 u241 u242 u243 u244 u245 u246 u247 u248 u249 u250 u251 u252 u253 u254 u255 u256 u257 u258 u259 u260 u261 u262 u263 u264 G u3 m3 u4 m4 w6 j279 j280 j281 j282 j283 j284;exact HP2.out
  obtain ⟨b',rfl,hbc⟩:=hcut
  have HB9:=Qq (HBc.out.thn hbc);have HW9:=Qq (HB1.out.thn HB9.out)
  clear hbc HLk HKey HP2
  clear HS0 HSr HD' HSB' HA' HP' HSq
  obtain ⟨bb,hbb⟩:∃ bb:Bool,bb=(!b||!b'):=⟨_,rfl⟩
  go_upto_region 41 with fail
  obtain ⟨w9,rfl⟩:∃ w9,w9=wc:=⟨_,rfl⟩
  go_cut [250] from 195 to 264 (fun t250 wx=>t250=.bool bb∧wx=w9)
  case first=>
   cases b
   ·have hb1:bb=true:=hbb
    go_wp2_with fail
    go_meet
    exact ⟨by rw [hb1],rfl⟩
   cases b'
   ·have hb1:bb=true:=hbb
    go_wp2_with fail
    go_meet
    exact ⟨by rw [hb1],rfl⟩
   have hb1:bb=false:=hbb
   go_wp2_with fail
   go_meet
   exact ⟨by rw [hb1],rfl⟩
  obtain ⟨rfl,hwc⟩:=hcut
  have hwc':=hwc.symm
  subst hwc'
  clear hwc hbb
  cases bb with
  | false=>
   go_wp2_with fail
   go_roundw
   case measure=>simp [intOf];omega
   case rel=>exact ⟨k+1,by omega,by go_num,HB9.out⟩
  | true=>
   obtain ⟨e0,e1⟩:=HRC.out w9 HW9.out
   obtain ⟨x0,x1,x2,x3,x4⟩:=HCx.out w9 HW9.out
   refine let_mvar% ?Lq1:=fun w':World=>w'.cell? ⟨lb,loff+i*2,none⟩=some (.string ⟨r.table.toArray⟩)∧w'.cell? ⟨lb,loff+i*2+1,none⟩=some (.slice (some ⟨xb,xoff,none⟩) m qc)∧w'.cell? ⟨xb,xoff+k*5,none⟩=some (.int .i64 x.kind)∧w'.cell? ⟨xb,xoff+k*5+1,none⟩=some (.int .i64 x.n)∧w'.cell? ⟨xb,xoff+k*5+2,none⟩=some (.string ⟨x.s.toArray⟩)∧w'.cell? ⟨xb,xoff+k*5+3,none⟩=some (.slice xp3 x.names.length xk3)∧w'.cell? ⟨xb,xoff+k*5+4,none⟩=some (.slice xp4 x.kids.length xk4);?_
   have HSf:=Qq (fun (w':World) (h:Below w9.heap.size w9 w')=>(show ?Lq1 w' from ⟨kC h e0,kC h e1,kC h x0,kC h x1,kC h x2,kC h x3,kC h x4⟩))
   have HP:∀ z0 z1 z2 z3 z4 z5 z6 z7 z8 z9 z10 z11,?Lq1 (Zh w9 (w.heap.size+1) z0 z1 z2 z3 z4 z5 z6 z7 z8 z9 z10 z11).drew:=fun z0 z1 z2 z3 z4 z5 z6 z7 z8 z9 z10 z11=>⟨Zj (by omega) e0,Zj (by omega) e1,Zj (by omega) x0,Zj (by omega) x1,Zj (by omega) x2,Zj (by omega) x3,Zj (by omega) x4⟩
   unfold Zh at HP
   have HP':=Qq HP
   clear HP
   have HS0:=Qq (HSf.out w9.drew (Qz _ _).drew)
   have hZw9:=kE HB9.out hlt HZ1.out
   obtain ⟨y0,y1,y2,y3,y4,y5,y6,y7,y8,y9,y10,y11⟩:=row12 hZw9
   obtain ⟨f0,f1,f2,f3,f4,f5,f6,f7,f8,f9,f10,f11⟩:=frz12 hZw9
   have HZw9:=Qq hZw9
   clear hZw9
   go_upto_region 42 with fail
   clear e0 e1 x0 x1 x2 x3 x4
   go_region_held3 ?Lq1 (first | with_reducible exact HS0.out | with_reducible exact hS2 | with_reducible exact HP'.out _ _ _ _ _ _ _ _ _ _ _ _) (fail)
   all_goals
    go_wp2_with fail
    show bodyPost _ _ _ _ _ (Zh w9 (w.heap.size+1) (.int .i64 12) (.string ⟨r.table.toArray⟩) (.int .i64 x.kind) (.int .i64 x.n) (.string ⟨x.s.toArray⟩) (.slice xp3 x.names.length xk3) (.slice xp4 x.kids.length xk4) (.int .i64 0) (.int .i64 0) (.string ⟨#[]⟩) (.slice none 0 0) (.slice none 0 0)).drew
    refine Q7 (v:=.agg #[.int .i64 12,.string ⟨r.table.toArray⟩,.int .i64 x.kind,.int .i64 x.n,.string ⟨x.s.toArray⟩,.slice xp3 x.names.length xk3,.slice xp4 x.kids.length xk4,.int .i64 0,.int .i64 0,.string ⟨#[]⟩,.slice none 0 0,.slice none 0 0]) (by simp [results,results66,go_sem,Zb HZw9.out]) rfl ⟨⟨_,_,_,_,_,_,_,_,_,_,_,_,rfl⟩,(Z3 (HB1.out.thn HB9.out) (by omega)).drew⟩
end Go.Proofs.YtppbaladeefnkaaGreatDoor
