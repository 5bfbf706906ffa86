import Derived.Test.YtlanplhphiikjaaGreatDoorE33
set_option maxRecDepth 100000
set_option maxHeartbeats 400000000
namespace Go.Proofs.YtlanplhphiikjaaGreatDoor
open Go.RowKit Go.Shelf Go.Lib Tryz
def Nw:Qjy (Kt.P4):=by
 apply Qjy.mk
 case all=>
  intro bI
  intro S0 S1 s l w cX up uc _ tp tc lp lc _ HU bN bK dS n dN HL eD dT HT HN aN O aM bT dX eF w5 dK dL dO _ _ u30 u31 u32 u33 u34 u35 u36 u37 u38 u39 u40 u41 u42 u43 u44 u45 u46 u47 u48 k cF aD aR cY _ _ _ _ _ u8 u9 u49 u50 u51 u52 u53 u54 u55 u56 u57 u58 u59 u60 u61 u62 u63 u64 u65 u66 u67 u68 u69 u70 u71 u72 u73 u74 u75 u76 u77 u78 u79 u80 u81 u82 u83 u84 u85 u86 u87 u88 u89 u90 u91 u92 u93 u94 u95 u96 u97 _ _ _ _ cZ _ _ _ _ _ u11 u12 u13 u98 u99 u100 u101 u102 u103 u104 u105 u106 u107 u108 u109 u110 u111 u112 u113 u114 u115 u116 u117 u118 u119 u120 u121 u122 u123 u124 u125 u126 u127 u128 u129 u130 u131 u132 u133 u134 u135 u136 u137 u138 u139 u140 u141 u142 u143 u144 u145 u146 u147 u148 u149 u150 u151 u152 u153 u154 u155 u156 u157 u158 u159 u160 u161 u162 u163 u164 u165 u166 u167 u168 u169 u170 u171 u172 u173 u174 u175 u176 u177 _ _ _ _ dA _ _ _ _ _ wr u15 u16 u17 u18 u19 u20 u178 u179 u180 u181 u182 u183 u184 u185 u186 u187 u188 u189 u190 u191 u192 u193 u194 u195 u196 u197 u198 u199 u200 u201 u202 u203 u204 u205 u206 u207 u208 u209 u210 u211 u212 u213 u214 u215 u216 u217 u218 u219 u220 u221 u222 u223 u224 u225 u226 u227 u228 u229 u230 u231 u232 u233 u234 u235 u236 u237 u238 u239 u240 u241 u242 u243 u244 u245 u246 u247 u248 u249 u250 u251 u252 u253 u254 u255 u256 u257 u258 u259 u260 u261 u262 u263 u264 i eC aQ bG dW c1 aZ
  have eE:i<l.length:=by rw [aN.out];exact aZ
  have dE:(0:Int)<=(i:Int):=Qvu
  have dF:(i:Int)<(n:Int):=Qvu
  obtain ⟨r,hr⟩:∃ r,l[i]?=some r:=⟨_,Qx (by rw [aN.out];assumption)⟩
  obtain ⟨lb,aA,eG,cH,aG,_,_,⟨rv,bB,Y,aI⟩,bA⟩:=HL.out.elem hr
  subst cH;subst bB
  obtain ⟨q,qc,Z,cJ⟩:=aI.len
  obtain ⟨m,hm⟩:=eX (r.rows.length)
  rw [hm] at Z cJ
  subst Z
  obtain ⟨dR,HM,dQ,bL,dP⟩:=Qxp aI hm (bK.out r (Qy hr)) hr Y
  have bJ:=hT2 (o:=aA+i*2) (x0:=.string ⟨r.table.toArray⟩) aG bA
  have dG:lb<w.heap.size:=aG
  clear hr bA aI hm aG Y
  obtain ⟨t,ht⟩:∃ t,s.tables[i]?=some t:=⟨_,Qx (by rw [HN.out];assumption)⟩
  obtain ⟨tb,aC,dJ,cL,aJ,_,_,aE,bC⟩:=HT.out.elem ht
  subst cL
  obtain ⟨bY,bX,cN,cM,eH,cU,k9,cV,n9,cW,cR,cO,bU,cS,cP,bV,cT,cQ,bW,a9,z9,aW,cK,aV,aY,V,aU⟩:=Yj aE
  simp only [tcs] at aW
  subst aW
  obtain ⟨dU,dV,aO,bO⟩:=Qxo aE (bN.out t (Qy ht)) V ht
  have bM:=hT13 (o:=aC+i*13) aJ bC
  have dI:tb<w.heap.size:=aJ
  clear ht aE bC cK aV aY V aU aJ
  go_upto_region 34 with fail
  clear c1
  obtain ⟨mr,aH⟩:=eX (t.refs.length)
  have N:=Qq aH
  have dH:mr<=1000000:=by obtain ⟨_,_,_,h⟩:=aO.out.len;rw [<- aH];exact h
  clear aH
  go_loopw [15,16,17,18,19,20] (fun aK _ _ _ _ _ wr=>∃ k:Nat,k<=mr/\aK=.int .i64 k/\Aside (Yl s l r.rows t.refs=Yl s l r.rows (t.refs.drop k))/\Aside (Below O O wr)) (fun aK _ _ _ _ _ _=>mr - (intOf aK).toNat)
  case atStart=>exact ⟨0,Q8 _,rfl,(by rw [List.drop_zero];exact rfl),bG.out⟩
  obtain ⟨a,eB,rfl,I,aS⟩:=hrel
  have aP:=Qq (show Yl s l r.rows t.refs=Yl s l r.rows (t.refs.drop a) from I)
  clear I
  have M:=Qq (show Below O O wr from aS)
  have bS:=Qq (aM.out.thn M.out)
  clear aS
  have U:=kB M.out bT.out
  have c1:=rA1 U
  clear U
  obtain ⟨g0,g1,g2,g3,g4,g5,g6,g7,g8,g9,bZ,cA,cB⟩:=bM.out wr bS.out
  rw [N.out] at g3
  by_cases hlt3:a<mr
  ·have dZ:(0:Int)<=(a:Int):=Qvu
   have eA:(a:Int)<(mr:Int):=Qvu
   obtain ⟨f,hf⟩:∃ f,t.refs[a]?=some f:=⟨_,Qx (by rw [N.out];exact hlt3)⟩
   have A:=aO.out
   rw [N.out] at A
   obtain ⟨fb,D,dY,cE,T,_,_,⟨aX,dC,dD⟩,aF⟩:=A.elem hf
   subst cE;subst aX
   have dM:=Qq (fun W (h:Below w w W)=>Qe (show W.cell? ⟨fb,D+a*2,none⟩=some (.string ⟨f.column.toArray⟩) from kD h T (aF 0 _ rfl)) (show W.cell? ⟨fb,D+a*2+1,none⟩=some (.string ⟨f.table.toArray⟩) from kD h T (aF 1 _ rfl)))
   have dB:fb<w.heap.size:=T
   have bH:=Qq hf
   clear hf aF T A
   go_upto_region 37 with fail
   clear c1 g0 g1 g2 g3 g4 g5 g6 g7 g8 g9 bZ cA cB
   go_loopw [16,17,18,19,20] (fun aL _ _ _ _ wr=>∃ k:Nat,k<=m/\aL=.int .i64 k/\Aside (∀ y ∈ r.rows.take k,Dw s l f y=true)/\Aside (Below O O wr)) (fun aL _ _ _ _ _=>m - (intOf aL).toNat)
   case atStart=>exact ⟨0,Q8 _,rfl,(by intro y hy;simp at hy),M.out⟩
   obtain ⟨k,cF,rfl,J,aT⟩:=hrel
   have bP:=Qq (show ∀ y ∈ r.rows.take k,Dw s l f y=true from J)
   clear J
   have aD:=Qq (show Below O O wr from aT)
   have aR:=Qq (aM.out.thn aD.out)
   clear aT
   obtain ⟨e0,e1⟩:=bJ.out wr aR.out
   by_cases hlt4:k<m
   ·rename_i j0 j1 j2 j3 j4 j5 j6 j7 j8 j9 j10 j11 j12 j13 j14 j15 j16 j17 j18 j19 j20 j21 j22 j23 j24 j25 j26 j27 j28 j29 j30 j31 j32 j33 j34 j35 j36 j37 j38 j39 j40 j41 j42 j43 j44 j45 j46 j47 j48 j49 j50 j51 j52 j53 j54 j55 j56 j57 j58 j59 j60 j61 j62 j63 j64 j65 j66 j67 j68 j69 j70 j71 j72 j73 j74 j75 j76 j77 j78 j79 j80 j81 j82 j83 j84 j85 j86 j87 j88 j89 j90 j91 j92 j93 j94 j95 j96 j97 j98 j99 j100 j101 j102 j103 j104 j105 j106 j107 j108 j109 j110 j111 j112 j113 j114 j115 j116 j117 j118 j119 j120 j121 j122 j123 j124 j125 j126 j127 j128 j129 j130 j131 j132 j133 j134 j135 j136 j137 j138 j139 j140 j141 j142 j143 j144 j145 j146 j147 j148 j149 j150 j151 j152 j153 j154 j155 j156 j157 j158 j159 j160 j161 j162 j163 j164 j165 j166 j167 j168 j169 j170 j171 j172 j173 j174 j175 j176 j177 j178 j179 j180 j181 j182 j183 j184 j185 j186 j187 j188 j189 j190 j191 j192 j193 j194 j195 j196 j197 j198 j199 j200 j201 j202 j203 j204;revert S0 S1 s l w up uc j0 tc lc j1 n O w5 j2 j3 u30 u31 u32 u33 u34 u35 u36 u37 u38 u39 u40 u41 u42 u43 u44 u45 u46 u47 u48 j4 j5 j6 j7 j8 j9 j10 u8 u9 u49 u50 u51 u52 u53 u54 u55 u56 u57 u58 u59 u60 u61 u62 u63 u64 u65 u66 u67 u68 u69 u70 u71 u72 u73 u74 u75 u76 u77 u78 u79 u80 u81 u82 u83 u84 u85 u86 u87 u88 u89 u90 u91 u92 u93 u94 u95 u96 u97 j11 j12 j13 j14 j15 j16 j17 u11 u12 u13 u98 u99 u100 u101 u102 u103 u104 u105 u106 u107 u108 u109 u110 u111 u112 u113 u114 u115 u116 u117 u118 u119 u120 u121 u122 u123 u124 u125 u126 u127 u128 u129 u130 u131 u132 u133 u134 u135 u136 u137 u138 u139 u140 u141 u142 u143 u144 u145 u146 u147 u148 u149 u150 u151 u152 u153 u154 u155 u156 u157 u158 u159 u160 u161 u162 u163 u164 u165 u166 u167 u168 u169 u170 u171 u172 u173 u174 u175 u176 u177 j18 j19 j20 j21 j22 j23 j24 j25 u15 j26 j27 j28 j29 j30 u178 u179 u180 u181 u182 u183 j31 j32 j33 j34 j35 j36 j37 j38 j39 j40 j41 j42 j43 j44 j45 j46 j47 j48 j49 j50 j51 j52 j53 j54 j55 j56 j57 j58 j59 j60 j61 j62 j63 j64 j65 j66 j67 j68 j69 j70 j71 j72 j73 j74 j75 j76 j77 j78 j79 j80 j81 j82 j83 j84 j85 j86 j87 j88 j89 j90 j91 j92 j93 j94 j95 j96 j97 j98 j99 j100 j101 j102 j103 j104 j105 j106 j107 j108 j109 j110 j111 i r lb aA j112 q qc m j113 t tb aC j114 j115 j116 j117 j118 j119 j120 bY bX cN cM cU k9 cV n9 cW cR cO bU cS cP bV cT cQ bW a9 z9 j121 j122 j123 mr j124 u16 j125 j126 j127 j128 u184 u185 u186 u187 u188 u189 u190 u191 u192 u193 u194 j129 j130 j131 j132 j133 j134 j135 j136 j137 j138 j139 j140 j141 j142 j143 j144 j145 j146 j147 j148 j149 j150 j151 j152 j153 j154 j155 j156 j157 j158 j159 j160 j161 j162 j163 j164 j165 j166 j167 j168 j169 j170 j171 j172 j173 j174 j175 j176 j177 j178 j179 j180 j181 j182 j183 j184 j185 j186 j187 j188 j189 j190 j191 j192 j193 j194 j195 j196 j197 j198 a f fb D j199 j200 j201 j202 j203 j204 wr u17 u18 u19 u20 u195 u196 u197 u198 u199 u200 u201 u202 u203 u204 u205 u206 u207 u208 u209 u210 u211 u212 u213 u214 u215 u216 u217 u218 u219 u220 u221 u222 u223 u224 u225 u226 u227 u228 u229 u230 u231 u232 u233 u234 u235 u236 u237 u238 u239 u240 u241 u242 u243 u244 u245 u246 u247 u248 u249 u250 u251 u252 u253 u254 u255 u256 u257 u258 u259 u260 u261 u262 u263 u264 k e0 e1;exact bI.out
   have cG:k=m:=Qvu
   have bQ:=Qq (aP.out.trans (P9 bH.out (Eb (p:=Dw s l f) (by rw [HM.out,<- cG];exact bP.out))))
   have hq:¬ (k:Int)<(m:Int):=Qvu
   go_wp2_with fail
   go_roundw
   case measure=>simp [intOf];omega
   case rel=>exact ⟨a+1,Qvu,by go_num,bQ.out,aD.out⟩
  have cC:a=mr:=Qvu
  have bR:=Qq (Kn (c:=3) aQ.out (show (cfR s l 3 i).code=0 from by rw [cfR_3 bL.out bO.out,aP.out,cC,<- N.out,List.drop_length];rfl))
  have hq:¬ (a:Int)<(mr:Int):=Qvu
  go_wp2_with fail
  go_roundw
  case measure=>simp [intOf];omega
  case rel=>exact ⟨i+1,Qvu,by go_num,bR.out,M.out⟩
def Gk:Qjx (Nw.P1):=by
 apply Qjx.mk
 case all=>
  intro eL bE
  intro S0 S1 s l w fJ up uc _ tc lc _ HU eT gF gH n gV HN gC W1 bP eZ fD w5 fZ eI _ _ u30 u31 u32 u33 u34 u35 u36 u37 u38 u39 u40 u41 u42 u43 u44 u45 u46 u47 u48 _ _ _ _ fK _ _ _ u8 u9 u49 u50 u51 u52 u53 u54 u55 u56 u57 u58 u59 u60 u61 u62 u63 u64 u65 u66 u67 u68 u69 u70 u71 u72 u73 u74 u75 u76 u77 u78 u79 u80 u81 u82 u83 u84 u85 u86 u87 u88 u89 u90 u91 u92 u93 u94 u95 u96 u97 _ _ _ _ fL _ _ _ u11 u12 u13 u98 u99 u100 u101 u102 u103 u104 u105 u106 u107 u108 u109 u110 u111 u112 u113 u114 u115 u116 u117 u118 u119 u120 u121 u122 u123 u124 u125 u126 u127 u128 u129 u130 u131 u132 u133 u134 u135 u136 u137 u138 u139 u140 u141 u142 u143 u144 u145 u146 u147 u148 u149 u150 u151 u152 u153 u154 u155 u156 u157 u158 u159 u160 u161 u162 u163 u164 u165 u166 u167 u168 u169 u170 u171 u172 u173 u174 u175 u176 u177 _ _ _ _ fM _ _ _ _ u15 _ _ _ _ _ u178 u179 u180 u181 u182 u183 _ _ _ _ _ _ _ _ _ _ _ _ _ _ _ _ _ _ _ _ _ _ _ _ _ _ _ _ _ _ _ _ _ _ _ _ _ _ _ _ _ _ _ _ _ _ _ _ _ _ _ _ _ _ _ _ _ _ _ _ _ _ _ _ _ _ _ _ _ _ _ _ _ _ _ _ _ _ _ _ _ i gT cG gA gK cW gW fQ fS r lb O _ eK HL q qc m gY _ eQ HM eP cB eO eM fU t tb I _ eR HT cJ gD _ _ _ _ _ _ cS cR dD dC aW k9 dL n9 dM dH dE cO dI dF cP dJ dG cQ a9 z9 gJ eV fX _ _ _ mr cA fW _ u16 _ _ _ _ u184 u185 u186 u187 u188 u189 u190 u191 u192 u193 u194 _ _ _ _ _ _ _ _ _ _ _ _ _ _ _ _ _ _ _ _ _ _ _ _ _ _ _ _ _ _ _ _ _ _ _ _ _ _ _ _ _ _ _ _ _ _ _ _ _ _ _ _ _ _ _ _ _ _ _ _ _ _ _ _ _ _ _ _ _ _ a gS eU gB gL fV gQ gR f fb M _ fO fP _ gI gG cD _ bW fN eJ _ _ _ wr u17 u18 u19 u20 u195 u196 u197 u198 u199 u200 u201 u202 u203 u204 u205 u206 u207 u208 u209 u210 u211 u212 u213 u214 u215 u216 u217 u218 u219 u220 u221 u222 u223 u224 u225 u226 u227 u228 u229 u230 u231 u232 u233 u234 u235 u236 u237 u238 u239 u240 u241 u242 u243 u244 u245 u246 u247 u248 u249 u250 u251 u252 u253 u254 u255 u256 u257 u258 u259 u260 u261 u262 u263 u264 k gU cE bU aN e0 e1 cX
  have gX:k<r.rows.length:=by rw [HM.out];exact cX
  have fR:(0:Int)<=(k:Int):=by omega
  have fT:(k:Int)<(m:Int):=by omega
  obtain ⟨x,hx⟩:∃ x,r.rows[k]?=some x:=⟨_,Qx (by rw [HM.out];assumption)⟩
  obtain ⟨U,A,aA,Y,aB,Z,fE,D,cZ,d0,d1,d2,d3,d4⟩:=eQ.out.val hx
  subst fE
  have fY:U<w.heap.size:=D
  have cH:=Qq cZ;have gE:=Qq (eP.out x (Qy hx));have cK:=Qq hx
  have bV:=Qq (fun W (h:Below w.heap.size w W)=>(Qe (show W.cell? ⟨U,A+k*5,none⟩=some (.int .i64 x.kind) from kD h D d0) (Qe (show W.cell? ⟨U,A+k*5+1,none⟩=some (.int .i64 x.n) from kD h D d1) (Qe (show W.cell? ⟨U,A+k*5+2,none⟩=some (.string ⟨x.s.toArray⟩) from kD h D d2) (Qe (show W.cell? ⟨U,A+k*5+3,none⟩=some (.slice aA x.names.length Y) from kD h D d3) (show W.cell? ⟨U,A+k*5+4,none⟩=some (.slice aB x.kids.length Z) from kD h D d4))))))
  clear hx cZ D d0 d1 d2 d3 d4
  obtain ⟨x0,x1,x2,x3,x4⟩:=bV.out wr aN.out
  obtain ⟨g0,g1,g2,g3,g4,g5,g6,g7,g8,g9,aT,aU,aV⟩:=cD.out wr aN.out
  rw [cA.out] at g3
  have aZ:=kB bU.out cJ.out
  obtain ⟨c0,c1⟩:=row2 aZ
  clear aZ
  obtain ⟨q0,q1⟩:=bW.out wr aN.out
  obtain ⟨u,hu⟩:=eX ((Xj x f.column).getD Val.zero)
  obtain ⟨b,hb⟩:=eX ((Xj x f.column).isSome)
  have cF:=Qq hu;have bQ:=Qq hb
  clear hu hb
  go_upto_region 39 with fail
  have HS:∀ w',Below wr.heap.size wr w'->(fun w'=>w'.cell? ⟨w.heap.size,1,none⟩=some (.slice (some ⟨tb,I,none⟩) n tc)/\w'.cell? ⟨lb,O+i*2+1,none⟩=some (.slice (some ⟨U,A,none⟩) m qc)/\w'.cell? ⟨U,A+k*5,none⟩=some (.int .i64 x.kind)/\w'.cell? ⟨U,A+k*5+1,none⟩=some (.int .i64 x.n)/\w'.cell? ⟨U,A+k*5+2,none⟩=some (.string ⟨x.s.toArray⟩)/\w'.cell? ⟨U,A+k*5+3,none⟩=some (.slice aA x.names.length Y)/\w'.cell? ⟨U,A+k*5+4,none⟩=some (.slice aB x.kids.length Z)/\w'.cell? ⟨tb,I+i*13+3,none⟩=some (.slice (some ⟨fb,M,none⟩) mr aW)/\w'.cell? ⟨fb,M+a*2,none⟩=some (.string ⟨f.column.toArray⟩)/\Below wr.heap.size wr w') w':=by
   intro w' h
   have V:∀ {b j:Nat} {u:Value},wr.cell? ⟨b,j,none⟩=some u->w'.cell? ⟨b,j,none⟩=some u:=fun hc=>kC h hc
   exact ⟨V c1,V e1,V x0,V x1,V x2,V x3,V x4,V g3,V q0,h⟩
  obtain ⟨aM,bF,bD,J,bC,aD⟩:=Um HS (fun w' h=>h.2.2.2.2.2.2.2.2.2)
  have HP:=fun w' x0 x1 x2 x3 x4 h=>aD.out (Zp w' wr.heap.size x0 x1 x2 x3 x4) (Zf (J.out w' h) (Q9 _))
  unfold Zp at HP
  have aL:=Qq HP
  clear HS HP c1 e1 x0 x1 x2 x3 x4 g3 q0
  have bX:=Qq (fun W' (h':Below wr.heap.size wr W')=>(Hp _ x _ f.column W' (cH.out.move (.of_below (aN.out.thn h')) (fun _ _ h=>h))).mono (R':=fun e w2=>∃ u3 m3 u4 m4,e=.returned (.tuple #[.agg #[.int .i64 u.kind,.int .i64 u.n,.string ⟨u.s.toArray⟩,.slice u3 u.names.length m3,.slice u4 u.kids.length m4],.bool b])/\Za (fun b=>S1 b/\b<w.heap.size) w2 (vcs u u3 m3 u4 m4) u/\Below W'.heap.size W' w2/\Below wr.heap.size wr w2) (by
   rintro e w2 ⟨fA,rfl,h3,h4⟩
   rw [cF.out] at h3
   rw [bQ.out]
   obtain ⟨u3,m3,u4,m4,bI,_⟩:=Za.cells h3
   subst bI
   exact ⟨u3,m3,u4,m4,rfl,h3,h4,h'.thn h4⟩))
  unfold sv vcs at bX
  go_cut [17,18] from 195 to 264 (fun fG fH wx=>GotMid (fun b=>S1 b/\b<w.heap.size) wr u b fG fH wx)
  case first=>
   rename_i j0 j1 j2 j3 j4 j5 j6 j7 j8 j9 j10 j11 j12 j13 j14 j15 j16 j17 j18 j19 j20 j21 j22 j23 j24 j25 j26 j27 j28 j29 j30 j31 j32 j33 j34 j35 j36 j37 j38 j39 j40 j41 j42 j43 j44 j45 j46 j47 j48 j49 j50 j51 j52 j53 j54 j55 j56 j57 j58 j59 j60 j61 j62 j63 j64 j65 j66 j67 j68 j69 j70 j71 j72 j73 j74 j75 j76 j77 j78 j79 j80 j81 j82 j83 j84 j85 j86 j87 j88 j89 j90 j91 j92 j93 j94 j95 j96 j97 j98 j99 j100 j101 j102 j103 j104 j105 j106 j107 j108 j109 j110 j111 j112 j113 j114 j115 j116 j117 j118 j119 j120 j121 j122 j123 j124 j125 j126 j127 j128 j129 j130 j131 j132 j133 j134 j135 j136 j137 j138 j139 j140 j141 j142 j143 j144 j145 j146 j147 j148 j149 j150 j151 j152 j153 j154 j155 j156 j157 j158 j159 j160 j161 j162 j163 j164 j165 j166 j167 j168 j169 j170 j171 j172 j173 j174 j175 j176 j177 j178 j179 j180 j181 j182 j183 j184 j185 j186 j187 j188 j189 j190 j191 j192 j193 j194 j195 j196 j197 j198 j199 j200 j201 j202 j203 j204 j205 j206 j207 j208 j209 j210 j211 j212 j213;revert S0 S1 s l w up uc j0 tc lc j1 n W1 w5 j2 j3 u30 u31 u32 u33 u34 u35 u36 u37 u38 u39 u40 u41 u42 u43 u44 u45 u46 u47 u48 j4 j5 j6 j7 j8 j9 j10 u8 u9 u49 u50 u51 u52 u53 u54 u55 u56 u57 u58 u59 u60 u61 u62 u63 u64 u65 u66 u67 u68 u69 u70 u71 u72 u73 u74 u75 u76 u77 u78 u79 u80 u81 u82 u83 u84 u85 u86 u87 u88 u89 u90 u91 u92 u93 u94 u95 u96 u97 j11 j12 j13 j14 j15 j16 j17 u11 u12 u13 u98 u99 u100 u101 u102 u103 u104 u105 u106 u107 u108 u109 u110 u111 u112 u113 u114 u115 u116 u117 u118 u119 u120 u121 u122 u123 u124 u125 u126 u127 u128 u129 u130 u131 u132 u133 u134 u135 u136 u137 u138 u139 u140 u141 u142 u143 u144 u145 u146 u147 u148 u149 u150 u151 u152 u153 u154 u155 u156 u157 u158 u159 u160 u161 u162 u163 u164 u165 u166 u167 u168 u169 u170 u171 u172 u173 u174 u175 u176 u177 j18 j19 j20 j21 j22 j23 j24 j25 u15 j26 j27 j28 j29 j30 u178 u179 u180 u181 u182 u183 j31 j32 j33 j34 j35 j36 j37 j38 j39 j40 j41 j42 j43 j44 j45 j46 j47 j48 j49 j50 j51 j52 j53 j54 j55 j56 j57 j58 j59 j60 j61 j62 j63 j64 j65 j66 j67 j68 j69 j70 j71 j72 j73 j74 j75 j76 j77 j78 j79 j80 j81 j82 j83 j84 j85 j86 j87 j88 j89 j90 j91 j92 j93 j94 j95 j96 j97 j98 j99 j100 j101 j102 j103 j104 j105 j106 j107 j108 j109 j110 j111 i r lb O j112 qc m t tb I j113 j114 j115 j116 j117 j118 j119 cS cR dD dC aW k9 dL n9 dM dH dE cO dI dF cP dJ dG cQ a9 z9 j120 j121 j122 mr j123 u16 j124 j125 j126 j127 u184 u185 u186 u187 u188 u189 u190 u191 u192 u193 u194 j128 j129 j130 j131 j132 j133 j134 j135 j136 j137 j138 j139 j140 j141 j142 j143 j144 j145 j146 j147 j148 j149 j150 j151 j152 j153 j154 j155 j156 j157 j158 j159 j160 j161 j162 j163 j164 j165 j166 j167 j168 j169 j170 j171 j172 j173 j174 j175 j176 j177 j178 j179 j180 j181 j182 j183 j184 j185 j186 j187 j188 j189 j190 j191 j192 j193 j194 j195 j196 j197 a f fb M j198 j199 j200 j201 j202 j203 wr u17 u18 u19 u20 u195 u196 u197 u198 u199 u200 u201 u202 u203 u204 u205 u206 u207 u208 u209 u210 u211 u212 u213 u214 u215 u216 u217 u218 u219 u220 u221 u222 u223 u224 u225 u226 u227 u228 u229 u230 u231 u232 u233 u234 u235 u236 u237 u238 u239 u240 u241 u242 u243 u244 u245 u246 u247 u248 u249 u250 u251 u252 u253 u254 u255 u256 u257 u258 u259 u260 u261 u262 u263 u264 k e0 x U A aA Y aB Z j204 g0 g1 g2 g4 g5 g6 g7 g8 g9 aT aU aV c0 q1 u b j205 j206 j207 j208 j209 j210 j211 j212 j213;exact eL.out
  obtain ⟨G,u3,m3,u4,m4,rfl,rfl,hG,cY,aE,gO⟩:=hcut
  have HG:=Qq hG;have eY:=Qq cY;have bR:=Qq (bU.out.thn aE);have aS:=Qq (aN.out.thn aE)
  clear hG cY aE bX
  clear aM bF bD J bC aL aD
  obtain ⟨T,rfl⟩:∃ T,T=wc:=⟨_,rfl⟩
  have hk:=HG.out
  have gP:=Z8 hk
  obtain ⟨k0,k1,k2,k3,k4⟩:=row5 hk
  clear hk
  have aY:=kB bR.out cJ.out
  obtain ⟨c0,c1⟩:=row2 aY
  clear aY
  obtain ⟨q0,q1⟩:=bW.out T aS.out
  obtain ⟨g0,g1,g2,g3,g4,g5,g6,g7,g8,g9,aT,aU,aV⟩:=cD.out T aS.out
  rw [cA.out] at g3
  clear q0 g0 g1 g2 g4 g5 g6 g7 g8 g9 aT aU aV
  go_upto_region 40 with fail
  have HS:∀ w',Below T.heap.size T w'->(fun w'=>w'.cell? ⟨w.heap.size,0,none⟩=some (.slice up s.sums.length uc)/\w'.cell? ⟨w.heap.size,1,none⟩=some (.slice (some ⟨tb,I,none⟩) n tc)/\w'.cell? ⟨tb,I+i*13+3,none⟩=some (.slice (some ⟨fb,M,none⟩) mr aW)/\w'.cell? ⟨fb,M+a*2+1,none⟩=some (.string ⟨f.table.toArray⟩)/\w'.cell? ⟨G,0,none⟩=some (.int .i64 u.kind)/\w'.cell? ⟨G,1,none⟩=some (.int .i64 u.n)/\w'.cell? ⟨G,2,none⟩=some (.string ⟨u.s.toArray⟩)/\w'.cell? ⟨G,3,none⟩=some (.slice u3 u.names.length m3)/\w'.cell? ⟨G,4,none⟩=some (.slice u4 u.kids.length m4)/\Below T.heap.size T w') w':=by
   intro w' h
   have V:∀ {b j:Nat} {u:Value},T.cell? ⟨b,j,none⟩=some u->w'.cell? ⟨b,j,none⟩=some u:=fun hc=>kC h hc
   exact ⟨V c0,V c1,V g3,V q1,V k0,V k1,V k2,V k3,V k4,h⟩
  obtain ⟨aM,bF,bD,J,bC,aD⟩:=Um HS (fun w' h=>h.2.2.2.2.2.2.2.2.2)
  have HP:=fun w' x0 x1 x2 x3 x4 h=>aD.out (Zp w' T.heap.size x0 x1 x2 x3 x4) (Zf (J.out w' h) (Q9 _))
  unfold Zp at HP
  have aL:=Qq HP
  clear HS HP c0 c1 g3 q1 k0 k1 k2 k3 k4
  have bJ:=fun w' x0 x1 x2 x3 x4 h=>aD.out (Zp w' (T.heap.size+1) x0 x1 x2 x3 x4) (Zf (J.out _ h) (Nat.le_succ _))
  unfold Zp at bJ
  have bE:=Qq bJ
  clear bJ
  have bY:=Qq (fun W' N (hW:Below T.heap.size T W') (hN:W'.heap[N]?=some (.cells #[.int .i64 u.kind,.int .i64 u.n,.string ⟨u.s.toArray⟩,.slice u3 u.names.length m3,.slice u4 u.kids.length m4] 48 (0,0)))=>(show Sl Zc (fun _=>True) W' (.slice (some ⟨N,0,none⟩) 1 1) [u] from Y2 hN trivial (Cs.one (r:=Zc) (eY.out.move (.of_below hW) (fun _ _ _=>trivial))) rfl rfl (by simp)))
  obtain ⟨b',cV⟩:=eX ((J1 s l f.table [u]).isSome)
  have aX:=Qq cV
  clear cV
  have bZ:=Qq (fun W' kv (h':Below T.heap.size T W') (hkv:Sl Zc (fun _=>True) W' kv [u])=>(Pg _ _ _ s [.slice up s.sums.length uc,.slice (some ⟨tb,I,none⟩) n tc] (.slice (some ⟨lb,O,none⟩) n lc) l f.table kv [u] W' (eR.out.below (aS.out.thn h')) (eK.out.below (aS.out.thn h')) hkv (fun t ht=>(eT.out t ht).key)).mono (R':=fun e w2=>∃ (r0 r1:Int) (r2:ByteArray) (o3:Option Addr) (o4 o5:Nat) (o6:Option Addr) (o7 o8:Nat),e=.returned (.tuple #[.agg #[.int .i64 r0,.int .i64 r1,.string r2,.slice o3 o4 o5,.slice o6 o7 o8],.bool b'])/\Below W'.heap.size W' w2/\Below T.heap.size T w2) (by
   rintro e w2 ⟨fA,rfl,h3,h4⟩
   obtain ⟨u5,m5,u6,m6,bI,_⟩:=Za.cells h3
   subst bI
   rw [aX.out]
   exact ⟨_,_,_,_,_,_,_,_,_,rfl,h4,h'.thn h4⟩))
  unfold sv at bZ
  go_cut [20] from 195 to 264 (fun fI wx=>fI=.bool b'/\Below T.heap.size T wx)
  case first=>
   rename_i j0 j1 j2 j3 j4 j5 j6 j7 j8 j9 j10 j11 j12 j13 j14 j15 j16 j17 j18 j19 j20 j21 j22 j23 j24 j25 j26 j27 j28 j29 j30 j31 j32 j33 j34 j35 j36 j37 j38 j39 j40 j41 j42 j43 j44 j45 j46 j47 j48 j49 j50 j51 j52 j53 j54 j55 j56 j57 j58 j59 j60 j61 j62 j63 j64 j65 j66 j67 j68 j69 j70 j71 j72 j73 j74 j75 j76 j77 j78 j79 j80 j81 j82 j83 j84 j85 j86 j87 j88 j89 j90 j91 j92 j93 j94 j95 j96 j97 j98 j99 j100 j101 j102 j103 j104 j105 j106 j107 j108 j109 j110 j111 j112 j113 j114 j115 j116 j117 j118 j119 j120 j121 j122 j123 j124 j125 j126 j127 j128 j129 j130 j131 j132 j133 j134 j135 j136 j137 j138 j139 j140 j141 j142 j143 j144 j145 j146 j147 j148 j149 j150 j151 j152 j153 j154 j155 j156 j157 j158 j159 j160 j161 j162 j163 j164 j165 j166 j167 j168 j169 j170 j171 j172 j173 j174 j175 j176 j177 j178 j179 j180 j181 j182 j183 j184 j185 j186 j187 j188 j189 j190 j191 j192 j193 j194 j195 j196 j197 j198 j199 j200 j201 j202 j203 j204 j205 j206 j207 j208 j209 j210 j211 j212 j213 j214 j215 j216 j217 j218 j219 j220 j221 j222 j223 j224 j225 j226 j227 j228 j229 j230 j231 j232 j233 j234 j235 j236 j237 j238 j239 j240 j241 j242 j243 j244 j245 j246 j247 j248 j249 j250 j251 j252 j253 j254 j255 j256 j257 j258 j259 j260 j261 j262 j263 j264 j265 j266 j267 j268 j269 j270 j271 j272 j273 j274 j275 j276 j277 j278 j279 j280 j281 j282 j283;revert S0 S1 s l w up uc j0 tc lc j1 n W1 w5 j2 j3 u30 u31 u32 u33 u34 u35 u36 u37 u38 u39 u40 u41 u42 u43 u44 u45 u46 u47 u48 j4 j5 j6 j7 j8 j9 j10 u8 u9 u49 u50 u51 u52 u53 u54 u55 u56 u57 u58 u59 u60 u61 u62 u63 u64 u65 u66 u67 u68 u69 u70 u71 u72 u73 u74 u75 u76 u77 u78 u79 u80 u81 u82 u83 u84 u85 u86 u87 u88 u89 u90 u91 u92 u93 u94 u95 u96 u97 j11 j12 j13 j14 j15 j16 j17 u11 u12 u13 u98 u99 u100 u101 u102 u103 u104 u105 u106 u107 u108 u109 u110 u111 u112 u113 u114 u115 u116 u117 u118 u119 u120 u121 u122 u123 u124 u125 u126 u127 u128 u129 u130 u131 u132 u133 u134 u135 u136 u137 u138 u139 u140 u141 u142 u143 u144 u145 u146 u147 u148 u149 u150 u151 u152 u153 u154 u155 u156 u157 u158 u159 u160 u161 u162 u163 u164 u165 u166 u167 u168 u169 u170 u171 u172 u173 u174 u175 u176 u177 j18 j19 j20 j21 j22 j23 j24 j25 u15 j26 j27 j28 j29 j30 u178 u179 u180 u181 u182 u183 j31 j32 j33 j34 j35 j36 j37 j38 j39 j40 j41 j42 j43 j44 j45 j46 j47 j48 j49 j50 j51 j52 j53 j54 j55 j56 j57 j58 j59 j60 j61 j62 j63 j64 j65 j66 j67 j68 j69 j70 j71 j72 j73 j74 j75 j76 j77 j78 j79 j80 j81 j82 j83 j84 j85 j86 j87 j88 j89 j90 j91 j92 j93 j94 j95 j96 j97 j98 j99 j100 j101 j102 j103 j104 j105 j106 j107 j108 j109 j110 j111 i r lb O j112 qc m t tb I j113 j114 j115 j116 j117 j118 j119 cS cR dD dC aW k9 dL n9 dM dH dE cO dI dF cP dJ dG cQ a9 z9 j120 j121 j122 mr j123 u16 j124 j125 j126 j127 u184 u185 u186 u187 u188 u189 u190 u191 u192 u193 u194 j128 j129 j130 j131 j132 j133 j134 j135 j136 j137 j138 j139 j140 j141 j142 j143 j144 j145 j146 j147 j148 j149 j150 j151 j152 j153 j154 j155 j156 j157 j158 j159 j160 j161 j162 j163 j164 j165 j166 j167 j168 j169 j170 j171 j172 j173 j174 j175 j176 j177 j178 j179 j180 j181 j182 j183 j184 j185 j186 j187 j188 j189 j190 j191 j192 j193 j194 j195 j196 j197 a f fb M j198 j199 j200 j201 j202 j203 wr u17 u18 u19 u20 j204 j205 j206 j207 j208 j209 j210 j211 j212 j213 j214 j215 j216 j217 j218 j219 j220 j221 j222 j223 j224 j225 j226 j227 j228 j229 j230 j231 j232 j233 j234 j235 j236 j237 j238 j239 j240 j241 j242 j243 j244 j245 j246 j247 j248 j249 j250 j251 j252 j253 j254 j255 j256 j257 j258 j259 j260 j261 j262 j263 j264 j265 j266 j267 j268 j269 j270 j271 j272 j273 k e0 x U A aA Y aB Z j274 g0 g1 g2 g4 g5 g6 g7 g8 g9 aT aU aV c0 q1 u b j275 j276 j277 u195 u196 u197 u198 u199 u200 u201 u202 u203 u204 u205 u206 u207 u208 u209 u210 u211 u212 u213 u214 u215 u216 u217 u218 u219 u220 u221 u222 u223 u224 u225 u226 u227 u228 u229 u230 u231 u232 u233 u234 u235 u236 u237 u238 u239 u240 u241 u242 u243 u244 u245 u246 u247 u248 u249 u250 u251 u252 u253 u254 u255 u256 u257 u258 u259 u260 u261 u262 u263 u264 G u3 m3 u4 m4 T j278 j279 b' j280 j281 j282 j283;exact bE.out
  obtain ⟨rfl,aE⟩:=hcut
  have aR:=Qq (bR.out.thn aE);have cI:=Qq (bP.out.thn aR.out)
  clear aE bZ bY bE
  clear aM bF bD J bC aL aD
  obtain ⟨bb,aP⟩:∃ bb:Bool,bb=(!b||!b'):=⟨_,rfl⟩
  go_upto_region 41 with fail
  obtain ⟨w9,rfl⟩:∃ w9,w9=wc:=⟨_,rfl⟩
  go_cut [250] from 195 to 264 (fun dN wx=>dN=.bool bb/\wx=w9)
  case first=>
   cases b
   ·have aO:bb=true:=aP
    go_wp2_with fail
    go_meet
    exact ⟨by rw [aO],rfl⟩
   cases b'
   ·have aO:bb=true:=aP
    go_wp2_with fail
    go_meet
    exact ⟨by rw [aO],rfl⟩
   have aO:bb=false:=aP
   go_wp2_with fail
   go_meet
   exact ⟨by rw [aO],rfl⟩
  obtain ⟨rfl,dA⟩:=hcut
  have dB:=dA.symm
  subst dB
  have bT:=Qq ((refP_is bQ.out cF.out aX.out).trans (congrArg (!·) aP.symm))
  clear dA aP
  cases bb with
  | false=>
   have eW:=Qq (Bg (p:=Dw s l f) cK.out bT.out cE.out)
   go_wp2_with fail
   go_roundw
   case measure=>simp [intOf];omega
   case rel=>exact ⟨k+1,by omega,by go_num,eW.out,aR.out⟩
  | true=>
   have eN:=Qq (Si (c:=3) eI.out cG.out (by decide) cB.out (by rw [HN.out];exact cW) (show cfR s l 3 i=⟨12,[],x,Val.zero⟩ from by rw [cfR_3 cB.out eV.out,eU.out];exact Sh eJ.out (M2 cK.out bT.out cE.out)) (by decide))
   obtain ⟨e0,e1⟩:=eM.out w9 cI.out
   obtain ⟨x0,x1,x2,x3,x4⟩:=bV.out w9 cI.out
   refine let_mvar% ?Lq1:=fun w':World=>w'.cell? ⟨lb,O+i*2,none⟩=some (.string ⟨r.table.toArray⟩)/\w'.cell? ⟨lb,O+i*2+1,none⟩=some (.slice (some ⟨U,A,none⟩) m qc)/\w'.cell? ⟨U,A+k*5,none⟩=some (.int .i64 x.kind)/\w'.cell? ⟨U,A+k*5+1,none⟩=some (.int .i64 x.n)/\w'.cell? ⟨U,A+k*5+2,none⟩=some (.string ⟨x.s.toArray⟩)/\w'.cell? ⟨U,A+k*5+3,none⟩=some (.slice aA x.names.length Y)/\w'.cell? ⟨U,A+k*5+4,none⟩=some (.slice aB x.kids.length Z);?_
   have eS:=Qq (fun (w':World) (h:Below w9.heap.size w9 w')=>(show ?Lq1 w' from ⟨kC h e0,kC h e1,kC h x0,kC h x1,kC h x2,kC h x3,kC h x4⟩))
   have HP:∀ z0 z1 z2 z3 z4 z5 z6 z7 z8 z9 dQ dR,?Lq1 (Y9 w9 (w.heap.size+1) z0 z1 z2 z3 z4 z5 z6 z7 z8 z9 dQ dR).drew:=fun z0 z1 z2 z3 z4 z5 z6 z7 z8 z9 dQ dR=>⟨Zo (by omega) e0,Zo (by omega) e1,Zo (by omega) x0,Zo (by omega) x1,Zo (by omega) x2,Zo (by omega) x3,Zo (by omega) x4⟩
   unfold Y9 at HP
   have aL:=Qq HP
   clear HP
   have aM:=Qq (eS.out w9.drew (Qz _ _).drew)
   have aC:=kE aR.out fD eZ.out
   obtain ⟨y0,y1,y2,y3,y4,y5,y6,y7,y8,y9,gZ,hA⟩:=row12 aC
   obtain ⟨f0,f1,f2,f3,f4,f5,f6,f7,f8,f9,gM,gN⟩:=frz12 aC
   have cL:=Qq aC
   clear aC
   go_upto_region 42 with fail
   clear e0 e1 x0 x1 x2 x3 x4
   go_region_held3 ?Lq1 (first | with_reducible exact aM.out | with_reducible exact hS2 | with_reducible exact aL.out _ _ _ _ _ _ _ _ _ _ _ _) (fail)
   all_goals
    go_wp2_with fail
    show bodyPost _ _ _ _ _ (Y9 w9 (w.heap.size+1) (.int .i64 12) (.string ⟨r.table.toArray⟩) (.int .i64 x.kind) (.int .i64 x.n) (.string ⟨x.s.toArray⟩) (.slice aA x.names.length Y) (.slice aB x.kids.length Z) (.int .i64 0) (.int .i64 0) (.string ⟨#[]⟩) (.slice none 0 0) (.slice none 0 0)).drew
    have bS:Below w.heap.size w (Y9 w9 (w.heap.size+1) (.int .i64 12) (.string ⟨r.table.toArray⟩) (.int .i64 x.kind) (.int .i64 x.n) (.string ⟨x.s.toArray⟩) (.slice aA x.names.length Y) (.slice aB x.kids.length Z) (.int .i64 0) (.int .i64 0) (.string ⟨#[]⟩) (.slice none 0 0) (.slice none 0 0)).drew:=(Yv (bP.out.thn aR.out) (by omega)).drew
    exact Q7 (v:=.agg #[.int .i64 12,.string ⟨r.table.toArray⟩,.int .i64 x.kind,.int .i64 x.n,.string ⟨x.s.toArray⟩,.slice aA x.names.length Y,.slice aB x.kids.length Z,.int .i64 0,.int .i64 0,.string ⟨#[]⟩,.slice none 0 0,.slice none 0 0]) (by simp [results,results77,go_sem,Ya cL.out]) rfl (Ga (c1:=[.int .i64 x.kind,.int .i64 x.n,.string ⟨x.s.toArray⟩,.slice aA x.names.length Y,.slice aB x.kids.length Z]) (c2:=[.int .i64 0,.int .i64 0,.string ⟨#[]⟩,.slice none 0 0,.slice none 0 0]) eN.out (Za.move cH.out (.of_below bS) (fun _ _ h=>h.2)) (Yw _ _) eO.out bS)
end Go.Proofs.YtlanplhphiikjaaGreatDoor
