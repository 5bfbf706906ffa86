import Derived.Test.YtdpibdpbgokmoaaGreatDoorA41
set_option maxRecDepth 100000
set_option maxHeartbeats 400000000
namespace Go.Proofs.YtdpibdpbgokmoaaGreatDoor
open Go.RowKit Go.Shelf Go.Lib Tryz
def Nw:Ah (Kf.P4):=by
 apply Ah.mk
 case all=>
  intro bH
  intro S0 S1 s l w cW up uc _ tp tc lp lc _ HU bM bJ dR n dM HL eC dS HT HN aM N aL bS dW eE w5 dJ dK dN _ _ u30 u31 u32 u33 u34 u35 u36 u37 u38 u39 u40 u41 u42 u43 u44 u45 u46 u47 u48 k cE aC aQ cX _ _ _ _ _ u8 u9 u49 u50 u51 u52 u53 u54 u55 u56 u57 u58 u59 u60 u61 u62 u63 u64 u65 u66 u67 u68 u69 u70 u71 u72 u73 u74 u75 u76 u77 u78 u79 u80 u81 u82 u83 u84 u85 u86 u87 u88 u89 u90 u91 u92 u93 u94 u95 u96 u97 _ _ _ _ cY _ _ _ _ _ u11 u12 u13 u98 u99 u100 u101 u102 u103 u104 u105 u106 u107 u108 u109 u110 u111 u112 u113 u114 u115 u116 u117 u118 u119 u120 u121 u122 u123 u124 u125 u126 u127 u128 u129 u130 u131 u132 u133 u134 u135 u136 u137 u138 u139 u140 u141 u142 u143 u144 u145 u146 u147 u148 u149 u150 u151 u152 u153 u154 u155 u156 u157 u158 u159 u160 u161 u162 u163 u164 u165 u166 u167 u168 u169 u170 u171 u172 u173 u174 u175 u176 u177 _ _ _ _ cZ _ _ _ _ _ wr u15 u16 u17 u18 u19 u20 u178 u179 u180 u181 u182 u183 u184 u185 u186 u187 u188 u189 u190 u191 u192 u193 u194 u195 u196 u197 u198 u199 u200 u201 u202 u203 u204 u205 u206 u207 u208 u209 u210 u211 u212 u213 u214 u215 u216 u217 u218 u219 u220 u221 u222 u223 u224 u225 u226 u227 u228 u229 u230 u231 u232 u233 u234 u235 u236 u237 u238 u239 u240 u241 u242 u243 u244 u245 u246 u247 u248 u249 u250 u251 u252 u253 u254 u255 u256 u257 u258 u259 u260 u261 u262 u263 u264 i eB aP bF dV c1 aY
  have eD:i<l.length:=by rw [aM.o];exact aY
  have dD:(0:Int)<=(i:Int):=Ia
  have dE:(i:Int)<(n:Int):=Ia
  obtain ⟨r,hr⟩:∃ r,l[i]?=some r:=⟨_,Qx (by rw [aM.o];assumption)⟩
  obtain ⟨lb,Z,eF,cG,aF,_,_,⟨rv,bA,V,aH⟩,aZ⟩:=HL.o.elem hr
  subst cG;subst bA
  obtain ⟨q,qc,Y,cI⟩:=aH.len
  obtain ⟨m,hm⟩:=eX (r.rows.length)
  rw [hm] at Y cI
  subst Y
  obtain ⟨dQ,HM,dP,bK,dO⟩:=AO aH hm (bJ.o r (Qy hr)) hr V
  have bI:=hT2 (o:=Z+i*2) (x0:=.string ⟨r.table.toArray⟩) aF aZ
  have dF:lb<w.heap.size:=aF
  clear hr aZ aH hm aF V
  obtain ⟨t,ht⟩:∃ t,s.tables[i]?=some t:=⟨_,Qx (by rw [HN.o];assumption)⟩
  obtain ⟨tb,aB,dI,cK,aI,_,_,aD,bB⟩:=HT.o.elem ht
  subst cK
  obtain ⟨bX,bW,cM,cL,eG,cT,k9,cU,n9,cV,cQ,cN,bT,cR,cO,bU,cS,cP,bV,a9,z9,aV,cJ,aU,aX,U,aT⟩:=Yq aD
  simp only [AL] at aV
  subst aV
  obtain ⟨dT,dU,aN,bN⟩:=It aD (bM.o t (Qy ht)) U ht
  have bL:=hT13 (o:=aB+i*13) aI bB
  have dH:tb<w.heap.size:=aI
  clear ht aD bB cJ aU aX U aT aI
  go_upto_region 34 with fail
  clear c1
  obtain ⟨mr,aG⟩:=eX (t.refs.length)
  have M:=Qq aG
  have dG:mr<=1000000:=by obtain ⟨_,_,_,h⟩:=aN.o.len;rw [<- aG];exact h
  clear aG
  go_loopw [15,16,17,18,19,20] (λaJ _ _ _ _ _ wr=>∃ k:Nat,k<=mr/\aJ=.int .i64 k/\Aside (Yf s l r.rows t.refs=Yf s l r.rows (t.refs.drop k))/\Aside (Below N N wr)) (λaJ _ _ _ _ _ _=>mr - (intOf aJ).toNat)
  case atStart=>exact ⟨0,Q8 _,rfl,(by rw [List.drop_zero];exact rfl),bF.o⟩
  obtain ⟨a,eA,rfl,G,aR⟩:=hrel
  have aO:=Qq (show Yf s l r.rows t.refs=Yf s l r.rows (t.refs.drop a) from G)
  clear G
  have J:=Qq (show Below N N wr from aR)
  have bR:=Qq (aL.o.n J.o)
  clear aR
  have T:=kB J.o bS.o
  have c1:=AA T
  clear T
  obtain ⟨g0,g1,g2,g3,g4,g5,g6,g7,g8,g9,bY,bZ,cA⟩:=bL.o wr bR.o
  rw [M.o] at g3
  by_cases hlt3:a<mr
  ·have dY:(0:Int)<=(a:Int):=Ia
   have dZ:(a:Int)<(mr:Int):=Ia
   obtain ⟨f,hf⟩:∃ f,t.refs[a]?=some f:=⟨_,Qx (by rw [M.o];exact hlt3)⟩
   have A:=aN.o
   rw [M.o] at A
   obtain ⟨fb,D,dX,cD,O,_,_,⟨aW,dB,dC⟩,aE⟩:=A.elem hf
   subst cD;subst aW
   have dL:=Qq (λW (h:Below w w W)=>Qe (show W.cell? ⟨fb,D+a*2,none⟩=some (.string ⟨f.column.toArray⟩) from kD h O (aE 0 _ rfl)) (show W.cell? ⟨fb,D+a*2+1,none⟩=some (.string ⟨f.table.toArray⟩) from kD h O (aE 1 _ rfl)))
   have dA:fb<w.heap.size:=O
   have bG:=Qq hf
   clear hf aE O A
   go_upto_region 37 with fail
   clear c1 g0 g1 g2 g3 g4 g5 g6 g7 g8 g9 bY bZ cA
   go_loopw [16,17,18,19,20] (λaK _ _ _ _ wr=>∃ k:Nat,k<=m/\aK=.int .i64 k/\Aside (∀ y ∈ r.rows.take k,Dj s l f y=true)/\Aside (Below N N wr)) (λaK _ _ _ _ _=>m - (intOf aK).toNat)
   case atStart=>exact ⟨0,Q8 _,rfl,(by intro y hy;simp at hy),J.o⟩
   obtain ⟨k,cE,rfl,I,aS⟩:=hrel
   have bO:=Qq (show ∀ y ∈ r.rows.take k,Dj s l f y=true from I)
   clear I
   have aC:=Qq (show Below N N wr from aS)
   have aQ:=Qq (aL.o.n aC.o)
   clear aS
   obtain ⟨e0,e1⟩:=bI.o wr aQ.o
   by_cases hlt4:k<m
   ·rename_i j0 j1 j2 j3 j4 j5 j6 j7 j8 j9 j10 j11 j12 j13 j14 j15 j16 j17 j18 j19 j20 j21 j22 j23 j24 j25 j26 j27 j28 j29 j30 j31 j32 j33 j34 j35 j36 j37 j38 j39 j40 j41 j42 j43 j44 j45 j46 j47 j48 j49 j50 j51 j52 j53 j54 j55 j56 j57 j58 j59 j60 j61 j62 j63 j64 j65 j66 j67 j68 j69 j70 j71 j72 j73 j74 j75 j76 j77 j78 j79 j80 j81 j82 j83 j84 j85 j86 j87 j88 j89 j90 j91 j92 j93 j94 j95 j96 j97 j98 j99 j100 j101 j102 j103 j104 j105 j106 j107 j108 j109 j110 j111 j112 j113 j114 j115 j116 j117 j118 j119 j120 j121 j122 j123 j124 j125 j126 j127 j128 j129 j130 j131 j132 j133 j134 j135 j136 j137 j138 j139 j140 j141 j142 j143 j144 j145 j146 j147 j148 j149 j150 j151 j152 j153 j154 j155 j156 j157 j158 j159 j160 j161 j162 j163 j164 j165 j166 j167 j168 j169 j170 j171 j172 j173 j174 j175 j176 j177 j178 j179 j180 j181 j182 j183 j184 j185 j186 j187 j188 j189 j190 j191 j192 j193 j194 j195 j196 j197 j198 j199 j200 j201 j202 j203 j204;revert S0 S1 s l w up uc j0 tc lc j1 n N w5 j2 j3 u30 u31 u32 u33 u34 u35 u36 u37 u38 u39 u40 u41 u42 u43 u44 u45 u46 u47 u48 j4 j5 j6 j7 j8 j9 j10 u8 u9 u49 u50 u51 u52 u53 u54 u55 u56 u57 u58 u59 u60 u61 u62 u63 u64 u65 u66 u67 u68 u69 u70 u71 u72 u73 u74 u75 u76 u77 u78 u79 u80 u81 u82 u83 u84 u85 u86 u87 u88 u89 u90 u91 u92 u93 u94 u95 u96 u97 j11 j12 j13 j14 j15 j16 j17 u11 u12 u13 u98 u99 u100 u101 u102 u103 u104 u105 u106 u107 u108 u109 u110 u111 u112 u113 u114 u115 u116 u117 u118 u119 u120 u121 u122 u123 u124 u125 u126 u127 u128 u129 u130 u131 u132 u133 u134 u135 u136 u137 u138 u139 u140 u141 u142 u143 u144 u145 u146 u147 u148 u149 u150 u151 u152 u153 u154 u155 u156 u157 u158 u159 u160 u161 u162 u163 u164 u165 u166 u167 u168 u169 u170 u171 u172 u173 u174 u175 u176 u177 j18 j19 j20 j21 j22 j23 j24 j25 u15 j26 j27 j28 j29 j30 u178 u179 u180 u181 u182 u183 j31 j32 j33 j34 j35 j36 j37 j38 j39 j40 j41 j42 j43 j44 j45 j46 j47 j48 j49 j50 j51 j52 j53 j54 j55 j56 j57 j58 j59 j60 j61 j62 j63 j64 j65 j66 j67 j68 j69 j70 j71 j72 j73 j74 j75 j76 j77 j78 j79 j80 j81 j82 j83 j84 j85 j86 j87 j88 j89 j90 j91 j92 j93 j94 j95 j96 j97 j98 j99 j100 j101 j102 j103 j104 j105 j106 j107 j108 j109 j110 j111 i r lb Z j112 q qc m j113 t tb aB j114 j115 j116 j117 j118 j119 j120 bX bW cM cL cT k9 cU n9 cV cQ cN bT cR cO bU cS cP bV a9 z9 j121 j122 j123 mr j124 u16 j125 j126 j127 j128 u184 u185 u186 u187 u188 u189 u190 u191 u192 u193 u194 j129 j130 j131 j132 j133 j134 j135 j136 j137 j138 j139 j140 j141 j142 j143 j144 j145 j146 j147 j148 j149 j150 j151 j152 j153 j154 j155 j156 j157 j158 j159 j160 j161 j162 j163 j164 j165 j166 j167 j168 j169 j170 j171 j172 j173 j174 j175 j176 j177 j178 j179 j180 j181 j182 j183 j184 j185 j186 j187 j188 j189 j190 j191 j192 j193 j194 j195 j196 j197 j198 a f fb D j199 j200 j201 j202 j203 j204 wr u17 u18 u19 u20 u195 u196 u197 u198 u199 u200 u201 u202 u203 u204 u205 u206 u207 u208 u209 u210 u211 u212 u213 u214 u215 u216 u217 u218 u219 u220 u221 u222 u223 u224 u225 u226 u227 u228 u229 u230 u231 u232 u233 u234 u235 u236 u237 u238 u239 u240 u241 u242 u243 u244 u245 u246 u247 u248 u249 u250 u251 u252 u253 u254 u255 u256 u257 u258 u259 u260 u261 u262 u263 u264 k e0 e1;exact bH.o
   have cF:k=m:=Ia
   have bP:=Qq (aO.o.trans (Oj bG.o (Bi (p:=Dj s l f) (by rw [HM.o,<- cF];exact bO.o))))
   have hq:¬ (k:Int)<(m:Int):=Ia
   go_wp2_with fail
   go_roundw
   case measure=>simp [intOf];omega
   case rel=>exact ⟨a+1,Ia,by go_num,bP.o,aC.o⟩
  have cB:a=mr:=Ia
  have bQ:=Qq (Kg (c:=3) aP.o (show (cfR s l 3 i).code=0 from by rw [cfR_3 bK.o bN.o,aO.o,cB,<- M.o,List.drop_length];rfl))
  have hq:¬ (a:Int)<(mr:Int):=Ia
  go_wp2_with fail
  go_roundw
  case measure=>simp [intOf];omega
  case rel=>exact ⟨i+1,Ia,by go_num,bQ.o,J.o⟩
def G6:A5 (Nw.P1):=by
 apply A5.mk
 case all=>
  intro eK bD
  intro S0 S1 s l w fI up uc _ tc lc _ HU eS gE gG n gU HN gB W1 bO eY fC w5 fY eH _ _ u30 u31 u32 u33 u34 u35 u36 u37 u38 u39 u40 u41 u42 u43 u44 u45 u46 u47 u48 _ _ _ _ fJ _ _ _ u8 u9 u49 u50 u51 u52 u53 u54 u55 u56 u57 u58 u59 u60 u61 u62 u63 u64 u65 u66 u67 u68 u69 u70 u71 u72 u73 u74 u75 u76 u77 u78 u79 u80 u81 u82 u83 u84 u85 u86 u87 u88 u89 u90 u91 u92 u93 u94 u95 u96 u97 _ _ _ _ fK _ _ _ u11 u12 u13 u98 u99 u100 u101 u102 u103 u104 u105 u106 u107 u108 u109 u110 u111 u112 u113 u114 u115 u116 u117 u118 u119 u120 u121 u122 u123 u124 u125 u126 u127 u128 u129 u130 u131 u132 u133 u134 u135 u136 u137 u138 u139 u140 u141 u142 u143 u144 u145 u146 u147 u148 u149 u150 u151 u152 u153 u154 u155 u156 u157 u158 u159 u160 u161 u162 u163 u164 u165 u166 u167 u168 u169 u170 u171 u172 u173 u174 u175 u176 u177 _ _ _ _ fL _ _ _ _ u15 _ _ _ _ _ u178 u179 u180 u181 u182 u183 _ _ _ _ _ _ _ _ _ _ _ _ _ _ _ _ _ _ _ _ _ _ _ _ _ _ _ _ _ _ _ _ _ _ _ _ _ _ _ _ _ _ _ _ _ _ _ _ _ _ _ _ _ _ _ _ _ _ _ _ _ _ _ _ _ _ _ _ _ _ _ _ _ _ _ _ _ _ _ _ _ i gS cF fZ gJ cV gV fP fR r lb O _ eJ HL q qc m gX _ eP HM eO cA eN eL fT t tb I _ eQ HT cI gC _ _ _ _ _ _ cR cQ dC dB aV k9 dK n9 dL dG dD cN dH dE cO dI dF cP a9 z9 gI eU fW _ _ _ mr bZ fV _ u16 _ _ _ _ u184 u185 u186 u187 u188 u189 u190 u191 u192 u193 u194 _ _ _ _ _ _ _ _ _ _ _ _ _ _ _ _ _ _ _ _ _ _ _ _ _ _ _ _ _ _ _ _ _ _ _ _ _ _ _ _ _ _ _ _ _ _ _ _ _ _ _ _ _ _ _ _ _ _ _ _ _ _ _ _ _ _ _ _ _ _ a gR eT gA gK fU gP gQ f fb M _ fN fO _ gH gF cC _ bV fM eI _ _ _ wr u17 u18 u19 u20 u195 u196 u197 u198 u199 u200 u201 u202 u203 u204 u205 u206 u207 u208 u209 u210 u211 u212 u213 u214 u215 u216 u217 u218 u219 u220 u221 u222 u223 u224 u225 u226 u227 u228 u229 u230 u231 u232 u233 u234 u235 u236 u237 u238 u239 u240 u241 u242 u243 u244 u245 u246 u247 u248 u249 u250 u251 u252 u253 u254 u255 u256 u257 u258 u259 u260 u261 u262 u263 u264 k gT cD bT aM e0 e1 cW
  have gW:k<r.rows.length:=by rw [HM.o];exact cW
  have fQ:(0:Int)<=(k:Int):=by omega
  have fS:(k:Int)<(m:Int):=by omega
  obtain ⟨x,hx⟩:∃ x,r.rows[k]?=some x:=⟨_,Qx (by rw [HM.o];assumption)⟩
  obtain ⟨U,A,aA,Y,aB,Z,fD,D,cY,d0,d1,d2,d3,d4⟩:=eP.o.val hx
  subst fD
  have fX:U<w.heap.size:=D
  have cG:=Qq cY;have gD:=Qq (eO.o x (Qy hx));have cJ:=Qq hx
  have bU:=Qq (λW (h:Below w.heap.size w W)=>(Qe (show W.cell? ⟨U,A+k*5,none⟩=some (.int .i64 x.kind) from kD h D d0) (Qe (show W.cell? ⟨U,A+k*5+1,none⟩=some (.int .i64 x.n) from kD h D d1) (Qe (show W.cell? ⟨U,A+k*5+2,none⟩=some (.string ⟨x.s.toArray⟩) from kD h D d2) (Qe (show W.cell? ⟨U,A+k*5+3,none⟩=some (.slice aA x.names.length Y) from kD h D d3) (show W.cell? ⟨U,A+k*5+4,none⟩=some (.slice aB x.kids.length Z) from kD h D d4))))))
  clear hx cY D d0 d1 d2 d3 d4
  obtain ⟨x0,x1,x2,x3,x4⟩:=bU.o wr aM.o
  obtain ⟨g0,g1,g2,g3,g4,g5,g6,g7,g8,g9,aS,aT,aU⟩:=cC.o wr aM.o
  rw [bZ.o] at g3
  have aY:=kB bT.o cI.o
  obtain ⟨c0,c1⟩:=AF aY
  clear aY
  obtain ⟨q0,q1⟩:=bV.o wr aM.o
  obtain ⟨u,hu⟩:=eX ((Yp x f.column).getD Val.zero)
  obtain ⟨b,hb⟩:=eX ((Yp x f.column).isSome)
  have cE:=Qq hu;have bP:=Qq hb
  clear hu hb
  go_upto_region 39 with fail
  have HS:∀ w',Below wr.heap.size wr w'->(λw'=>w'.cell? ⟨w.heap.size,1,none⟩=some (.slice (some ⟨tb,I,none⟩) n tc)/\w'.cell? ⟨lb,O+i*2+1,none⟩=some (.slice (some ⟨U,A,none⟩) m qc)/\w'.cell? ⟨U,A+k*5,none⟩=some (.int .i64 x.kind)/\w'.cell? ⟨U,A+k*5+1,none⟩=some (.int .i64 x.n)/\w'.cell? ⟨U,A+k*5+2,none⟩=some (.string ⟨x.s.toArray⟩)/\w'.cell? ⟨U,A+k*5+3,none⟩=some (.slice aA x.names.length Y)/\w'.cell? ⟨U,A+k*5+4,none⟩=some (.slice aB x.kids.length Z)/\w'.cell? ⟨tb,I+i*13+3,none⟩=some (.slice (some ⟨fb,M,none⟩) mr aV)/\w'.cell? ⟨fb,M+a*2,none⟩=some (.string ⟨f.column.toArray⟩)/\Below wr.heap.size wr w') w':=by
   intro w' h
   have V:∀ {b j:Nat} {u:Value},wr.cell? ⟨b,j,none⟩=some u->w'.cell? ⟨b,j,none⟩=some u:=λhc=>kC h hc
   exact ⟨V c1,V e1,V x0,V x1,V x2,V x3,V x4,V g3,V q0,h⟩
  obtain ⟨aL,bE,bC,J,bB,aD⟩:=Jg HS (λw' h=>h.2.2.2.2.2.2.2.2.2)
  have HP:=λw' x0 x1 x2 x3 x4 h=>aD.o (Zl w' wr.heap.size x0 x1 x2 x3 x4) (Zd (J.o w' h) (Q9 _))
  unfold Zl at HP
  have aK:=Qq HP
  clear HS HP c1 e1 x0 x1 x2 x3 x4 g3 q0
  have bW:=Qq (λW' (h':Below wr.heap.size wr W')=>(Ht _ x _ f.column W' (cG.o.move (.f (aM.o.n h')) (λ_ _ h=>h))).mono (R':=λe w2=>∃ u3 m3 u4 m4,e=.returned (.tuple #[.agg #[.int .i64 u.kind,.int .i64 u.n,.string ⟨u.s.toArray⟩,.slice u3 u.names.length m3,.slice u4 u.kids.length m4],.bool b])/\Z9 (λb=>S1 b/\b<w.heap.size) w2 (Il u u3 m3 u4 m4) u/\Below W'.heap.size W' w2/\Below wr.heap.size wr w2) (by
   rintro e w2 ⟨eZ,rfl,h3,h4⟩
   rw [cE.o] at h3
   rw [bP.o]
   obtain ⟨u3,m3,u4,m4,bH,_⟩:=Z9.cells h3
   subst bH
   exact ⟨u3,m3,u4,m4,rfl,h3,h4,h'.n h4⟩))
  unfold sv Il at bW
  go_cut [17,18] from 195 to 264 (λfF fG wx=>GotMid (λb=>S1 b/\b<w.heap.size) wr u b fF fG wx)
  case first=>
   rename_i j0 j1 j2 j3 j4 j5 j6 j7 j8 j9 j10 j11 j12 j13 j14 j15 j16 j17 j18 j19 j20 j21 j22 j23 j24 j25 j26 j27 j28 j29 j30 j31 j32 j33 j34 j35 j36 j37 j38 j39 j40 j41 j42 j43 j44 j45 j46 j47 j48 j49 j50 j51 j52 j53 j54 j55 j56 j57 j58 j59 j60 j61 j62 j63 j64 j65 j66 j67 j68 j69 j70 j71 j72 j73 j74 j75 j76 j77 j78 j79 j80 j81 j82 j83 j84 j85 j86 j87 j88 j89 j90 j91 j92 j93 j94 j95 j96 j97 j98 j99 j100 j101 j102 j103 j104 j105 j106 j107 j108 j109 j110 j111 j112 j113 j114 j115 j116 j117 j118 j119 j120 j121 j122 j123 j124 j125 j126 j127 j128 j129 j130 j131 j132 j133 j134 j135 j136 j137 j138 j139 j140 j141 j142 j143 j144 j145 j146 j147 j148 j149 j150 j151 j152 j153 j154 j155 j156 j157 j158 j159 j160 j161 j162 j163 j164 j165 j166 j167 j168 j169 j170 j171 j172 j173 j174 j175 j176 j177 j178 j179 j180 j181 j182 j183 j184 j185 j186 j187 j188 j189 j190 j191 j192 j193 j194 j195 j196 j197 j198 j199 j200 j201 j202 j203 j204 j205 j206 j207 j208 j209 j210 j211 j212 j213;revert S0 S1 s l w up uc j0 tc lc j1 n W1 w5 j2 j3 u30 u31 u32 u33 u34 u35 u36 u37 u38 u39 u40 u41 u42 u43 u44 u45 u46 u47 u48 j4 j5 j6 j7 j8 j9 j10 u8 u9 u49 u50 u51 u52 u53 u54 u55 u56 u57 u58 u59 u60 u61 u62 u63 u64 u65 u66 u67 u68 u69 u70 u71 u72 u73 u74 u75 u76 u77 u78 u79 u80 u81 u82 u83 u84 u85 u86 u87 u88 u89 u90 u91 u92 u93 u94 u95 u96 u97 j11 j12 j13 j14 j15 j16 j17 u11 u12 u13 u98 u99 u100 u101 u102 u103 u104 u105 u106 u107 u108 u109 u110 u111 u112 u113 u114 u115 u116 u117 u118 u119 u120 u121 u122 u123 u124 u125 u126 u127 u128 u129 u130 u131 u132 u133 u134 u135 u136 u137 u138 u139 u140 u141 u142 u143 u144 u145 u146 u147 u148 u149 u150 u151 u152 u153 u154 u155 u156 u157 u158 u159 u160 u161 u162 u163 u164 u165 u166 u167 u168 u169 u170 u171 u172 u173 u174 u175 u176 u177 j18 j19 j20 j21 j22 j23 j24 j25 u15 j26 j27 j28 j29 j30 u178 u179 u180 u181 u182 u183 j31 j32 j33 j34 j35 j36 j37 j38 j39 j40 j41 j42 j43 j44 j45 j46 j47 j48 j49 j50 j51 j52 j53 j54 j55 j56 j57 j58 j59 j60 j61 j62 j63 j64 j65 j66 j67 j68 j69 j70 j71 j72 j73 j74 j75 j76 j77 j78 j79 j80 j81 j82 j83 j84 j85 j86 j87 j88 j89 j90 j91 j92 j93 j94 j95 j96 j97 j98 j99 j100 j101 j102 j103 j104 j105 j106 j107 j108 j109 j110 j111 i r lb O j112 qc m t tb I j113 j114 j115 j116 j117 j118 j119 cR cQ dC dB aV k9 dK n9 dL dG dD cN dH dE cO dI dF cP a9 z9 j120 j121 j122 mr j123 u16 j124 j125 j126 j127 u184 u185 u186 u187 u188 u189 u190 u191 u192 u193 u194 j128 j129 j130 j131 j132 j133 j134 j135 j136 j137 j138 j139 j140 j141 j142 j143 j144 j145 j146 j147 j148 j149 j150 j151 j152 j153 j154 j155 j156 j157 j158 j159 j160 j161 j162 j163 j164 j165 j166 j167 j168 j169 j170 j171 j172 j173 j174 j175 j176 j177 j178 j179 j180 j181 j182 j183 j184 j185 j186 j187 j188 j189 j190 j191 j192 j193 j194 j195 j196 j197 a f fb M j198 j199 j200 j201 j202 j203 wr u17 u18 u19 u20 u195 u196 u197 u198 u199 u200 u201 u202 u203 u204 u205 u206 u207 u208 u209 u210 u211 u212 u213 u214 u215 u216 u217 u218 u219 u220 u221 u222 u223 u224 u225 u226 u227 u228 u229 u230 u231 u232 u233 u234 u235 u236 u237 u238 u239 u240 u241 u242 u243 u244 u245 u246 u247 u248 u249 u250 u251 u252 u253 u254 u255 u256 u257 u258 u259 u260 u261 u262 u263 u264 k e0 x U A aA Y aB Z j204 g0 g1 g2 g4 g5 g6 g7 g8 g9 aS aT aU c0 q1 u b j205 j206 j207 j208 j209 j210 j211 j212 j213;exact eK.o
  obtain ⟨G,u3,m3,u4,m4,rfl,rfl,hG,cX,aE,gN⟩:=hcut
  have HG:=Qq hG;have eW:=Qq cX;have bQ:=Qq (bT.o.n aE);have aR:=Qq (aM.o.n aE)
  clear hG cX aE bW
  clear aL bE bC J bB aK aD
  obtain ⟨T,rfl⟩:∃ T,T=wc:=⟨_,rfl⟩
  have hk:=HG.o
  have gO:=Z8 hk
  obtain ⟨k0,k1,k2,k3,k4⟩:=If hk
  clear hk
  have aX:=kB bQ.o cI.o
  obtain ⟨c0,c1⟩:=AF aX
  clear aX
  obtain ⟨q0,q1⟩:=bV.o T aR.o
  obtain ⟨g0,g1,g2,g3,g4,g5,g6,g7,g8,g9,aS,aT,aU⟩:=cC.o T aR.o
  rw [bZ.o] at g3
  clear q0 g0 g1 g2 g4 g5 g6 g7 g8 g9 aS aT aU
  go_upto_region 40 with fail
  have HS:∀ w',Below T.heap.size T w'->(λw'=>w'.cell? ⟨w.heap.size,0,none⟩=some (.slice up s.sums.length uc)/\w'.cell? ⟨w.heap.size,1,none⟩=some (.slice (some ⟨tb,I,none⟩) n tc)/\w'.cell? ⟨tb,I+i*13+3,none⟩=some (.slice (some ⟨fb,M,none⟩) mr aV)/\w'.cell? ⟨fb,M+a*2+1,none⟩=some (.string ⟨f.table.toArray⟩)/\w'.cell? ⟨G,0,none⟩=some (.int .i64 u.kind)/\w'.cell? ⟨G,1,none⟩=some (.int .i64 u.n)/\w'.cell? ⟨G,2,none⟩=some (.string ⟨u.s.toArray⟩)/\w'.cell? ⟨G,3,none⟩=some (.slice u3 u.names.length m3)/\w'.cell? ⟨G,4,none⟩=some (.slice u4 u.kids.length m4)/\Below T.heap.size T w') w':=by
   intro w' h
   have V:∀ {b j:Nat} {u:Value},T.cell? ⟨b,j,none⟩=some u->w'.cell? ⟨b,j,none⟩=some u:=λhc=>kC h hc
   exact ⟨V c0,V c1,V g3,V q1,V k0,V k1,V k2,V k3,V k4,h⟩
  obtain ⟨aL,bE,bC,J,bB,aD⟩:=Jg HS (λw' h=>h.2.2.2.2.2.2.2.2.2)
  have HP:=λw' x0 x1 x2 x3 x4 h=>aD.o (Zl w' T.heap.size x0 x1 x2 x3 x4) (Zd (J.o w' h) (Q9 _))
  unfold Zl at HP
  have aK:=Qq HP
  clear HS HP c0 c1 g3 q1 k0 k1 k2 k3 k4
  have bI:=λw' x0 x1 x2 x3 x4 h=>aD.o (Zl w' (T.heap.size+1) x0 x1 x2 x3 x4) (Zd (J.o _ h) (Nat.le_succ _))
  unfold Zl at bI
  have bD:=Qq bI
  clear bI
  have bX:=Qq (λW' N (hW:Below T.heap.size T W') (hN:W'.heap[N]?=some (.cells #[.int .i64 u.kind,.int .i64 u.n,.string ⟨u.s.toArray⟩,.slice u3 u.names.length m3,.slice u4 u.kids.length m4] 36 (0,0)))=>(show Sl Zc (λ_=>True) W' (.slice (some ⟨N,0,none⟩) 1 1) [u] from Y4 hN trivial (Cs.one (r:=Zc) (eW.o.move (.f hW) (λ_ _ _=>trivial))) rfl rfl (by simp)))
  obtain ⟨b',cU⟩:=eX ((Jx s l f.table [u]).isSome)
  have aW:=Qq cU
  clear cU
  have bY:=Qq (λW' kv (h':Below T.heap.size T W') (hkv:Sl Zc (λ_=>True) W' kv [u])=>(Ru _ _ _ s [.slice up s.sums.length uc,.slice (some ⟨tb,I,none⟩) n tc] (.slice (some ⟨lb,O,none⟩) n lc) l f.table kv [u] W' (eQ.o.below (aR.o.n h')) (eJ.o.below (aR.o.n h')) hkv (λt ht=>(eS.o t ht).key)).mono (R':=λe w2=>∃ (r0 r1:Int) (r2:ByteArray) (o3:Option Addr) (o4 o5:Nat) (o6:Option Addr) (o7 o8:Nat),e=.returned (.tuple #[.agg #[.int .i64 r0,.int .i64 r1,.string r2,.slice o3 o4 o5,.slice o6 o7 o8],.bool b'])/\Below W'.heap.size W' w2/\Below T.heap.size T w2) (by
   rintro e w2 ⟨eZ,rfl,h3,h4⟩
   obtain ⟨u5,m5,u6,m6,bH,_⟩:=Z9.cells h3
   subst bH
   rw [aW.o]
   exact ⟨_,_,_,_,_,_,_,_,_,rfl,h4,h'.n h4⟩))
  unfold sv at bY
  go_cut [20] from 195 to 264 (λfH wx=>fH=.bool b'/\Below T.heap.size T wx)
  case first=>
   rename_i j0 j1 j2 j3 j4 j5 j6 j7 j8 j9 j10 j11 j12 j13 j14 j15 j16 j17 j18 j19 j20 j21 j22 j23 j24 j25 j26 j27 j28 j29 j30 j31 j32 j33 j34 j35 j36 j37 j38 j39 j40 j41 j42 j43 j44 j45 j46 j47 j48 j49 j50 j51 j52 j53 j54 j55 j56 j57 j58 j59 j60 j61 j62 j63 j64 j65 j66 j67 j68 j69 j70 j71 j72 j73 j74 j75 j76 j77 j78 j79 j80 j81 j82 j83 j84 j85 j86 j87 j88 j89 j90 j91 j92 j93 j94 j95 j96 j97 j98 j99 j100 j101 j102 j103 j104 j105 j106 j107 j108 j109 j110 j111 j112 j113 j114 j115 j116 j117 j118 j119 j120 j121 j122 j123 j124 j125 j126 j127 j128 j129 j130 j131 j132 j133 j134 j135 j136 j137 j138 j139 j140 j141 j142 j143 j144 j145 j146 j147 j148 j149 j150 j151 j152 j153 j154 j155 j156 j157 j158 j159 j160 j161 j162 j163 j164 j165 j166 j167 j168 j169 j170 j171 j172 j173 j174 j175 j176 j177 j178 j179 j180 j181 j182 j183 j184 j185 j186 j187 j188 j189 j190 j191 j192 j193 j194 j195 j196 j197 j198 j199 j200 j201 j202 j203 j204 j205 j206 j207 j208 j209 j210 j211 j212 j213 j214 j215 j216 j217 j218 j219 j220 j221 j222 j223 j224 j225 j226 j227 j228 j229 j230 j231 j232 j233 j234 j235 j236 j237 j238 j239 j240 j241 j242 j243 j244 j245 j246 j247 j248 j249 j250 j251 j252 j253 j254 j255 j256 j257 j258 j259 j260 j261 j262 j263 j264 j265 j266 j267 j268 j269 j270 j271 j272 j273 j274 j275 j276 j277 j278 j279 j280 j281 j282 j283;revert S0 S1 s l w up uc j0 tc lc j1 n W1 w5 j2 j3 u30 u31 u32 u33 u34 u35 u36 u37 u38 u39 u40 u41 u42 u43 u44 u45 u46 u47 u48 j4 j5 j6 j7 j8 j9 j10 u8 u9 u49 u50 u51 u52 u53 u54 u55 u56 u57 u58 u59 u60 u61 u62 u63 u64 u65 u66 u67 u68 u69 u70 u71 u72 u73 u74 u75 u76 u77 u78 u79 u80 u81 u82 u83 u84 u85 u86 u87 u88 u89 u90 u91 u92 u93 u94 u95 u96 u97 j11 j12 j13 j14 j15 j16 j17 u11 u12 u13 u98 u99 u100 u101 u102 u103 u104 u105 u106 u107 u108 u109 u110 u111 u112 u113 u114 u115 u116 u117 u118 u119 u120 u121 u122 u123 u124 u125 u126 u127 u128 u129 u130 u131 u132 u133 u134 u135 u136 u137 u138 u139 u140 u141 u142 u143 u144 u145 u146 u147 u148 u149 u150 u151 u152 u153 u154 u155 u156 u157 u158 u159 u160 u161 u162 u163 u164 u165 u166 u167 u168 u169 u170 u171 u172 u173 u174 u175 u176 u177 j18 j19 j20 j21 j22 j23 j24 j25 u15 j26 j27 j28 j29 j30 u178 u179 u180 u181 u182 u183 j31 j32 j33 j34 j35 j36 j37 j38 j39 j40 j41 j42 j43 j44 j45 j46 j47 j48 j49 j50 j51 j52 j53 j54 j55 j56 j57 j58 j59 j60 j61 j62 j63 j64 j65 j66 j67 j68 j69 j70 j71 j72 j73 j74 j75 j76 j77 j78 j79 j80 j81 j82 j83 j84 j85 j86 j87 j88 j89 j90 j91 j92 j93 j94 j95 j96 j97 j98 j99 j100 j101 j102 j103 j104 j105 j106 j107 j108 j109 j110 j111 i r lb O j112 qc m t tb I j113 j114 j115 j116 j117 j118 j119 cR cQ dC dB aV k9 dK n9 dL dG dD cN dH dE cO dI dF cP a9 z9 j120 j121 j122 mr j123 u16 j124 j125 j126 j127 u184 u185 u186 u187 u188 u189 u190 u191 u192 u193 u194 j128 j129 j130 j131 j132 j133 j134 j135 j136 j137 j138 j139 j140 j141 j142 j143 j144 j145 j146 j147 j148 j149 j150 j151 j152 j153 j154 j155 j156 j157 j158 j159 j160 j161 j162 j163 j164 j165 j166 j167 j168 j169 j170 j171 j172 j173 j174 j175 j176 j177 j178 j179 j180 j181 j182 j183 j184 j185 j186 j187 j188 j189 j190 j191 j192 j193 j194 j195 j196 j197 a f fb M j198 j199 j200 j201 j202 j203 wr u17 u18 u19 u20 j204 j205 j206 j207 j208 j209 j210 j211 j212 j213 j214 j215 j216 j217 j218 j219 j220 j221 j222 j223 j224 j225 j226 j227 j228 j229 j230 j231 j232 j233 j234 j235 j236 j237 j238 j239 j240 j241 j242 j243 j244 j245 j246 j247 j248 j249 j250 j251 j252 j253 j254 j255 j256 j257 j258 j259 j260 j261 j262 j263 j264 j265 j266 j267 j268 j269 j270 j271 j272 j273 k e0 x U A aA Y aB Z j274 g0 g1 g2 g4 g5 g6 g7 g8 g9 aS aT aU c0 q1 u b j275 j276 j277 u195 u196 u197 u198 u199 u200 u201 u202 u203 u204 u205 u206 u207 u208 u209 u210 u211 u212 u213 u214 u215 u216 u217 u218 u219 u220 u221 u222 u223 u224 u225 u226 u227 u228 u229 u230 u231 u232 u233 u234 u235 u236 u237 u238 u239 u240 u241 u242 u243 u244 u245 u246 u247 u248 u249 u250 u251 u252 u253 u254 u255 u256 u257 u258 u259 u260 u261 u262 u263 u264 G u3 m3 u4 m4 T j278 j279 b' j280 j281 j282 j283;exact bD.o
  obtain ⟨rfl,aE⟩:=hcut
  have aQ:=Qq (bQ.o.n aE);have cH:=Qq (bO.o.n aQ.o)
  clear aE bY bX bD
  clear aL bE bC J bB aK aD
  obtain ⟨bb,aO⟩:∃ bb:Bool,bb=(!b||!b'):=⟨_,rfl⟩
  go_upto_region 41 with fail
  obtain ⟨w9,rfl⟩:∃ w9,w9=wc:=⟨_,rfl⟩
  go_cut [250] from 195 to 264 (λdM wx=>dM=.bool bb/\wx=w9)
  case first=>
   cases b
   ·have aN:bb=true:=aO
    go_wp2_with fail
    go_meet
    exact ⟨by rw [aN],rfl⟩
   cases b'
   ·have aN:bb=true:=aO
    go_wp2_with fail
    go_meet
    exact ⟨by rw [aN],rfl⟩
   have aN:bb=false:=aO
   go_wp2_with fail
   go_meet
   exact ⟨by rw [aN],rfl⟩
  obtain ⟨rfl,cZ⟩:=hcut
  have dA:=cZ.symm
  subst dA
  have bS:=Qq ((refP_is bP.o cE.o aW.o).trans (congrArg (!·) aO.symm))
  clear cZ aO
  cases bb with
  | false=>
   have eV:=Qq (Bo (p:=Dj s l f) cJ.o bS.o cD.o)
   go_wp2_with fail
   go_roundw
   case measure=>simp [intOf];omega
   case rel=>exact ⟨k+1,by omega,by go_num,eV.o,aQ.o⟩
  | true=>
   have eM:=Qq (Pg (c:=3) eH.o cF.o (by decide) cA.o (by rw [HN.o];exact cV) (show cfR s l 3 i=⟨12,[],x,Val.zero⟩ from by rw [cfR_3 cA.o eU.o,eT.o];exact Rh eI.o (He cJ.o bS.o cD.o)) (by decide))
   obtain ⟨e0,e1⟩:=eL.o w9 cH.o
   obtain ⟨x0,x1,x2,x3,x4⟩:=bU.o w9 cH.o
   refine let_mvar% ?Lq1:=λw':World=>w'.cell? ⟨lb,O+i*2,none⟩=some (.string ⟨r.table.toArray⟩)/\w'.cell? ⟨lb,O+i*2+1,none⟩=some (.slice (some ⟨U,A,none⟩) m qc)/\w'.cell? ⟨U,A+k*5,none⟩=some (.int .i64 x.kind)/\w'.cell? ⟨U,A+k*5+1,none⟩=some (.int .i64 x.n)/\w'.cell? ⟨U,A+k*5+2,none⟩=some (.string ⟨x.s.toArray⟩)/\w'.cell? ⟨U,A+k*5+3,none⟩=some (.slice aA x.names.length Y)/\w'.cell? ⟨U,A+k*5+4,none⟩=some (.slice aB x.kids.length Z);?_
   have eR:=Qq (λ(w':World) (h:Below w9.heap.size w9 w')=>(show ?Lq1 w' from ⟨kC h e0,kC h e1,kC h x0,kC h x1,kC h x2,kC h x3,kC h x4⟩))
   have HP:∀ z0 z1 z2 z3 z4 z5 z6 z7 z8 z9 dP dQ,?Lq1 (Y9 w9 (w.heap.size+1) z0 z1 z2 z3 z4 z5 z6 z7 z8 z9 dP dQ).drew:=λz0 z1 z2 z3 z4 z5 z6 z7 z8 z9 dP dQ=>⟨Zr (by omega) e0,Zr (by omega) e1,Zr (by omega) x0,Zr (by omega) x1,Zr (by omega) x2,Zr (by omega) x3,Zr (by omega) x4⟩
   unfold Y9 at HP
   have aK:=Qq HP
   clear HP
   have aL:=Qq (eR.o w9.drew (Qz _ _).drew)
   have aC:=kE aQ.o fC eY.o
   obtain ⟨y0,y1,y2,y3,y4,y5,y6,y7,y8,y9,gY,gZ⟩:=AT aC
   obtain ⟨f0,f1,f2,f3,f4,f5,f6,f7,f8,f9,gL,gM⟩:=AS aC
   have cK:=Qq aC
   clear aC
   go_upto_region 42 with fail
   clear e0 e1 x0 x1 x2 x3 x4
   go_region_held3 ?Lq1 (first | with_reducible exact aL.o | with_reducible exact hS2 | with_reducible exact aK.o _ _ _ _ _ _ _ _ _ _ _ _) (fail)
   all_goals
    go_wp2_with fail
    show bodyPost _ _ _ _ _ (Y9 w9 (w.heap.size+1) (.int .i64 12) (.string ⟨r.table.toArray⟩) (.int .i64 x.kind) (.int .i64 x.n) (.string ⟨x.s.toArray⟩) (.slice aA x.names.length Y) (.slice aB x.kids.length Z) (.int .i64 0) (.int .i64 0) (.string ⟨#[]⟩) (.slice none 0 0) (.slice none 0 0)).drew
    have bR:Below w.heap.size w (Y9 w9 (w.heap.size+1) (.int .i64 12) (.string ⟨r.table.toArray⟩) (.int .i64 x.kind) (.int .i64 x.n) (.string ⟨x.s.toArray⟩) (.slice aA x.names.length Y) (.slice aB x.kids.length Z) (.int .i64 0) (.int .i64 0) (.string ⟨#[]⟩) (.slice none 0 0) (.slice none 0 0)).drew:=(Y1 (bO.o.n aQ.o) (by omega)).drew
    exact Q7 (v:=.agg #[.int .i64 12,.string ⟨r.table.toArray⟩,.int .i64 x.kind,.int .i64 x.n,.string ⟨x.s.toArray⟩,.slice aA x.names.length Y,.slice aB x.kids.length Z,.int .i64 0,.int .i64 0,.string ⟨#[]⟩,.slice none 0 0,.slice none 0 0]) (by simp [results,results10,go_sem,Ya cK.o]) rfl (Fu (c1:=[.int .i64 x.kind,.int .i64 x.n,.string ⟨x.s.toArray⟩,.slice aA x.names.length Y,.slice aB x.kids.length Z]) (c2:=[.int .i64 0,.int .i64 0,.string ⟨#[]⟩,.slice none 0 0,.slice none 0 0]) eM.o (Z9.move cG.o (.f bR) (λ_ _ h=>h.2)) (Y2 _ _) eN.o bR)
end Go.Proofs.YtdpibdpbgokmoaaGreatDoor
