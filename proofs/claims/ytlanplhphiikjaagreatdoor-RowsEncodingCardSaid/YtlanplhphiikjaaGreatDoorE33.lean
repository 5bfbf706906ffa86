import Derived.Test.YtlanplhphiikjaaGreatDoorE31
set_option maxRecDepth 100000
set_option maxHeartbeats 400000000
namespace Go.Proofs.YtlanplhphiikjaaGreatDoor
open Go.RowKit Go.Shelf Go.Lib Tryz
structure C2 (G:Prop) where
 P1:Prop
 P2:Prop
 P3:Prop
 P4:Prop
 P5:Prop
 all:Hid P1->Hid P2->Hid P3->Hid P4->Hid P5->G
structure Qjy (G:Prop) where
 P1:Prop
 all:Hid P1->G
structure Qjx (G:Prop) where
 P1:Prop
 P2:Prop
 all:Hid P1->Hid P2->G
def Kt:C2 (∀ (S0 S1:Nat->Prop) (s:Sc) (cs:List Value) (lv:Value) (l:List Rel) (w:World) (_:Vj S0 w cs s) (_:Sl Yx S1 w lv l) (_:l.length=s.tables.length) (_:E9 s.sums) (_:∀ t ∈ s.tables,Rp t) (_:∀ r ∈ l,∀ v ∈ r.rows,Vo v),Calls prog 77 #[.agg cs.toArray,lv] w (Ku w s l (cfR s l))):=by
 apply C2.mk
 intro bW bX bY bZ cA
 intro S0 S1 s cs lv l w hs aC M bN hT hR
 have aP:=fun W (hW:Below w.heap.size w W)=>Mu S0 S1 s cs lv l W (hs.below hW) (aC.below hW) M
 obtain ⟨b,aS⟩:=eX (Uc s l)
 simp only [aS] at aP
 have aN:=Qq aP;have aX:=Qq aS;have cP:=Qq M
 clear aP aS
 have cB:=Qq hs;have bV:=Qq aC
 obtain ⟨uv,tv,rfl,bP,bO⟩:=hs
 have hu:=bP.up
 have ht:=bO.up
 have hl:=aC.up
 obtain ⟨up,uc,rfl,_⟩:=hu.len
 obtain ⟨tp,tc,rfl,cG⟩:=ht.len
 obtain ⟨lp,lc,rfl,_⟩:=hl.len
 have HU:=Qq hu;have HT:=Qq ht;have HL:=Qq hl;have cT:=Qq hT;have cR:=Qq hR;have cS:=Qq bN
 obtain ⟨n,hn⟩:=eX (s.tables.length)
 rw [hn] at HT cB cG aN M |-
 rw [M] at HL bV aN |-
 have HN:=Qq hn;have cQ:=Qq M
 clear aC bP bO hu ht hl hT hR bN hn M
 go_enter func77,ntmps77
 go_upto_region 1 with fail
 generalize aB:(w.alloc _).alloc _=D
 have bJ:=eqB aB (Zu _ _ _)
 have aQ:=eqH (b:=w.heap.size) aB (Q5 _ _ _)
 have aR:=eqH (b:=w.heap.size+1) aB (Q6 _ _ _)
 have N:=Qq bJ;have cC:=Qq aQ;have bF:=Qq aR
 have bM:=Z8 aR
 obtain ⟨c0,c1⟩:=row2 aQ
 clear aB bJ aQ aR
 go_upto_region 2 with (go_at_call 130;refine (aN.out _ N.out).mono ?_;rintro e w5 ⟨rfl,bK⟩;have aL:=Qq (show Below D.heap.size D w5 from bK);clear bK)
 clear c0 c1
 cases b with
 | false=>
  have Z:=kE aL.out bM bF.out
  obtain ⟨y0,y1,y2,y3,y4,y5,y6,y7,y8,y9,cN,cO⟩:=row12 Z
  obtain ⟨f0,f1,f2,f3,f4,f5,f6,f7,f8,f9,cD,cE⟩:=frz12 Z
  have bG:=Qq Z
  clear Z
  go_wp2_with fail
  show bodyPost _ _ _ _ _ (Y9 w5 (w.heap.size+1) (.int .i64 1) (.string ⟨#[]⟩) (.int .i64 0) (.int .i64 0) (.string ⟨#[]⟩) (.slice none 0 0) (.slice none 0 0) (.int .i64 0) (.int .i64 0) (.string ⟨#[]⟩) (.slice none 0 0) (.slice none 0 0))
  have aM:Below w.heap.size w (Y9 w5 (w.heap.size+1) (.int .i64 1) (.string ⟨#[]⟩) (.int .i64 0) (.int .i64 0) (.string ⟨#[]⟩) (.slice none 0 0) (.slice none 0 0) (.int .i64 0) (.int .i64 0) (.string ⟨#[]⟩) (.slice none 0 0) (.slice none 0 0)):=(Yv (N.out.thn aL.out) (by omega))
  exact Q7 (v:=.agg #[.int .i64 1,.string ⟨#[]⟩,.int .i64 0,.int .i64 0,.string ⟨#[]⟩,.slice none 0 0,.slice none 0 0,.int .i64 0,.int .i64 0,.string ⟨#[]⟩,.slice none 0 0,.slice none 0 0]) (by simp [results,results77,go_sem,Ya bG.out]) rfl (Ga (c1:=[.int .i64 0,.int .i64 0,.string ⟨#[]⟩,.slice none 0 0,.slice none 0 0]) (c2:=[.int .i64 0,.int .i64 0,.string ⟨#[]⟩,.slice none 0 0,.slice none 0 0]) (rf_arg aX.out) (Yw _ _) (Yw _ _) (Q8 _) aM)
 | true=>
  go_upto_region 5 with fail
  go_loopw [6] (fun t6 wr=>∃ k:Nat,k<=n/\t6=.int .i64 k/\Aside (Fk s l 0 k)/\Aside (Below D.heap.size D wr)) (fun t6 _=>n - (intOf t6).toNat)
  case atStart=>exact ⟨0,Q8 _,rfl,Qqr,aL.out⟩
  obtain ⟨k,cV,rfl,O,bI⟩:=hrel
  have aD:=Qq (show Fk s l 0 k from O)
  clear O
  have aY:=Qq (show Below D.heap.size D wr from bI)
  have cU:=Qq (N.out.thn aY.out)
  clear bI
  by_cases hlt2:k<n
  ·rename_i z0 z1 z2 z3;revert S0 S1 s l w up uc z0 tp tc lp lc z1 n D w5 z2 z3 wr u30 u31 u32 u33 u34 u35 u36 u37 u38 u39 u40 u41 u42 u43 u44 u45 u46 u47 u48 k;exact bW.out
  have bL:k=n:=by omega
  have bA:=Qq (Jm (c:=0) (s:=s) (l:=l) (by rw [HN.out,<- bL];exact aD.out))
  clear aD
  have hq:¬ (k:Int)<(n:Int):=by omega
  go_upto_region 10 with fail
  clear hlt2 bL hq
  go_loopw [7,8,9] (fun t7 _ _ wr=>∃ k:Nat,k<=n/\t7=.int .i64 k/\Aside (Fk s l 1 k)/\Aside (Below D.heap.size D wr)) (fun t7 _ _ _=>n - (intOf t7).toNat)
  case atStart=>exact ⟨0,Q8 _,rfl,bA.out,aY.out⟩
  obtain ⟨i,aT,rfl,T,I⟩:=hrel
  have aE:=Qq (show Fk s l 1 i from T)
  clear T
  have A:=Qq (show Below D.heap.size D wr from I)
  have aO:=Qq (N.out.thn A.out)
  clear I
  by_cases hlt2:i<n
  ·rename_i z0 z1 z2 z3 z4 z5 z6 z7 z8;revert S0 S1 s l w up uc z0 tp tc lp lc z1 n D w5 z2 z3 u30 u31 u32 u33 u34 u35 u36 u37 u38 u39 u40 u41 u42 u43 u44 u45 u46 u47 u48 k z4 z5 z6 z7 z8 wr u8 u9 u49 u50 u51 u52 u53 u54 u55 u56 u57 u58 u59 u60 u61 u62 u63 u64 u65 u66 u67 u68 u69 u70 u71 u72 u73 u74 u75 u76 u77 u78 u79 u80 u81 u82 u83 u84 u85 u86 u87 u88 u89 u90 u91 u92 u93 u94 u95 u96 u97 i;exact bX.out
  have J:i=n:=by omega
  have bB:=Qq (Jm (c:=1) (s:=s) (l:=l) (by rw [HN.out,<- J];exact aE.out))
  clear aE
  have hq:¬ (i:Int)<(n:Int):=by omega
  go_upto_region 19 with fail
  clear hlt2 J hq
  go_loopw [10,11,12,13] (fun aU _ _ _ wr=>∃ k:Nat,k<=n/\aU=.int .i64 k/\Aside (Fk s l 2 k)/\Aside (Below D.heap.size D wr)) (fun aU _ _ _ _=>n - (intOf aU).toNat)
  case atStart=>exact ⟨0,Q8 _,rfl,bB.out,A.out⟩
  obtain ⟨i,aT,rfl,U,I⟩:=hrel
  have aF:=Qq (show Fk s l 2 i from U)
  clear U
  have A:=Qq (show Below D.heap.size D wr from I)
  have aO:=Qq (N.out.thn A.out)
  clear I
  by_cases hlt2:i<n
  ·rename_i z0 z1 z2 z3 z4 z5 z6 z7 z8 z9 z10 z11 z12 z13 z14 z15 z16 z17;revert S0 S1 s l w up uc z0 tp tc lp lc z1 n D w5 z2 z3 u30 u31 u32 u33 u34 u35 u36 u37 u38 u39 u40 u41 u42 u43 u44 u45 u46 u47 u48 k z4 z5 z6 z7 z8 u8 u9 u49 u50 u51 u52 u53 u54 u55 u56 u57 u58 u59 u60 u61 u62 u63 u64 u65 u66 u67 u68 u69 u70 u71 u72 u73 u74 u75 u76 u77 u78 u79 u80 u81 u82 u83 u84 u85 u86 u87 u88 u89 u90 u91 u92 u93 u94 u95 u96 u97 z9 z10 z11 z12 z13 z14 z15 z16 z17 wr u11 u12 u13 u98 u99 u100 u101 u102 u103 u104 u105 u106 u107 u108 u109 u110 u111 u112 u113 u114 u115 u116 u117 u118 u119 u120 u121 u122 u123 u124 u125 u126 u127 u128 u129 u130 u131 u132 u133 u134 u135 u136 u137 u138 u139 u140 u141 u142 u143 u144 u145 u146 u147 u148 u149 u150 u151 u152 u153 u154 u155 u156 u157 u158 u159 u160 u161 u162 u163 u164 u165 u166 u167 u168 u169 u170 u171 u172 u173 u174 u175 u176 u177 i;exact bY.out
  have J:i=n:=by omega
  have bC:=Qq (Jm (c:=2) (s:=s) (l:=l) (by rw [HN.out,<- J];exact aF.out))
  clear aF
  have hq:¬ (i:Int)<(n:Int):=by omega
  go_upto_region 31 with fail
  clear hlt2 J hq
  go_loopw [14,15,16,17,18,19,20] (fun aV _ _ _ _ _ _ wr=>∃ k:Nat,k<=n/\aV=.int .i64 k/\Aside (Fk s l 3 k)/\Aside (Below D.heap.size D wr)) (fun aV _ _ _ _ _ _ _=>n - (intOf aV).toNat)
  case atStart=>exact ⟨0,Q8 _,rfl,bC.out,A.out⟩
  obtain ⟨i,aT,rfl,V,I⟩:=hrel
  have aG:=Qq (show Fk s l 3 i from V)
  clear V
  have A:=Qq (show Below D.heap.size D wr from I)
  have aO:=Qq (N.out.thn A.out)
  clear I
  have aI:=kB A.out cC.out
  have c1:=rA1 aI
  clear aI
  by_cases hlt2:i<n
  ·rename_i z0 z1 z2 z3 z4 z5 z6 z7 z8 z9 z10 z11 z12 z13 z14 z15 z16 z17 z18 z19 z20 z21 z22 z23 z24 z25 z26;revert S0 S1 s l w up uc z0 tp tc lp lc z1 n D w5 z2 z3 u30 u31 u32 u33 u34 u35 u36 u37 u38 u39 u40 u41 u42 u43 u44 u45 u46 u47 u48 k z4 z5 z6 z7 z8 u8 u9 u49 u50 u51 u52 u53 u54 u55 u56 u57 u58 u59 u60 u61 u62 u63 u64 u65 u66 u67 u68 u69 u70 u71 u72 u73 u74 u75 u76 u77 u78 u79 u80 u81 u82 u83 u84 u85 u86 u87 u88 u89 u90 u91 u92 u93 u94 u95 u96 u97 z9 z10 z11 z12 z13 z14 z15 z16 z17 u11 u12 u13 u98 u99 u100 u101 u102 u103 u104 u105 u106 u107 u108 u109 u110 u111 u112 u113 u114 u115 u116 u117 u118 u119 u120 u121 u122 u123 u124 u125 u126 u127 u128 u129 u130 u131 u132 u133 u134 u135 u136 u137 u138 u139 u140 u141 u142 u143 u144 u145 u146 u147 u148 u149 u150 u151 u152 u153 u154 u155 u156 u157 u158 u159 u160 u161 u162 u163 u164 u165 u166 u167 u168 u169 u170 u171 u172 u173 u174 u175 u176 u177 z18 z19 z20 z21 z22 z23 z24 z25 z26 wr u15 u16 u17 u18 u19 u20 u178 u179 u180 u181 u182 u183 u184 u185 u186 u187 u188 u189 u190 u191 u192 u193 u194 u195 u196 u197 u198 u199 u200 u201 u202 u203 u204 u205 u206 u207 u208 u209 u210 u211 u212 u213 u214 u215 u216 u217 u218 u219 u220 u221 u222 u223 u224 u225 u226 u227 u228 u229 u230 u231 u232 u233 u234 u235 u236 u237 u238 u239 u240 u241 u242 u243 u244 u245 u246 u247 u248 u249 u250 u251 u252 u253 u254 u255 u256 u257 u258 u259 u260 u261 u262 u263 u264 i c1;exact bZ.out
  have J:i=n:=by omega
  have bD:=Qq (Jm (c:=3) (s:=s) (l:=l) (by rw [HN.out,<- J];exact aG.out))
  clear aG
  have hq:¬ (i:Int)<(n:Int):=by omega
  go_upto_region 44 with fail
  clear hlt2 J hq c1
  go_loopw [21,22,23] (fun aW _ _ wr=>∃ k:Nat,k<=n/\aW=.int .i64 k/\Aside (Fk s l 4 k)/\Aside (Below D.heap.size D wr)) (fun aW _ _ _=>n - (intOf aW).toNat)
  case atStart=>exact ⟨0,Q8 _,rfl,bD.out,A.out⟩
  obtain ⟨i,aT,rfl,Y,I⟩:=hrel
  have aH:=Qq (show Fk s l 4 i from Y)
  clear Y
  have A:=Qq (show Below D.heap.size D wr from I)
  have aO:=Qq (N.out.thn A.out)
  clear I
  by_cases hlt2:i<n
  ·rename_i z0 z1 z2 z3 z4 z5 z6 z7 z8 z9 z10 z11 z12 z13 z14 z15 z16 z17 z18 z19 z20 z21 z22 z23 z24 z25 z26 z27 z28 z29 z30 z31 z32 z33 z34 z35;revert S0 S1 s l w up uc z0 tp tc lp lc z1 n D w5 z2 z3 u30 u31 u32 u33 u34 u35 u36 u37 u38 u39 u40 u41 u42 u43 u44 u45 u46 u47 u48 k z4 z5 z6 z7 z8 u8 u9 u49 u50 u51 u52 u53 u54 u55 u56 u57 u58 u59 u60 u61 u62 u63 u64 u65 u66 u67 u68 u69 u70 u71 u72 u73 u74 u75 u76 u77 u78 u79 u80 u81 u82 u83 u84 u85 u86 u87 u88 u89 u90 u91 u92 u93 u94 u95 u96 u97 z9 z10 z11 z12 z13 z14 z15 z16 z17 u11 u12 u13 u98 u99 u100 u101 u102 u103 u104 u105 u106 u107 u108 u109 u110 u111 u112 u113 u114 u115 u116 u117 u118 u119 u120 u121 u122 u123 u124 u125 u126 u127 u128 u129 u130 u131 u132 u133 u134 u135 u136 u137 u138 u139 u140 u141 u142 u143 u144 u145 u146 u147 u148 u149 u150 u151 u152 u153 u154 u155 u156 u157 u158 u159 u160 u161 u162 u163 u164 u165 u166 u167 u168 u169 u170 u171 u172 u173 u174 u175 u176 u177 z18 z19 z20 z21 z22 z23 z24 z25 z26 u15 u16 u17 u18 u19 u20 u178 u179 u180 u181 u182 u183 u184 u185 u186 u187 u188 u189 u190 u191 u192 u193 u194 u195 u196 u197 u198 u199 u200 u201 u202 u203 u204 u205 u206 u207 u208 u209 u210 u211 u212 u213 u214 u215 u216 u217 u218 u219 u220 u221 u222 u223 u224 u225 u226 u227 u228 u229 u230 u231 u232 u233 u234 u235 u236 u237 u238 u239 u240 u241 u242 u243 u244 u245 u246 u247 u248 u249 u250 u251 u252 u253 u254 u255 u256 u257 u258 u259 u260 u261 u262 u263 u264 z27 z28 z29 z30 z31 z32 z33 z34 z35 wr u22 u23 u265 u266 u267 u268 u269 u270 u271 u272 u273 u274 u275 u276 u277 u278 u279 u280 u281 u282 u283 u284 u285 u286 u287 u288 u289 u290 u291 u292 u293 u294 u295 u296 u297 u298 u299 u300 u301 u302 u303 u304 u305 u306 u307 u308 u309 u310 i;exact cA.out
  have J:i=n:=by omega
  have bE:=Qq (Jm (c:=4) (s:=s) (l:=l) (by rw [HN.out,<- J];exact aH.out))
  clear aH
  have hq:¬ (i:Int)<(n:Int):=by omega
  have aA:=kE A.out bM bF.out
  obtain ⟨y0,y1,y2,y3,y4,y5,y6,y7,y8,y9,cN,cO⟩:=row12 aA
  obtain ⟨f0,f1,f2,f3,f4,f5,f6,f7,f8,f9,cD,cE⟩:=frz12 aA
  have bH:=Qq aA
  clear aA
  go_wp2_with fail
  show bodyPost _ _ _ _ _ (Y9 wr (w.heap.size+1) (.int .i64 0) (.string ⟨#[]⟩) (.int .i64 0) (.int .i64 0) (.string ⟨#[]⟩) (.slice none 0 0) (.slice none 0 0) (.int .i64 0) (.int .i64 0) (.string ⟨#[]⟩) (.slice none 0 0) (.slice none 0 0))
  have aM:Below w.heap.size w (Y9 wr (w.heap.size+1) (.int .i64 0) (.string ⟨#[]⟩) (.int .i64 0) (.int .i64 0) (.string ⟨#[]⟩) (.slice none 0 0) (.slice none 0 0) (.int .i64 0) (.int .i64 0) (.string ⟨#[]⟩) (.slice none 0 0) (.slice none 0 0)):=(Yv (N.out.thn A.out) (by omega))
  exact Q7 (v:=.agg zF) (by simp [results,results77,go_sem,Ya bH.out]) rfl (Ga (c1:=[.int .i64 0,.int .i64 0,.string ⟨#[]⟩,.slice none 0 0,.slice none 0 0]) (c2:=[.int .i64 0,.int .i64 0,.string ⟨#[]⟩,.slice none 0 0,.slice none 0 0]) (rf_ok aX.out bE.out) (Yw _ _) (Yw _ _) (Q8 _) aM)
end Go.Proofs.YtlanplhphiikjaaGreatDoor
