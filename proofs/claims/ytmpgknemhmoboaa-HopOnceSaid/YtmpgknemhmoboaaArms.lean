import Derived.Test.YtmpgknemhmoboaaL17
import Derived.Deep.CutBlock
import Derived.Deep.DeepCutAuto
/- The arms of HopOnce, each as a theorem about its code. -/
namespace Go.Proofs.Ytmpgknemhmoboaa.Arm
set_option linter.unusedSimpArgs false
set_option linter.unusedVariables false
open Go.RowKit Path S17 M17 L17 Base Go.Proofs.YtmpgknemhmoboaaW.PrintWords Go.Proofs.YtmpgknemhmoboaaW.PrintLast Go.Proofs.YtmpgknemhmoboaaW.PrintMore Go.Proofs.Ytmpgknemhmoboaa.Q17h
set_option maxRecDepth 100000 in
set_option maxHeartbeats 4000000 in
theorem arm6 {Q : Exit → Act → World → Prop} {w W : World} {ga gr : Nat} {ep h s t wd wt : Int} {n : Nat} {e l : Int} {va vb : Value} {ws gs : List SFr} {x : Nat} (HLK : Aside0 (LK w W ga gr ep h s t wd wt n e l va vb ws gs x)) (HLT : Aside0 (x < 200)) {u0 u1 u2 u3 u4 u5 u6 u8 u9 u10 u11 u13 u14 u15 u16 u17 u18 u19 u20 u21 u22 u23 u24 u25 u26 u27 u28 u29 u30 u31 u32 u33 u34 u35 u36 u37 u38 u39 u40 u41 u42 u43 u44 u45 u46 u47 u48 u49 u50 u51 u52 u53 u54 u55 u56 u57 u58 u59 u60 u61 u62 u63 u64 u65 u66 u67 u68 u69 u70 u71 u72 u73 u74 u75 u76 u77 u78 u79 u80 u81 u82 u83 u84 u85 u86 u87 u88 u89 u90 u91 u92 u93 u94 u95 u96 u97 u98 u99 u100 u101 u102 u103 u104 u105 u106 u107 u108 u109 u110 u111 u112 u113 u114 u115 u116 u117 u118 u119 u120 u121 u122 u123 u124 u125 u126 u127 u128 u129 u130 u131 u132 u133 u134 u135 u136 u137 u138 u139 u140 u141 u142 u143 u144 u145 u146 u147 u148 u149 u150 u151 u152 u153 u154 u155 u156 u157 u158 u159 u160 u161 u162 u163 u164 u165 u166 u167 u168 u169 u170 u171 u172 u173 u174 u175 u176 u177 u178 u179 u180 u181 u182 u183 u184 u185 u186 u187 u188 u189 u190 u191 u192 u193 u194 u195 u196 u197 u198 u199 u200 u201 u202 u203 u204 u205 u206 u207 u208 u209 u210 u211 u212 u213 u214 u215 u216 u217 u218 u219 u220 u221 u222 u223 u224 u225 u226 u227 u228 u229 u230 u231 u232 u233 u234 u235 u236 u237 u238 u239 u240 u241 u242 u243 u244 u245 u246 u247 u248 u249 u250 u251 u252 u253 u254 u255 u256 u257 u258 u259 u260 u261 u262 u263 u264 u265 u266 u267 u268 u269 u270 u271 u272 u273 u274 u275 u276 u277 u278 u279 u280 u281 u282 u283 u284 u285 u286 u287 u288 u289 u290 u291 u292 u293 u294 u295 u296 u297 u298 u299 u300 u301 u302 u303 u304 u305 u306 u307 u308 u309 u310 u311 u312 u313 u314 u315 u316 u317 u318 u319 u320 u321 u322 u323 u324 u325 u326 u327 u328 u329 u330 u331 u332 u333 u334 u335 u336 u337 u338 u339 u340 u341 u342 u343 : Value} (hQ0 : ∀ (v6 v12 v27 v28 v233 v234 v235 v236 v237 v238 v239 v240 v241 v242 v243 v244 v245 v246 v247 v248 v249 v250 v251 v252 v253 : Value) (W' : World) (n' : Nat), v12 = .int .i64 (h + n') → LK w W' ga gr ep h s t wd wt n' e l va vb ws gs (x + 1) → Q .normal (Act.mk #[u0, u1, u2, u3, u4, u5, v6, .pointer (some ⟨ga, 0, none⟩), u8, u9, u10, u11, v12, u13, u14, u15, u16, u17, u18, u19, u20, u21, u22, u23, u24, u25, u26, v27, v28, u29, u30, u31, u32, u33, u34, u35, u36, u37, u38, u39, u40, u41, u42, u43, u44, u45, u46, u47, u48, u49, u50, u51, u52, u53, u54, u55, u56, u57, u58, u59, u60, u61, u62, u63, u64, u65, u66, u67, u68, u69, u70, u71, u72, u73, u74, u75, u76, u77, u78, u79, u80, u81, u82, u83, u84, u85, u86, u87, u88, u89, u90, u91, u92, u93, u94, u95, u96, u97, u98, u99, u100, u101, u102, u103, u104, u105, u106, u107, u108, u109, u110, u111, u112, u113, u114, u115, u116, u117, u118, u119, u120, u121, u122, u123, u124, u125, u126, u127, u128, u129, u130, u131, u132, u133, u134, u135, u136, u137, u138, u139, u140, u141, u142, u143, u144, u145, u146, u147, u148, u149, u150, u151, u152, u153, u154, u155, u156, u157, u158, u159, u160, u161, u162, u163, u164, u165, u166, u167, u168, u169, u170, u171, u172, u173, u174, u175, u176, u177, u178, u179, u180, u181, u182, u183, u184, u185, u186, u187, u188, u189, u190, u191, u192, u193, u194, u195, u196, u197, u198, u199, u200, u201, u202, u203, u204, u205, u206, u207, u208, u209, u210, u211, u212, u213, u214, u215, u216, u217, u218, u219, u220, u221, u222, u223, u224, u225, u226, u227, u228, u229, u230, u231, u232, v233, v234, v235, v236, v237, v238, v239, v240, v241, v242, v243, v244, v245, v246, v247, v248, v249, v250, v251, v252, v253, u254, u255, u256, u257, u258, u259, u260, u261, u262, u263, u264, u265, u266, u267, u268, u269, u270, u271, u272, u273, u274, u275, u276, u277, u278, u279, u280, u281, u282, u283, u284, u285, u286, u287, u288, u289, u290, u291, u292, u293, u294, u295, u296, u297, u298, u299, u300, u301, u302, u303, u304, u305, u306, u307, u308, u309, u310, u311, u312, u313, u314, u315, u316, u317, u318, u319, u320, u321, u322, u323, u324, u325, u326, u327, u328, u329, u330, u331, u332, u333, u334, u335, u336, u337, u338, u339, u340, u341, u342, u343] []) W') :
    Code.wp Try.prog (condT (seqR (condF (seqR (condF (seqR (condF (seqR (condF (seqR (blockB (seqR (seqR (blockB (seqL (seqR (loopB (blockB (seqR (seqL (seqR (seqR (seqR (seqR (seqR (seqR (seqR (seqR (seqR (bodyOf Try.f8)))))))))))))))))))))))))))))) Q (Act.mk #[u0, u1, u2, u3, u4, u5, u6, .pointer (some ⟨ga, 0, none⟩), u8, u9, u10, u11, .int .i64 (h + n), u13, u14, u15, u16, u17, u18, u19, u20, u21, u22, u23, u24, u25, u26, u27, u28, u29, u30, u31, u32, u33, u34, u35, u36, u37, u38, u39, u40, u41, u42, u43, u44, u45, u46, u47, u48, u49, u50, u51, u52, u53, u54, u55, u56, u57, u58, u59, u60, u61, u62, u63, u64, u65, u66, u67, u68, u69, u70, u71, u72, u73, u74, u75, u76, u77, u78, u79, u80, u81, u82, u83, u84, u85, u86, u87, u88, u89, u90, u91, u92, u93, u94, u95, u96, u97, u98, u99, u100, u101, u102, u103, u104, u105, u106, u107, u108, u109, u110, u111, u112, u113, u114, u115, u116, u117, u118, u119, u120, u121, u122, u123, u124, u125, u126, u127, u128, u129, u130, u131, u132, u133, u134, u135, u136, u137, u138, u139, u140, u141, u142, u143, u144, u145, u146, u147, u148, u149, u150, u151, u152, u153, u154, u155, u156, u157, u158, u159, u160, u161, u162, u163, u164, u165, u166, u167, u168, u169, u170, u171, u172, u173, u174, u175, u176, u177, u178, u179, u180, u181, u182, u183, u184, u185, u186, u187, u188, u189, u190, u191, u192, u193, u194, u195, u196, u197, u198, u199, u200, u201, u202, u203, u204, u205, u206, u207, u208, u209, u210, u211, u212, u213, u214, u215, u216, u217, u218, u219, u220, u221, u222, u223, u224, u225, u226, u227, u228, u229, u230, u231, u232, u233, u234, u235, u236, u237, u238, u239, u240, u241, u242, u243, u244, u245, u246, u247, u248, u249, u250, u251, u252, u253, u254, u255, u256, u257, u258, u259, u260, u261, u262, u263, u264, u265, u266, u267, u268, u269, u270, u271, u272, u273, u274, u275, u276, u277, u278, u279, u280, u281, u282, u283, u284, u285, u286, u287, u288, u289, u290, u291, u292, u293, u294, u295, u296, u297, u298, u299, u300, u301, u302, u303, u304, u305, u306, u307, u308, u309, u310, u311, u312, u313, u314, u315, u316, u317, u318, u319, u320, u321, u322, u323, u324, u325, u326, u327, u328, u329, u330, u331, u332, u333, u334, u335, u336, u337, u338, u339, u340, u341, u342, u343] []) W := by
  have HQ0 := Aside0.mk hQ0
  clear hQ0
  simp only [Path.seqL, Path.seqR, Path.condT, Path.condF, Path.blockB, Path.loopB, Path.bodyOf, Try.f8, Option.getD]
  have hcv := fun (W : World) (t : TypeId) => chr_conv (h + n + 1) W t
  have v1 : wrap64 (h + n + 1) = h + n + 1 := Pl.w64 (by have := HLK.out.S.has; omega) (by have := HLK.out.hput; have := HLK.out.hx; omega)
  go_wp2_with fail
  have HL2 := Aside0.mk (HLK.out.below (below_alloc (Below.refl _ _) (.cells #[.int .u8 ((h + n + 1) % 256)] 5)))
  refine (s_put _ HL2.out.S).mono ?_
  rintro e' w3 ⟨rfl, hs, hu⟩
  rw [items_len] at ⊢
  have hrg : h + n + 1 ≤ 1099511627776 := by have := HLK.out.hput; have := HLK.out.hx; omega
  by_cases c64 : n < 64
  · obtain ⟨p1, p2⟩ := put_items h n c64 hrg
    rw [p1] at hs
    rw [p2]
    have HN := Aside0.mk (HL2.out.put1 HLT.out hs hu)
    clear hs hu p1 p2 c64 hrg
    go_wp2
    refine HQ0.out _ _ _ _ _ _ _ _ _ _ _ _ _ _ _ _ _ _ _ _ _ _ _ _ _ _ (n + 1) ?_ HN.out
    first | rfl | (rw [v1]; congr 1; omega) | (congr 1; omega)
  · obtain ⟨p1, p2⟩ := put_full h n c64
    rw [p1] at hs
    rw [p2]
    have HN := Aside0.mk ((HL2.out.sent2 hs hu).next HLT.out)
    clear hs hu p1 p2 c64 hrg
    go_wp2
    exact HQ0.out _ _ _ _ _ _ _ _ _ _ _ _ _ _ _ _ _ _ _ _ _ _ _ _ _ _ n rfl HN.out
set_option maxRecDepth 100000 in
set_option maxHeartbeats 4000000 in
theorem arm7 {Q : Exit → Act → World → Prop} {w W : World} {ga gr : Nat} {ep h s t wd wt : Int} {n : Nat} {e l : Int} {va vb : Value} {ws gs : List SFr} {x : Nat} (HLK : Aside0 (LK w W ga gr ep h s t wd wt n e l va vb ws gs x)) (HLT : Aside0 (x < 200)) (HWD : Aside0 ((1 ≤ wd ∧ wd ≤ 16) ∧ (1 ≤ wt ∧ wt ≤ 9))) {u0 u3 u4 u5 u6 u8 u9 u10 u12 u13 u14 u15 u16 u17 u18 u19 u20 u21 u22 u23 u24 u25 u26 u27 u28 u29 u30 u31 u32 u33 u34 u35 u36 u37 u38 u39 u40 u41 u42 u43 u44 u45 u46 u47 u48 u49 u50 u51 u52 u53 u54 u55 u56 u57 u58 u59 u60 u61 u62 u63 u64 u65 u66 u67 u68 u69 u70 u71 u72 u73 u74 u75 u76 u77 u78 u79 u80 u81 u82 u83 u84 u85 u86 u87 u88 u89 u90 u91 u92 u93 u94 u95 u96 u97 u98 u99 u100 u101 u102 u103 u104 u105 u106 u107 u108 u109 u110 u111 u112 u113 u114 u115 u116 u117 u118 u119 u120 u121 u122 u123 u124 u125 u126 u127 u128 u129 u130 u131 u132 u133 u134 u135 u136 u137 u138 u139 u140 u141 u142 u143 u144 u145 u146 u147 u148 u149 u150 u151 u152 u153 u154 u155 u156 u157 u158 u159 u160 u161 u162 u163 u164 u165 u166 u167 u168 u169 u170 u171 u172 u173 u174 u175 u176 u177 u178 u179 u180 u181 u182 u183 u184 u185 u186 u187 u188 u189 u190 u191 u192 u193 u194 u195 u196 u197 u198 u199 u200 u201 u202 u203 u204 u205 u206 u207 u208 u209 u210 u211 u212 u213 u214 u215 u216 u217 u218 u219 u220 u221 u222 u223 u224 u225 u226 u227 u228 u229 u230 u231 u232 u233 u234 u235 u236 u237 u238 u239 u240 u241 u242 u243 u244 u245 u246 u247 u248 u249 u250 u251 u252 u253 u254 u255 u256 u257 u258 u259 u260 u261 u262 u263 u264 u265 u266 u267 u268 u269 u270 u271 u272 u273 u274 u275 u276 u277 u278 u279 u280 u281 u282 u283 u284 u285 u286 u287 u288 u289 u290 u291 u292 u293 u294 u295 u296 u297 u298 u299 u300 u301 u302 u303 u304 u305 u306 u307 u308 u309 u310 u311 u312 u313 u314 u315 u316 u317 u318 u319 u320 u321 u322 u323 u324 u325 u326 u327 u328 u329 u330 u331 u332 u333 u334 u335 u336 u337 u338 u339 u340 u341 u342 u343 : Value} (hQ0 : ∀ (v6 v7 v8 v11 v29 v30 v31 v32 v256 v257 v258 v259 v260 v261 v262 v263 v264 v265 v266 v267 v268 v269 v270 v271 v272 v273 v274 v275 v276 v277 v278 v279 v280 v281 v282 v283 v284 v285 v286 : Value) (W' : World) (ga' : Nat), v7 = .pointer (some ⟨ga', 0, none⟩) → v11 = .int .i64 (ep + 1) → LK w W' ga' gr (ep + 1) h h 0 wd wt n e l va vb ws gs (x + 1) → Q .normal (Act.mk #[u0, .int .i64 wd, .int .i64 wt, u3, u4, u5, v6, v7, v8, u9, u10, v11, u12, u13, u14, u15, u16, u17, u18, u19, u20, u21, u22, u23, u24, u25, u26, u27, u28, v29, v30, v31, v32, u33, u34, u35, u36, u37, u38, u39, u40, u41, u42, u43, u44, u45, u46, u47, u48, u49, u50, u51, u52, u53, u54, u55, u56, u57, u58, u59, u60, u61, u62, u63, u64, u65, u66, u67, u68, u69, u70, u71, u72, u73, u74, u75, u76, u77, u78, u79, u80, u81, u82, u83, u84, u85, u86, u87, u88, u89, u90, u91, u92, u93, u94, u95, u96, u97, u98, u99, u100, u101, u102, u103, u104, u105, u106, u107, u108, u109, u110, u111, u112, u113, u114, u115, u116, u117, u118, u119, u120, u121, u122, u123, u124, u125, u126, u127, u128, u129, u130, u131, u132, u133, u134, u135, u136, u137, u138, u139, u140, u141, u142, u143, u144, u145, u146, u147, u148, u149, u150, u151, u152, u153, u154, u155, u156, u157, u158, u159, u160, u161, u162, u163, u164, u165, u166, u167, u168, u169, u170, u171, u172, u173, u174, u175, u176, u177, u178, u179, u180, u181, u182, u183, u184, u185, u186, u187, u188, u189, u190, u191, u192, u193, u194, u195, u196, u197, u198, u199, u200, u201, u202, u203, u204, u205, u206, u207, u208, u209, u210, u211, u212, u213, u214, u215, u216, u217, u218, u219, u220, u221, u222, u223, u224, u225, u226, u227, u228, u229, u230, u231, u232, u233, u234, u235, u236, u237, u238, u239, u240, u241, u242, u243, u244, u245, u246, u247, u248, u249, u250, u251, u252, u253, u254, u255, v256, v257, v258, v259, v260, v261, v262, v263, v264, v265, v266, v267, v268, v269, v270, v271, v272, v273, v274, v275, v276, v277, v278, v279, v280, v281, v282, v283, v284, v285, v286, u287, u288, u289, u290, u291, u292, u293, u294, u295, u296, u297, u298, u299, u300, u301, u302, u303, u304, u305, u306, u307, u308, u309, u310, u311, u312, u313, u314, u315, u316, u317, u318, u319, u320, u321, u322, u323, u324, u325, u326, u327, u328, u329, u330, u331, u332, u333, u334, u335, u336, u337, u338, u339, u340, u341, u342, u343] []) W') :
    Code.wp Try.prog (condT (seqR (condF (seqR (condF (seqR (condF (seqR (condF (seqR (condF (seqR (blockB (seqR (seqR (blockB (seqL (seqR (loopB (blockB (seqR (seqL (seqR (seqR (seqR (seqR (seqR (seqR (seqR (seqR (seqR (bodyOf Try.f8)))))))))))))))))))))))))))))))) Q (Act.mk #[u0, .int .i64 wd, .int .i64 wt, u3, u4, u5, u6, .pointer (some ⟨ga, 0, none⟩), u8, u9, u10, .int .i64 ep, u12, u13, u14, u15, u16, u17, u18, u19, u20, u21, u22, u23, u24, u25, u26, u27, u28, u29, u30, u31, u32, u33, u34, u35, u36, u37, u38, u39, u40, u41, u42, u43, u44, u45, u46, u47, u48, u49, u50, u51, u52, u53, u54, u55, u56, u57, u58, u59, u60, u61, u62, u63, u64, u65, u66, u67, u68, u69, u70, u71, u72, u73, u74, u75, u76, u77, u78, u79, u80, u81, u82, u83, u84, u85, u86, u87, u88, u89, u90, u91, u92, u93, u94, u95, u96, u97, u98, u99, u100, u101, u102, u103, u104, u105, u106, u107, u108, u109, u110, u111, u112, u113, u114, u115, u116, u117, u118, u119, u120, u121, u122, u123, u124, u125, u126, u127, u128, u129, u130, u131, u132, u133, u134, u135, u136, u137, u138, u139, u140, u141, u142, u143, u144, u145, u146, u147, u148, u149, u150, u151, u152, u153, u154, u155, u156, u157, u158, u159, u160, u161, u162, u163, u164, u165, u166, u167, u168, u169, u170, u171, u172, u173, u174, u175, u176, u177, u178, u179, u180, u181, u182, u183, u184, u185, u186, u187, u188, u189, u190, u191, u192, u193, u194, u195, u196, u197, u198, u199, u200, u201, u202, u203, u204, u205, u206, u207, u208, u209, u210, u211, u212, u213, u214, u215, u216, u217, u218, u219, u220, u221, u222, u223, u224, u225, u226, u227, u228, u229, u230, u231, u232, u233, u234, u235, u236, u237, u238, u239, u240, u241, u242, u243, u244, u245, u246, u247, u248, u249, u250, u251, u252, u253, u254, u255, u256, u257, u258, u259, u260, u261, u262, u263, u264, u265, u266, u267, u268, u269, u270, u271, u272, u273, u274, u275, u276, u277, u278, u279, u280, u281, u282, u283, u284, u285, u286, u287, u288, u289, u290, u291, u292, u293, u294, u295, u296, u297, u298, u299, u300, u301, u302, u303, u304, u305, u306, u307, u308, u309, u310, u311, u312, u313, u314, u315, u316, u317, u318, u319, u320, u321, u322, u323, u324, u325, u326, u327, u328, u329, u330, u331, u332, u333, u334, u335, u336, u337, u338, u339, u340, u341, u342, u343] []) W := by
  have HQ0 := Aside0.mk hQ0
  clear hQ0
  simp only [Path.seqL, Path.seqR, Path.condT, Path.condF, Path.blockB, Path.loopB, Path.bodyOf, Try.f8, Option.getD]
  have HV1 : Aside0 (wrap64 (ep + 1) = ep + 1) := ⟨Pl.w64 (by have := HLK.out.hep; omega) (by have := HLK.out.hep; have := HLK.out.hx; omega)⟩
  have HV2 : Aside0 (wrap64 (h + 1) = h + 1) := ⟨Pl.w64 (by have := HLK.out.S.has; omega) (by have := HLK.out.hput; have := HLK.out.hx; omega)⟩
  have hcv := fun (k : Int) (W : World) (t : TypeId) => chr_conv k W t
  go_wp2_with fail
  refine (s_state HLK.out.S).mono ?_
  rintro e' w3 ⟨rfl, hb⟩
  rw [items_len]
  have HL3 := Aside0.mk (HLK.out.below hb)
  clear hb
  go_wp2_with fail
  rw [HV1.out]
  refine (s_new (ep + 1) h wd wt (by have h1 := HLK.out.hep; have h2 := HLK.out.hput; have h3 := HLK.out.hx; have h4 := HLK.out.S.has; have h5 := HWD.out; unfold NewOk; omega) HL3.out.S.lo).mono ?_
  rintro e' w4 ⟨⟨ga2, rfl, hs⟩, hb⟩
  have HL4 := Aside0.mk (HL3.out.below hb)
  have HS4 : Aside0 (S1 w w4 ga2 (ep + 1) h h 0 wd wt (items h 0)) := ⟨hs⟩
  have HU4 := Aside0.mk (TU.refl [96, 87] w4)
  have HRG : Aside0 (0 ≤ h ∧ h + n ≤ 200 ∧ n ≤ 64) := ⟨by have := HLK.out.S.has; have := HLK.out.hput; have := HLK.out.hx; have := HLK.out.n64; omega⟩
  clear hb hs HL3 HLK
  go_wp2
  go_loopg [32] (n + 1) (fun kq v32 W' => ∃ (j : Nat), v32 = .int .i64 (h + j + 1) ∧ Aside0 (j ≤ n ∧ j + kq = n + 1) ∧ Aside0 (S1 w W' ga2 (ep + 1) h h 0 wd wt (items h j)) ∧ Aside0 (TU [96, 87] w4 W'))
  case atStart => exact ⟨0, by rw [HV2.out]; simp, ⟨by omega, by omega⟩, HS4, HU4⟩
  case round =>
    clear HS4 HU4
    obtain ⟨j, rfl, HJ, HS4, HU4⟩ := hrel
    have v3 : wrap64 (h + j + 1 + 1) = h + j + 1 + 1 := Pl.w64 (by have := HRG.out; omega) (by have := HRG.out; have := HJ.out; omega)
    by_cases c1 : j < n
    · have e1 : decide (h + (j : Int) + 1 < h + n + 1) = true := decide_eq_true (by omega)
      have p1 : (h + (j : Int) + 1 < h + n + 1) = True := eq_true (by omega)
      have p2 : ((j : Int) < n) = True := eq_true (by omega)
      have p3 : (j < n) = True := eq_true c1
      have HJN := Aside0.mk c1
      clear c1
      go_wp2_with fail
      have HS5 := Aside0.mk (HS4.out.below (below_alloc (Below.refl _ _) (.cells #[.int .u8 ((h + j + 1) % 256)] 5)))
      have HU5 := Aside0.mk (HU4.out.trans (TU.below (below_alloc (Below.refl _ _) (.cells #[.int .u8 ((h + j + 1) % 256)] 5))))
      refine (s_put _ HS5.out).mono ?_
      rintro e' w5 ⟨rfl, hs, hu⟩
      rw [(put_items h j (by have := HRG.out; have := HJN.out; omega) (by have := HRG.out; have := HJN.out; omega)).1] at hs
      have HS6 := Aside0.mk hs
      have HU6 := Aside0.mk (HU5.out.trans hu)
      clear hs hu HS5 HU5 HS4 HU4
      go_wp2
      go_roundg (gk - 1)
      case measure => have := HJ.out; omega
      case rel => exact ⟨j + 1, by first | rfl | (rw [v3]; congr 1; omega), ⟨by have := HJ.out; have := HJN.out; omega⟩, HS6, HU6⟩
    · have e1 : decide (h + (j : Int) + 1 < h + n + 1) = false := decide_eq_false (by omega)
      have p1 : (h + (j : Int) + 1 < h + n + 1) = False := eq_false (by omega)
      have p2 : ((j : Int) < n) = False := eq_false (by omega)
      have p3 : (j < n) = False := eq_false c1
      obtain rfl : j = n := by have := HJ.out; omega
      have HN := Aside0.mk (HL4.out.anew HLT.out HS4.out HU4.out)
      clear c1
      go_wp2
      exact HQ0.out _ _ _ _ _ _ _ _ _ _ _ _ _ _ _ _ _ _ _ _ _ _ _ _ _ _ _ _ _ _ _ _ _ _ _ _ _ _ _ _ ga2 rfl (by first | rfl | rw [HV1.out]) HN.out
set_option maxRecDepth 100000 in
set_option maxHeartbeats 4000000 in
theorem arm0 {Q : Exit → Act → World → Prop} (hP : ∀ {ex : Exit} {a a' : Act} {w : World}, (∃ c, ex = .panic c) → a.defers = a'.defers → Q ex a w → Q ex a' w) {w W : World} {ga gr : Nat} {ep h s t wd wt : Int} {n : Nat} {e l : Int} {va vb : Value} {ws gs : List SFr} {x : Nat} (HLK : Aside0 (LK w W ga gr ep h s t wd wt n e l va vb ws gs x)) (HLT : Aside0 (x < 200)) (HWD : Aside0 ((1 ≤ wd ∧ wd ≤ 16) ∧ (1 ≤ wt ∧ wt ≤ 9))) {u0 u1 u2 u3 u4 u5 u6 u8 u9 u10 u12 u14 u15 u16 u17 u18 u19 u20 u21 u22 u23 u24 u25 u26 u27 u28 u29 u30 u31 u32 u33 u34 u35 u36 u37 u38 u39 u40 u41 u42 u43 u44 u45 u46 u47 u48 u49 u50 u51 u52 u53 u54 u55 u56 u57 u58 u59 u60 u61 u62 u63 u64 u65 u66 u67 u68 u69 u70 u71 u72 u73 u74 u75 u76 u77 u78 u79 u80 u81 u82 u83 u84 u85 u86 u87 u88 u89 u90 u91 u92 u93 u94 u95 u96 u97 u98 u99 u100 u101 u102 u103 u104 u105 u106 u107 u108 u109 u110 u111 u112 u113 u114 u115 u116 u117 u118 u119 u120 u121 u122 u123 u124 u125 u126 u127 u128 u129 u130 u131 u132 u133 u134 u135 u136 u137 u138 u139 u140 u141 u142 u143 u144 u145 u146 u147 u148 u149 u150 u151 u152 u153 u154 u155 u156 u157 u158 u159 u160 u161 u162 u163 u164 u165 u166 u167 u168 u169 u170 u171 u172 u173 u174 u175 u176 u177 u178 u179 u180 u181 u182 u183 u184 u185 u186 u187 u188 u189 u190 u191 u192 u193 u194 u195 u196 u197 u198 u199 u200 u201 u202 u203 u204 u205 u206 u207 u208 u209 u210 u211 u212 u213 u214 u215 u216 u217 u218 u219 u220 u221 u222 u223 u224 u225 u226 u227 u228 u229 u230 u231 u232 u233 u234 u235 u236 u237 u238 u239 u240 u241 u242 u243 u244 u245 u246 u247 u248 u249 u250 u251 u252 u253 u254 u255 u256 u257 u258 u259 u260 u261 u262 u263 u264 u265 u266 u267 u268 u269 u270 u271 u272 u273 u274 u275 u276 u277 u278 u279 u280 u281 u282 u283 u284 u285 u286 u287 u288 u289 u290 u291 u292 u293 u294 u295 u296 u297 u298 u299 u300 u301 u302 u303 u304 u305 u306 u307 u308 u309 u310 u311 u312 u313 u314 u315 u316 u317 u318 u319 u320 u321 u322 u323 u324 u325 u326 u327 u328 u329 u330 u331 u332 u333 u334 u335 u336 u337 u338 u339 u340 u341 u342 u343 : Value} (hQ0 : ∀ (v6 v13 v17 v18 v97 v98 v99 v100 v101 v102 v103 v104 v105 v106 v107 v108 v109 v110 v111 v112 v113 v114 v115 v116 v117 v118 v119 v120 v121 v122 v123 v124 v125 v126 v127 v128 : Value) (W' : World) (s' t' : Int) (ws' : List SFr), LK w W' ga gr ep h s' t' wd wt n e l v13 vb ws' gs (x + 1) → Q .normal (Act.mk #[u0, u1, u2, u3, u4, u5, v6, .pointer (some ⟨ga, 0, none⟩), u8, u9, u10, .int .i64 ep, u12, v13, u14, u15, u16, v17, v18, u19, u20, u21, u22, u23, u24, u25, u26, u27, u28, u29, u30, u31, u32, u33, u34, u35, u36, u37, u38, u39, u40, u41, u42, u43, u44, u45, u46, u47, u48, u49, u50, u51, u52, u53, u54, u55, u56, u57, u58, u59, u60, u61, u62, u63, u64, u65, u66, u67, u68, u69, u70, u71, u72, u73, u74, u75, u76, u77, u78, u79, u80, u81, u82, u83, u84, u85, u86, u87, u88, u89, u90, u91, u92, u93, u94, u95, u96, v97, v98, v99, v100, v101, v102, v103, v104, v105, v106, v107, v108, v109, v110, v111, v112, v113, v114, v115, v116, v117, v118, v119, v120, v121, v122, v123, v124, v125, v126, v127, v128, u129, u130, u131, u132, u133, u134, u135, u136, u137, u138, u139, u140, u141, u142, u143, u144, u145, u146, u147, u148, u149, u150, u151, u152, u153, u154, u155, u156, u157, u158, u159, u160, u161, u162, u163, u164, u165, u166, u167, u168, u169, u170, u171, u172, u173, u174, u175, u176, u177, u178, u179, u180, u181, u182, u183, u184, u185, u186, u187, u188, u189, u190, u191, u192, u193, u194, u195, u196, u197, u198, u199, u200, u201, u202, u203, u204, u205, u206, u207, u208, u209, u210, u211, u212, u213, u214, u215, u216, u217, u218, u219, u220, u221, u222, u223, u224, u225, u226, u227, u228, u229, u230, u231, u232, u233, u234, u235, u236, u237, u238, u239, u240, u241, u242, u243, u244, u245, u246, u247, u248, u249, u250, u251, u252, u253, u254, u255, u256, u257, u258, u259, u260, u261, u262, u263, u264, u265, u266, u267, u268, u269, u270, u271, u272, u273, u274, u275, u276, u277, u278, u279, u280, u281, u282, u283, u284, u285, u286, u287, u288, u289, u290, u291, u292, u293, u294, u295, u296, u297, u298, u299, u300, u301, u302, u303, u304, u305, u306, u307, u308, u309, u310, u311, u312, u313, u314, u315, u316, u317, u318, u319, u320, u321, u322, u323, u324, u325, u326, u327, u328, u329, u330, u331, u332, u333, u334, u335, u336, u337, u338, u339, u340, u341, u342, u343] []) W') :
    Code.wp Try.prog (condT (seqR (blockB (seqR (seqR (blockB (seqL (seqR (loopB (blockB (seqR (seqL (seqR (seqR (seqR (seqR (seqR (seqR (seqR (seqR (seqR (bodyOf Try.f8)))))))))))))))))))))) Q (Act.mk #[u0, u1, u2, u3, u4, u5, u6, .pointer (some ⟨ga, 0, none⟩), u8, u9, u10, .int .i64 ep, u12, va, u14, u15, u16, u17, u18, u19, u20, u21, u22, u23, u24, u25, u26, u27, u28, u29, u30, u31, u32, u33, u34, u35, u36, u37, u38, u39, u40, u41, u42, u43, u44, u45, u46, u47, u48, u49, u50, u51, u52, u53, u54, u55, u56, u57, u58, u59, u60, u61, u62, u63, u64, u65, u66, u67, u68, u69, u70, u71, u72, u73, u74, u75, u76, u77, u78, u79, u80, u81, u82, u83, u84, u85, u86, u87, u88, u89, u90, u91, u92, u93, u94, u95, u96, u97, u98, u99, u100, u101, u102, u103, u104, u105, u106, u107, u108, u109, u110, u111, u112, u113, u114, u115, u116, u117, u118, u119, u120, u121, u122, u123, u124, u125, u126, u127, u128, u129, u130, u131, u132, u133, u134, u135, u136, u137, u138, u139, u140, u141, u142, u143, u144, u145, u146, u147, u148, u149, u150, u151, u152, u153, u154, u155, u156, u157, u158, u159, u160, u161, u162, u163, u164, u165, u166, u167, u168, u169, u170, u171, u172, u173, u174, u175, u176, u177, u178, u179, u180, u181, u182, u183, u184, u185, u186, u187, u188, u189, u190, u191, u192, u193, u194, u195, u196, u197, u198, u199, u200, u201, u202, u203, u204, u205, u206, u207, u208, u209, u210, u211, u212, u213, u214, u215, u216, u217, u218, u219, u220, u221, u222, u223, u224, u225, u226, u227, u228, u229, u230, u231, u232, u233, u234, u235, u236, u237, u238, u239, u240, u241, u242, u243, u244, u245, u246, u247, u248, u249, u250, u251, u252, u253, u254, u255, u256, u257, u258, u259, u260, u261, u262, u263, u264, u265, u266, u267, u268, u269, u270, u271, u272, u273, u274, u275, u276, u277, u278, u279, u280, u281, u282, u283, u284, u285, u286, u287, u288, u289, u290, u291, u292, u293, u294, u295, u296, u297, u298, u299, u300, u301, u302, u303, u304, u305, u306, u307, u308, u309, u310, u311, u312, u313, u314, u315, u316, u317, u318, u319, u320, u321, u322, u323, u324, u325, u326, u327, u328, u329, u330, u331, u332, u333, u334, u335, u336, u337, u338, u339, u340, u341, u342, u343] []) W := by
  have HQ0 := Aside0.mk hQ0
  clear hQ0
  simp only [Path.seqL, Path.seqR, Path.condT, Path.condF, Path.blockB, Path.loopB, Path.bodyOf, Try.f8, Option.getD]
  go_wp2_with fail
  refine (s_out HLK.out.S).mono ?_
  rintro e w3 ⟨⟨Av, cv, rfl, hq⟩, hs, hu⟩
  have hsn : h ≤ s ∧ s ≤ h + n := by have := HLK.out.S.sent; rwa [items_len] at this
  rw [out_items n h s wd hsn HWD.out.1.1] at hq ⊢
  obtain ⟨m, hm⟩ : ∃ m, m = outN n h s wd := ⟨_, rfl⟩
  have hm2 : s + m ≤ h + n ∧ m ≤ 64 := by
    have h1 := HLK.out.n64
    rw [hm]
    unfold outN outTo mx mn
    constructor
    · repeat' split
      all_goals omega
    · repeat' split
      all_goals omega
  rw [← hm, items_len] at hq ⊢
  have HN := Aside0.mk ((HLK.out.sent hs hu).next HLT.out)
  have HQ := Aside0.mk hq
  have HM := Aside0.mk hm2
  have HS0 := Aside0.mk hsn
  have HWL := Aside0.mk HLK.out.wsl
  clear hs hu hq hm hm2 hsn HLK
  generalize h + outTo _ h s wd = s2 at HN
  go_wp2
  go_loopg [13, 18] (m + 1) (fun kq v13 v18 W' => ∃ (j : Nat) (ws' : List SFr) (va' : Value), v13 = va' ∧ v18 = .int .i64 j ∧ Aside0 (j ≤ m ∧ j + kq = m + 1 ∧ ws'.length ≤ 64 * x + j) ∧ Aside0 (LK w W' ga gr ep h s2 t wd wt n e l va' vb ws' gs (x + 1)) ∧ Aside0 (Kd.Q k87 87 W' w.heap.size (fun _ => True) (.slice Av m cv) (items s m)))
  case atStart => exact ⟨0, ws, _, rfl, rfl, ⟨by omega, by omega, HWL.out⟩, HN, HQ⟩
  case round =>
    clear HN HQ
    obtain ⟨j, ws', va', rfl, rfl, HJ, HN, HQ⟩ := hrel
    by_cases c1 : j < m
    · have e1 : decide ((j : Int) < (m : Int)) = true := decide_eq_true (by omega)
      have HJM := Aside0.mk c1
      obtain ⟨ad2, hA, q0, q1⟩ := at_T87 (Kd.Q_reads' HQ.out).2.2 (j : Int) (by omega) (by rw [items_len]; omega)
      rw [items_rd s m j c1, Int.toNat_natCast] at q0 q1
      obtain ⟨N, hN⟩ : ∃ N, N = s + 1 + j := ⟨_, rfl⟩
      have hI : item s j = ⟨N, chr N⟩ := by unfold item; rw [hN]
      rw [hI] at q0 q1
      simp only at q0 q1
      have HNN := Aside0.mk hN
      clear hN hI
      subst hA
      have p1 : (j < m) = True := eq_true c1
      clear c1
      have hcv : ∀ (W : World) (t : TypeId), Sem.run Try.prog (convert 88 9 (.slice (some ⟨W.heap.size, 0, none⟩) 1 1)) (W.alloc (.cells #[.int .u8 (IntKind.u8.wrap N)] t)).drew = .ok (.string (chr N)) (W.alloc (.cells #[.int .u8 (IntKind.u8.wrap N)] t)).drew := fun W t => by
        rw [show IntKind.u8.wrap N = N % 256 from IntKind.wrap_u8 N]
        exact chr_conv N W.drew t
      go_upto_region 21 with (fail)
      refine start_ (n := 14) (S := fun w' => w'.cell? (ad2.add (j * 2)) = some (.int .i64 N) ∧ w'.cell? ⟨(ad2.add (j * 2)).block, (ad2.add (j * 2)).off + 1, none⟩ = some (.string (chr N))) (ds := []) #[false, false, false, false, false, false, false, false, false, false, false, false, false, false] (by kernel_rfl) rfl rfl ⟨q0, q1⟩ (fun hHeld => ?_)
      refine pure_ (i := 0) (N := some 105) (v := ?_) (a' := ?_) #[true, false, false, false, false, false, false, false, false, false, false, false, false, false] rfl rfl (by kernel_rfl) (fun _ _ _ h => hP ⟨_, rfl⟩ (by rfl) h) (Or.inl ⟨by rfl, ?_⟩) ?_ ?_
      rotate_left
      · intro w'
        go_simp
        with_reducible rfl
      rotate_left
      · simp only [Act.put, List.setIfInBounds_toArray, List.set_cons_zero, List.set_cons_succ, i64_w, i32_w]
        rfl
      refine pure_ (i := 1) (N := some 106) (v := ?_) (a' := ?_) #[true, true, false, false, false, false, false, false, false, false, false, false, false, false] rfl rfl (by kernel_rfl) (fun _ _ _ h => hP ⟨_, rfl⟩ (by rfl) h) (Or.inl ⟨by rfl, ?_⟩) ?_ ?_
      rotate_left
      · intro w'
        go_simp
        with_reducible rfl
      rotate_left
      · simp only [Act.put, List.setIfInBounds_toArray, List.set_cons_zero, List.set_cons_succ, i64_w, i32_w]
        rfl
      refine pure_ (i := 2) (N := some 107) (v := ?_) (a' := ?_) #[true, true, true, false, false, false, false, false, false, false, false, false, false, false] rfl rfl (by kernel_rfl) (fun _ _ _ h => hP ⟨_, rfl⟩ (by rfl) h) (Or.inl ⟨by rfl, ?_⟩) ?_ ?_
      rotate_left
      · intro w'
        go_simp
        with_reducible rfl
      rotate_left
      · simp only [Act.put, List.setIfInBounds_toArray, List.set_cons_zero, List.set_cons_succ, i64_w, i32_w]
        rfl
      refine pure_ (i := 3) (N := some 108) (v := ?_) (a' := ?_) #[true, true, true, true, false, false, false, false, false, false, false, false, false, false] rfl rfl (by kernel_rfl) (fun _ _ _ h => hP ⟨_, rfl⟩ (by rfl) h) (Or.inl ⟨by rfl, ?_⟩) ?_ ?_
      rotate_left
      · intro w'
        go_simp
        with_reducible rfl
      rotate_left
      · simp only [Act.put, List.setIfInBounds_toArray, List.set_cons_zero, List.set_cons_succ, i64_w, i32_w]
        rfl
      refine pure_ (i := 5) (N := some 110) (v := ?_) (a' := ?_) #[true, true, true, true, false, true, false, false, false, false, false, false, false, false] rfl rfl (by kernel_rfl) (fun _ _ _ h => hP ⟨_, rfl⟩ (by rfl) h) (Or.inl ⟨by rfl, ?_⟩) ?_ ?_
      rotate_left
      · intro w'
        go_simp
        with_reducible rfl
      rotate_left
      · simp only [Act.put, List.setIfInBounds_toArray, List.set_cons_zero, List.set_cons_succ, i64_w, i32_w]
        rfl
      refine pure_ (i := 6) (N := some 111) (v := ?_) (a' := ?_) #[true, true, true, true, false, true, true, false, false, false, false, false, false, false] rfl rfl (by kernel_rfl) (fun _ _ _ h => hP ⟨_, rfl⟩ (by rfl) h) (Or.inl ⟨by rfl, ?_⟩) ?_ ?_
      rotate_left
      · intro w'
        go_simp
        with_reducible rfl
      rotate_left
      · simp only [Act.put, List.setIfInBounds_toArray, List.set_cons_zero, List.set_cons_succ, i64_w, i32_w]
        rfl
      refine pure_ (i := 7) (N := some 112) (v := ?_) (a' := ?_) #[true, true, true, true, false, true, true, true, false, false, false, false, false, false] rfl rfl (by kernel_rfl) (fun _ _ _ h => hP ⟨_, rfl⟩ (by rfl) h) (Or.inl ⟨by rfl, ?_⟩) ?_ ?_
      rotate_left
      · intro w'
        go_simp
        with_reducible rfl
      rotate_left
      · simp only [Act.put, List.setIfInBounds_toArray, List.set_cons_zero, List.set_cons_succ, i64_w, i32_w]
        rfl
      refine pure_ (i := 8) (N := some 113) (v := ?_) (a' := ?_) #[true, true, true, true, false, true, true, true, true, false, false, false, false, false] rfl rfl (by kernel_rfl) (fun _ _ _ h => hP ⟨_, rfl⟩ (by rfl) h) (Or.inl ⟨by rfl, ?_⟩) ?_ ?_
      rotate_left
      · intro w'
        go_simp
        with_reducible rfl
      rotate_left
      · simp only [Act.put, List.setIfInBounds_toArray, List.set_cons_zero, List.set_cons_succ, i64_w, i32_w]
        rfl
      refine take_ (i := 4) (N := some 109) (v := ?_) (a' := ?_) #[true, true, true, true, true, true, true, true, true, false, false, false, false, false] rfl rfl (by kernel_rfl) (fun _ _ _ h => hP ⟨_, rfl⟩ (by rfl) h) (Or.inl ⟨by rfl, ?_⟩) hHeld ?_ ?_
      rotate_left
      · rintro w' ⟨s0, s1⟩
        go_simp
        with_reducible rfl
      rotate_left
      · simp only [Act.put, List.setIfInBounds_toArray, List.set_cons_zero, List.set_cons_succ, i64_w, i32_w]
        rfl
      refine take_ (i := 9) (N := some 114) (v := ?_) (a' := ?_) #[true, true, true, true, true, true, true, true, true, true, false, false, false, false] rfl rfl (by kernel_rfl) (fun _ _ _ h => hP ⟨_, rfl⟩ (by rfl) h) (Or.inl ⟨by rfl, ?_⟩) hHeld ?_ ?_
      rotate_left
      · rintro w' ⟨s0, s1⟩
        go_simp
        with_reducible rfl
      rotate_left
      · simp only [Act.put, List.setIfInBounds_toArray, List.set_cons_zero, List.set_cons_succ, i64_w, i32_w]
        rfl
      refine pure_ (i := 10) (N := some 115) (v := ?_) (a' := ?_) #[true, true, true, true, true, true, true, true, true, true, true, false, false, false] rfl rfl (by kernel_rfl) (fun _ _ _ h => hP ⟨_, rfl⟩ (by rfl) h) (Or.inl ⟨by rfl, ?_⟩) ?_ ?_
      rotate_left
      · intro w'
        go_simp
        with_reducible rfl
      rotate_left
      · simp only [Act.put, List.setIfInBounds_toArray, List.set_cons_zero, List.set_cons_succ, i64_w, i32_w]
        rfl
      refine one_ (i := 11) (N := some 116) #[true, true, true, true, true, true, true, true, true, true, true, true, false, false] rfl rfl (by kernel_rfl) (by decide) (fun K hK => ?_)
      refine value_ (w1 := ?_) (v := ?_) (by rfl) rfl ?_ ?_
      rotate_left 2
      · go_simp
        constructor
        · rfl
        · rfl
      refine hK.out _ _ ⟨(World.cell?_alloc_lt _ _ _ (World.block_lt_of_cell? _ _ q0)).trans q0, (World.cell?_alloc_lt _ _ _ (World.block_lt_of_cell? _ _ q1)).trans q1⟩ (fun hHeld => ?_)
      clear hK K
      refine norm_ (a' := ?_) ?_ ?_
      rotate_left
      · show Act.put _ (some 116) _ = _
        simp only [Act.put, List.setIfInBounds_toArray, List.set_cons_zero, List.set_cons_succ, i64_w, i32_w]
        rfl
      refine one_ (i := 12) (N := some 117) #[true, true, true, true, true, true, true, true, true, true, true, true, true, false] rfl rfl (by kernel_rfl) (by decide) (fun K hK => ?_)
      refine value_ (w1 := ?_) (v := ?_) (by rfl) rfl ?_ ?_
      rotate_left 2
      · go_simp
        constructor
        · rfl
        · rfl
      refine hK.out _ _ ⟨hHeld.1, hHeld.2⟩ (fun hHeld => ?_)
      clear hK K
      refine norm_ (a' := ?_) ?_ ?_
      rotate_left
      · show Act.put _ (some 117) _ = _
        simp only [Act.put, List.setIfInBounds_toArray, List.set_cons_zero, List.set_cons_succ, i64_w, i32_w]
        rfl
      refine pure_ (i := 13) (N := some 118) (v := ?_) (a' := ?_) #[true, true, true, true, true, true, true, true, true, true, true, true, true, true] rfl rfl (by kernel_rfl) (fun _ _ _ h => hP ⟨_, rfl⟩ (by rfl) h) (Or.inl ⟨by rfl, ?_⟩) ?_ ?_
      rotate_left
      · intro w'
        go_simp
        with_reducible rfl
      rotate_left
      · simp only [Act.put, List.setIfInBounds_toArray, List.set_cons_zero, List.set_cons_succ, i64_w, i32_w]
        rfl
      refine done_ (by kernel_rfl) ?_
      have HN2 := Aside0.mk (HN.out.below (below_drew (below_alloc (Below.refl _ _) (.cells #[.int .u8 (IntKind.u8.wrap N)] 5))))
      have HQ2 := Aside0.mk (Kd.Q_below HQ.out (below_drew (below_alloc (Below.refl _ _) (.cells #[.int .u8 (IntKind.u8.wrap N)] 5))))
      clear q0 q1 HN HQ hcv
      have HN := HN2
      have HQ := HQ2
      clear HN2 HQ2
      generalize World.drew _ = wp at HN HQ ⊢
      have hqs := HQ.out
      obtain ⟨ad3, hA, q0, q1⟩ := at_T87 (Kd.Q_reads' hqs).2.2 (j : Int) (by have := HJM.out; omega) (by rw [items_len]; have := HJM.out; omega)
      rw [items_rd s m j HJM.out, Int.toNat_natCast] at q0 q1
      cases hA
      have hI : item s j = ⟨N, chr N⟩ := by unfold item; rw [HNN.out]
      rw [hI] at q0 q1
      simp only at q0 q1
      clear hI q1 hqs
      have d3 : ((j : Int) < (m : Int)) = True := eq_true (by have := HJM.out; omega)
      go_wp2_with (first | ((with_reducible refine gate_builtin (b := .append) (xs := #[.tmp 119, .tmp 127]) rfl ?_); at_builtin; refine Kd.R_append kFr (w0 := w) w.heap.size rfl (.tmp 119) (.tmp 127) 83 72 (.agg #[.int .i64 0, .int .i64 0, .int .i64 0, .int .i64 0, .string ByteArray.empty]) 48 rfl Try.underlying83 infoF rfl (by decide) (by omega) u13 ws' ⟨0, 0, ep, N, ⟨#[]⟩⟩ [.int .i64 0, .int .i64 0, .int .i64 ep, .int .i64 N, .string ⟨#[]⟩] (fun _ => True) (fun _ => False) rfl rfl ?aP (fun _ hk => hk.elim) ?aF ?aO ?aB ?aS ?aL ?_; (case aP => exact kFr_mkM _ _ _ _); (case aB => exact HN.out.S.lo); (case aF => exact (fun _ _ => trivial)); (case aO => exact HN.out.way); (case aS => exact HN.out.S.lo.size); (case aL => (have := HN.out.wsl; have := HN.out.hx; omega)); intro va wa hq hb hg hat; have HQ9 := Aside0.mk ((L17.TU.of_grown (T := [72]) hg HN.out.way (by simp)).q rfl HQ.out (by decide)); have HN9 := Aside0.mk (HN.out.laid hq hb hg hat (fun f hf => by
        rcases List.mem_append.1 hf with y | y
        · exact HN.out.wsb f y
        · simp at y
          subst y
          exact ⟨by have := HNN.out; have := HM.out; have := HJM.out; simp only; omega, Int.le_refl _⟩) (by have := HJ.out; have := HJM.out; have := HM.out; simp; omega)); clear hq hb hg hat))
      go_roundg (gk - 1)
      case measure => have := HJ.out; omega
      case rel => exact ⟨j + 1, _, _, rfl, by first | rfl | (rw [Pl.w64 (by omega) (by have := HJM.out; have := HM.out; omega)]; rfl), ⟨by have := HJ.out; have := HJM.out; refine ⟨by omega, by omega, ?_⟩; simp; omega⟩, HN9, HQ9⟩
    · have e1 : decide ((j : Int) < (m : Int)) = false := decide_eq_false (by omega)
      have p1 : (j < m) = False := eq_false c1
      clear c1
      go_wp2
      exact HQ0.out _ _ _ _ _ _ _ _ _ _ _ _ _ _ _ _ _ _ _ _ _ _ _ _ _ _ _ _ _ _ _ _ _ _ _ _ _ _ _ _ HN.out
set_option maxRecDepth 100000 in
set_option maxHeartbeats 4000000 in
theorem armF {Q : Exit → Act → World → Prop} {w W : World} {ga gr : Nat} {ep h s t wd wt : Int} {n : Nat} {e l : Int} {va vb : Value} {ws gs : List SFr} {x : Nat} (HLK : Aside0 (LK w W ga gr ep h s t wd wt n e l va vb ws gs x)) (HWD : Aside0 ((1 ≤ wd ∧ wd ≤ 16) ∧ (1 ≤ wt ∧ wt ≤ 9))) {u0 u1 u2 u3 u4 u5 u6 u8 u10 u13 u14 u15 u16 u17 u18 u19 u20 u21 u22 u23 u24 u25 u26 u27 u28 u29 u30 u31 u32 u33 u34 u35 u36 u37 u38 u39 u40 u41 u42 u43 u44 u45 u46 u47 u48 u49 u50 u51 u52 u53 u54 u55 u56 u57 u58 u59 u60 u61 u62 u63 u64 u65 u66 u67 u68 u69 u70 u71 u72 u73 u74 u75 u76 u77 u78 u79 u80 u81 u82 u83 u84 u85 u86 u87 u88 u89 u90 u91 u92 u93 u94 u95 u96 u97 u98 u99 u100 u101 u102 u103 u104 u105 u106 u107 u108 u109 u110 u111 u112 u113 u114 u115 u116 u117 u118 u119 u120 u121 u122 u123 u124 u125 u126 u127 u128 u129 u130 u131 u132 u133 u134 u135 u136 u137 u138 u139 u140 u141 u142 u143 u144 u145 u146 u147 u148 u149 u150 u151 u152 u153 u154 u155 u156 u157 u158 u159 u160 u161 u162 u163 u164 u165 u166 u167 u168 u169 u170 u171 u172 u173 u174 u175 u176 u177 u178 u179 u180 u181 u182 u183 u184 u185 u186 u187 u188 u189 u190 u191 u192 u193 u194 u195 u196 u197 u198 u199 u200 u201 u202 u203 u204 u205 u206 u207 u208 u209 u210 u211 u212 u213 u214 u215 u216 u217 u218 u219 u220 u221 u222 u223 u224 u225 u226 u227 u228 u229 u230 u231 u232 u233 u234 u235 u236 u237 u238 u239 u240 u241 u242 u243 u244 u245 u246 u247 u248 u249 u250 u251 u252 u253 u254 u255 u256 u257 u258 u259 u260 u261 u262 u263 u264 u265 u266 u267 u268 u269 u270 u271 u272 u273 u274 u275 u276 u277 u278 u279 u280 u281 u282 u283 u284 u285 u286 u287 u288 u289 u290 u291 u292 u293 u294 u295 u296 u297 u298 u299 u300 u301 u302 u303 u304 u305 u306 u307 u308 u309 u310 u311 u312 u313 u314 u315 u316 u317 u318 u319 u320 u321 u322 u323 u324 u325 u326 u327 u328 u329 u330 u331 u332 u333 u334 u335 u336 u337 u338 u339 u340 u341 u342 u343 : Value} (hQ0 : ∀ (v6 v33 v34 v35 v36 v37 v38 v39 v40 v41 v42 v287 v288 v289 v290 v291 v292 v293 v294 v295 v296 v297 v298 v299 v300 v301 v302 v303 v304 v305 v306 v307 v308 v309 v310 v311 v312 v313 v314 v315 v316 v317 v318 v319 v320 v321 v322 v323 v324 v325 v326 v327 v328 v329 v330 v331 v332 v333 v334 v335 v336 v337 v338 v339 v340 v341 v342 v343 : Value) (W' : World), v6 = .bool true → Below w.heap.size w W' → Q .ret (Act.mk #[u0, u1, u2, u3, u4, u5, v6, .pointer (some ⟨ga, 0, none⟩), u8, .pointer (some ⟨gr, 0, none⟩), u10, .int .i64 ep, .int .i64 (h + n), u13, u14, u15, u16, u17, u18, u19, u20, u21, u22, u23, u24, u25, u26, u27, u28, u29, u30, u31, u32, v33, v34, v35, v36, v37, v38, v39, v40, v41, v42, u43, u44, u45, u46, u47, u48, u49, u50, u51, u52, u53, u54, u55, u56, u57, u58, u59, u60, u61, u62, u63, u64, u65, u66, u67, u68, u69, u70, u71, u72, u73, u74, u75, u76, u77, u78, u79, u80, u81, u82, u83, u84, u85, u86, u87, u88, u89, u90, u91, u92, u93, u94, u95, u96, u97, u98, u99, u100, u101, u102, u103, u104, u105, u106, u107, u108, u109, u110, u111, u112, u113, u114, u115, u116, u117, u118, u119, u120, u121, u122, u123, u124, u125, u126, u127, u128, u129, u130, u131, u132, u133, u134, u135, u136, u137, u138, u139, u140, u141, u142, u143, u144, u145, u146, u147, u148, u149, u150, u151, u152, u153, u154, u155, u156, u157, u158, u159, u160, u161, u162, u163, u164, u165, u166, u167, u168, u169, u170, u171, u172, u173, u174, u175, u176, u177, u178, u179, u180, u181, u182, u183, u184, u185, u186, u187, u188, u189, u190, u191, u192, u193, u194, u195, u196, u197, u198, u199, u200, u201, u202, u203, u204, u205, u206, u207, u208, u209, u210, u211, u212, u213, u214, u215, u216, u217, u218, u219, u220, u221, u222, u223, u224, u225, u226, u227, u228, u229, u230, u231, u232, u233, u234, u235, u236, u237, u238, u239, u240, u241, u242, u243, u244, u245, u246, u247, u248, u249, u250, u251, u252, u253, u254, u255, u256, u257, u258, u259, u260, u261, u262, u263, u264, u265, u266, u267, u268, u269, u270, u271, u272, u273, u274, u275, u276, u277, u278, u279, u280, u281, u282, u283, u284, u285, u286, v287, v288, v289, v290, v291, v292, v293, v294, v295, v296, v297, v298, v299, v300, v301, v302, v303, v304, v305, v306, v307, v308, v309, v310, v311, v312, v313, v314, v315, v316, v317, v318, v319, v320, v321, v322, v323, v324, v325, v326, v327, v328, v329, v330, v331, v332, v333, v334, v335, v336, v337, v338, v339, v340, v341, v342, v343] []) W') :
    Code.wp Try.prog (seqR (seqR (seqR (seqR (seqR (seqR (seqR (seqR (seqR (seqR (bodyOf Try.f8))))))))))) Q (Act.mk #[u0, u1, u2, u3, u4, u5, u6, .pointer (some ⟨ga, 0, none⟩), u8, .pointer (some ⟨gr, 0, none⟩), u10, .int .i64 ep, .int .i64 (h + n), u13, u14, u15, u16, u17, u18, u19, u20, u21, u22, u23, u24, u25, u26, u27, u28, u29, u30, u31, u32, u33, u34, u35, u36, u37, u38, u39, u40, u41, u42, u43, u44, u45, u46, u47, u48, u49, u50, u51, u52, u53, u54, u55, u56, u57, u58, u59, u60, u61, u62, u63, u64, u65, u66, u67, u68, u69, u70, u71, u72, u73, u74, u75, u76, u77, u78, u79, u80, u81, u82, u83, u84, u85, u86, u87, u88, u89, u90, u91, u92, u93, u94, u95, u96, u97, u98, u99, u100, u101, u102, u103, u104, u105, u106, u107, u108, u109, u110, u111, u112, u113, u114, u115, u116, u117, u118, u119, u120, u121, u122, u123, u124, u125, u126, u127, u128, u129, u130, u131, u132, u133, u134, u135, u136, u137, u138, u139, u140, u141, u142, u143, u144, u145, u146, u147, u148, u149, u150, u151, u152, u153, u154, u155, u156, u157, u158, u159, u160, u161, u162, u163, u164, u165, u166, u167, u168, u169, u170, u171, u172, u173, u174, u175, u176, u177, u178, u179, u180, u181, u182, u183, u184, u185, u186, u187, u188, u189, u190, u191, u192, u193, u194, u195, u196, u197, u198, u199, u200, u201, u202, u203, u204, u205, u206, u207, u208, u209, u210, u211, u212, u213, u214, u215, u216, u217, u218, u219, u220, u221, u222, u223, u224, u225, u226, u227, u228, u229, u230, u231, u232, u233, u234, u235, u236, u237, u238, u239, u240, u241, u242, u243, u244, u245, u246, u247, u248, u249, u250, u251, u252, u253, u254, u255, u256, u257, u258, u259, u260, u261, u262, u263, u264, u265, u266, u267, u268, u269, u270, u271, u272, u273, u274, u275, u276, u277, u278, u279, u280, u281, u282, u283, u284, u285, u286, u287, u288, u289, u290, u291, u292, u293, u294, u295, u296, u297, u298, u299, u300, u301, u302, u303, u304, u305, u306, u307, u308, u309, u310, u311, u312, u313, u314, u315, u316, u317, u318, u319, u320, u321, u322, u323, u324, u325, u326, u327, u328, u329, u330, u331, u332, u333, u334, u335, u336, u337, u338, u339, u340, u341, u342, u343] []) W := by
  have HQ0 := Aside0.mk hQ0
  clear hQ0
  simp only [Path.seqL, Path.seqR, Path.condT, Path.condF, Path.blockB, Path.loopB, Path.bodyOf, Try.f8, Option.getD]
  have hk := HLK.out
  obtain ⟨P, hP⟩ : ∃ P : Nat, h + n = P := ⟨(h + n).toNat, by have := hk.S.has; omega⟩
  rw [hP]
  have HP : Aside0 (P ≤ 200) := ⟨by have := hk.hput; have := hk.hx; omega⟩
  have HS := Aside0.mk hk.S
  have HR := Aside0.mk hk.R
  have HI : Aside0 (h + n = P ∧ h ≤ l ∧ l ≤ P ∧ 0 ≤ e ∧ e ≤ ep ∧ (far P h s t wt ≤ 10 * P + 9 - (0 : Nat) ∨ far P h s t wt = 0)) := ⟨by
    have h1 := hk.hl
    have h2 := hk.he
    have h3 := hk.S.has
    have h4 := hk.S.tick
    have h5 := HWD.out
    refine ⟨hP, h1.1, by omega, h2.1, h2.2, .inl ?_⟩
    unfold far
    split <;> omega⟩
  have HPE := Aside0.mk hP
  clear hP hk HLK
  have m1 : wrap64 (20 * (P : Int)) = 20 * P := Pl.w64 (by omega) (by have := HP.out; omega)
  have m2 : wrap64 (20 * (P : Int) + 20) = 20 * P + 20 := Pl.w64 (by omega) (by have := HP.out; omega)
  go_wp2
  go_loopg [33] (20 * P + 21) (fun kq v33 W' => ∃ (i : Nat) (h s t : Int) (n : Nat) (e l : Int), v33 = .int .i64 i ∧ Aside0 (i ≤ 20 * P + 20 ∧ i + kq = 20 * P + 21) ∧ Aside0 (h + n = P ∧ h ≤ l ∧ l ≤ P ∧ 0 ≤ e ∧ e ≤ ep ∧ (far P h s t wt ≤ 10 * P + 9 - (i : Nat) ∨ far P h s t wt = 0)) ∧ Aside0 (S1 w W' ga ep h s t wd wt (items h n)) ∧ Aside0 (R1 w W' gr e l))
  case atStart => exact ⟨0, h, s, t, n, e, l, rfl, ⟨by omega, by omega⟩, HI, HS, HR⟩
  case round =>
    clear HS HR HI
    obtain ⟨i, h, s, t, n, e, l, rfl, HK, HI, HS, HR⟩ := hrel
    by_cases c1 : i < 20 * P + 20
    · have e1 : decide ((i : Int) < 20 * P + 20) = true := decide_eq_true (by omega)
      have p1 : ((i : Int) < 20 * P + 20) = True := eq_true (by omega)
      have HLT := Aside0.mk c1
      obtain ⟨gk0, hgk0⟩ : ∃ g, g = gk := ⟨_, rfl⟩
      have HGK := Aside0.mk hgk0
      clear c1 hgk0
      go_wp2_with fail
      refine (s_tick HS.out).mono ?_
      rintro e' w3 ⟨rfl, hs, hu⟩
      have hs2 := HS.out.sent
      have ht2 := HS.out.tick
      rw [items_len] at hs2
      have hrf := fun (h' s' t' l' : Int) (H : mid P h l (tickF h s t wt).1 (h + outTo n h (tickF h s t wt).1 wd) (tickF h s t wt).2 (outN n h (tickF h s t wt).1 wd) h' s' t' l') => round_far (put := P) HI.out.1 hs2 ht2 HWD.out.2 HWD.out.1 HI.out.2.1 H
      have HRF := Aside0.mk hrf
      have HS3 := Aside0.mk hs
      have HR3 := Aside0.mk (HR.out.tu hu (by decide))
      clear hs hu HS HR hs2 ht2 hrf
      generalize (tickF h s t wt).1 = s0 at HRF HS3 ⊢
      generalize (tickF h s t wt).2 = t0 at HRF HS3 ⊢
      go_wp2_with fail
      refine (s_out HS3.out).mono ?_
      rintro e' w4 ⟨⟨Av, cv, rfl, hq⟩, hs, hu⟩
      have hsn : h ≤ s0 ∧ s0 ≤ h + n := by have := HS3.out.sent; rwa [items_len] at this
      have hn64 : n ≤ 64 := by have := HS3.out.has.2.2; rwa [items_len] at this
      rw [out_items n h s0 wd hsn HWD.out.1.1] at hq ⊢
      rw [items_len] at hs
      obtain ⟨m, hm⟩ : ∃ m, outN n h s0 wd = m := ⟨_, rfl⟩
      have hm2 : s0 + m ≤ P ∧ m ≤ 64 ∧ h ≤ h + outTo n h s0 wd := by
        have h0 := HI.out.1
        rw [← hm]
        unfold outN outTo mx mn
        refine ⟨?_, ?_, ?_⟩
        · repeat' split
          all_goals omega
        · repeat' split
          all_goals omega
        · repeat' split
          all_goals omega
      rw [hm] at HRF hq ⊢
      rw [items_len] at hq ⊢
      generalize h + outTo n h s0 wd = s1 at HRF hs hm2
      have HS4 := Aside0.mk hs
      have HR4 := Aside0.mk (HR3.out.tu hu (by decide))
      have HQ := Aside0.mk hq
      have HM : Aside0 (s0 + m ≤ P ∧ m ≤ 64 ∧ h ≤ s1 ∧ h ≤ s0) := ⟨hm2.1, hm2.2.1, hm2.2.2, hsn.1⟩
      have HC : Aside0 (mid P h l s0 s1 t0 0 h s1 t0 l ∧ h + n = P ∧ h ≤ l ∧ l ≤ P ∧ 0 ≤ e ∧ e ≤ ep) := ⟨mid_start _ _ _ _ _ _ HI.out.2.1 HI.out.2.2.1, HI.out.1, HI.out.2.1, HI.out.2.2.1, HI.out.2.2.2.1, HI.out.2.2.2.2.1⟩
      clear hs hu hq hm hm2 hsn hn64 HS3 HR3
      go_wp2
      go_loopg [35] (m + 1) (fun kq v35 W' => ∃ (j : Nat) (h' s' t' : Int) (n' : Nat) (e' l' : Int), v35 = .int .i64 j ∧ Aside0 (j ≤ m ∧ j + kq = m + 1) ∧ Aside0 (mid P h l s0 s1 t0 j h' s' t' l' ∧ h' + n' = P ∧ h' ≤ l' ∧ l' ≤ P ∧ 0 ≤ e' ∧ e' ≤ ep) ∧ Aside0 (S1 w W' ga ep h' s' t' wd wt (items h' n')) ∧ Aside0 (R1 w W' gr e' l') ∧ Aside0 (Kd.Q k87 87 W' w.heap.size (fun _ => True) (.slice Av m cv) (items s0 m)))
      case atStart => exact ⟨0, h, s1, t0, n, e, l, rfl, ⟨by omega, by omega⟩, HC, HS4, HR4, HQ⟩
      case round =>
        clear HC HS4 HR4 HQ
        obtain ⟨j, h', s', t', n', e', l', rfl, HJ, HC, HS4, HR4, HQ⟩ := hrel
        by_cases c1 : j < m
        · have e2 : decide ((j : Int) < (m : Int)) = true := decide_eq_true (by omega)
          have p2 : (j < m) = True := eq_true c1
          have p3 : ((j : Int) < (m : Int)) = True := eq_true (by omega)
          have HJM := Aside0.mk c1
          obtain ⟨ad2, hA, q0, q1⟩ := at_T87 (Kd.Q_reads' HQ.out).2.2 (j : Int) (by omega) (by rw [items_len]; omega)
          rw [items_rd s0 m j c1, Int.toNat_natCast] at q0
          obtain ⟨N, hN⟩ : ∃ N, s0 + 1 + (j : Int) = N := ⟨_, rfl⟩
          have hI : item s0 j = ⟨N, chr N⟩ := by unfold item; rw [hN]
          rw [hI] at q0
          simp only at q0
          have hms := mid_step (e := e') (ep := ep) HC.out.1 HC.out.2.1 HI.out.2.1 HM.out.2.2.2 (by have := HM.out; omega) HM.out.2.2.1 HC.out.2.2.2.2.2
          rw [hN] at hms
          subst hA
          clear c1 hI q1 hN
          go_wp2_with fail
          refine (r_take ep N HR4.out HS4.out.lo (by have := HS4.out.has; have := HC.out; have := HP.out; omega)).mono ?_
          rintro en w5 ⟨rfl, hr, hlo, hu⟩
          generalize (C17.took e' l' ep N).1 = tk at hr ⊢
          generalize (C17.took e' l' ep N).2.1 = e9 at hms hr
          generalize (C17.took e' l' ep N).2.2 = l9 at hms hr
          obtain ⟨he9, hmid, hl1, hl2⟩ := hms
          subst he9
          have HS5 := Aside0.mk (HS4.out.tu hu hlo (by decide) (by decide))
          have HR5 := Aside0.mk hr
          have HQ5 := Aside0.mk (hu.q rfl HQ.out (by decide))
          have HMD := Aside0.mk hmid
          have HL9 : Aside0 (l' ≤ l9 ∧ l9 ≤ P) := ⟨hl1, hl2⟩
          clear hr hlo hu hmid hl1 hl2 HS4 HR4 HQ q0
          go_wp2_with fail
          refine (r_last HR5.out).mono ?_
          rintro en w6 ⟨rfl, hb⟩
          have HS6 := Aside0.mk (HS5.out.below hb)
          have HR6 := Aside0.mk (HR5.out.below hb)
          have HQ6 := Aside0.mk (Kd.Q_below HQ5.out hb)
          clear hb HS5 HR5 HQ5
          go_wp2_with fail
          refine (s_acked e9 l9 HS6.out).mono ?_
          rintro en w7 ⟨rfl, hs, hu⟩
          obtain ⟨n9, hs9, hn9⟩ := ack_items (s2 := if ackB e9 e9 h' (items h' n').length l9 then mx s' l9 else s') (t2 := if ackB e9 e9 h' (items h' n').length l9 then 0 else t') hs
          rw [items_len] at hs9
          have HS9 := Aside0.mk hs9
          have HR9 := Aside0.mk (HR6.out.tu hu (by decide))
          have HQ9 := Aside0.mk (hu.q rfl HQ6.out (by decide))
          have HC9 : Aside0 (mid P h l s0 s1 t0 (j + 1) (if ackB e9 e9 h' n' l9 then l9 else h') (if ackB e9 e9 h' n' l9 then mx s' l9 else s') (if ackB e9 e9 h' n' l9 then 0 else t') l9 ∧ (if ackB e9 e9 h' n' l9 then l9 else h') + n9 = P ∧ (if ackB e9 e9 h' n' l9 then l9 else h') ≤ l9 ∧ l9 ≤ P ∧ 0 ≤ e9 ∧ e9 ≤ e9) := ⟨HMD.out, hn9.trans HC.out.2.1, by have h1 := HL9.out; have h2 := HC.out.2.2.1; split <;> omega, HL9.out.2, by have := HC.out.2.2.2.2; omega, Int.le_refl _⟩
          clear hs hu hs9 hn9 HS6 HR6 HQ6
          go_wp2
          go_roundg (gk - 1)
          case measure => have := HJ.out; omega
          case rel => exact ⟨j + 1, _, _, _, n9, e9, l9, by first | rfl | (rw [Pl.w64 (by omega) (by have := HJM.out; have := HM.out; omega)]; rfl), ⟨by have := HJ.out; have := HJM.out; omega⟩, HC9, HS9, HR9, HQ9⟩
        · have e2 : decide ((j : Int) < (m : Int)) = false := decide_eq_false (by omega)
          have p2 : (j < m) = False := eq_false c1
          have p3 : ((j : Int) < (m : Int)) = False := eq_false (by omega)
          obtain rfl : j = m := by have := HJ.out; omega
          have hfar := HRF.out _ _ _ _ HC.out.1
          have HI2 : Aside0 (h' + n' = P ∧ h' ≤ l' ∧ l' ≤ P ∧ 0 ≤ e' ∧ e' ≤ ep ∧ (far P h' s' t' wt ≤ 10 * P + 9 - ((i + 1 : Nat) : Int) ∨ far P h' s' t' wt = 0)) := ⟨HC.out.2.1, HC.out.2.2.1, HC.out.2.2.2.1, HC.out.2.2.2.2.1, HC.out.2.2.2.2.2, by
            have h0 : 0 ≤ far P h' s' t' wt := by
              have h1 := HS4.out.tick
              have h2 := HC.out
              unfold far
              split <;> omega
            rcases hfar with q | q
            · rcases HI.out.2.2.2.2.2 with y | y
              · left; omega
              · right; omega
            · right; exact q⟩
          clear c1 hfar
          go_wp2
          go_roundg (gk0 - 1)
          case measure => have := HK.out; have := HLT.out; have := HGK.out; omega
          case rel => exact ⟨i + 1, h', s', t', n', e', l', by first | rfl | (rw [Pl.w64 (by omega) (by have := HLT.out; have := HP.out; omega)]; rfl), ⟨by have := HK.out; have := HLT.out; have := HGK.out; omega⟩, HI2, HS4, HR4⟩
    · have e1 : decide ((i : Int) < 20 * P + 20) = false := decide_eq_false (by omega)
      have p1 : ((i : Int) < 20 * P + 20) = False := eq_false (by omega)
      have hend : h = P ∧ n = 0 ∧ l = P := by
        have h1 := HS.out.tick
        have h2 := HI.out
        have h3 := HK.out
        have h4 := h2.2.2.2.2.2
        unfold far at h4
        split at h4 <;> omega
      obtain ⟨rfl, rfl, rfl⟩ := hend
      clear c1
      go_wp2_with fail
      refine (r_last HR.out).mono ?_
      rintro e' w3 ⟨rfl, hb⟩
      have HS3 := Aside0.mk (HS.out.below hb)
      clear hb HS HR
      go_wp2_with fail
      refine (s_state HS3.out).mono ?_
      rintro e' w4 ⟨rfl, hb⟩
      rw [items_len]
      have HB := Aside0.mk (HS3.out.below hb).lo
      clear hb HS3
      go_wp2
      have hz := HQ0.out
      rw [HPE.out] at hz
      exact hz _ _ _ _ _ _ _ _ _ _ _ _ _ _ _ _ _ _ _ _ _ _ _ _ _ _ _ _ _ _ _ _ _ _ _ _ _ _ _ _ _ _ _ _ _ _ _ _ _ _ _ _ _ _ _ _ _ _ _ _ _ _ _ _ _ _ _ _ _ rfl HB.out
set_option maxRecDepth 100000 in
set_option maxHeartbeats 4000000 in
theorem arm1 {Q : Exit → Act → World → Prop} (hP : ∀ {ex : Exit} {a a' : Act} {w : World}, (∃ c, ex = .panic c) → a.defers = a'.defers → Q ex a w → Q ex a' w) {w W : World} {ga gr : Nat} {ep h s t wd wt : Int} {n : Nat} {e l : Int} {va vb : Value} {ws gs : List SFr} {x : Nat} (HLK : Aside0 (LK w W ga gr ep h s t wd wt n e l va vb ws gs x)) (HLT : Aside0 (x < 200)) {G : Nat} {o : SLk} (HG : Aside0 (W.heap[G]? = some (.cells #[.int .i64 o.kind, .int .i64 o.at_] 85 (0, 0)))) (k2 : (o.kind != 2) = true) (k3 : (o.kind == 3) = false) {u0 u1 u2 u3 u4 u5 u6 u8 u10 u11 u15 u17 u18 u19 u20 u21 u22 u23 u24 u25 u26 u27 u28 u29 u30 u31 u32 u33 u34 u35 u36 u37 u38 u39 u40 u41 u42 u43 u44 u45 u46 u47 u48 u49 u50 u51 u52 u53 u54 u55 u56 u57 u58 u59 u60 u61 u62 u63 u64 u65 u66 u67 u68 u69 u70 u71 u72 u73 u74 u75 u76 u77 u78 u79 u80 u81 u82 u83 u84 u85 u86 u87 u88 u89 u90 u91 u92 u93 u94 u95 u96 u97 u98 u99 u100 u101 u102 u103 u104 u105 u106 u107 u108 u109 u110 u111 u112 u113 u114 u115 u116 u117 u118 u119 u120 u121 u122 u123 u124 u125 u126 u127 u128 u129 u130 u131 u132 u133 u134 u135 u136 u137 u138 u139 u140 u141 u142 u143 u144 u145 u146 u147 u148 u149 u150 u151 u152 u153 u154 u155 u156 u157 u158 u159 u160 u161 u162 u163 u164 u165 u166 u167 u168 u169 u170 u171 u172 u173 u174 u175 u176 u177 u178 u179 u180 u181 u182 u183 u184 u185 u186 u187 u188 u189 u190 u191 u192 u193 u194 u195 u196 u197 u198 u199 u200 u201 u202 u203 u204 u205 u206 u207 u208 u209 u210 u211 u212 u213 u214 u215 u216 u217 u218 u219 u220 u221 u222 u223 u224 u225 u226 u227 u228 u229 u230 u231 u232 u233 u234 u235 u236 u237 u238 u239 u240 u241 u242 u243 u244 u245 u246 u247 u248 u249 u250 u251 u252 u253 u254 u255 u256 u257 u258 u259 u260 u261 u262 u263 u264 u265 u266 u267 u268 u269 u270 u271 u272 u273 u274 u275 u276 u277 u278 u279 u280 u281 u282 u283 u284 u285 u286 u287 u288 u289 u290 u291 u292 u293 u294 u295 u296 u297 u298 u299 u300 u301 u302 u303 u304 u305 u306 u307 u308 u309 u310 u311 u312 u313 u314 u315 u316 u317 u318 u319 u320 u321 u322 u323 u324 u325 u326 u327 u328 u329 u330 u331 u332 u333 u334 u335 u336 u337 u338 u339 u340 u341 u342 u343 : Value} (hQ0 : ∀ (v6 v13 v14 v19 v20 v21 v22 v23 v24 v25 v133 v134 v135 v136 v137 v138 v139 v140 v141 v142 v143 v144 v145 v146 v147 v148 v149 v150 v151 v152 v153 v154 v155 v156 v157 v158 v159 v160 v161 v162 v163 v164 v165 v166 v167 v168 v169 v170 v171 v172 v173 v174 v175 v176 v177 v178 v179 v180 v181 v182 v183 v184 v185 v186 v187 v188 v189 v190 v191 v192 v193 v194 v195 v196 v197 v198 v199 v200 v201 v202 v203 v204 : Value) (W' : World) (e' l' : Int) (ws' gs' : List SFr), LK w W' ga gr ep h s t wd wt n e' l' v13 v14 ws' gs' (x + 1) → Q .normal (Act.mk #[u0, u1, u2, u3, u4, u5, v6, .pointer (some ⟨ga, 0, none⟩), u8, .pointer (some ⟨gr, 0, none⟩), u10, u11, .int .i64 (h + n), v13, v14, u15, .pointer (some ⟨G, 0, none⟩), u17, u18, v19, v20, v21, v22, v23, v24, v25, u26, u27, u28, u29, u30, u31, u32, u33, u34, u35, u36, u37, u38, u39, u40, u41, u42, u43, u44, u45, u46, u47, u48, u49, u50, u51, u52, u53, u54, u55, u56, u57, u58, u59, u60, u61, u62, u63, u64, u65, u66, u67, u68, u69, u70, u71, u72, u73, u74, u75, u76, u77, u78, u79, u80, u81, u82, u83, u84, u85, u86, u87, u88, u89, u90, u91, u92, u93, u94, u95, u96, u97, u98, u99, u100, u101, u102, u103, u104, u105, u106, u107, u108, u109, u110, u111, u112, u113, u114, u115, u116, u117, u118, u119, u120, u121, u122, u123, u124, u125, u126, u127, u128, u129, u130, u131, u132, v133, v134, v135, v136, v137, v138, v139, v140, v141, v142, v143, v144, v145, v146, v147, v148, v149, v150, v151, v152, v153, v154, v155, v156, v157, v158, v159, v160, v161, v162, v163, v164, v165, v166, v167, v168, v169, v170, v171, v172, v173, v174, v175, v176, v177, v178, v179, v180, v181, v182, v183, v184, v185, v186, v187, v188, v189, v190, v191, v192, v193, v194, v195, v196, v197, v198, v199, v200, v201, v202, v203, v204, u205, u206, u207, u208, u209, u210, u211, u212, u213, u214, u215, u216, u217, u218, u219, u220, u221, u222, u223, u224, u225, u226, u227, u228, u229, u230, u231, u232, u233, u234, u235, u236, u237, u238, u239, u240, u241, u242, u243, u244, u245, u246, u247, u248, u249, u250, u251, u252, u253, u254, u255, u256, u257, u258, u259, u260, u261, u262, u263, u264, u265, u266, u267, u268, u269, u270, u271, u272, u273, u274, u275, u276, u277, u278, u279, u280, u281, u282, u283, u284, u285, u286, u287, u288, u289, u290, u291, u292, u293, u294, u295, u296, u297, u298, u299, u300, u301, u302, u303, u304, u305, u306, u307, u308, u309, u310, u311, u312, u313, u314, u315, u316, u317, u318, u319, u320, u321, u322, u323, u324, u325, u326, u327, u328, u329, u330, u331, u332, u333, u334, u335, u336, u337, u338, u339, u340, u341, u342, u343] []) W') (hQ1 : ∀ (v6 v13 v14 v19 v20 v21 v22 v23 v24 v25 v133 v134 v135 v136 v137 v138 v139 v140 v141 v142 v143 v144 v145 v146 v147 v148 v149 v150 v151 v152 v153 v154 v155 v156 v157 v158 v159 v160 v161 v162 v163 v164 v165 v166 v167 v168 v169 v170 v171 v172 v173 v174 v175 v176 v177 v178 v179 v180 v181 v182 v183 v184 v185 v186 v187 v188 v189 v190 v191 v192 v193 v194 v195 v196 v197 v198 v199 v200 v201 v202 v203 v204 : Value) (W' : World) (ws' : List SFr), LK w W' ga gr ep h s t wd wt n e l v13 v14 ws' gs (x + 1) → Q (.exit 1) (Act.mk #[u0, u1, u2, u3, u4, u5, v6, .pointer (some ⟨ga, 0, none⟩), u8, .pointer (some ⟨gr, 0, none⟩), u10, u11, .int .i64 (h + n), v13, v14, u15, .pointer (some ⟨G, 0, none⟩), u17, u18, v19, v20, v21, v22, v23, v24, v25, u26, u27, u28, u29, u30, u31, u32, u33, u34, u35, u36, u37, u38, u39, u40, u41, u42, u43, u44, u45, u46, u47, u48, u49, u50, u51, u52, u53, u54, u55, u56, u57, u58, u59, u60, u61, u62, u63, u64, u65, u66, u67, u68, u69, u70, u71, u72, u73, u74, u75, u76, u77, u78, u79, u80, u81, u82, u83, u84, u85, u86, u87, u88, u89, u90, u91, u92, u93, u94, u95, u96, u97, u98, u99, u100, u101, u102, u103, u104, u105, u106, u107, u108, u109, u110, u111, u112, u113, u114, u115, u116, u117, u118, u119, u120, u121, u122, u123, u124, u125, u126, u127, u128, u129, u130, u131, u132, v133, v134, v135, v136, v137, v138, v139, v140, v141, v142, v143, v144, v145, v146, v147, v148, v149, v150, v151, v152, v153, v154, v155, v156, v157, v158, v159, v160, v161, v162, v163, v164, v165, v166, v167, v168, v169, v170, v171, v172, v173, v174, v175, v176, v177, v178, v179, v180, v181, v182, v183, v184, v185, v186, v187, v188, v189, v190, v191, v192, v193, v194, v195, v196, v197, v198, v199, v200, v201, v202, v203, v204, u205, u206, u207, u208, u209, u210, u211, u212, u213, u214, u215, u216, u217, u218, u219, u220, u221, u222, u223, u224, u225, u226, u227, u228, u229, u230, u231, u232, u233, u234, u235, u236, u237, u238, u239, u240, u241, u242, u243, u244, u245, u246, u247, u248, u249, u250, u251, u252, u253, u254, u255, u256, u257, u258, u259, u260, u261, u262, u263, u264, u265, u266, u267, u268, u269, u270, u271, u272, u273, u274, u275, u276, u277, u278, u279, u280, u281, u282, u283, u284, u285, u286, u287, u288, u289, u290, u291, u292, u293, u294, u295, u296, u297, u298, u299, u300, u301, u302, u303, u304, u305, u306, u307, u308, u309, u310, u311, u312, u313, u314, u315, u316, u317, u318, u319, u320, u321, u322, u323, u324, u325, u326, u327, u328, u329, u330, u331, u332, u333, u334, u335, u336, u337, u338, u339, u340, u341, u342, u343] []) W') :
    Code.wp Try.prog (condT (seqR (condF (seqR (blockB (seqR (seqR (blockB (seqL (seqR (loopB (blockB (seqR (seqL (seqR (seqR (seqR (seqR (seqR (seqR (seqR (seqR (seqR (bodyOf Try.f8)))))))))))))))))))))))) Q (Act.mk #[u0, u1, u2, u3, u4, u5, u6, .pointer (some ⟨ga, 0, none⟩), u8, .pointer (some ⟨gr, 0, none⟩), u10, u11, .int .i64 (h + n), va, vb, u15, .pointer (some ⟨G, 0, none⟩), u17, u18, u19, u20, u21, u22, u23, u24, u25, u26, u27, u28, u29, u30, u31, u32, u33, u34, u35, u36, u37, u38, u39, u40, u41, u42, u43, u44, u45, u46, u47, u48, u49, u50, u51, u52, u53, u54, u55, u56, u57, u58, u59, u60, u61, u62, u63, u64, u65, u66, u67, u68, u69, u70, u71, u72, u73, u74, u75, u76, u77, u78, u79, u80, u81, u82, u83, u84, u85, u86, u87, u88, u89, u90, u91, u92, u93, u94, u95, u96, u97, u98, u99, u100, u101, u102, u103, u104, u105, u106, u107, u108, u109, u110, u111, u112, u113, u114, u115, u116, u117, u118, u119, u120, u121, u122, u123, u124, u125, u126, u127, u128, u129, u130, u131, u132, u133, u134, u135, u136, u137, u138, u139, u140, u141, u142, u143, u144, u145, u146, u147, u148, u149, u150, u151, u152, u153, u154, u155, u156, u157, u158, u159, u160, u161, u162, u163, u164, u165, u166, u167, u168, u169, u170, u171, u172, u173, u174, u175, u176, u177, u178, u179, u180, u181, u182, u183, u184, u185, u186, u187, u188, u189, u190, u191, u192, u193, u194, u195, u196, u197, u198, u199, u200, u201, u202, u203, u204, u205, u206, u207, u208, u209, u210, u211, u212, u213, u214, u215, u216, u217, u218, u219, u220, u221, u222, u223, u224, u225, u226, u227, u228, u229, u230, u231, u232, u233, u234, u235, u236, u237, u238, u239, u240, u241, u242, u243, u244, u245, u246, u247, u248, u249, u250, u251, u252, u253, u254, u255, u256, u257, u258, u259, u260, u261, u262, u263, u264, u265, u266, u267, u268, u269, u270, u271, u272, u273, u274, u275, u276, u277, u278, u279, u280, u281, u282, u283, u284, u285, u286, u287, u288, u289, u290, u291, u292, u293, u294, u295, u296, u297, u298, u299, u300, u301, u302, u303, u304, u305, u306, u307, u308, u309, u310, u311, u312, u313, u314, u315, u316, u317, u318, u319, u320, u321, u322, u323, u324, u325, u326, u327, u328, u329, u330, u331, u332, u333, u334, u335, u336, u337, u338, u339, u340, u341, u342, u343] []) W := by
  have HQ0 := Aside0.mk hQ0
  clear hQ0
  have HQ1 := Aside0.mk hQ1
  clear hQ1
  simp only [Path.seqL, Path.seqR, Path.condT, Path.condF, Path.blockB, Path.loopB, Path.bodyOf, Try.f8, Option.getD]
  have hc1 : W.cell? ⟨G, 1, none⟩ = some (.int .i64 o.at_) := blk_at (i := 1) HG.out rfl
  have hw := HLK.out.way
  obtain ⟨Aw, cw, hvb⟩ := Kd.R_slice hw
  subst hvb
  have hC := (Kd.R_reads' hw).2.2
  have hcw := (Kd.R_reads' hw).2.1
  obtain ⟨L, hL⟩ : ∃ L, ws.length = L := ⟨_, rfl⟩
  have hLb : L ≤ 1000000 := by have := HLK.out.wsl; have := HLK.out.hx; omega
  rw [hL] at hC hcw ⊢
  by_cases c1 : L = 0
  · have HLZ := Aside0.mk (hL.trans c1)
    subst c1
    have HN := Aside0.mk (HLK.out.next HLT.out)
    clear hw hC hL hLb hcw
    go_wp2
    exact HQ1.out _ _ _ _ _ _ _ _ _ _ _ _ _ _ _ _ _ _ _ _ _ _ _ _ _ _ _ _ _ _ _ _ _ _ _ _ _ _ _ _ _ _ _ _ _ _ _ _ _ _ _ _ _ _ _ _ _ _ _ _ _ _ _ _ _ _ _ _ _ _ _ _ _ _ _ _ _ _ _ _ _ _ _ _ (by have hy := HN.out; rw [HLZ.out] at hy; exact hy)
  · have d1 : decide ((L : Int) > 0) = true := decide_eq_true (by omega)
    have d2 : ((L : Int) == 0) = false := beq_eq_false_iff_ne.mpr (by omega)
    have d5 : ((0 : Int) < (L : Int)) = True := eq_true (by omega)
    have d6 : (0 < L) = True := eq_true (by omega)
    have d7 : (L = 0) = False := eq_false c1
    obtain ⟨kx, hK, hKL⟩ := umod2 o.at_ L ⟨by omega, hLb⟩
    have hU := u64_nat L hLb
    obtain ⟨ad2, hA, q0, q1, q2, q3, q4⟩ := at_Fr hC (kx : Int) (by omega) (by omega)
    have hf := HLK.out.wsb _ (rd_mem ws kx (by omega))
    generalize rd_Fr ws (kx : Int) = f at q0 q1 q2 q3 q4 hf
    have HF := Aside0.mk hf
    have HLL : Aside0 (ws.length = L ∧ kx < L ∧ L ≤ 1000000 ∧ L ≤ cw) := ⟨hL, hKL, hLb, hcw⟩
    have d3 : ((kx : Int) < (L : Int)) = True := eq_true (by omega)
    have d4 : (kx < L) = True := eq_true hKL
    subst hA
    rw [Int.toNat_natCast] at q0 q1 q2 q3 q4
    have HWS := Aside0.mk hL
    clear hw hC hL hLb c1 hf hKL hcw
    go_upto_region 30 with (fail)
    have HN := Aside0.mk (HLK.out.below (below_alloc (Below.refl _ _) (.cells #[.int .i64 f.kind, .int .i64 f.fl, .int .i64 f.ep, .int .i64 f.n, .string f.s] 72)))
    have HG2 := Aside0.mk (blk_new W (.cells #[.int .i64 f.kind, .int .i64 f.fl, .int .i64 f.ep, .int .i64 f.n, .string f.s] 72))
    have HG1 := Aside0.mk (Base.blk_alloc HG.out (.cells #[.int .i64 f.kind, .int .i64 f.fl, .int .i64 f.ep, .int .i64 f.n, .string f.s] 72))
    clear q0 q1 q2 q3 q4 HLK hc1 HG
    generalize W.alloc _ = wp at HN HG2 HG1 ⊢
    generalize W.heap.size = G2 at HG2 ⊢
    have hc0 : wp.cell? ⟨G, 0, none⟩ = some (.int .i64 o.kind) := blk_at (i := 0) HG1.out rfl
    have hw := HN.out.way
    have hlw := HLL.out
    have hC1 := (Kd.R_reads' (Kd.R_take hw (m := kx) (by omega))).2.2
    have hC2 := (Kd.Q_reads' (Kd.Q_drop (Kd.Q_of_R hw) (k := kx + 1) (by omega))).2.2
    rw [List.length_take, Nat.min_eq_left (by omega)] at hC1
    rw [List.length_drop, hlw.1] at hC2
    have HC1 := Aside0.mk hC1
    have HC2 := Aside0.mk hC2
    have w1_ : wrap64 ((kx : Int) + 1) = (kx : Int) + 1 := Pl.w64 (by omega) (by omega)
    have b7 : ((kx : Int) + 1 ≤ (L : Int)) = True := eq_true (by omega)
    have b8 : (0 ≤ (kx : Int) + 1) = True := eq_true (by omega)
    have b1 : ((kx : Int) ≤ (cw : Int)) = True := eq_true (by omega)
    have b2 : (kx ≤ cw) = True := eq_true (by omega)
    have b3 : (((kx + 1 : Nat) : Int) ≤ (L : Int)) = True := eq_true (by omega)
    have b4 : (kx + 1 ≤ L) = True := eq_true (by omega)
    have b5 : (0 ≤ ((kx + 1 : Nat) : Int)) = True := eq_true (by omega)
    have b6 : (0 ≤ (kx : Int)) = True := eq_true (by omega)
    clear hw hC1 hC2 hlw
    go_upto_region 31 with (fail)
    refine start_ (n := 11) (S := fun w' => True) (ds := []) #[false, false, false, false, false, false, false, false, false, false, false] (by kernel_rfl) rfl rfl trivial (fun hHeld => ?_)
    refine pure_ (i := 1) (N := some 152) (v := ?_) (a' := ?_) #[false, true, false, false, false, false, false, false, false, false, false] rfl rfl (by kernel_rfl) (fun _ _ _ h => hP ⟨_, rfl⟩ (by rfl) h) (Or.inl ⟨by rfl, ?_⟩) ?_ ?_
    rotate_left
    · intro w'
      go_simp
      with_reducible rfl
    rotate_left
    · simp only [Act.put, List.setIfInBounds_toArray, List.set_cons_zero, List.set_cons_succ, i64_w, i32_w]
      rfl
    refine pure_ (i := 2) (N := some 153) (v := ?_) (a' := ?_) #[false, true, true, false, false, false, false, false, false, false, false] rfl rfl (by kernel_rfl) (fun _ _ _ h => hP ⟨_, rfl⟩ (by rfl) h) (Or.inl ⟨by rfl, ?_⟩) ?_ ?_
    rotate_left
    · intro w'
      go_simp
      with_reducible rfl
    rotate_left
    · simp only [Act.put, List.setIfInBounds_toArray, List.set_cons_zero, List.set_cons_succ, i64_w, i32_w]
      rfl
    refine pure_ (i := 3) (N := some 154) (v := ?_) (a' := ?_) #[false, true, true, true, false, false, false, false, false, false, false] rfl rfl (by kernel_rfl) (fun _ _ _ h => hP ⟨_, rfl⟩ (by rfl) h) (Or.inl ⟨by rfl, ?_⟩) ?_ ?_
    rotate_left
    · intro w'
      go_simp
      with_reducible rfl
    rotate_left
    · simp only [Act.put, List.setIfInBounds_toArray, List.set_cons_zero, List.set_cons_succ, i64_w, i32_w]
      rfl
    refine pure_ (i := 5) (N := some 156) (v := ?_) (a' := ?_) #[false, true, true, true, false, true, false, false, false, false, false] rfl rfl (by kernel_rfl) (fun _ _ _ h => hP ⟨_, rfl⟩ (by rfl) h) (Or.inl ⟨by rfl, ?_⟩) ?_ ?_
    rotate_left
    · intro w'
      go_simp
      with_reducible rfl
    rotate_left
    · simp only [Act.put, List.setIfInBounds_toArray, List.set_cons_zero, List.set_cons_succ, i64_w, i32_w]
      rfl
    refine pure_ (i := 6) (N := some 157) (v := ?_) (a' := ?_) #[false, true, true, true, false, true, true, false, false, false, false] rfl rfl (by kernel_rfl) (fun _ _ _ h => hP ⟨_, rfl⟩ (by rfl) h) (Or.inl ⟨by rfl, ?_⟩) ?_ ?_
    rotate_left
    · intro w'
      go_simp
      with_reducible rfl
    rotate_left
    · simp only [Act.put, List.setIfInBounds_toArray, List.set_cons_zero, List.set_cons_succ, i64_w, i32_w]
      rfl
    refine pure_ (i := 7) (N := some 158) (v := ?_) (a' := ?_) #[false, true, true, true, false, true, true, true, false, false, false] rfl rfl (by kernel_rfl) (fun _ _ _ h => hP ⟨_, rfl⟩ (by rfl) h) (Or.inl ⟨by rfl, ?_⟩) ?_ ?_
    rotate_left
    · intro w'
      go_simp
      with_reducible rfl
    rotate_left
    · simp only [Act.put, List.setIfInBounds_toArray, List.set_cons_zero, List.set_cons_succ, i64_w, i32_w]
      rfl
    refine pure_ (i := 8) (N := some 159) (v := ?_) (a' := ?_) #[false, true, true, true, false, true, true, true, true, false, false] rfl rfl (by kernel_rfl) (fun _ _ _ h => hP ⟨_, rfl⟩ (by rfl) h) (Or.inl ⟨by rfl, ?_⟩) ?_ ?_
    rotate_left
    · intro w'
      go_simp
      with_reducible rfl
    rotate_left
    · simp only [Act.put, List.setIfInBounds_toArray, List.set_cons_zero, List.set_cons_succ, i64_w, i32_w]
      rfl
    refine one_ (i := 0) (N := some 151) #[true, true, true, true, false, true, true, true, true, false, false] rfl rfl (by kernel_rfl) (by decide) (fun K hK => ?_)
    refine Kd.R_lit_step kFr (w0 := wp) wp.heap.size 72 (by rfl) (N := 151) rfl (xs := ([] : List SFr)) (inner := []) (ok := fun _ => True) (okp := fun _ => True) (by first | (go_simp; done) | (go_simp; rfl)) (Reps.none _ _) (fun _ hk => hk) trivial (below_drew (Below.refl _ _)) (Nat.le_refl _) (by simp) ?_
    intro v1 w1 ho hb hg_ hn_
    clear hg_ hn_
    have HO1 := Aside0.mk ho
    have HB1 := Aside0.mk hb
    clear ho hb
    refine hK.out _ _ trivial (fun hHeld => ?_)
    clear hK K
    refine norm_ (a' := ?_) ?_ ?_
    rotate_left
    · show Act.put _ (some 151) _ = _
      simp only [Act.put, List.setIfInBounds_toArray, List.set_cons_zero, List.set_cons_succ, i64_w, i32_w]
      rfl
    refine one_ (i := 4) (N := some 155) #[true, true, true, true, true, true, true, true, true, false, false] rfl rfl (by kernel_rfl) (by decide) (fun K hK => ?_)
    refine Kd.R_append_rows_step kFr (w0 := wp) wp.heap.size (by rfl) (.tmp 151) (.tmp 154) 83 72 (.agg #[.int .i64 0, .int .i64 0, .int .i64 0, .int .i64 0, .string ByteArray.empty]) 48 rfl Try.underlying83 infoF rfl (by decide) (by omega) v1 [] (ws.take kx) _ _ _ (fun _ => True) (fun _ => False) rfl rfl HO1.out (Kd.C_below HC1.out HB1.out) (fun _ _ h => h) (fun _ h => h.elim) (fun _ _ => trivial) HB1.out HB1.out.size (by have := HLL.out; simp; omega) ?_
    intro v2 w2 ho hb hg_ hn_
    clear hg_ hn_
    have HO2 := Aside0.mk ho
    have HB2 := Aside0.mk hb
    clear ho hb
    refine hK.out _ _ trivial (fun hHeld => ?_)
    clear hK K
    refine norm_ (a' := ?_) ?_ ?_
    rotate_left
    · show Act.put _ (some 155) _ = _
      simp only [Act.put, List.setIfInBounds_toArray, List.set_cons_zero, List.set_cons_succ, i64_w, i32_w]
      rfl
    refine one_ (i := 9) (N := some 160) #[true, true, true, true, true, true, true, true, true, true, false] rfl rfl (by kernel_rfl) (by decide) (fun K hK => ?_)
    refine Kd.R_append_rows_step kFr (w0 := wp) wp.heap.size (by rfl) (.tmp 155) (.tmp 159) 83 72 (.agg #[.int .i64 0, .int .i64 0, .int .i64 0, .int .i64 0, .string ByteArray.empty]) 48 rfl Try.underlying83 infoF rfl (by decide) (by omega) v2 ([] ++ ws.take kx) (ws.drop (kx + 1)) _ _ _ (fun _ => True) (fun _ => False) rfl rfl HO2.out (Kd.C_below HC2.out HB2.out) (fun _ _ h => h) (fun _ h => h.elim) (fun _ _ => trivial) HB2.out HB2.out.size (by have := HLL.out; simp; omega) ?_
    intro v3 w3 ho hb hg_ hn_
    clear hg_ hn_
    have HO3 := Aside0.mk ho
    have HB3 := Aside0.mk hb
    clear ho hb
    refine hK.out _ _ trivial (fun hHeld => ?_)
    clear hK K
    refine norm_ (a' := ?_) ?_ ?_
    rotate_left
    · show Act.put _ (some 160) _ = _
      simp only [Act.put, List.setIfInBounds_toArray, List.set_cons_zero, List.set_cons_succ, i64_w, i32_w]
      rfl
    refine pure_ (i := 10) (N := some 13) (v := ?_) (a' := ?_) #[true, true, true, true, true, true, true, true, true, true, true] rfl rfl (by kernel_rfl) (fun _ _ _ h => hP ⟨_, rfl⟩ (by rfl) h) (Or.inl ⟨by rfl, ?_⟩) ?_ ?_
    rotate_left
    · intro w'
      go_simp
      with_reducible rfl
    rotate_left
    · simp only [Act.put, List.setIfInBounds_toArray, List.set_cons_zero, List.set_cons_succ, i64_w, i32_w]
      rfl
    refine done_ (by kernel_rfl) ?_
    generalize (if cw = kx + 1 then some ad2 else some (ad2.add ((kx + 1) * 5))) = A2_
    have HN3 := Aside0.mk (HN.out.cut HB3.out HO3.out (fun f hf => by
      rcases List.mem_append.1 hf with y | y
      · rcases List.mem_append.1 y with z | z
        · cases z
        · exact List.mem_of_mem_take z
      · exact List.mem_of_mem_drop y) (by have := HLL.out; simp; omega))
    have HG3 := Aside0.mk (blk_below HG2.out HB3.out)
    have HG13 := Aside0.mk (blk_below HG1.out HB3.out)
    clear HO1 HO2 HO3 HB1 HB2 HC1 HC2 HN HG2 HG1 hc0
    have HN := HN3
    have HG2 := HG3
    have HG1 := HG13
    have hc0 : w3.cell? ⟨G, 0, none⟩ = some (.int .i64 o.kind) := blk_at (i := 0) HG1.out rfl
    clear HN3 HG3 HG13
    have r2 := blk_at (i := 2) HG2.out rfl
    have r3 := blk_at (i := 3) HG2.out rfl
    go_wp2_with fail
    refine (r_last HN.out.R).mono ?_
    rintro e' w5 ⟨rfl, hb⟩
    have HN5 := Aside0.mk (HN.out.below hb)
    have HG5 := Aside0.mk (blk_below HG2.out hb)
    have r2 := blk_at (i := 2) HG5.out rfl
    have r3 := blk_at (i := 3) HG5.out rfl
    clear hb HN HG2 HG1 hc0
    go_wp2_with fail
    refine (r_take f.ep f.n HN5.out.R HN5.out.S.lo (by have := HN5.out.hl; have := HN5.out.hput; have := HN5.out.hx; have := HN5.out.S.has; omega)).mono ?_
    rintro e' w6 ⟨rfl, hr, hlo, hu⟩
    have hk := HN5.out.took HF.out.2 HF.out.1 hr hlo hu
    have hl0 := HN5.out.hl
    have hl1 := HN5.out.hput
    have hl2 := HN5.out.hx
    have hl3 := HN5.out.S.has
    generalize (C17.took e l f.ep f.n).1 = tk at hk ⊢
    generalize (C17.took e l f.ep f.n).2.1 = e9 at hk ⊢
    generalize (C17.took e l f.ep f.n).2.2 = l9 at hk ⊢
    obtain ⟨hk0, hk1, hk2, hk3, hk4⟩ := hk
    have HN6 := Aside0.mk hk0
    clear hr hlo hu r2 r3 HN5 HG5 hk0
    go_wp2_with fail
    refine (r_last HN6.out.R).mono ?_
    rintro e' w7 ⟨rfl, hb⟩
    have HN7 := Aside0.mk (HN6.out.below hb)
    clear hb HN6
    have t3 : decide (l9 > h + n) = false := decide_eq_false (by omega)
    have t4 : wrap64 (l + 1) = l + 1 := Pl.w64 (by omega) (by omega)
    obtain ⟨tn, htn⟩ : ∃ tn, (l9 != l) = tn := ⟨_, rfl⟩
    have t5 : (l9 == l) = !tn := by rw [← htn]; simp [bne]
    have t6 : tk = tn := by rw [hk3, ← htn]; by_cases q : l9 = l <;> simp [q]
    have t7 : tk = true → (l9 != l + 1) = false := fun q => by rw [hk4 q]; simp
    clear hk3 hk4 hl0 hl1 hl2 hl3
    subst t6
    have HLQ : Aside0 (l ≤ l9 ∧ l9 ≤ h + n) := ⟨hk1, hk2⟩
    clear hk1 hk2
    cases tk with
    | true =>
      have t8 := t7 rfl
      have q10 : l9 = l + 1 := by simpa [bne] using t8
      have t9 : (l9 = l) = False := eq_false (by omega)
      have t10 : (l9 = l + 1) = True := eq_true q10
      clear q10
      have t11 : (h + (n : Int) < l9) = False := eq_false (by have := HLQ.out; omega)
      clear t7
      go_wp2_with (first | ((with_reducible refine gate_builtin (b := .append) (xs := #[.tmp 199, .tmp 203]) rfl ?_); at_builtin; refine Kd.R_append kFr (w0 := w) w.heap.size rfl (.tmp 199) (.tmp 203) 83 72 (.agg #[.int .i64 0, .int .i64 0, .int .i64 0, .int .i64 0, .string ByteArray.empty]) 48 rfl Try.underlying83 infoF rfl (by decide) (by omega) vb gs ⟨0, 0, e9, l9, ⟨#[]⟩⟩ [.int .i64 0, .int .i64 0, .int .i64 e9, .int .i64 l9, .string ⟨#[]⟩] (fun _ => True) (fun _ => False) rfl rfl ?aP (fun _ hk => hk.elim) ?aF ?aO ?aB ?aS ?aL ?_; (case aP => exact kFr_mkM _ _ _ _); (case aB => exact HN7.out.S.lo); (case aF => exact (fun _ _ => trivial)); (case aO => exact HN7.out.words); (case aS => exact HN7.out.S.lo.size); (case aL => (have := HN7.out.gsl; have := HN7.out.hx; omega)); intro va wa hq hb hg hat; have HN9 := Aside0.mk (HN7.out.said HLT.out (p := ⟨0, 0, e9, l9, ⟨#[]⟩⟩) (Int.le_refl _) hq hb hg hat); clear hq hb hg hat))
      exact HQ0.out _ _ _ _ _ _ _ _ _ _ _ _ _ _ _ _ _ _ _ _ _ _ _ _ _ _ _ _ _ _ _ _ _ _ _ _ _ _ _ _ _ _ _ _ _ _ _ _ _ _ _ _ _ _ _ _ _ _ _ _ _ _ _ _ _ _ _ _ _ _ _ _ _ _ _ _ _ _ _ _ _ _ _ e9 l9 _ (gs ++ [⟨0, 0, e9, l9, ⟨#[]⟩⟩]) HN9.out
    | false =>
      have t9 : (l9 = l) = True := eq_true (by simpa [bne] using htn)
      have t11 : (h + (n : Int) < l9) = False := eq_false (by have := HLQ.out; omega)
      clear t7
      go_wp2_with (first | ((with_reducible refine gate_builtin (b := .append) (xs := #[.tmp 199, .tmp 203]) rfl ?_); at_builtin; refine Kd.R_append kFr (w0 := w) w.heap.size rfl (.tmp 199) (.tmp 203) 83 72 (.agg #[.int .i64 0, .int .i64 0, .int .i64 0, .int .i64 0, .string ByteArray.empty]) 48 rfl Try.underlying83 infoF rfl (by decide) (by omega) vb gs ⟨0, 0, e9, l9, ⟨#[]⟩⟩ [.int .i64 0, .int .i64 0, .int .i64 e9, .int .i64 l9, .string ⟨#[]⟩] (fun _ => True) (fun _ => False) rfl rfl ?aP (fun _ hk => hk.elim) ?aF ?aO ?aB ?aS ?aL ?_; (case aP => exact kFr_mkM _ _ _ _); (case aB => exact HN7.out.S.lo); (case aF => exact (fun _ _ => trivial)); (case aO => exact HN7.out.words); (case aS => exact HN7.out.S.lo.size); (case aL => (have := HN7.out.gsl; have := HN7.out.hx; omega)); intro va wa hq hb hg hat; have HN9 := Aside0.mk (HN7.out.said HLT.out (p := ⟨0, 0, e9, l9, ⟨#[]⟩⟩) (Int.le_refl _) hq hb hg hat); clear hq hb hg hat))
      exact HQ0.out _ _ _ _ _ _ _ _ _ _ _ _ _ _ _ _ _ _ _ _ _ _ _ _ _ _ _ _ _ _ _ _ _ _ _ _ _ _ _ _ _ _ _ _ _ _ _ _ _ _ _ _ _ _ _ _ _ _ _ _ _ _ _ _ _ _ _ _ _ _ _ _ _ _ _ _ _ _ _ _ _ _ _ e9 l9 _ (gs ++ [⟨0, 0, e9, l9, ⟨#[]⟩⟩]) HN9.out
set_option maxRecDepth 100000 in
set_option maxHeartbeats 4000000 in
theorem arm2 {Q : Exit → Act → World → Prop} {w W : World} {ga gr : Nat} {ep h s t wd wt : Int} {n : Nat} {e l : Int} {va vb : Value} {ws gs : List SFr} {x : Nat} (HLK : Aside0 (LK w W ga gr ep h s t wd wt n e l va vb ws gs x)) (HLT : Aside0 (x < 200)) {G : Nat} {o : SLk} (HG : Aside0 (W.heap[G]? = some (.cells #[.int .i64 o.kind, .int .i64 o.at_] 85 (0, 0)))) (k2 : (o.kind == 2) = true) (k2' : (o.kind != 2) = false) (k3 : (o.kind == 3) = false) {u0 u1 u2 u3 u4 u5 u6 u8 u10 u11 u15 u17 u18 u19 u20 u21 u22 u23 u24 u25 u26 u27 u28 u29 u30 u31 u32 u33 u34 u35 u36 u37 u38 u39 u40 u41 u42 u43 u44 u45 u46 u47 u48 u49 u50 u51 u52 u53 u54 u55 u56 u57 u58 u59 u60 u61 u62 u63 u64 u65 u66 u67 u68 u69 u70 u71 u72 u73 u74 u75 u76 u77 u78 u79 u80 u81 u82 u83 u84 u85 u86 u87 u88 u89 u90 u91 u92 u93 u94 u95 u96 u97 u98 u99 u100 u101 u102 u103 u104 u105 u106 u107 u108 u109 u110 u111 u112 u113 u114 u115 u116 u117 u118 u119 u120 u121 u122 u123 u124 u125 u126 u127 u128 u129 u130 u131 u132 u133 u134 u135 u136 u137 u138 u139 u140 u141 u142 u143 u144 u145 u146 u147 u148 u149 u150 u151 u152 u153 u154 u155 u156 u157 u158 u159 u160 u161 u162 u163 u164 u165 u166 u167 u168 u169 u170 u171 u172 u173 u174 u175 u176 u177 u178 u179 u180 u181 u182 u183 u184 u185 u186 u187 u188 u189 u190 u191 u192 u193 u194 u195 u196 u197 u198 u199 u200 u201 u202 u203 u204 u205 u206 u207 u208 u209 u210 u211 u212 u213 u214 u215 u216 u217 u218 u219 u220 u221 u222 u223 u224 u225 u226 u227 u228 u229 u230 u231 u232 u233 u234 u235 u236 u237 u238 u239 u240 u241 u242 u243 u244 u245 u246 u247 u248 u249 u250 u251 u252 u253 u254 u255 u256 u257 u258 u259 u260 u261 u262 u263 u264 u265 u266 u267 u268 u269 u270 u271 u272 u273 u274 u275 u276 u277 u278 u279 u280 u281 u282 u283 u284 u285 u286 u287 u288 u289 u290 u291 u292 u293 u294 u295 u296 u297 u298 u299 u300 u301 u302 u303 u304 u305 u306 u307 u308 u309 u310 u311 u312 u313 u314 u315 u316 u317 u318 u319 u320 u321 u322 u323 u324 u325 u326 u327 u328 u329 u330 u331 u332 u333 u334 u335 u336 u337 u338 u339 u340 u341 u342 u343 : Value} (hQ0 : ∀ (v6 v13 v14 v19 v20 v21 v22 v23 v24 v25 v133 v134 v135 v136 v137 v138 v139 v140 v141 v142 v143 v144 v145 v146 v147 v148 v149 v150 v151 v152 v153 v154 v155 v156 v157 v158 v159 v160 v161 v162 v163 v164 v165 v166 v167 v168 v169 v170 v171 v172 v173 v174 v175 v176 v177 v178 v179 v180 v181 v182 v183 v184 v185 v186 v187 v188 v189 v190 v191 v192 v193 v194 v195 v196 v197 v198 v199 v200 v201 v202 v203 v204 : Value) (W' : World) (e' l' : Int) (ws' gs' : List SFr), LK w W' ga gr ep h s t wd wt n e' l' v13 v14 ws' gs' (x + 1) → Q .normal (Act.mk #[u0, u1, u2, u3, u4, u5, v6, .pointer (some ⟨ga, 0, none⟩), u8, .pointer (some ⟨gr, 0, none⟩), u10, u11, .int .i64 (h + n), v13, v14, u15, .pointer (some ⟨G, 0, none⟩), u17, u18, v19, v20, v21, v22, v23, v24, v25, u26, u27, u28, u29, u30, u31, u32, u33, u34, u35, u36, u37, u38, u39, u40, u41, u42, u43, u44, u45, u46, u47, u48, u49, u50, u51, u52, u53, u54, u55, u56, u57, u58, u59, u60, u61, u62, u63, u64, u65, u66, u67, u68, u69, u70, u71, u72, u73, u74, u75, u76, u77, u78, u79, u80, u81, u82, u83, u84, u85, u86, u87, u88, u89, u90, u91, u92, u93, u94, u95, u96, u97, u98, u99, u100, u101, u102, u103, u104, u105, u106, u107, u108, u109, u110, u111, u112, u113, u114, u115, u116, u117, u118, u119, u120, u121, u122, u123, u124, u125, u126, u127, u128, u129, u130, u131, u132, v133, v134, v135, v136, v137, v138, v139, v140, v141, v142, v143, v144, v145, v146, v147, v148, v149, v150, v151, v152, v153, v154, v155, v156, v157, v158, v159, v160, v161, v162, v163, v164, v165, v166, v167, v168, v169, v170, v171, v172, v173, v174, v175, v176, v177, v178, v179, v180, v181, v182, v183, v184, v185, v186, v187, v188, v189, v190, v191, v192, v193, v194, v195, v196, v197, v198, v199, v200, v201, v202, v203, v204, u205, u206, u207, u208, u209, u210, u211, u212, u213, u214, u215, u216, u217, u218, u219, u220, u221, u222, u223, u224, u225, u226, u227, u228, u229, u230, u231, u232, u233, u234, u235, u236, u237, u238, u239, u240, u241, u242, u243, u244, u245, u246, u247, u248, u249, u250, u251, u252, u253, u254, u255, u256, u257, u258, u259, u260, u261, u262, u263, u264, u265, u266, u267, u268, u269, u270, u271, u272, u273, u274, u275, u276, u277, u278, u279, u280, u281, u282, u283, u284, u285, u286, u287, u288, u289, u290, u291, u292, u293, u294, u295, u296, u297, u298, u299, u300, u301, u302, u303, u304, u305, u306, u307, u308, u309, u310, u311, u312, u313, u314, u315, u316, u317, u318, u319, u320, u321, u322, u323, u324, u325, u326, u327, u328, u329, u330, u331, u332, u333, u334, u335, u336, u337, u338, u339, u340, u341, u342, u343] []) W') (hQ1 : ∀ (v6 v13 v14 v19 v20 v21 v22 v23 v24 v25 v133 v134 v135 v136 v137 v138 v139 v140 v141 v142 v143 v144 v145 v146 v147 v148 v149 v150 v151 v152 v153 v154 v155 v156 v157 v158 v159 v160 v161 v162 v163 v164 v165 v166 v167 v168 v169 v170 v171 v172 v173 v174 v175 v176 v177 v178 v179 v180 v181 v182 v183 v184 v185 v186 v187 v188 v189 v190 v191 v192 v193 v194 v195 v196 v197 v198 v199 v200 v201 v202 v203 v204 : Value) (W' : World) (ws' : List SFr), LK w W' ga gr ep h s t wd wt n e l v13 v14 ws' gs (x + 1) → Q (.exit 1) (Act.mk #[u0, u1, u2, u3, u4, u5, v6, .pointer (some ⟨ga, 0, none⟩), u8, .pointer (some ⟨gr, 0, none⟩), u10, u11, .int .i64 (h + n), v13, v14, u15, .pointer (some ⟨G, 0, none⟩), u17, u18, v19, v20, v21, v22, v23, v24, v25, u26, u27, u28, u29, u30, u31, u32, u33, u34, u35, u36, u37, u38, u39, u40, u41, u42, u43, u44, u45, u46, u47, u48, u49, u50, u51, u52, u53, u54, u55, u56, u57, u58, u59, u60, u61, u62, u63, u64, u65, u66, u67, u68, u69, u70, u71, u72, u73, u74, u75, u76, u77, u78, u79, u80, u81, u82, u83, u84, u85, u86, u87, u88, u89, u90, u91, u92, u93, u94, u95, u96, u97, u98, u99, u100, u101, u102, u103, u104, u105, u106, u107, u108, u109, u110, u111, u112, u113, u114, u115, u116, u117, u118, u119, u120, u121, u122, u123, u124, u125, u126, u127, u128, u129, u130, u131, u132, v133, v134, v135, v136, v137, v138, v139, v140, v141, v142, v143, v144, v145, v146, v147, v148, v149, v150, v151, v152, v153, v154, v155, v156, v157, v158, v159, v160, v161, v162, v163, v164, v165, v166, v167, v168, v169, v170, v171, v172, v173, v174, v175, v176, v177, v178, v179, v180, v181, v182, v183, v184, v185, v186, v187, v188, v189, v190, v191, v192, v193, v194, v195, v196, v197, v198, v199, v200, v201, v202, v203, v204, u205, u206, u207, u208, u209, u210, u211, u212, u213, u214, u215, u216, u217, u218, u219, u220, u221, u222, u223, u224, u225, u226, u227, u228, u229, u230, u231, u232, u233, u234, u235, u236, u237, u238, u239, u240, u241, u242, u243, u244, u245, u246, u247, u248, u249, u250, u251, u252, u253, u254, u255, u256, u257, u258, u259, u260, u261, u262, u263, u264, u265, u266, u267, u268, u269, u270, u271, u272, u273, u274, u275, u276, u277, u278, u279, u280, u281, u282, u283, u284, u285, u286, u287, u288, u289, u290, u291, u292, u293, u294, u295, u296, u297, u298, u299, u300, u301, u302, u303, u304, u305, u306, u307, u308, u309, u310, u311, u312, u313, u314, u315, u316, u317, u318, u319, u320, u321, u322, u323, u324, u325, u326, u327, u328, u329, u330, u331, u332, u333, u334, u335, u336, u337, u338, u339, u340, u341, u342, u343] []) W') :
    Code.wp Try.prog (condT (seqR (condF (seqR (blockB (seqR (seqR (blockB (seqL (seqR (loopB (blockB (seqR (seqL (seqR (seqR (seqR (seqR (seqR (seqR (seqR (seqR (seqR (bodyOf Try.f8)))))))))))))))))))))))) Q (Act.mk #[u0, u1, u2, u3, u4, u5, u6, .pointer (some ⟨ga, 0, none⟩), u8, .pointer (some ⟨gr, 0, none⟩), u10, u11, .int .i64 (h + n), va, vb, u15, .pointer (some ⟨G, 0, none⟩), u17, u18, u19, u20, u21, u22, u23, u24, u25, u26, u27, u28, u29, u30, u31, u32, u33, u34, u35, u36, u37, u38, u39, u40, u41, u42, u43, u44, u45, u46, u47, u48, u49, u50, u51, u52, u53, u54, u55, u56, u57, u58, u59, u60, u61, u62, u63, u64, u65, u66, u67, u68, u69, u70, u71, u72, u73, u74, u75, u76, u77, u78, u79, u80, u81, u82, u83, u84, u85, u86, u87, u88, u89, u90, u91, u92, u93, u94, u95, u96, u97, u98, u99, u100, u101, u102, u103, u104, u105, u106, u107, u108, u109, u110, u111, u112, u113, u114, u115, u116, u117, u118, u119, u120, u121, u122, u123, u124, u125, u126, u127, u128, u129, u130, u131, u132, u133, u134, u135, u136, u137, u138, u139, u140, u141, u142, u143, u144, u145, u146, u147, u148, u149, u150, u151, u152, u153, u154, u155, u156, u157, u158, u159, u160, u161, u162, u163, u164, u165, u166, u167, u168, u169, u170, u171, u172, u173, u174, u175, u176, u177, u178, u179, u180, u181, u182, u183, u184, u185, u186, u187, u188, u189, u190, u191, u192, u193, u194, u195, u196, u197, u198, u199, u200, u201, u202, u203, u204, u205, u206, u207, u208, u209, u210, u211, u212, u213, u214, u215, u216, u217, u218, u219, u220, u221, u222, u223, u224, u225, u226, u227, u228, u229, u230, u231, u232, u233, u234, u235, u236, u237, u238, u239, u240, u241, u242, u243, u244, u245, u246, u247, u248, u249, u250, u251, u252, u253, u254, u255, u256, u257, u258, u259, u260, u261, u262, u263, u264, u265, u266, u267, u268, u269, u270, u271, u272, u273, u274, u275, u276, u277, u278, u279, u280, u281, u282, u283, u284, u285, u286, u287, u288, u289, u290, u291, u292, u293, u294, u295, u296, u297, u298, u299, u300, u301, u302, u303, u304, u305, u306, u307, u308, u309, u310, u311, u312, u313, u314, u315, u316, u317, u318, u319, u320, u321, u322, u323, u324, u325, u326, u327, u328, u329, u330, u331, u332, u333, u334, u335, u336, u337, u338, u339, u340, u341, u342, u343] []) W := by
  have HQ0 := Aside0.mk hQ0
  clear hQ0
  have HQ1 := Aside0.mk hQ1
  clear hQ1
  simp only [Path.seqL, Path.seqR, Path.condT, Path.condF, Path.blockB, Path.loopB, Path.bodyOf, Try.f8, Option.getD]
  have hc1 : W.cell? ⟨G, 1, none⟩ = some (.int .i64 o.at_) := blk_at (i := 1) HG.out rfl
  have hw := HLK.out.way
  obtain ⟨Aw, cw, hvb⟩ := Kd.R_slice hw
  subst hvb
  have hC := (Kd.R_reads' hw).2.2
  have hcw := (Kd.R_reads' hw).2.1
  obtain ⟨L, hL⟩ : ∃ L, ws.length = L := ⟨_, rfl⟩
  have hLb : L ≤ 1000000 := by have := HLK.out.wsl; have := HLK.out.hx; omega
  rw [hL] at hC hcw ⊢
  by_cases c1 : L = 0
  · have HLZ := Aside0.mk (hL.trans c1)
    subst c1
    have HN := Aside0.mk (HLK.out.next HLT.out)
    clear hw hC hL hLb hcw
    go_wp2
    exact HQ1.out _ _ _ _ _ _ _ _ _ _ _ _ _ _ _ _ _ _ _ _ _ _ _ _ _ _ _ _ _ _ _ _ _ _ _ _ _ _ _ _ _ _ _ _ _ _ _ _ _ _ _ _ _ _ _ _ _ _ _ _ _ _ _ _ _ _ _ _ _ _ _ _ _ _ _ _ _ _ _ _ _ _ _ _ (by have hy := HN.out; rw [HLZ.out] at hy; exact hy)
  · have d1 : decide ((L : Int) > 0) = true := decide_eq_true (by omega)
    have d2 : ((L : Int) == 0) = false := beq_eq_false_iff_ne.mpr (by omega)
    have d5 : ((0 : Int) < (L : Int)) = True := eq_true (by omega)
    have d6 : (0 < L) = True := eq_true (by omega)
    have d7 : (L = 0) = False := eq_false c1
    obtain ⟨kx, hK, hKL⟩ := umod2 o.at_ L ⟨by omega, hLb⟩
    have hU := u64_nat L hLb
    obtain ⟨ad2, hA, q0, q1, q2, q3, q4⟩ := at_Fr hC (kx : Int) (by omega) (by omega)
    have hf := HLK.out.wsb _ (rd_mem ws kx (by omega))
    generalize rd_Fr ws (kx : Int) = f at q0 q1 q2 q3 q4 hf
    have HF := Aside0.mk hf
    have HLL : Aside0 (ws.length = L ∧ kx < L ∧ L ≤ 1000000 ∧ L ≤ cw) := ⟨hL, hKL, hLb, hcw⟩
    have d3 : ((kx : Int) < (L : Int)) = True := eq_true (by omega)
    have d4 : (kx < L) = True := eq_true hKL
    subst hA
    rw [Int.toNat_natCast] at q0 q1 q2 q3 q4
    have HWS := Aside0.mk hL
    clear hw hC hL hLb c1 hf hKL hcw
    go_upto_region 30 with (fail)
    have HN := Aside0.mk (HLK.out.below (below_alloc (Below.refl _ _) (.cells #[.int .i64 f.kind, .int .i64 f.fl, .int .i64 f.ep, .int .i64 f.n, .string f.s] 72)))
    have HG2 := Aside0.mk (blk_new W (.cells #[.int .i64 f.kind, .int .i64 f.fl, .int .i64 f.ep, .int .i64 f.n, .string f.s] 72))
    have HG1 := Aside0.mk (Base.blk_alloc HG.out (.cells #[.int .i64 f.kind, .int .i64 f.fl, .int .i64 f.ep, .int .i64 f.n, .string f.s] 72))
    clear q0 q1 q2 q3 q4 HLK hc1 HG
    generalize W.alloc _ = wp at HN HG2 HG1 ⊢
    generalize W.heap.size = G2 at HG2 ⊢
    have hc0 : wp.cell? ⟨G, 0, none⟩ = some (.int .i64 o.kind) := blk_at (i := 0) HG1.out rfl
    have r2 := blk_at (i := 2) HG2.out rfl
    have r3 := blk_at (i := 3) HG2.out rfl
    go_wp2_with fail
    refine (r_last HN.out.R).mono ?_
    rintro e' w5 ⟨rfl, hb⟩
    have HN5 := Aside0.mk (HN.out.below hb)
    have HG5 := Aside0.mk (blk_below HG2.out hb)
    have r2 := blk_at (i := 2) HG5.out rfl
    have r3 := blk_at (i := 3) HG5.out rfl
    clear hb HN HG2 HG1 hc0
    go_wp2_with fail
    refine (r_take f.ep f.n HN5.out.R HN5.out.S.lo (by have := HN5.out.hl; have := HN5.out.hput; have := HN5.out.hx; have := HN5.out.S.has; omega)).mono ?_
    rintro e' w6 ⟨rfl, hr, hlo, hu⟩
    have hk := HN5.out.took HF.out.2 HF.out.1 hr hlo hu
    have hl0 := HN5.out.hl
    have hl1 := HN5.out.hput
    have hl2 := HN5.out.hx
    have hl3 := HN5.out.S.has
    generalize (C17.took e l f.ep f.n).1 = tk at hk ⊢
    generalize (C17.took e l f.ep f.n).2.1 = e9 at hk ⊢
    generalize (C17.took e l f.ep f.n).2.2 = l9 at hk ⊢
    obtain ⟨hk0, hk1, hk2, hk3, hk4⟩ := hk
    have HN6 := Aside0.mk hk0
    clear hr hlo hu r2 r3 HN5 HG5 hk0
    go_wp2_with fail
    refine (r_last HN6.out.R).mono ?_
    rintro e' w7 ⟨rfl, hb⟩
    have HN7 := Aside0.mk (HN6.out.below hb)
    clear hb HN6
    have t3 : decide (l9 > h + n) = false := decide_eq_false (by omega)
    have t4 : wrap64 (l + 1) = l + 1 := Pl.w64 (by omega) (by omega)
    obtain ⟨tn, htn⟩ : ∃ tn, (l9 != l) = tn := ⟨_, rfl⟩
    have t5 : (l9 == l) = !tn := by rw [← htn]; simp [bne]
    have t6 : tk = tn := by rw [hk3, ← htn]; by_cases q : l9 = l <;> simp [q]
    have t7 : tk = true → (l9 != l + 1) = false := fun q => by rw [hk4 q]; simp
    clear hk3 hk4 hl0 hl1 hl2 hl3
    subst t6
    have HLQ : Aside0 (l ≤ l9 ∧ l9 ≤ h + n) := ⟨hk1, hk2⟩
    clear hk1 hk2
    cases tk with
    | true =>
      have t8 := t7 rfl
      have q10 : l9 = l + 1 := by simpa [bne] using t8
      have t9 : (l9 = l) = False := eq_false (by omega)
      have t10 : (l9 = l + 1) = True := eq_true q10
      clear q10
      have t11 : (h + (n : Int) < l9) = False := eq_false (by have := HLQ.out; omega)
      clear t7
      go_wp2_with (first | ((with_reducible refine gate_builtin (b := .append) (xs := #[.tmp 199, .tmp 203]) rfl ?_); at_builtin; refine Kd.R_append kFr (w0 := w) w.heap.size rfl (.tmp 199) (.tmp 203) 83 72 (.agg #[.int .i64 0, .int .i64 0, .int .i64 0, .int .i64 0, .string ByteArray.empty]) 48 rfl Try.underlying83 infoF rfl (by decide) (by omega) vb gs ⟨0, 0, e9, l9, ⟨#[]⟩⟩ [.int .i64 0, .int .i64 0, .int .i64 e9, .int .i64 l9, .string ⟨#[]⟩] (fun _ => True) (fun _ => False) rfl rfl ?aP (fun _ hk => hk.elim) ?aF ?aO ?aB ?aS ?aL ?_; (case aP => exact kFr_mkM _ _ _ _); (case aB => exact HN7.out.S.lo); (case aF => exact (fun _ _ => trivial)); (case aO => exact HN7.out.words); (case aS => exact HN7.out.S.lo.size); (case aL => (have := HN7.out.gsl; have := HN7.out.hx; omega)); intro va wa hq hb hg hat; have HN9 := Aside0.mk (HN7.out.said HLT.out (p := ⟨0, 0, e9, l9, ⟨#[]⟩⟩) (Int.le_refl _) hq hb hg hat); clear hq hb hg hat))
      exact HQ0.out _ _ _ _ _ _ _ _ _ _ _ _ _ _ _ _ _ _ _ _ _ _ _ _ _ _ _ _ _ _ _ _ _ _ _ _ _ _ _ _ _ _ _ _ _ _ _ _ _ _ _ _ _ _ _ _ _ _ _ _ _ _ _ _ _ _ _ _ _ _ _ _ _ _ _ _ _ _ _ _ _ _ _ e9 l9 _ (gs ++ [⟨0, 0, e9, l9, ⟨#[]⟩⟩]) (by have hy := HN9.out; rw [HWS.out] at hy; exact hy)
    | false =>
      have t9 : (l9 = l) = True := eq_true (by simpa [bne] using htn)
      have t11 : (h + (n : Int) < l9) = False := eq_false (by have := HLQ.out; omega)
      clear t7
      go_wp2_with (first | ((with_reducible refine gate_builtin (b := .append) (xs := #[.tmp 199, .tmp 203]) rfl ?_); at_builtin; refine Kd.R_append kFr (w0 := w) w.heap.size rfl (.tmp 199) (.tmp 203) 83 72 (.agg #[.int .i64 0, .int .i64 0, .int .i64 0, .int .i64 0, .string ByteArray.empty]) 48 rfl Try.underlying83 infoF rfl (by decide) (by omega) vb gs ⟨0, 0, e9, l9, ⟨#[]⟩⟩ [.int .i64 0, .int .i64 0, .int .i64 e9, .int .i64 l9, .string ⟨#[]⟩] (fun _ => True) (fun _ => False) rfl rfl ?aP (fun _ hk => hk.elim) ?aF ?aO ?aB ?aS ?aL ?_; (case aP => exact kFr_mkM _ _ _ _); (case aB => exact HN7.out.S.lo); (case aF => exact (fun _ _ => trivial)); (case aO => exact HN7.out.words); (case aS => exact HN7.out.S.lo.size); (case aL => (have := HN7.out.gsl; have := HN7.out.hx; omega)); intro va wa hq hb hg hat; have HN9 := Aside0.mk (HN7.out.said HLT.out (p := ⟨0, 0, e9, l9, ⟨#[]⟩⟩) (Int.le_refl _) hq hb hg hat); clear hq hb hg hat))
      exact HQ0.out _ _ _ _ _ _ _ _ _ _ _ _ _ _ _ _ _ _ _ _ _ _ _ _ _ _ _ _ _ _ _ _ _ _ _ _ _ _ _ _ _ _ _ _ _ _ _ _ _ _ _ _ _ _ _ _ _ _ _ _ _ _ _ _ _ _ _ _ _ _ _ _ _ _ _ _ _ _ _ _ _ _ _ e9 l9 _ (gs ++ [⟨0, 0, e9, l9, ⟨#[]⟩⟩]) (by have hy := HN9.out; rw [HWS.out] at hy; exact hy)
set_option maxRecDepth 100000 in
set_option maxHeartbeats 4000000 in
theorem arm3 {Q : Exit → Act → World → Prop} (hP : ∀ {ex : Exit} {a a' : Act} {w : World}, (∃ c, ex = .panic c) → a.defers = a'.defers → Q ex a w → Q ex a' w) {w W : World} {ga gr : Nat} {ep h s t wd wt : Int} {n : Nat} {e l : Int} {va vb : Value} {ws gs : List SFr} {x : Nat} (HLK : Aside0 (LK w W ga gr ep h s t wd wt n e l va vb ws gs x)) (HLT : Aside0 (x < 200)) {G : Nat} {o : SLk} (HG : Aside0 (W.heap[G]? = some (.cells #[.int .i64 o.kind, .int .i64 o.at_] 85 (0, 0)))) (k2 : (o.kind == 2) = false) (k2' : (o.kind != 2) = true) (k3 : (o.kind == 3) = true) {u0 u1 u2 u3 u4 u5 u6 u8 u10 u11 u15 u17 u18 u19 u20 u21 u22 u23 u24 u25 u26 u27 u28 u29 u30 u31 u32 u33 u34 u35 u36 u37 u38 u39 u40 u41 u42 u43 u44 u45 u46 u47 u48 u49 u50 u51 u52 u53 u54 u55 u56 u57 u58 u59 u60 u61 u62 u63 u64 u65 u66 u67 u68 u69 u70 u71 u72 u73 u74 u75 u76 u77 u78 u79 u80 u81 u82 u83 u84 u85 u86 u87 u88 u89 u90 u91 u92 u93 u94 u95 u96 u97 u98 u99 u100 u101 u102 u103 u104 u105 u106 u107 u108 u109 u110 u111 u112 u113 u114 u115 u116 u117 u118 u119 u120 u121 u122 u123 u124 u125 u126 u127 u128 u129 u130 u131 u132 u133 u134 u135 u136 u137 u138 u139 u140 u141 u142 u143 u144 u145 u146 u147 u148 u149 u150 u151 u152 u153 u154 u155 u156 u157 u158 u159 u160 u161 u162 u163 u164 u165 u166 u167 u168 u169 u170 u171 u172 u173 u174 u175 u176 u177 u178 u179 u180 u181 u182 u183 u184 u185 u186 u187 u188 u189 u190 u191 u192 u193 u194 u195 u196 u197 u198 u199 u200 u201 u202 u203 u204 u205 u206 u207 u208 u209 u210 u211 u212 u213 u214 u215 u216 u217 u218 u219 u220 u221 u222 u223 u224 u225 u226 u227 u228 u229 u230 u231 u232 u233 u234 u235 u236 u237 u238 u239 u240 u241 u242 u243 u244 u245 u246 u247 u248 u249 u250 u251 u252 u253 u254 u255 u256 u257 u258 u259 u260 u261 u262 u263 u264 u265 u266 u267 u268 u269 u270 u271 u272 u273 u274 u275 u276 u277 u278 u279 u280 u281 u282 u283 u284 u285 u286 u287 u288 u289 u290 u291 u292 u293 u294 u295 u296 u297 u298 u299 u300 u301 u302 u303 u304 u305 u306 u307 u308 u309 u310 u311 u312 u313 u314 u315 u316 u317 u318 u319 u320 u321 u322 u323 u324 u325 u326 u327 u328 u329 u330 u331 u332 u333 u334 u335 u336 u337 u338 u339 u340 u341 u342 u343 : Value} (hQ0 : ∀ (v6 v13 v14 v19 v20 v21 v22 v23 v24 v25 v133 v134 v135 v136 v137 v138 v139 v140 v141 v142 v143 v144 v145 v146 v147 v148 v149 v150 v151 v152 v153 v154 v155 v156 v157 v158 v159 v160 v161 v162 v163 v164 v165 v166 v167 v168 v169 v170 v171 v172 v173 v174 v175 v176 v177 v178 v179 v180 v181 v182 v183 v184 v185 v186 v187 v188 v189 v190 v191 v192 v193 v194 v195 v196 v197 v198 v199 v200 v201 v202 v203 v204 : Value) (W' : World) (e' l' : Int) (ws' gs' : List SFr), LK w W' ga gr ep h s t wd wt n e' l' v13 v14 ws' gs' (x + 1) → Q .normal (Act.mk #[u0, u1, u2, u3, u4, u5, v6, .pointer (some ⟨ga, 0, none⟩), u8, .pointer (some ⟨gr, 0, none⟩), u10, u11, .int .i64 (h + n), v13, v14, u15, .pointer (some ⟨G, 0, none⟩), u17, u18, v19, v20, v21, v22, v23, v24, v25, u26, u27, u28, u29, u30, u31, u32, u33, u34, u35, u36, u37, u38, u39, u40, u41, u42, u43, u44, u45, u46, u47, u48, u49, u50, u51, u52, u53, u54, u55, u56, u57, u58, u59, u60, u61, u62, u63, u64, u65, u66, u67, u68, u69, u70, u71, u72, u73, u74, u75, u76, u77, u78, u79, u80, u81, u82, u83, u84, u85, u86, u87, u88, u89, u90, u91, u92, u93, u94, u95, u96, u97, u98, u99, u100, u101, u102, u103, u104, u105, u106, u107, u108, u109, u110, u111, u112, u113, u114, u115, u116, u117, u118, u119, u120, u121, u122, u123, u124, u125, u126, u127, u128, u129, u130, u131, u132, v133, v134, v135, v136, v137, v138, v139, v140, v141, v142, v143, v144, v145, v146, v147, v148, v149, v150, v151, v152, v153, v154, v155, v156, v157, v158, v159, v160, v161, v162, v163, v164, v165, v166, v167, v168, v169, v170, v171, v172, v173, v174, v175, v176, v177, v178, v179, v180, v181, v182, v183, v184, v185, v186, v187, v188, v189, v190, v191, v192, v193, v194, v195, v196, v197, v198, v199, v200, v201, v202, v203, v204, u205, u206, u207, u208, u209, u210, u211, u212, u213, u214, u215, u216, u217, u218, u219, u220, u221, u222, u223, u224, u225, u226, u227, u228, u229, u230, u231, u232, u233, u234, u235, u236, u237, u238, u239, u240, u241, u242, u243, u244, u245, u246, u247, u248, u249, u250, u251, u252, u253, u254, u255, u256, u257, u258, u259, u260, u261, u262, u263, u264, u265, u266, u267, u268, u269, u270, u271, u272, u273, u274, u275, u276, u277, u278, u279, u280, u281, u282, u283, u284, u285, u286, u287, u288, u289, u290, u291, u292, u293, u294, u295, u296, u297, u298, u299, u300, u301, u302, u303, u304, u305, u306, u307, u308, u309, u310, u311, u312, u313, u314, u315, u316, u317, u318, u319, u320, u321, u322, u323, u324, u325, u326, u327, u328, u329, u330, u331, u332, u333, u334, u335, u336, u337, u338, u339, u340, u341, u342, u343] []) W') (hQ1 : ∀ (v6 v13 v14 v19 v20 v21 v22 v23 v24 v25 v133 v134 v135 v136 v137 v138 v139 v140 v141 v142 v143 v144 v145 v146 v147 v148 v149 v150 v151 v152 v153 v154 v155 v156 v157 v158 v159 v160 v161 v162 v163 v164 v165 v166 v167 v168 v169 v170 v171 v172 v173 v174 v175 v176 v177 v178 v179 v180 v181 v182 v183 v184 v185 v186 v187 v188 v189 v190 v191 v192 v193 v194 v195 v196 v197 v198 v199 v200 v201 v202 v203 v204 : Value) (W' : World) (ws' : List SFr), LK w W' ga gr ep h s t wd wt n e l v13 v14 ws' gs (x + 1) → Q (.exit 1) (Act.mk #[u0, u1, u2, u3, u4, u5, v6, .pointer (some ⟨ga, 0, none⟩), u8, .pointer (some ⟨gr, 0, none⟩), u10, u11, .int .i64 (h + n), v13, v14, u15, .pointer (some ⟨G, 0, none⟩), u17, u18, v19, v20, v21, v22, v23, v24, v25, u26, u27, u28, u29, u30, u31, u32, u33, u34, u35, u36, u37, u38, u39, u40, u41, u42, u43, u44, u45, u46, u47, u48, u49, u50, u51, u52, u53, u54, u55, u56, u57, u58, u59, u60, u61, u62, u63, u64, u65, u66, u67, u68, u69, u70, u71, u72, u73, u74, u75, u76, u77, u78, u79, u80, u81, u82, u83, u84, u85, u86, u87, u88, u89, u90, u91, u92, u93, u94, u95, u96, u97, u98, u99, u100, u101, u102, u103, u104, u105, u106, u107, u108, u109, u110, u111, u112, u113, u114, u115, u116, u117, u118, u119, u120, u121, u122, u123, u124, u125, u126, u127, u128, u129, u130, u131, u132, v133, v134, v135, v136, v137, v138, v139, v140, v141, v142, v143, v144, v145, v146, v147, v148, v149, v150, v151, v152, v153, v154, v155, v156, v157, v158, v159, v160, v161, v162, v163, v164, v165, v166, v167, v168, v169, v170, v171, v172, v173, v174, v175, v176, v177, v178, v179, v180, v181, v182, v183, v184, v185, v186, v187, v188, v189, v190, v191, v192, v193, v194, v195, v196, v197, v198, v199, v200, v201, v202, v203, v204, u205, u206, u207, u208, u209, u210, u211, u212, u213, u214, u215, u216, u217, u218, u219, u220, u221, u222, u223, u224, u225, u226, u227, u228, u229, u230, u231, u232, u233, u234, u235, u236, u237, u238, u239, u240, u241, u242, u243, u244, u245, u246, u247, u248, u249, u250, u251, u252, u253, u254, u255, u256, u257, u258, u259, u260, u261, u262, u263, u264, u265, u266, u267, u268, u269, u270, u271, u272, u273, u274, u275, u276, u277, u278, u279, u280, u281, u282, u283, u284, u285, u286, u287, u288, u289, u290, u291, u292, u293, u294, u295, u296, u297, u298, u299, u300, u301, u302, u303, u304, u305, u306, u307, u308, u309, u310, u311, u312, u313, u314, u315, u316, u317, u318, u319, u320, u321, u322, u323, u324, u325, u326, u327, u328, u329, u330, u331, u332, u333, u334, u335, u336, u337, u338, u339, u340, u341, u342, u343] []) W') :
    Code.wp Try.prog (condT (seqR (condF (seqR (blockB (seqR (seqR (blockB (seqL (seqR (loopB (blockB (seqR (seqL (seqR (seqR (seqR (seqR (seqR (seqR (seqR (seqR (seqR (bodyOf Try.f8)))))))))))))))))))))))) Q (Act.mk #[u0, u1, u2, u3, u4, u5, u6, .pointer (some ⟨ga, 0, none⟩), u8, .pointer (some ⟨gr, 0, none⟩), u10, u11, .int .i64 (h + n), va, vb, u15, .pointer (some ⟨G, 0, none⟩), u17, u18, u19, u20, u21, u22, u23, u24, u25, u26, u27, u28, u29, u30, u31, u32, u33, u34, u35, u36, u37, u38, u39, u40, u41, u42, u43, u44, u45, u46, u47, u48, u49, u50, u51, u52, u53, u54, u55, u56, u57, u58, u59, u60, u61, u62, u63, u64, u65, u66, u67, u68, u69, u70, u71, u72, u73, u74, u75, u76, u77, u78, u79, u80, u81, u82, u83, u84, u85, u86, u87, u88, u89, u90, u91, u92, u93, u94, u95, u96, u97, u98, u99, u100, u101, u102, u103, u104, u105, u106, u107, u108, u109, u110, u111, u112, u113, u114, u115, u116, u117, u118, u119, u120, u121, u122, u123, u124, u125, u126, u127, u128, u129, u130, u131, u132, u133, u134, u135, u136, u137, u138, u139, u140, u141, u142, u143, u144, u145, u146, u147, u148, u149, u150, u151, u152, u153, u154, u155, u156, u157, u158, u159, u160, u161, u162, u163, u164, u165, u166, u167, u168, u169, u170, u171, u172, u173, u174, u175, u176, u177, u178, u179, u180, u181, u182, u183, u184, u185, u186, u187, u188, u189, u190, u191, u192, u193, u194, u195, u196, u197, u198, u199, u200, u201, u202, u203, u204, u205, u206, u207, u208, u209, u210, u211, u212, u213, u214, u215, u216, u217, u218, u219, u220, u221, u222, u223, u224, u225, u226, u227, u228, u229, u230, u231, u232, u233, u234, u235, u236, u237, u238, u239, u240, u241, u242, u243, u244, u245, u246, u247, u248, u249, u250, u251, u252, u253, u254, u255, u256, u257, u258, u259, u260, u261, u262, u263, u264, u265, u266, u267, u268, u269, u270, u271, u272, u273, u274, u275, u276, u277, u278, u279, u280, u281, u282, u283, u284, u285, u286, u287, u288, u289, u290, u291, u292, u293, u294, u295, u296, u297, u298, u299, u300, u301, u302, u303, u304, u305, u306, u307, u308, u309, u310, u311, u312, u313, u314, u315, u316, u317, u318, u319, u320, u321, u322, u323, u324, u325, u326, u327, u328, u329, u330, u331, u332, u333, u334, u335, u336, u337, u338, u339, u340, u341, u342, u343] []) W := by
  have HQ0 := Aside0.mk hQ0
  clear hQ0
  have HQ1 := Aside0.mk hQ1
  clear hQ1
  simp only [Path.seqL, Path.seqR, Path.condT, Path.condF, Path.blockB, Path.loopB, Path.bodyOf, Try.f8, Option.getD]
  have hc1 : W.cell? ⟨G, 1, none⟩ = some (.int .i64 o.at_) := blk_at (i := 1) HG.out rfl
  have hw := HLK.out.way
  obtain ⟨Aw, cw, hvb⟩ := Kd.R_slice hw
  subst hvb
  have hC := (Kd.R_reads' hw).2.2
  have hcw := (Kd.R_reads' hw).2.1
  obtain ⟨L, hL⟩ : ∃ L, ws.length = L := ⟨_, rfl⟩
  have hLb : L ≤ 1000000 := by have := HLK.out.wsl; have := HLK.out.hx; omega
  rw [hL] at hC hcw ⊢
  by_cases c1 : L = 0
  · have HLZ := Aside0.mk (hL.trans c1)
    subst c1
    have HN := Aside0.mk (HLK.out.next HLT.out)
    clear hw hC hL hLb hcw
    go_wp2
    exact HQ1.out _ _ _ _ _ _ _ _ _ _ _ _ _ _ _ _ _ _ _ _ _ _ _ _ _ _ _ _ _ _ _ _ _ _ _ _ _ _ _ _ _ _ _ _ _ _ _ _ _ _ _ _ _ _ _ _ _ _ _ _ _ _ _ _ _ _ _ _ _ _ _ _ _ _ _ _ _ _ _ _ _ _ _ _ (by have hy := HN.out; rw [HLZ.out] at hy; exact hy)
  · have d1 : decide ((L : Int) > 0) = true := decide_eq_true (by omega)
    have d2 : ((L : Int) == 0) = false := beq_eq_false_iff_ne.mpr (by omega)
    have d5 : ((0 : Int) < (L : Int)) = True := eq_true (by omega)
    have d6 : (0 < L) = True := eq_true (by omega)
    have d7 : (L = 0) = False := eq_false c1
    obtain ⟨kx, hK, hKL⟩ := umod2 o.at_ L ⟨by omega, hLb⟩
    have hU := u64_nat L hLb
    obtain ⟨ad2, hA, q0, q1, q2, q3, q4⟩ := at_Fr hC (kx : Int) (by omega) (by omega)
    have hf := HLK.out.wsb _ (rd_mem ws kx (by omega))
    generalize rd_Fr ws (kx : Int) = f at q0 q1 q2 q3 q4 hf
    have HF := Aside0.mk hf
    have HLL : Aside0 (ws.length = L ∧ kx < L ∧ L ≤ 1000000 ∧ L ≤ cw) := ⟨hL, hKL, hLb, hcw⟩
    have d3 : ((kx : Int) < (L : Int)) = True := eq_true (by omega)
    have d4 : (kx < L) = True := eq_true hKL
    subst hA
    rw [Int.toNat_natCast] at q0 q1 q2 q3 q4
    have HWS := Aside0.mk hL
    clear hw hC hL hLb c1 hf hKL hcw
    go_upto_region 30 with (fail)
    have HN := Aside0.mk (HLK.out.below (below_alloc (Below.refl _ _) (.cells #[.int .i64 f.kind, .int .i64 f.fl, .int .i64 f.ep, .int .i64 f.n, .string f.s] 72)))
    have HG2 := Aside0.mk (blk_new W (.cells #[.int .i64 f.kind, .int .i64 f.fl, .int .i64 f.ep, .int .i64 f.n, .string f.s] 72))
    have HG1 := Aside0.mk (Base.blk_alloc HG.out (.cells #[.int .i64 f.kind, .int .i64 f.fl, .int .i64 f.ep, .int .i64 f.n, .string f.s] 72))
    clear q0 q1 q2 q3 q4 HLK hc1 HG
    generalize W.alloc _ = wp at HN HG2 HG1 ⊢
    generalize W.heap.size = G2 at HG2 ⊢
    have hc0 : wp.cell? ⟨G, 0, none⟩ = some (.int .i64 o.kind) := blk_at (i := 0) HG1.out rfl
    have hw := HN.out.way
    have hlw := HLL.out
    have hC1 := (Kd.R_reads' (Kd.R_take hw (m := kx) (by omega))).2.2
    have hC2 := (Kd.Q_reads' (Kd.Q_drop (Kd.Q_of_R hw) (k := kx + 1) (by omega))).2.2
    rw [List.length_take, Nat.min_eq_left (by omega)] at hC1
    rw [List.length_drop, hlw.1] at hC2
    have HC1 := Aside0.mk hC1
    have HC2 := Aside0.mk hC2
    have w1_ : wrap64 ((kx : Int) + 1) = (kx : Int) + 1 := Pl.w64 (by omega) (by omega)
    have b7 : ((kx : Int) + 1 ≤ (L : Int)) = True := eq_true (by omega)
    have b8 : (0 ≤ (kx : Int) + 1) = True := eq_true (by omega)
    have b1 : ((kx : Int) ≤ (cw : Int)) = True := eq_true (by omega)
    have b2 : (kx ≤ cw) = True := eq_true (by omega)
    have b3 : (((kx + 1 : Nat) : Int) ≤ (L : Int)) = True := eq_true (by omega)
    have b4 : (kx + 1 ≤ L) = True := eq_true (by omega)
    have b5 : (0 ≤ ((kx + 1 : Nat) : Int)) = True := eq_true (by omega)
    have b6 : (0 ≤ (kx : Int)) = True := eq_true (by omega)
    clear hw hC1 hC2 hlw
    go_upto_region 31 with (fail)
    refine start_ (n := 11) (S := fun w' => True) (ds := []) #[false, false, false, false, false, false, false, false, false, false, false] (by kernel_rfl) rfl rfl trivial (fun hHeld => ?_)
    refine pure_ (i := 1) (N := some 152) (v := ?_) (a' := ?_) #[false, true, false, false, false, false, false, false, false, false, false] rfl rfl (by kernel_rfl) (fun _ _ _ h => hP ⟨_, rfl⟩ (by rfl) h) (Or.inl ⟨by rfl, ?_⟩) ?_ ?_
    rotate_left
    · intro w'
      go_simp
      with_reducible rfl
    rotate_left
    · simp only [Act.put, List.setIfInBounds_toArray, List.set_cons_zero, List.set_cons_succ, i64_w, i32_w]
      rfl
    refine pure_ (i := 2) (N := some 153) (v := ?_) (a' := ?_) #[false, true, true, false, false, false, false, false, false, false, false] rfl rfl (by kernel_rfl) (fun _ _ _ h => hP ⟨_, rfl⟩ (by rfl) h) (Or.inl ⟨by rfl, ?_⟩) ?_ ?_
    rotate_left
    · intro w'
      go_simp
      with_reducible rfl
    rotate_left
    · simp only [Act.put, List.setIfInBounds_toArray, List.set_cons_zero, List.set_cons_succ, i64_w, i32_w]
      rfl
    refine pure_ (i := 3) (N := some 154) (v := ?_) (a' := ?_) #[false, true, true, true, false, false, false, false, false, false, false] rfl rfl (by kernel_rfl) (fun _ _ _ h => hP ⟨_, rfl⟩ (by rfl) h) (Or.inl ⟨by rfl, ?_⟩) ?_ ?_
    rotate_left
    · intro w'
      go_simp
      with_reducible rfl
    rotate_left
    · simp only [Act.put, List.setIfInBounds_toArray, List.set_cons_zero, List.set_cons_succ, i64_w, i32_w]
      rfl
    refine pure_ (i := 5) (N := some 156) (v := ?_) (a' := ?_) #[false, true, true, true, false, true, false, false, false, false, false] rfl rfl (by kernel_rfl) (fun _ _ _ h => hP ⟨_, rfl⟩ (by rfl) h) (Or.inl ⟨by rfl, ?_⟩) ?_ ?_
    rotate_left
    · intro w'
      go_simp
      with_reducible rfl
    rotate_left
    · simp only [Act.put, List.setIfInBounds_toArray, List.set_cons_zero, List.set_cons_succ, i64_w, i32_w]
      rfl
    refine pure_ (i := 6) (N := some 157) (v := ?_) (a' := ?_) #[false, true, true, true, false, true, true, false, false, false, false] rfl rfl (by kernel_rfl) (fun _ _ _ h => hP ⟨_, rfl⟩ (by rfl) h) (Or.inl ⟨by rfl, ?_⟩) ?_ ?_
    rotate_left
    · intro w'
      go_simp
      with_reducible rfl
    rotate_left
    · simp only [Act.put, List.setIfInBounds_toArray, List.set_cons_zero, List.set_cons_succ, i64_w, i32_w]
      rfl
    refine pure_ (i := 7) (N := some 158) (v := ?_) (a' := ?_) #[false, true, true, true, false, true, true, true, false, false, false] rfl rfl (by kernel_rfl) (fun _ _ _ h => hP ⟨_, rfl⟩ (by rfl) h) (Or.inl ⟨by rfl, ?_⟩) ?_ ?_
    rotate_left
    · intro w'
      go_simp
      with_reducible rfl
    rotate_left
    · simp only [Act.put, List.setIfInBounds_toArray, List.set_cons_zero, List.set_cons_succ, i64_w, i32_w]
      rfl
    refine pure_ (i := 8) (N := some 159) (v := ?_) (a' := ?_) #[false, true, true, true, false, true, true, true, true, false, false] rfl rfl (by kernel_rfl) (fun _ _ _ h => hP ⟨_, rfl⟩ (by rfl) h) (Or.inl ⟨by rfl, ?_⟩) ?_ ?_
    rotate_left
    · intro w'
      go_simp
      with_reducible rfl
    rotate_left
    · simp only [Act.put, List.setIfInBounds_toArray, List.set_cons_zero, List.set_cons_succ, i64_w, i32_w]
      rfl
    refine one_ (i := 0) (N := some 151) #[true, true, true, true, false, true, true, true, true, false, false] rfl rfl (by kernel_rfl) (by decide) (fun K hK => ?_)
    refine Kd.R_lit_step kFr (w0 := wp) wp.heap.size 72 (by rfl) (N := 151) rfl (xs := ([] : List SFr)) (inner := []) (ok := fun _ => True) (okp := fun _ => True) (by first | (go_simp; done) | (go_simp; rfl)) (Reps.none _ _) (fun _ hk => hk) trivial (below_drew (Below.refl _ _)) (Nat.le_refl _) (by simp) ?_
    intro v1 w1 ho hb hg_ hn_
    clear hg_ hn_
    have HO1 := Aside0.mk ho
    have HB1 := Aside0.mk hb
    clear ho hb
    refine hK.out _ _ trivial (fun hHeld => ?_)
    clear hK K
    refine norm_ (a' := ?_) ?_ ?_
    rotate_left
    · show Act.put _ (some 151) _ = _
      simp only [Act.put, List.setIfInBounds_toArray, List.set_cons_zero, List.set_cons_succ, i64_w, i32_w]
      rfl
    refine one_ (i := 4) (N := some 155) #[true, true, true, true, true, true, true, true, true, false, false] rfl rfl (by kernel_rfl) (by decide) (fun K hK => ?_)
    refine Kd.R_append_rows_step kFr (w0 := wp) wp.heap.size (by rfl) (.tmp 151) (.tmp 154) 83 72 (.agg #[.int .i64 0, .int .i64 0, .int .i64 0, .int .i64 0, .string ByteArray.empty]) 48 rfl Try.underlying83 infoF rfl (by decide) (by omega) v1 [] (ws.take kx) _ _ _ (fun _ => True) (fun _ => False) rfl rfl HO1.out (Kd.C_below HC1.out HB1.out) (fun _ _ h => h) (fun _ h => h.elim) (fun _ _ => trivial) HB1.out HB1.out.size (by have := HLL.out; simp; omega) ?_
    intro v2 w2 ho hb hg_ hn_
    clear hg_ hn_
    have HO2 := Aside0.mk ho
    have HB2 := Aside0.mk hb
    clear ho hb
    refine hK.out _ _ trivial (fun hHeld => ?_)
    clear hK K
    refine norm_ (a' := ?_) ?_ ?_
    rotate_left
    · show Act.put _ (some 155) _ = _
      simp only [Act.put, List.setIfInBounds_toArray, List.set_cons_zero, List.set_cons_succ, i64_w, i32_w]
      rfl
    refine one_ (i := 9) (N := some 160) #[true, true, true, true, true, true, true, true, true, true, false] rfl rfl (by kernel_rfl) (by decide) (fun K hK => ?_)
    refine Kd.R_append_rows_step kFr (w0 := wp) wp.heap.size (by rfl) (.tmp 155) (.tmp 159) 83 72 (.agg #[.int .i64 0, .int .i64 0, .int .i64 0, .int .i64 0, .string ByteArray.empty]) 48 rfl Try.underlying83 infoF rfl (by decide) (by omega) v2 ([] ++ ws.take kx) (ws.drop (kx + 1)) _ _ _ (fun _ => True) (fun _ => False) rfl rfl HO2.out (Kd.C_below HC2.out HB2.out) (fun _ _ h => h) (fun _ h => h.elim) (fun _ _ => trivial) HB2.out HB2.out.size (by have := HLL.out; simp; omega) ?_
    intro v3 w3 ho hb hg_ hn_
    clear hg_ hn_
    have HO3 := Aside0.mk ho
    have HB3 := Aside0.mk hb
    clear ho hb
    refine hK.out _ _ trivial (fun hHeld => ?_)
    clear hK K
    refine norm_ (a' := ?_) ?_ ?_
    rotate_left
    · show Act.put _ (some 160) _ = _
      simp only [Act.put, List.setIfInBounds_toArray, List.set_cons_zero, List.set_cons_succ, i64_w, i32_w]
      rfl
    refine pure_ (i := 10) (N := some 13) (v := ?_) (a' := ?_) #[true, true, true, true, true, true, true, true, true, true, true] rfl rfl (by kernel_rfl) (fun _ _ _ h => hP ⟨_, rfl⟩ (by rfl) h) (Or.inl ⟨by rfl, ?_⟩) ?_ ?_
    rotate_left
    · intro w'
      go_simp
      with_reducible rfl
    rotate_left
    · simp only [Act.put, List.setIfInBounds_toArray, List.set_cons_zero, List.set_cons_succ, i64_w, i32_w]
      rfl
    refine done_ (by kernel_rfl) ?_
    generalize (if cw = kx + 1 then some ad2 else some (ad2.add ((kx + 1) * 5))) = A2_
    have HN3 := Aside0.mk (HN.out.cut HB3.out HO3.out (fun f hf => by
      rcases List.mem_append.1 hf with y | y
      · rcases List.mem_append.1 y with z | z
        · cases z
        · exact List.mem_of_mem_take z
      · exact List.mem_of_mem_drop y) (by have := HLL.out; simp; omega))
    have HG3 := Aside0.mk (blk_below HG2.out HB3.out)
    have HG13 := Aside0.mk (blk_below HG1.out HB3.out)
    clear HO1 HO2 HO3 HB1 HB2 HC1 HC2 HN HG2 HG1 hc0
    have HN := HN3
    have HG2 := HG3
    have HG1 := HG13
    have hc0 : w3.cell? ⟨G, 0, none⟩ = some (.int .i64 o.kind) := blk_at (i := 0) HG1.out rfl
    clear HN3 HG3 HG13
    have HN9 := Aside0.mk (HN.out.next HLT.out)
    clear HN
    go_wp2
    exact HQ1.out _ _ _ _ _ _ _ _ _ _ _ _ _ _ _ _ _ _ _ _ _ _ _ _ _ _ _ _ _ _ _ _ _ _ _ _ _ _ _ _ _ _ _ _ _ _ _ _ _ _ _ _ _ _ _ _ _ _ _ _ _ _ _ _ _ _ _ _ _ _ _ _ _ _ _ _ _ _ _ _ _ _ _ _ HN9.out
set_option maxRecDepth 100000 in
set_option maxHeartbeats 4000000 in
theorem arm4 {Q : Exit → Act → World → Prop} {w W : World} {ga gr : Nat} {ep h s t wd wt : Int} {n : Nat} {e l : Int} {va vb : Value} {ws gs : List SFr} {x : Nat} (HLK : Aside0 (LK w W ga gr ep h s t wd wt n e l va vb ws gs x)) (HLT : Aside0 (x < 200)) {G : Nat} {o : SLk} (HG : Aside0 (W.heap[G]? = some (.cells #[.int .i64 o.kind, .int .i64 o.at_] 85 (0, 0)))) {u0 u1 u2 u3 u4 u5 u6 u8 u9 u10 u11 u12 u13 u15 u17 u18 u19 u20 u21 u22 u23 u24 u25 u26 u27 u28 u29 u30 u31 u32 u33 u34 u35 u36 u37 u38 u39 u40 u41 u42 u43 u44 u45 u46 u47 u48 u49 u50 u51 u52 u53 u54 u55 u56 u57 u58 u59 u60 u61 u62 u63 u64 u65 u66 u67 u68 u69 u70 u71 u72 u73 u74 u75 u76 u77 u78 u79 u80 u81 u82 u83 u84 u85 u86 u87 u88 u89 u90 u91 u92 u93 u94 u95 u96 u97 u98 u99 u100 u101 u102 u103 u104 u105 u106 u107 u108 u109 u110 u111 u112 u113 u114 u115 u116 u117 u118 u119 u120 u121 u122 u123 u124 u125 u126 u127 u128 u129 u130 u131 u132 u133 u134 u135 u136 u137 u138 u139 u140 u141 u142 u143 u144 u145 u146 u147 u148 u149 u150 u151 u152 u153 u154 u155 u156 u157 u158 u159 u160 u161 u162 u163 u164 u165 u166 u167 u168 u169 u170 u171 u172 u173 u174 u175 u176 u177 u178 u179 u180 u181 u182 u183 u184 u185 u186 u187 u188 u189 u190 u191 u192 u193 u194 u195 u196 u197 u198 u199 u200 u201 u202 u203 u204 u205 u206 u207 u208 u209 u210 u211 u212 u213 u214 u215 u216 u217 u218 u219 u220 u221 u222 u223 u224 u225 u226 u227 u228 u229 u230 u231 u232 u233 u234 u235 u236 u237 u238 u239 u240 u241 u242 u243 u244 u245 u246 u247 u248 u249 u250 u251 u252 u253 u254 u255 u256 u257 u258 u259 u260 u261 u262 u263 u264 u265 u266 u267 u268 u269 u270 u271 u272 u273 u274 u275 u276 u277 u278 u279 u280 u281 u282 u283 u284 u285 u286 u287 u288 u289 u290 u291 u292 u293 u294 u295 u296 u297 u298 u299 u300 u301 u302 u303 u304 u305 u306 u307 u308 u309 u310 u311 u312 u313 u314 u315 u316 u317 u318 u319 u320 u321 u322 u323 u324 u325 u326 u327 u328 u329 u330 u331 u332 u333 u334 u335 u336 u337 u338 u339 u340 u341 u342 u343 : Value} (hQ0 : ∀ (v26 v207 v208 v209 v210 v211 v212 v213 v214 v215 v216 v217 v218 v219 v220 v221 v222 v223 v224 v225 v226 : Value) (W' : World) (h' s' t' : Int) (n' : Nat), h' + n' = h + n → LK w W' ga gr ep h' s' t' wd wt n' e l va vb ws gs (x + 1) → Q .normal (Act.mk #[u0, u1, u2, u3, u4, u5, u6, .pointer (some ⟨ga, 0, none⟩), u8, u9, u10, u11, u12, u13, vb, u15, .pointer (some ⟨G, 0, none⟩), u17, u18, u19, u20, u21, u22, u23, u24, u25, v26, u27, u28, u29, u30, u31, u32, u33, u34, u35, u36, u37, u38, u39, u40, u41, u42, u43, u44, u45, u46, u47, u48, u49, u50, u51, u52, u53, u54, u55, u56, u57, u58, u59, u60, u61, u62, u63, u64, u65, u66, u67, u68, u69, u70, u71, u72, u73, u74, u75, u76, u77, u78, u79, u80, u81, u82, u83, u84, u85, u86, u87, u88, u89, u90, u91, u92, u93, u94, u95, u96, u97, u98, u99, u100, u101, u102, u103, u104, u105, u106, u107, u108, u109, u110, u111, u112, u113, u114, u115, u116, u117, u118, u119, u120, u121, u122, u123, u124, u125, u126, u127, u128, u129, u130, u131, u132, u133, u134, u135, u136, u137, u138, u139, u140, u141, u142, u143, u144, u145, u146, u147, u148, u149, u150, u151, u152, u153, u154, u155, u156, u157, u158, u159, u160, u161, u162, u163, u164, u165, u166, u167, u168, u169, u170, u171, u172, u173, u174, u175, u176, u177, u178, u179, u180, u181, u182, u183, u184, u185, u186, u187, u188, u189, u190, u191, u192, u193, u194, u195, u196, u197, u198, u199, u200, u201, u202, u203, u204, u205, u206, v207, v208, v209, v210, v211, v212, v213, v214, v215, v216, v217, v218, v219, v220, v221, v222, v223, v224, v225, v226, u227, u228, u229, u230, u231, u232, u233, u234, u235, u236, u237, u238, u239, u240, u241, u242, u243, u244, u245, u246, u247, u248, u249, u250, u251, u252, u253, u254, u255, u256, u257, u258, u259, u260, u261, u262, u263, u264, u265, u266, u267, u268, u269, u270, u271, u272, u273, u274, u275, u276, u277, u278, u279, u280, u281, u282, u283, u284, u285, u286, u287, u288, u289, u290, u291, u292, u293, u294, u295, u296, u297, u298, u299, u300, u301, u302, u303, u304, u305, u306, u307, u308, u309, u310, u311, u312, u313, u314, u315, u316, u317, u318, u319, u320, u321, u322, u323, u324, u325, u326, u327, u328, u329, u330, u331, u332, u333, u334, u335, u336, u337, u338, u339, u340, u341, u342, u343] []) W') :
    Code.wp Try.prog (condT (seqR (condF (seqR (condF (seqR (blockB (seqR (seqR (blockB (seqL (seqR (loopB (blockB (seqR (seqL (seqR (seqR (seqR (seqR (seqR (seqR (seqR (seqR (seqR (bodyOf Try.f8)))))))))))))))))))))))))) Q (Act.mk #[u0, u1, u2, u3, u4, u5, u6, .pointer (some ⟨ga, 0, none⟩), u8, u9, u10, u11, u12, u13, vb, u15, .pointer (some ⟨G, 0, none⟩), u17, u18, u19, u20, u21, u22, u23, u24, u25, u26, u27, u28, u29, u30, u31, u32, u33, u34, u35, u36, u37, u38, u39, u40, u41, u42, u43, u44, u45, u46, u47, u48, u49, u50, u51, u52, u53, u54, u55, u56, u57, u58, u59, u60, u61, u62, u63, u64, u65, u66, u67, u68, u69, u70, u71, u72, u73, u74, u75, u76, u77, u78, u79, u80, u81, u82, u83, u84, u85, u86, u87, u88, u89, u90, u91, u92, u93, u94, u95, u96, u97, u98, u99, u100, u101, u102, u103, u104, u105, u106, u107, u108, u109, u110, u111, u112, u113, u114, u115, u116, u117, u118, u119, u120, u121, u122, u123, u124, u125, u126, u127, u128, u129, u130, u131, u132, u133, u134, u135, u136, u137, u138, u139, u140, u141, u142, u143, u144, u145, u146, u147, u148, u149, u150, u151, u152, u153, u154, u155, u156, u157, u158, u159, u160, u161, u162, u163, u164, u165, u166, u167, u168, u169, u170, u171, u172, u173, u174, u175, u176, u177, u178, u179, u180, u181, u182, u183, u184, u185, u186, u187, u188, u189, u190, u191, u192, u193, u194, u195, u196, u197, u198, u199, u200, u201, u202, u203, u204, u205, u206, u207, u208, u209, u210, u211, u212, u213, u214, u215, u216, u217, u218, u219, u220, u221, u222, u223, u224, u225, u226, u227, u228, u229, u230, u231, u232, u233, u234, u235, u236, u237, u238, u239, u240, u241, u242, u243, u244, u245, u246, u247, u248, u249, u250, u251, u252, u253, u254, u255, u256, u257, u258, u259, u260, u261, u262, u263, u264, u265, u266, u267, u268, u269, u270, u271, u272, u273, u274, u275, u276, u277, u278, u279, u280, u281, u282, u283, u284, u285, u286, u287, u288, u289, u290, u291, u292, u293, u294, u295, u296, u297, u298, u299, u300, u301, u302, u303, u304, u305, u306, u307, u308, u309, u310, u311, u312, u313, u314, u315, u316, u317, u318, u319, u320, u321, u322, u323, u324, u325, u326, u327, u328, u329, u330, u331, u332, u333, u334, u335, u336, u337, u338, u339, u340, u341, u342, u343] []) W := by
  have HQ0 := Aside0.mk hQ0
  clear hQ0
  simp only [Path.seqL, Path.seqR, Path.condT, Path.condF, Path.blockB, Path.loopB, Path.bodyOf, Try.f8, Option.getD]
  have hc1 : W.cell? ⟨G, 1, none⟩ = some (.int .i64 o.at_) := blk_at (i := 1) HG.out rfl
  have hw := HLK.out.words
  obtain ⟨Ab, cb, hvb⟩ := Kd.R_slice hw
  subst hvb
  have hC := (Kd.R_reads' hw).2.2
  obtain ⟨L, hL⟩ : ∃ L, gs.length = L := ⟨_, rfl⟩
  have hLb : L ≤ 1000000 := by have := HLK.out.gsl; have := HLK.out.hx; omega
  rw [hL] at hC ⊢
  by_cases c1 : L = 0
  · have HLZ := Aside0.mk (hL.trans c1)
    subst c1
    have HN := Aside0.mk (HLK.out.next HLT.out)
    clear hw hC hL hLb
    go_wp2
    have hz := HQ0.out
    rw [HLZ.out] at hz
    exact hz _ _ _ _ _ _ _ _ _ _ _ _ _ _ _ _ _ _ _ _ _ _ h s t n rfl (by have hy := HN.out; rw [HLZ.out] at hy; exact hy)
  · have d1 : decide ((L : Int) > 0) = true := decide_eq_true (by omega)
    have d2 : ((L : Int) == 0) = false := beq_eq_false_iff_ne.mpr (by omega)
    have d5 : ((0 : Int) < (L : Int)) = True := eq_true (by omega)
    have d6 : (0 < L) = True := eq_true (by omega)
    have d7 : (L = 0) = False := eq_false c1
    obtain ⟨K, hK, hKL⟩ := umod2 o.at_ L ⟨by omega, hLb⟩
    have hU := u64_nat L hLb
    obtain ⟨ad2, hA, q0, q1, q2, q3, q4⟩ := at_Fr hC (K : Int) (by omega) (by omega)
    have hf := HLK.out.gsb _ (rd_mem gs K (by omega))
    generalize rd_Fr gs (K : Int) = f at q0 q1 q2 q3 q4 hf
    have HF := Aside0.mk hf
    have HLL := Aside0.mk hL
    have d3 : ((K : Int) < (L : Int)) = True := eq_true (by omega)
    have d4 : (K < L) = True := eq_true hKL
    subst hA
    rw [Int.toNat_natCast] at q0 q1 q2 q3 q4
    clear hw hC hL hLb c1 hf hKL
    go_upto_region 42 with (fail)
    have HN := Aside0.mk (HLK.out.below (below_alloc (Below.refl _ _) (.cells #[.int .i64 f.kind, .int .i64 f.fl, .int .i64 f.ep, .int .i64 f.n, .string f.s] 72)))
    have HG2 := Aside0.mk (blk_new W (.cells #[.int .i64 f.kind, .int .i64 f.fl, .int .i64 f.ep, .int .i64 f.n, .string f.s] 72))
    clear q0 q1 q2 q3 q4 HLK
    generalize W.alloc _ = wp at HN HG2 ⊢
    generalize W.heap.size = G2 at HG2 ⊢
    have r2 := blk_at (i := 2) HG2.out rfl
    have r3 := blk_at (i := 3) HG2.out rfl
    clear hc1 HG
    go_wp2_with fail
    refine (s_acked f.ep f.n HN.out.S).mono ?_
    rintro e' w5 ⟨rfl, hs, hu⟩
    obtain ⟨h', s', t', n', hn, he⟩ := HN.out.acked HF.out hs hu
    have HN2 := Aside0.mk (hn.next HLT.out)
    have HE := Aside0.mk he
    clear hs hu hn he HN HG2 r2 r3
    go_wp2
    rw [← HLL.out]
    exact HQ0.out _ _ _ _ _ _ _ _ _ _ _ _ _ _ _ _ _ _ _ _ _ _ h' s' t' n' HE.out HN2.out
end Go.Proofs.Ytmpgknemhmoboaa.Arm
