/-
  Texts of the proofs of this seat, part 8. No condition.
-/
import Derived.Test.YteklgabeddpinaaGreatMG
import Derived.Deep.Strs
import Derived.Deep.Slices
set_option linter.unusedVariables false
set_option linter.unusedSimpArgs false
namespace Go.Eng
open Go.Proofs
attribute [local simp] runL stepL evalG evalOp opLV constLV putEnv dstOk upd upds Res.plain Res.cond Res.fail evalBin evalUn seqQ blockQ argsEnv lookL lookH RetIs memless freshL evalPick evalMin bval bok evalLen evalIn strip whenC guardOps guardC slotsOf
  runM foldS stepI stepM maskE wrIn lk renO lookN evalCall evalCallee optAll resLV resObj retLV retObj retsLV retsObj evalLoad evalIndexAddr evalField solid cellsD_agg cellsD_int cellsD_bool cellsD_str cellsD_sl cellsD_ro cellsD_fn cellsL_agg cellsL_dagg cellsL_int cellsL_bool cellsL_str cellsL_sl cellsL_fn cellsL_ow cellsL_bx cellsL_lfn cellsL_nl takeL takeD mkAgg allD eqD eqDs kindsAre kindIs LObj.live TK.isNone TK.agg TK.isBool TK.isStr TK.isStruct Op.operands Call.operands
  evalBuildSlice evalAppend elemsOf evalStore evalBuild fillL lookupF putL evalSlice bound evalConv elemsS freezes frozen loadR
  mkEnv_at mkObs_at close_d close_agg close_ow close_bx close_fn close_nl touch_d touch_agg touch_ow touch_bx touch_fn touch_nl ren_d ren_agg ren_bx ren_rp ren_ow ren_fn ren_nl ren_junk retQ_ret retQ2_ret condQ_bool Nm.d Df.d Ed.d nmsD dfsD strsD edsD retC_ret nm_eq df_eq take_map_len take_map_app
  nm_t nm_d nm_td df_t df_d df_td str_t str_d str_td ed_t ed_d ed_td
  evalAppendIn evalCut evalClear evalCopy evalMake evalWrap evalCap evalNil isNilC lenL isInp gorc
  mapOf findD keyEq keyOk evalMakeMap evalRange zeroD zeroDV argsG shutG outN lenv retG0_ret retG0_normal retG1_ret renO close_mp touch_mp ren_mp optAll_d optAll_d' touch_ds cellsL_mp cellsD_mp cellsL_dmp
  evalMapSet evalPtr TK.isPtr evalToArr firstL retN_ret retsQ rvarL close_bm touch_bm ren_bm cellsD_bm cellsL_bm cellsL_lbm
attribute [local simp] cutQ_normal cutQ_ret cutQ_exit
set_option maxRecDepth 10000
set_option maxHeartbeats 4000000
attribute [local simp] dF1 dF2 dF3 dF4 dF5 prD dP1 dP2
theorem ex_same (a b : Ed) (h : a = b) : Ok Tryz.prog 24 [a.d, b.d] ⟨.d (.bool true), true⟩ := by
  have := Same_ok a b
  rwa [decide_eq_true h] at this
theorem ex_defs (a b : List Df) (h : a = b) : Ok Tryz.prog 40 [dfsD a, dfsD b] ⟨.d (.bool true), true⟩ := by
  have := SameDefs_ok a b
  rwa [decide_eq_true h] at this
theorem ex_texts (a b : List Str) (h : a = b) : Ok Tryz.prog 10 [strsD a, strsD b] ⟨.d (.bool true), true⟩ := by
  have := SameTexts_ok a b
  rwa [decide_eq_true h] at this
theorem lives3_ok  : Ok Tryz.prog 16 [] ⟨.d (.bool true), true⟩ := by
  refine Ok.ret Tryz.func16 (by kernel_rfl) (c := _) rfl Tryz.ntmps16 (by simp) Tryz.results16 (by intro _ h; cases h) fun w0 X hp => ?_
  have k1 := PApart_ok exL3 ⟨0, 1⟩ ⟨1, 0⟩ exL3_small
  have k2 := PApart_ok exL3 ⟨1, 0⟩ ⟨1, 1⟩ exL3_small
  have k3 := PApart_ok exL3 ⟨0, 1⟩ ⟨1, 1⟩ exL3_small
  have k4 := PRevert_ok exB3 exL3 [⟨0, 1⟩, ⟨1, 0⟩] ⟨1, 0⟩ ⟨2, 0⟩ exL3_small (by decide) (by decide) (by decide)
  have k5 := PRevert_ok exB3 exL3 [⟨0, 1⟩, ⟨1, 0⟩] ⟨0, 1⟩ ⟨2, 0⟩ exL3_small (by decide) (by decide) (by decide)
  have k6 := PResolve_ok exL3 ⟨0, 1⟩ ⟨1, 1⟩ [y5] [] ⟨2, 0⟩ exL3_small (by decide) (by decide)
  have k7 := PSquash_ok exB3 exL3 [⟨0, 1⟩, ⟨1, 0⟩] ⟨2, 0⟩ exL3_small (by decide) (by decide) (by decide) (by decide) (by decide)
  have k8 := PSplit_ok ⟨⟨2, 0⟩, [], [a2], [[98]]⟩ [[97]] ⟨2, 1⟩ ⟨2, 2⟩ (by unfold Ed.small; decide) (by decide)
  have k9 := PPick_ok exL3 ⟨1, 1⟩ [⟨0, 1⟩] ⟨2, 0⟩ exL3_small (by decide) (by decide)
  have k10 := ex_same ⟨⟨2, 0⟩, [⟨1, 0⟩], [b0], []⟩ ⟨⟨2, 0⟩, [⟨1, 0⟩], [b0], []⟩ rfl
  have k11 := ex_same ⟨⟨2, 0⟩, [⟨0, 1⟩, ⟨1, 1⟩], [y5], []⟩ ⟨⟨2, 0⟩, [⟨0, 1⟩, ⟨1, 1⟩], [y5], []⟩ rfl
  have k12 := ex_same ⟨⟨2, 0⟩, [], [a2], [[98]]⟩ ⟨⟨2, 0⟩, [], [a2], [[98]]⟩ rfl
  have k13 := ex_defs [a2] [a2] rfl
  have k14 := ex_texts [[98]] [[98]] rfl
  have k15 := ex_same ⟨⟨2, 0⟩, [⟨0, 1⟩], [a3], []⟩ ⟨⟨2, 0⟩, [⟨0, 1⟩], [a3], []⟩ rfl
  rw [ex3_apart1] at k1
  rw [ex3_apart2] at k2
  rw [ex3_apart3] at k3
  rw [ex3_rev1] at k4
  rw [ex3_rev2] at k5
  rw [ex3_res] at k6
  rw [ex3_squash] at k7
  rw [ex3_split] at k8
  rw [ex3_pick] at k9
  refine LWp.seq ?_
  refine LWp.reg hT hW (fun _ => none) (fun _ => ⟨rfl, fun _ h => h⟩) ?_
  simp
  refine LWp.seq ?_
  refine LWp.reg hT hW (fun | 28 => some <| .plain ⟨.tup [.d (.sl (exB3.map Df.d)), .d (edsD exL3)], false⟩ | _ => none) (by intro d; first | exact ⟨rfl, fun _ h => h⟩ | (split <;> exact ⟨rfl, fun _ h => h⟩)) ?_
  simp [evalExtract]
  refine ⟨example3_ok, ?_⟩
  have hL : exL3 = [⟨⟨0, 1⟩, [], [a2], []⟩, ⟨⟨1, 0⟩, [⟨0, 1⟩], [], [[98]]⟩, ⟨⟨1, 1⟩, [], [a3], []⟩] := rfl
  have hB : exB3 = [⟨[97], [118, 97, 114, 32, 97, 32, 61, 32, 49, 59]⟩, b0] := rfl
  rw [hL, hB] at k4 k5 k7 ⊢
  rw [hL] at k1 k2 k3 k6 k9
  refine LWp.seq ?_
  refine LWp.reg hT hW (fun _ => none) (fun _ => ⟨rfl, fun _ h => h⟩) ?_
  simp
  refine LWp.seq ?_
  refine LWp.reg hT hW (fun _ => none) (fun _ => ⟨rfl, fun _ h => h⟩) ?_
  simp
  refine LWp.seq ?_
  refine LWp.reg hT hW (fun _ => none) (fun _ => ⟨rfl, fun _ h => h⟩) ?_
  simp
  refine LWp.seq ?_
  refine LWp.reg hT hW (fun _ => none) (fun _ => ⟨rfl, fun _ h => h⟩) ?_
  simp
  refine LWp.seq ?_
  refine LWp.reg hT hW (fun | 48 => some <| .plain ⟨.tup [.d (.bool false), .d (I64 0)], true⟩ | _ => none) (by intro d; first | exact ⟨rfl, fun _ h => h⟩ | (split <;> exact ⟨rfl, fun _ h => h⟩)) ?_
  simp [evalExtract]
  refine ⟨by simpa using k1, ?_⟩
  refine LWp.seq ?_
  refine LWp.reg hT hW (fun | 55 => some <| .plain ⟨.tup [.d (.bool true), .d (I64 0)], true⟩ | _ => none) (by intro d; first | exact ⟨rfl, fun _ h => h⟩ | (split <;> exact ⟨rfl, fun _ h => h⟩)) ?_
  simp [evalExtract]
  refine ⟨by simpa using k2, ?_⟩
  refine LWp.seq ?_
  refine LWp.reg hT hW (fun | 62 => some <| .plain ⟨.tup [.d (.bool false), .d (I64 0)], true⟩ | _ => none) (by intro d; first | exact ⟨rfl, fun _ h => h⟩ | (split <;> exact ⟨rfl, fun _ h => h⟩)) ?_
  simp [evalExtract]
  refine ⟨by simpa using k3, ?_⟩
  refine LWp.seq ?_
  refine LWp.seq ?_
  refine LWp.reg hT hW (fun _ => none) (fun _ => ⟨rfl, fun _ h => h⟩) ?_
  simp
  refine LWp.iff ?_
  simp
  refine LWp.skip ?_
  simp
  refine LWp.seq ?_
  refine LWp.reg hT hW (fun | 93 => some <| .plain ⟨.tup [.d (Ed.d ⟨⟨2, 0⟩, [⟨1, 0⟩], [b0], []⟩), .d (I64 0)], false⟩ | _ => none) (by intro d; first | exact ⟨rfl, fun _ h => h⟩ | (split <;> exact ⟨rfl, fun _ h => h⟩)) ?_
  simp [evalExtract]
  refine ⟨⟨by decide, by simpa using k4⟩, ?_⟩
  refine LWp.seq ?_
  refine LWp.reg hT hW (fun | 104 => some <| .plain ⟨.tup [.d (default : Ed).d, .d (I64 10)], false⟩ | _ => none) (by intro d; first | exact ⟨rfl, fun _ h => h⟩ | (split <;> exact ⟨rfl, fun _ h => h⟩)) ?_
  simp [evalExtract]
  refine ⟨⟨by decide, by simpa using k5⟩, ?_⟩
  refine LWp.seq ?_
  refine LWp.reg hT hW (fun _ => none) (fun _ => ⟨rfl, fun _ h => h⟩) ?_
  simp
  refine LWp.seq ?_
  refine LWp.reg hT hW (fun | 115 => some <| .plain ⟨.tup [.d (Ed.d ⟨⟨2, 0⟩, [⟨0, 1⟩, ⟨1, 1⟩], [y5], []⟩), .d (I64 0)], false⟩ | _ => none) (by intro d; first | exact ⟨rfl, fun _ h => h⟩ | (split <;> exact ⟨rfl, fun _ h => h⟩)) ?_
  simp [evalExtract]
  refine ⟨by simpa [y5] using k6, ?_⟩
  refine LWp.seq ?_
  refine LWp.reg hT hW (fun | 125 => some <| .plain ⟨.tup [.d (Ed.d ⟨⟨2, 0⟩, [], [a2], [[98]]⟩), .d (I64 0)], false⟩ | _ => none) (by intro d; first | exact ⟨rfl, fun _ h => h⟩ | (split <;> exact ⟨rfl, fun _ h => h⟩)) ?_
  simp [evalExtract]
  refine ⟨⟨by decide, by simpa using k7⟩, ?_⟩
  refine LWp.seq ?_
  refine LWp.seq ?_
  refine LWp.reg hT hW (fun _ => none) (fun _ => ⟨rfl, fun _ h => h⟩) ?_
  simp
  refine LWp.iff ?_
  simp
  refine LWp.skip ?_
  simp
  refine LWp.seq ?_
  refine LWp.seq ?_
  refine LWp.regAny hT hW hMixed (lk [[],[],[],[2],[],[4],[1,2,3,4,5],[0,1,2,3,4,5,6],[0,1,2,3,4,5,6,7],[0,1,2,3,4,5,6,7,8],[0,1,2,3,4,5,6,7,8,9],[0,1,2,3,4,5,6,7,8,9],[0,1,2,3,4,5,6,7,8,9],[0,1,2,3,4,5,6,7,8,9],[0,1,2,3,4,5,6,7,8,9,12,13],[0,1,2,3,4,5,6,7,8,9],[0,1,2,3,4,5,6,7,8,9,15],[0,1,2,3,4,5,6,7,8,9,11,12,13,14,15,16],[0,1,2,3,4,5,6,7,8,9,10,11,12,13,14,15,16,17],[0,1,2,3,4,5,6,7,8,9,10,11,12,13,14,15,16,17,18],[0,1,2,3,4,5,6,7,8,9,10,11,12,13,14,15,16,17,18,19],[0,1,2,3,4,5,6,7,8,9,10,11,12,13,14,15,16,17,18,19,20],[0,1,2,3,4,5,6,7,8,9,10,11,12,13,14,15,16,17,18,19,20,21],[0,1,2,3,4,5,6,7,8,9,10,11,12,13,14,15,16,17,18,19,20,21],[0,1,2,3,4,5,6,7,8,9,10,11,12,13,14,15,16,17,18,19,20,21],[0,1,2,3,4,5,6,7,8,9,10,11,12,13,14,15,16,17,18,19,20,21,24],[0,1,2,3,4,5,6,7,8,9,10,11,12,13,14,15,16,17,18,19,20,21,24,25],[0,1,2,3,4,5,6,7,8,9,10,11,12,13,14,15,16,17,18,19,20,21,24,25,26],[0,1,2,3,4,5,6,7,8,9,10,11,12,13,14,15,16,17,18,19,20,21],[0,1,2,3,4,5,6,7,8,9,10,11,12,13,14,15,16,17,18,19,20,21,23,24,25,26,27,28],[0,1,2,3,4,5,6,7,8,9,10,11,12,13,14,15,16,17,18,19,20,21,22,23,24,25,26,27,28,29],[0,1,2,3,4,5,6,7,8,9,10,11,12,13,14,15,16,17,18,19,20,21,22,23,24,25,26,27,28,29,30],[0,1,2,3,4,5,6,7,8,9,10,11,12,13,14,15,16,17,18,19,20,21,22,23,24,25,26,27,28,29,30,31]]) (lk [[145],[145],[],[],[145],[145],[],[],[],[],[156,158],[156,158],[158],[158],[158],[156],[156],[],[],[],[],[],[170],[170],[170],[170],[170],[170],[],[],[],[],[]]) (lk [[],[],[],[145],[],[],[],[149],[],[],[],[],[],[],[156],[],[158],[],[160],[],[],[],[],[],[],[],[],[],[170],[],[172],[],[]]) (by kernel_rfl) (fun | 149 => some <| .plain ⟨.d (.bool true), true⟩ | 160 => some <| .plain ⟨.d (.bool true), true⟩ | 172 => some <| .plain ⟨.d (.bool true), true⟩ | _ => none) (by intro d; first | exact ⟨rfl, fun _ h => h⟩ | (split <;> exact ⟨rfl, fun _ h => h⟩)) ?_
  simp
  refine ⟨⟨⟨⟨by simpa using k10, rfl⟩, by simpa [y5] using k11⟩, by simpa using k12⟩, ?_⟩
  refine LWp.iff ?_
  simp
  refine LWp.skip ?_
  simp
  refine LWp.seq ?_
  refine LWp.reg hT hW (fun | 181 => some <| .plain ⟨.tup [.d (edsP (⟨⟨2, 1⟩, [], [a2], []⟩, ⟨⟨2, 2⟩, [], [], [[98]]⟩)), .d (I64 0)], false⟩ | _ => none) (by intro d; first | exact ⟨rfl, fun _ h => h⟩ | (split <;> exact ⟨rfl, fun _ h => h⟩)) ?_
  simp [evalExtract, edsP]
  refine ⟨by simpa [edsP] using k8, ?_⟩
  refine LWp.seq ?_
  refine LWp.reg hT hW (fun | 190 => some <| .plain ⟨.tup [.d (Ed.d ⟨⟨2, 0⟩, [⟨0, 1⟩], [a3], []⟩), .d (I64 0)], false⟩ | _ => none) (by intro d; first | exact ⟨rfl, fun _ h => h⟩ | (split <;> exact ⟨rfl, fun _ h => h⟩)) ?_
  simp [evalExtract]
  refine ⟨by simpa using k9, ?_⟩
  refine LWp.seq ?_
  refine LWp.regAny hT hW hMixed (lk [[],[0],[0,1],[],[3],[3,4],[3,4,5],[0,1,2,3,4,5,6],[0,1,2,3,4,5,6,7],[0,1,2,3,4,5,6,7,8],[0,1,2,3,4,5,6,7,8,9],[0,1,2,3,4,5,6,7,8,9,10],[0,1,2,3,4,5,6,7,8,9,10,11],[0,1,2,3,4,5,6,7,8],[0,1,2,3,4,5,6,7,8,13],[0,1,2,3,4,5,6,7,8,13,14],[0,1,2,3,4,5,6,7,8,13,14,15],[0,1,2,3,4,5,6,7,8,9,10,11,12,13,14,15,16],[0,1,2,3,4,5,6,7,8,9,10,11,12,13,14,15,16,17],[0,1,2,3,4,5,6,7,8,9,10,11,12,13,14,15,16,17,18],[0,1,2,3,4,5,6,7,8,9,10,11,12,13,14,15,16,17,18,19],[0,1,2,3,4,5,6,7,8,9,10,11,12,13,14,15,16,17,18,19,20],[0,1,2,3,4,5,6,7,8,9,10,11,12,13,14,15,16,17,18,19,20,21],[0,1,2,3,4,5,6,7,8,9,10,11,12,13,14,15,16,17,18,19,20,21,22],[0,1,2,3,4,5,6,7,8,9,10,11,12,13,14,15,16,17,18,19,20],[0,1,2,3,4,5,6,7,8,9,10,11,12,13,14,15,16,17,18,19,20,21,22,23,24],[0,1,2,3,4,5,6,7,8,9,10,11,12,13,14,15,16,17,18,19,20,21,22,23,24,25],[0,1,2,3,4,5,6,7,8,9,10,11,12,13,14,15,16,17,18,19,20,21,22,23,24,25,26]]) (lk [[],[],[],[],[],[],[],[],[],[],[],[],[],[],[],[],[],[],[],[],[],[217],[217],[217],[],[],[],[]]) (lk [[],[],[],[],[],[],[],[200],[],[],[],[],[],[],[],[],[],[],[],[],[],[],[],[],[217],[218],[],[]]) (by kernel_rfl) (fun | 200 => some <| .plain ⟨.d (.bool true), true⟩ | 218 => some <| .plain ⟨.d (.bool true), true⟩ | _ => none) (by intro d; first | exact ⟨rfl, fun _ h => h⟩ | (split <;> exact ⟨rfl, fun _ h => h⟩)) ?_
  simp
  refine ⟨⟨by simpa using k13, by simpa using k14⟩, ?_⟩
  refine LWp.seq ?_
  refine LWp.regAny hT hW hMixed (lk [[],[0],[0,1],[0,1,2],[0,1,2,3],[0,1,2,3,4],[0,1,2,3,4,5],[0,1,2,3,4,5,6],[0,1,2,3,4,5,6,7],[0,1,2,3,4,5,6,7,8],[0,1,2,3,4,5,6,7,8,9],[0,1,2,3,4,5,6,7,8,9],[0,1,2,3,4,5,6,7,8,9],[0,1,2,3,4,5,6,7,8,9,12],[0,1,2,3,4,5,6,7,8,9],[0,1,2,3,4,5,6,7,8,9,14],[0,1,2,3,4,5,6,7,8,9,14,15],[0,1,2,3,4,5,6,7,8,9,14,15,16],[0,1,2,3,4,5,6,7,8,9,11,12,13,14,15,16,17],[0,1,2,3,4,5,6,7,8,9,10,11,12,13,14,15,16,17,18],[0,1,2,3,4,5,6,7,8,9,10,11,12,13,14,15,16,17,18,19],[0,1,2,3,4,5,6,7,8,9,10,11,12,13,14,15,16,17,18,19,20]]) (lk [[],[],[],[],[],[],[],[],[],[],[233],[233],[],[],[233],[233],[233],[233],[],[],[],[]]) (lk [[],[],[],[],[],[],[],[],[],[],[],[],[],[233],[],[],[],[],[],[239],[],[]]) (by kernel_rfl) (fun | 239 => some <| .plain ⟨.d (.bool true), true⟩ | _ => none) (by intro d; first | exact ⟨rfl, fun _ h => h⟩ | (split <;> exact ⟨rfl, fun _ h => h⟩)) ?_
  simp
  refine ⟨by simpa using k15, ?_⟩
  refine LWp.ret ?_
  simp
end Go.Eng
namespace Go.Eng
open Go.Proofs
attribute [local simp] runL stepL evalG evalOp opLV constLV putEnv dstOk upd upds Res.plain Res.cond Res.fail evalBin evalUn seqQ blockQ argsEnv lookL lookH RetIs memless freshL evalPick evalMin bval bok evalLen evalIn strip whenC guardOps guardC slotsOf
  runM foldS stepI stepM maskE wrIn lk renO lookN evalCall evalCallee optAll resLV resObj retLV retObj retsLV retsObj evalLoad evalIndexAddr evalField solid cellsD_agg cellsD_int cellsD_bool cellsD_str cellsD_sl cellsD_ro cellsD_fn cellsL_agg cellsL_dagg cellsL_int cellsL_bool cellsL_str cellsL_sl cellsL_fn cellsL_ow cellsL_bx cellsL_lfn cellsL_nl takeL takeD mkAgg allD eqD eqDs kindsAre kindIs LObj.live TK.isNone TK.agg TK.isBool TK.isStr TK.isStruct Op.operands Call.operands
  evalBuildSlice evalAppend elemsOf evalStore evalBuild fillL lookupF putL evalSlice bound evalConv elemsS freezes frozen loadR
  mkEnv_at mkObs_at close_d close_agg close_ow close_bx close_fn close_nl touch_d touch_agg touch_ow touch_bx touch_fn touch_nl ren_d ren_agg ren_bx ren_rp ren_ow ren_fn ren_nl ren_junk retQ_ret retQ2_ret condQ_bool Nm.d Df.d Ed.d nmsD dfsD strsD edsD retC_ret nm_eq df_eq take_map_len take_map_app
  nm_t nm_d nm_td df_t df_d df_td str_t str_d str_td ed_t ed_d ed_td
  evalAppendIn evalCut evalClear evalCopy evalMake evalWrap evalCap evalNil isNilC lenL isInp gorc
  mapOf findD keyEq keyOk evalMakeMap evalRange zeroD zeroDV argsG shutG outN lenv retG0_ret retG0_normal retG1_ret renO close_mp touch_mp ren_mp optAll_d optAll_d' touch_ds cellsL_mp cellsD_mp cellsL_dmp
  evalMapSet evalPtr TK.isPtr evalToArr firstL retN_ret retsQ rvarL close_bm touch_bm ren_bm cellsD_bm cellsL_bm cellsL_lbm
attribute [local simp] cutQ_normal cutQ_ret cutQ_exit
set_option maxRecDepth 10000
set_option maxHeartbeats 2000000
open Go.Proofs
set_option maxRecDepth 10000
set_option maxHeartbeats 2000000
attribute [local simp] dF1 dF2 dF3 dF4 dF5 prD
theorem edAt_sm3 {l : List Ed} (hs : small l) (n : Nm) : (edAt l n).small := by
  by_cases h : 0 ≤ findI l n
  · obtain ⟨i, hi, _, e⟩ := edAt_of h
    rw [e]; exact hs _ (List.getElem_mem hi)
  · rw [edAt_none (by omega)]; exact ⟨by decide, by decide⟩
theorem RApart_ok (l : List Ed) (a b : Nm) (hs : small l) (hn : (allNeeds l).length ≤ 1000) : Ok Tryz.prog 15 [edsD l, a.d, b.d] ⟨.tup [.d (.bool (apartV l a b).1), .d (I64 (apartV l a b).2)], true⟩ := by
  refine Ok.two Tryz.func15 (by kernel_rfl) (c := _) rfl Tryz.ntmps15 (by simp) Tryz.results15 rfl fun w0 X hp => ?_
  refine LWp.seq ?_
  refine LWp.reg hT hW (fun _ => none) (fun _ => ⟨rfl, fun _ h => h⟩) ?_
  simp
  refine LWp.seq ?_
  refine LWp.reg hT hW (fun | 16 => some <| .plain ⟨.tup [.d (I64 (validV l).1), .d (I64 (validV l).2)], true⟩ | _ => none) (by intro d; first | exact ⟨rfl, fun _ h => h⟩ | (split <;> exact ⟨rfl, fun _ h => h⟩)) ?_
  simp [evalExtract]
  refine ⟨Valid_ok l hs (by omega), ?_⟩
  refine LWp.seq ?_
  refine LWp.seq ?_
  refine LWp.reg hT hW (fun _ => none) (fun _ => ⟨rfl, fun _ h => h⟩) ?_
  simp
  refine LWp.iff ?_
  simp
  refine ⟨fun h2 => ?_, fun h2 => ?_⟩
  · refine LWp.seq ?_
    refine LWp.reg hT hW (fun _ => none) (fun _ => ⟨rfl, fun _ h => h⟩) ?_
    simp
    refine LWp.ret ?_
    simp [apartV, h2]
  · refine LWp.skip ?_
    simp
    refine LWp.seq ?_
    refine LWp.reg hT hW (fun | 25 => some <| .plain ⟨.tup [.d (edAt l a).d, .d (.bool (decide (0 ≤ findI l a)))], false⟩ | _ => none) (by intro d; first | exact ⟨rfl, fun _ h => h⟩ | (split <;> exact ⟨rfl, fun _ h => h⟩)) ?_
    simp [evalExtract]
    refine ⟨by simpa using Of_ok l a, ?_⟩
    refine LWp.seq ?_
    refine LWp.reg hT hW (fun | 31 => some <| .plain ⟨.tup [.d (edAt l b).d, .d (.bool (decide (0 ≤ findI l b)))], false⟩ | _ => none) (by intro d; first | exact ⟨rfl, fun _ h => h⟩ | (split <;> exact ⟨rfl, fun _ h => h⟩)) ?_
    simp [evalExtract]
    refine ⟨by simpa using Of_ok l b, ?_⟩
    refine LWp.seq ?_
    refine LWp.seq ?_
    refine LWp.reg hT hW (fun _ => none) (fun _ => ⟨rfl, fun _ h => h⟩) ?_
    simp
    refine LWp.iff ?_
    simp
    refine ⟨fun h6 => ?_, fun h6 g6 => ?_⟩
    · refine LWp.seq ?_
      refine LWp.reg hT hW (fun _ => none) (fun _ => ⟨rfl, fun _ h => h⟩) ?_
      simp
      refine LWp.ret ?_
      have e : apartV l a b = (false, 6) := by unfold apartV; rw [if_neg (by simpa using h2), if_pos (by omega)]
      simp [e]
    · refine LWp.skip ?_
      simp
      refine LWp.seq ?_
      have xa := edAt_sm3 hs a
      have xb := edAt_sm3 hs b
      have hco := Common_ok (edAt l a) (edAt l b) xa xb
      have hcm : (commonL (edAt l a) (edAt l b) = []) ↔ meetB (edAt l a) (edAt l b) = false := commonL_nil
      have hap : apartV l a b = (decide (a ≠ b) && !meetB (edAt l a) (edAt l b) && !decide (a ∈ aboveL l b) && !decide (b ∈ aboveL l a), 0) := by
        unfold apartV
        rw [if_neg (by simpa using h2), if_neg (by omega)]
      obtain ⟨M, hM⟩ : ∃ M, M = commonL (edAt l a) (edAt l b) := ⟨_, rfl⟩
      rw [← hM] at hco hcm
      refine LWp.reg hT hW (fun | 46 => some <| .plain ⟨.d (strsD M), true⟩ | 54 => some <| .plain ⟨.d (.bool (decide (a ∈ aboveL l b))), true⟩ | 61 => some <| .plain ⟨.d (.bool (decide (b ∈ aboveL l a))), true⟩ | _ => none) (by intro d; first | exact ⟨rfl, fun _ h => h⟩ | (split <;> exact ⟨rfl, fun _ h => h⟩)) ?_
      simp
      refine ⟨⟨⟨by intros; simpa using hco, by intros; exact Before_ok l a b (by omega)⟩, by intros; exact Before_ok l b a (by omega)⟩, ?_⟩
      refine LWp.ret ?_
      simp
      have e : decide (M = []) = !meetB (edAt l a) (edAt l b) := by rw [Bool.eq_iff_iff]; simp [hcm]
      rw [hap, e]
      simp
theorem lists3_ok (l : List Int) (how b : Int) (hr : ∀ n ∈ l, -9223372036854775808 ≤ n ∧ n ≤ 9223372036854775807) (h1 : -9223372036854775808 ≤ b) (h2 : b ≤ 9223372036854775807) (h3 : -9223372036854775808 ≤ how) (h4 : how ≤ 9223372036854775807) : OkR Tryz.prog 9 [.sl (l.map I64), I64 how, I64 b] (fun r => (fun v => ∃ L1 L2 : List Ed, SpB (madeL l) L1 ∧ SpB L1 L2 ∧ v = .d (.sl [edsD (madeL l), edsD L1, edsD L2, .sl []])) r.v ∧ r.fresh = false) := by
  refine OkR.ret (Rel := fun v => ∃ L1 L2 : List Ed, SpB (madeL l) L1 ∧ SpB L1 L2 ∧ v = .d (.sl [edsD (madeL l), edsD L1, edsD L2, .sl []])) Tryz.func9 (by kernel_rfl) (c := _) rfl Tryz.ntmps9 (by simp) Tryz.results9 fun w0 X hp => ?_
  refine LWp.seq ?_
  refine LWp.reg hT hW (fun _ => none) (fun _ => ⟨rfl, fun _ h => h⟩) ?_
  simp
  refine LWp.seq ?_
  have hal := madeL_len l
  have han := made_needs l
  have has := made_small l
  have hok := Made_ok l hr
  obtain ⟨a, haa⟩ : ∃ a, a = madeL l := ⟨_, rfl⟩
  rw [← haa] at hal han has hok
  refine LWp.reg hT hW (fun | 10 => some <| .plain ⟨.d (edsD a), false⟩ | _ => none) (by intro d; first | exact ⟨rfl, fun _ h => h⟩ | (split <;> exact ⟨rfl, fun _ h => h⟩)) ?_
  simp
  refine ⟨hok, ?_⟩
  refine LWp.seq ?_
  refine LWp.regRel hT hW 14 (fun r => (∃ L : List Ed, SpB a L ∧ r.v = .d (edsD L)) ∧ r.fresh = false) false ⟨.d (edsD a), false⟩ ⟨⟨⟨a, SpB.refl a, rfl⟩, rfl⟩, rfl⟩ (fun | 99 => none | _ => none) (by intro d; first | exact ⟨rfl, fun _ h => h⟩ | (split <;> exact ⟨rfl, fun _ h => h⟩)) (by kernel_rfl) fun r2 hr2 => ?_
  obtain ⟨v2, f2⟩ := r2
  obtain ⟨⟨L1, hL1, hv⟩, hf⟩ := hr2
  dsimp only at hv hf
  subst hv; subst hf
  obtain ⟨b1, b2, b3, b4⟩ : L1.length ≤ 73 ∧ (allNeeds L1).length ≤ 37 ∧ small L1 ∧ True := by
    have q := hL1.parts 4 fun e he => (made_mem (l := l) (haa ▸ he)).2
    exact ⟨by have := hL1.len; omega, by have := hL1.needs; omega, fun e he => by have := q e he; omega, trivial⟩
  simp
  refine ⟨Spoilt_ok a how b (by omega) has (by omega) h1 h2 h3 h4, ?_⟩
  refine LWp.seq ?_
  refine LWp.regRel hT hW 20 (fun r => (∃ L : List Ed, SpB L1 L ∧ r.v = .d (edsD L)) ∧ r.fresh = false) false ⟨.d (edsD L1), false⟩ ⟨⟨⟨L1, SpB.refl L1, rfl⟩, rfl⟩, rfl⟩ (fun | 99 => none | _ => none) (by intro d; first | exact ⟨rfl, fun _ h => h⟩ | (split <;> exact ⟨rfl, fun _ h => h⟩)) (by kernel_rfl) fun r3 hr3 => ?_
  obtain ⟨v3, f3⟩ := r3
  obtain ⟨⟨L2, hL2, hv⟩, hf⟩ := hr3
  dsimp only at hv hf
  subst hv; subst hf
  simp
  refine ⟨⟨Spoilt_ok L1 b how (by omega) b3 (by omega) h3 h4 h1 h2, by decide⟩, ?_⟩
  refine LWp.ret ?_
  refine retR_ret.2 ⟨_, ⟨L1, haa ▸ hL1, L2, hL2, rfl⟩, by simp, ?_⟩
  simp [haa]
def four3 (a L1 L2 : List Ed) : List (List Ed) := [a, L1, L2, []]
theorem four_ok {l : List Int} {L1 L2 : List Ed} (h1 : SpB (madeL l) L1) (h2 : SpB L1 L2) {x : List Ed} (hx : x ∈ four3 (madeL l) L1 L2) : small x ∧ (allNeeds x).length ≤ 1000 ∧ x.length ≤ 1000 := by
  have q := lists_b h1 h2
  simp only [four3, List.mem_cons, List.not_mem_nil, or_false] at hx
  rcases hx with rfl | rfl | rfl | rfl
  · exact ⟨made_small l, by have := made_needs l; omega, by have := madeL_len l; omega⟩
  · exact ⟨fun e he => by have := q.part1 e he; omega, by have := q.need1; omega, by have := q.len1; omega⟩
  · exact ⟨fun e he => by have := q.part2 e he; omega, by have := q.need2; omega, by have := q.len2; omega⟩
  · exact ⟨fun e he => (by cases he), by simp [allNeeds], by simp⟩
theorem PatchTouches_ok (l : List Int) (how b n m : Int) (x : Ed) (hx : x.small) (hr : ∀ n ∈ l, -9223372036854775808 ≤ n ∧ n ≤ 9223372036854775807) (q1 : -9223372036854775808 ≤ how ∧ how ≤ 9223372036854775807) (q2 : -9223372036854775808 ≤ b ∧ b ≤ 9223372036854775807) (q3 : -9223372036854775808 ≤ n ∧ n ≤ 9223372036854775807) (q4 : -9223372036854775808 ≤ m ∧ m ≤ 9223372036854775807) : Ok Tryz.prog 3 [.sl (l.map I64), I64 how, I64 b, I64 n, I64 m, x.d] ⟨.d (.bool true), true⟩ := by
  refine Ok.ret Tryz.func3 (by kernel_rfl) (c := _) rfl Tryz.ntmps3 (by simp) Tryz.results3 (by intro _ h; cases h) fun w0 X hp => ?_
  refine LWp.seq ?_
  refine LWp.reg hT hW (fun _ => none) (fun _ => ⟨rfl, fun _ h => h⟩) ?_
  simp
  refine LWp.seq ?_
  refine LWp.regRel hT hW 25 (fun r => (∃ L1 L2 : List Ed, SpB (madeL l) L1 ∧ SpB L1 L2 ∧ r.v = .d (.sl [edsD (madeL l), edsD L1, edsD L2, .sl []])) ∧ r.fresh = false) false ⟨.d (.sl [edsD (madeL l), edsD (madeL l), edsD (madeL l), .sl []]), false⟩ ⟨⟨⟨madeL l, madeL l, SpB.refl _, SpB.refl _, rfl⟩, rfl⟩, rfl⟩ (fun | 99 => none | _ => none) (by intro d; first | exact ⟨rfl, fun _ h => h⟩ | (split <;> exact ⟨rfl, fun _ h => h⟩)) (by kernel_rfl) fun r1 hr1 => ?_
  obtain ⟨v1, f1⟩ := r1
  obtain ⟨⟨L1, L2, hL1, hL2, hv⟩, hf⟩ := hr1
  dsimp only at hv hf
  obtain ⟨A, hA⟩ : ∃ A, A = four3 (madeL l) L1 L2 := ⟨_, rfl⟩
  have hA4 : A.length = 4 := by rw [hA]; rfl
  have hok : ∀ x ∈ A, small x ∧ (allNeeds x).length ≤ 1000 ∧ x.length ≤ 1000 := fun x hx => four_ok hL1 hL2 (hA ▸ hx)
  have hAd : [edsD (madeL l), edsD L1, edsD L2, .sl []] = A.map edsD := by rw [hA]; rfl
  have hlo := lists3_ok l how b hr q2.1 q2.2 q1.1 q1.2
  rw [hAd] at hv
  subst hv; subst hf
  simp
  refine ⟨by simpa using hlo, ?_⟩
  refine LWp.seq ?_
  refine LWp.seq ?_
  refine LWp.reg hT hW (fun _ => none) (fun _ => ⟨rfl, fun _ h => h⟩) ?_
  simp
  refine LWp.block ?_
  refine LWp.loopW (ι := Nat) (fun i => mkEnv [(3, .d (I64 n)), (4, .d (I64 m)), (11, .bx 11 0), (13, .d (.sl (A.map edsD))), (14, .d (I64 i))]) (fun i => mkObs [(11, .box false ((cellsD x.d).map .d))]) (fun i => i ≤ A.length) (fun i => A.length - i) 0 (Weak.to [3, 4, 11, 13, 14] [(11, 11)] (by decide) (by decide) (by simp [hp]) (by simp) (by simp)) (by simp) fun i hi3 => ?_
  refine LWp.seq ?_
  refine LWp.seq ?_
  refine LWp.reg hT hW (fun _ => none) (fun _ => ⟨rfl, fun _ h => h⟩) ?_
  simp
  refine LWp.iff ?_
  simp
  refine ⟨fun h3 => ?_, fun h3 => ?_⟩
  · refine LWp.skip ?_
    simp
    refine LWp.seq ?_
    refine LWp.block ?_
    refine LWp.seq ?_
    refine LWp.seq ?_
    refine LWp.reg hT hW (fun _ => none) (fun _ => ⟨rfl, fun _ h => h⟩) ?_
    simp
    refine LWp.block ?_
    refine LWp.loopW (ι := Nat) (fun k => mkEnv [(3, .d (I64 n)), (4, .d (I64 m)), (11, .bx 11 0), (13, .d (.sl (A.map edsD))), (14, .d (I64 i)), (15, .d (I64 k))]) (fun k => mkObs [(11, .box false ((cellsD x.d).map .d))]) (fun k => k ≤ A[i].length) (fun k => A[i].length - k) 0 (Weak.to [3, 4, 11, 13, 14, 15] [(11, 11)] (by decide) (by decide) (by simp [hp]) (by simp) (by simp)) (by simp) fun k hi6 => ?_
    refine LWp.seq ?_
    refine LWp.seq ?_
    have hxo := hok _ (List.getElem_mem h3)
    refine LWp.reg hT hW (fun _ => none) (fun _ => ⟨rfl, fun _ h => h⟩) ?_
    simp [h3]
    refine LWp.iff ?_
    simp
    refine ⟨fun h6 => ?_, fun h6 => ?_⟩
    · refine LWp.skip ?_
      simp
      refine LWp.seq ?_
      refine LWp.block ?_
      refine LWp.seq ?_
      have hs8 := hxo.1 _ (List.getElem_mem h6)
      refine LWp.regAny hT hW hMixed (lk [[],[],[0,1],[0,1,2],[],[0,1,2,3,4],[0,1,2,3,4,5],[0,1,2,3,4,5,6],[],[],[8,9],[8,9,10],[],[8,9,10,11,12],[8,9,10,11,12,13],[0,1,2,3,4,5,6,7,8,9,10,11,12,13,14],[0,1,2,3,4,5,6,7,8,9,10,11,12,13,14,15],[0,1,2,3,4,5,6,7,8,9,10,11,12,13,14,15,16]]) (lk [[],[],[],[],[],[],[],[],[48],[48],[48],[48],[48],[48],[48],[],[],[]]) (lk [[],[],[],[],[],[],[],[48],[],[],[],[],[],[],[],[56],[57],[]]) (by kernel_rfl) (fun | 48 => some <| .plain ⟨.d (strsD (tchN A[i][k])), true⟩ | 56 => some <| .plain ⟨.d (strsD (tchN A[i][k])), true⟩ | 57 => some <| .plain ⟨.d (.bool true), true⟩ | _ => none) (by intro d; first | exact ⟨rfl, fun _ h => h⟩ | (split <;> exact ⟨rfl, fun _ h => h⟩)) ?_
      simp [h3, h6]
      refine ⟨⟨⟨by simpa using PTouches_ok _ hs8, by simpa using Touches23_ok _ hs8⟩, ex_texts _ _ rfl⟩, ?_⟩
      refine LWp.iff ?_
      simp
      refine LWp.skip ?_
      simp
      refine LWp.reg hT hW (fun _ => none) (fun _ => ⟨rfl, fun _ h => h⟩) ?_
      simp
      refine ⟨by omega, ?_⟩
      refine loopQ.mk (k + 1) (Weak.to [3, 4, 11, 13, 14, 15] [(11, 11)] (by decide) (by decide) (by simp [hp]) (by simp) (by simp)) ?_ ?_
      · omega
      · omega
    · refine LWp.exit ?_
      simp
      refine LWp.seq ?_
      have hn := at_ok A[i] n (by omega) q3
      have hm := at_ok A[i] m (by omega) q4
      obtain ⟨a, haa⟩ : ∃ a, a = atN A[i] n := ⟨_, rfl⟩
      obtain ⟨c, hcc⟩ : ∃ c, c = atN A[i] m := ⟨_, rfl⟩
      rw [← haa] at hn
      rw [← hcc] at hm
      obtain ⟨prs, hprs⟩ : ∃ prs, prs = [(a, c), (c, a), (a, a), (x.name, a)] := ⟨_, rfl⟩
      have hp4 : prs.length = 4 := by rw [hprs]; rfl
      refine LWp.regAny hT hW hMixed (lk [[],[],[0,1],[0,1,2],[],[0,1,2,3,4],[],[],[6,7],[6,7,8],[],[0,1,2,3,4,5,6,7,8,9,10],[0,1,2,3,4,5,6,7,8,9,10,11],[],[],[13,14],[13,14,15],[],[0,1,2,3,4,5,6,7,8,9,10,11,13,14,15,16,17],[],[],[19,20],[19,20,21],[],[0,1,2,3,4,5,6,7,8,9,10,11,13,14,15,16,17,18,19,20,21,22,23],[0,1,2,3,4,5,6,7,8,9,10,11,13,14,15,16,17,18,19,20,21,22,23,24],[],[],[26,27],[26,27,28],[],[0,1,2,3,4,5,6,7,8,9,10,11,13,14,15,16,17,18,19,20,21,22,23,24,26,27,28,29,30],[],[],[32,33],[32,33,34],[],[0,1,2,3,4,5,6,7,8,9,10,11,13,14,15,16,17,18,19,20,21,22,23,24,26,27,28,29,30,31,32,33,34,35,36],[0,1,2,3,4,5,6,7,8,9,10,11,13,14,15,16,17,18,19,20,21,22,23,24,26,27,28,29,30,31,32,33,34,35,36,37],[],[39],[],[],[41,42],[41,42,43],[],[0,1,2,3,4,5,6,7,8,9,10,11,13,14,15,16,17,18,19,20,21,22,23,24,26,27,28,29,30,31,32,33,34,35,36,37,41,42,43,44,45],[0,1,2,3,4,5,6,7,8,9,10,11,13,14,15,16,17,18,19,20,21,22,23,24,26,27,28,29,30,31,32,33,34,35,36,37,39,40,41,42,43,44,45,46],[0,1,2,3,4,5,6,7,8,9,10,11,12,13,14,15,16,17,18,19,20,21,22,23,24,25,26,27,28,29,30,31,32,33,34,35,36,37,38,39,40,41,42,43,44,45,46,47],[0,1,2,3,4,5,6,7,8,9,10,11,12,13,14,15,16,17,18,19,20,21,22,23,24,25,26,27,28,29,30,31,32,33,34,35,36,37,38,39,40,41,42,43,44,45,46,47,48]]) (lk [[],[],[],[],[],[],[64],[64],[64],[64],[64],[],[105,77,83,90,96],[64,70],[64,70],[64,70],[64,70],[64,70],[],[64,70,77],[64,70,77],[64,70,77],[64,70,77],[64,70,77],[],[105,90,96],[64,70,77,83],[64,70,77,83],[64,70,77,83],[64,70,77,83],[64,70,77,83],[],[64,70,77,83,90],[64,70,77,83,90],[64,70,77,83,90],[64,70,77,83,90],[64,70,77,83,90],[],[105],[105,64,70,77,83,90,96],[105,64,70,77,83,90,96],[64,70,77,83,90,96],[64,70,77,83,90,96],[64,70,77,83,90,96],[64,70,77,83,90,96],[64,70,77,83,90,96],[],[],[],[]]) (lk [[],[],[],[],[],[64],[],[],[],[],[],[70],[],[],[],[],[],[],[77],[],[],[],[],[],[83],[],[],[],[],[],[],[90],[],[],[],[],[],[96],[],[],[],[],[],[],[],[],[105],[],[107],[]]) (by kernel_rfl) (fun | 64 => some <| .plain ⟨.d a.d, true⟩ | 70 => some <| .plain ⟨.d c.d, true⟩ | 77 => some <| .plain ⟨.d c.d, true⟩ | 83 => some <| .plain ⟨.d a.d, true⟩ | 90 => some <| .plain ⟨.d a.d, true⟩ | 96 => some <| .plain ⟨.d a.d, true⟩ | 105 => some <| .plain ⟨.d a.d, true⟩ | _ => none) (by intro d; first | exact ⟨rfl, fun _ h => h⟩ | (split <;> exact ⟨rfl, fun _ h => h⟩)) ?_
      simp [h3, (show [0, 1, 2, 3] = List.range 4 from rfl)]
      refine ⟨by repeat' first | exact hn | exact hm | refine ⟨?_, ?_⟩, ?_⟩
      refine LWp.weak (Weak.close 16 (x := .sl (prs.map prD)) (by simp [hprs])) ?_
      refine LWp.seq ?_
      refine LWp.reg hT hW (fun _ => none) (fun _ => ⟨rfl, fun _ h => h⟩) ?_
      simp
      refine LWp.block ?_
      refine LWp.loopW (ι := Nat) (fun j => mkEnv [(3, .d (I64 n)), (4, .d (I64 m)), (11, .bx 11 0), (13, .d (.sl (A.map edsD))), (14, .d (I64 i)), (16, .d (.sl (prs.map prD))), (17, .d (I64 j))]) (fun j => mkObs [(11, .box false ((cellsD x.d).map .d))]) (fun j => j ≤ 4) (fun j => 4 - j) 0 (Weak.to [3, 4, 11, 13, 14, 16, 17] [(11, 11)] (by decide) (by decide) (by simp [hp]) (by simp) (by simp)) (by simp) fun j hi12 => ?_
      refine LWp.seq ?_
      refine LWp.seq ?_
      refine LWp.reg hT hW (fun _ => none) (fun _ => ⟨rfl, fun _ h => h⟩) ?_
      simp [hp4]
      refine LWp.iff ?_
      simp
      refine ⟨fun h12 => ?_, fun h12 => ?_⟩
      · refine LWp.skip ?_
        simp
        refine LWp.seq ?_
        refine LWp.block ?_
        refine LWp.seq ?_
        have hj : j < prs.length := by rw [hp4]; omega
        obtain ⟨p, hpp⟩ : ∃ p, p = prs[j] := ⟨_, rfl⟩
        refine LWp.regAny hT hW hMixed (lk [[],[],[0,1],[0,1,2],[],[],[4,5],[4,5,6],[4,5,6,7],[],[],[9,10],[9,10,11],[9,10,11,12],[0,1,2,3,4,5,6,7,8,9,10,11,12,13],[0,1,2,3,4,5,6,7,8,9,10,11,12,13,14],[0,1,2,3,4,5,6,7,8,9,10,11,12,13,14,15],[0,1,2,3,4,5,6,7,8,9,10,11,12,13,14,15],[0,1,2,3,4,5,6,7,8,9,10,11,12,13,14,15,16],[0,1,2,3,4,5,6,7,8,9,10,11,12,13,14,15,16,17,18]]) (lk [[],[],[],[],[],[],[],[],[],[],[],[],[],[],[],[],[],[],[],[]]) (lk [[],[],[],[],[],[],[],[],[],[],[],[],[],[],[129],[],[],[],[],[]]) (by kernel_rfl) (fun | 129 => some <| .plain ⟨.tup [.d (.bool (apartV A[i] p.1 p.2).1), .d (I64 (apartV A[i] p.1 p.2).2)], true⟩ | _ => none) (by intro d; first | exact ⟨rfl, fun _ h => h⟩ | (split <;> exact ⟨rfl, fun _ h => h⟩)) ?_
        simp [evalExtract, h3, hj, ← hpp]
        refine ⟨by simpa using PApart_ok A[i] p.1 p.2 hxo.1, ?_⟩
        refine LWp.seq ?_
        refine LWp.regAny hT hW hMixed (lk [[],[],[0,1],[0,1,2],[],[],[4,5],[4,5,6],[4,5,6,7],[],[],[9,10],[9,10,11],[9,10,11,12],[0,1,2,3,4,5,6,7,8,9,10,11,12,13],[0,1,2,3,4,5,6,7,8,9,10,11,12,13,14],[0,1,2,3,4,5,6,7,8,9,10,11,12,13,14,15],[0,1,2,3,4,5,6,7,8,9,10,11,12,13,14,15],[0,1,2,3,4,5,6,7,8,9,10,11,12,13,14,15,16],[0,1,2,3,4,5,6,7,8,9,10,11,12,13,14,15,16,17,18]]) (lk [[],[],[],[],[],[],[],[],[],[],[],[],[],[],[],[],[],[],[],[]]) (lk [[],[],[],[],[],[],[],[],[],[],[],[],[],[],[147],[],[],[],[],[]]) (by kernel_rfl) (fun | 147 => some <| .plain ⟨.tup [.d (.bool (apartV A[i] p.1 p.2).1), .d (I64 (apartV A[i] p.1 p.2).2)], true⟩ | _ => none) (by intro d; first | exact ⟨rfl, fun _ h => h⟩ | (split <;> exact ⟨rfl, fun _ h => h⟩)) ?_
        simp [evalExtract, h3, hj, ← hpp]
        refine ⟨by simpa using RApart_ok A[i] p.1 p.2 hxo.1 hxo.2.1, ?_⟩
        refine LWp.seq ?_
        refine LWp.reg hT hW (fun _ => none) (fun _ => ⟨rfl, fun _ h => h⟩) ?_
        simp
        refine LWp.iff ?_
        simp
        refine LWp.skip ?_
        simp
        refine LWp.reg hT hW (fun _ => none) (fun _ => ⟨rfl, fun _ h => h⟩) ?_
        simp
        refine ⟨by omega, ?_⟩
        refine loopQ.mk (j + 1) (Weak.to [3, 4, 11, 13, 14, 16, 17] [(11, 11)] (by decide) (by decide) (by simp [hp]) (by simp) (by simp)) ?_ ?_
        · omega
        · omega
      · refine LWp.exit ?_
        simp
        refine LWp.reg hT hW (fun _ => none) (fun _ => ⟨rfl, fun _ h => h⟩) ?_
        simp
        refine ⟨by omega, ?_⟩
        refine loopQ.mk (i + 1) (Weak.to [3, 4, 11, 13, 14] [(11, 11)] (by decide) (by decide) (by simp [hp]) (by simp) (by simp)) ?_ ?_
        · omega
        · omega
  · refine LWp.exit ?_
    simp
    refine LWp.seq ?_
    refine LWp.regAny hT hW hMixed (lk [[],[0],[],[0,1,2],[0,1,2,3],[0,1,2,3,4],[0,1,2,3,4,5],[0,1,2,3,4,5,6],[0,1,2,3,4,5,6,7]]) (lk [[],[],[159],[],[],[],[],[],[]]) (lk [[],[159],[],[161],[162],[],[164],[],[]]) (by kernel_rfl) (fun | 159 => some <| .plain ⟨.d (strsD (tchN x)), true⟩ | 161 => some <| .plain ⟨.d (strsD (tchN x)), true⟩ | 162 => some <| .plain ⟨.d (.bool true), true⟩ | 164 => some <| .plain ⟨.d (.bool true), true⟩ | _ => none) (by intro d; first | exact ⟨rfl, fun _ h => h⟩ | (split <;> exact ⟨rfl, fun _ h => h⟩)) ?_
    simp
    refine ⟨⟨⟨⟨by simpa using PTouches_ok x hx, by simpa using Touches23_ok x hx⟩, ex_texts _ _ rfl⟩, lives3_ok⟩, ?_⟩
    refine LWp.ret ?_
    simp
end Go.Eng
namespace Go.Eng
open Go.Proofs Go Go.ChangeShapes Go.Deep
theorem chunk_get {β : Type} {g : Nat → List β} {s : Nat} (hs : 0 < s) : ∀ {len : Nat}, (∀ i, i < len → (g i).length = s) → ∀ j, ((List.range len).flatMap g)[j]? = if j < len * s then (g (j / s))[j % s]? else none
  | 0, _, j => by simp
  | len + 1, hg, j => by
    have ih := chunk_get hs (len := len) (g := g) (fun i hi => hg i (by omega))
    have hl : ((List.range len).flatMap g).length = len * s := by
      have : ∀ n, n ≤ len → ((List.range n).flatMap g).length = n * s := by
        intro n
        induction n with
        | zero => intro _; simp
        | succ n ihn =>
          intro hn
          rw [List.range_succ, List.flatMap_append, List.length_append, ihn (by omega)]
          simp only [List.flatMap_cons, List.flatMap_nil, List.append_nil]
          rw [hg n (by omega), Nat.add_mul]; omega
      exact this len (Nat.le_refl _)
    have e : (len + 1) * s = len * s + s := by rw [Nat.add_mul]; omega
    rw [List.range_succ, List.flatMap_append, List.getElem?_append, hl, ih]
    simp only [List.flatMap_cons, List.flatMap_nil, List.append_nil]
    by_cases h1 : j < len * s
    · rw [if_pos h1, if_pos h1, if_pos (by omega)]
    · rw [if_neg h1]
      by_cases h2 : j < (len + 1) * s
      · rw [if_pos h2]
        have hd : j / s = len := by
          have : j = (j - len * s) + len * s := by omega
          rw [this, Nat.add_mul_div_right _ _ hs, Nat.div_eq_of_lt (by omega)]; omega
        have hm : j % s = j - len * s := by
          have : j = (j - len * s) + len * s := by omega
          rw [this, Nat.add_mul_mod_self_right, Nat.mod_eq_of_lt (by omega)]; omega
        rw [hd, hm]
      · rw [if_neg h2, List.getElem?_eq_none]
        rw [hg len (by omega)]; omega
def RC (w : World) (ds : List DV) (cs : List Value) : Prop := cs.length = ds.length ∧ ∀ (i : Nat) (d : DV) (v : Value), ds[i]? = some d → cs[i]? = some v → RD w (fun _ => False) d v ∧ v.oneCell' = true
theorem RC.nil {w : World} : RC w [] [] := ⟨rfl, fun i d v h => by simp at h⟩
theorem RC.cons {w : World} {d : DV} {v : Value} {ds : List DV} {cs : List Value} (h : RD w (fun _ => False) d v) (h1 : v.oneCell' = true) (hs : RC w ds cs) : RC w (d :: ds) (v :: cs) :=
  ⟨by simp [hs.1], fun i c u hc hu => by
    cases i with
    | zero => simp at hc hu; subst hc; subst hu; exact ⟨h, h1⟩
    | succ i => exact hs.2 i c u (by simpa using hc) (by simpa using hu)⟩
theorem RC.agg {w : World} {ds : List DV} {cs : List Value} (h : RC w ds cs) : RD w (fun _ => False) (.agg ds) (.agg cs.toArray) :=
  .agg ds cs h.1 (fun u hu => by
    obtain ⟨i, hi, rfl⟩ := List.getElem_of_mem hu
    have hi' : i < ds.length := by have := h.1; omega
    exact (h.2 i ds[i] cs[i] (by simp [hi']) (by simp [hi])).2) fun i c v hc hv => (h.2 i c v hc hv).1
theorem str_rd {w : World} (s : ByteArray) : RD w (fun _ => False) (.str s.data.toList) (.string s) := RD.str s.data.toList
section
variable {H : Type} {enc : TypeId × Value → H} {w : World} {sp : Nat → Bool} {hd : Bool}
def LenIs (d : DataW H) (n : Nat) : Prop := (d = .nil ∧ n = 0) ∨ ∃ el sp, d = .slice el sp ∧ el.length = n
theorem trod_sl {α : Type} [Inhabited α] (f : α → DV) (s : Nat) (hs : ∀ a, (cellsD (f a)).length = s) (h0 : 0 < s) {t e : TypeId} (ht : Tryz.prog.underlying t = some (.slice e)) (hc : Tryz.prog.cellsOf e = s)
    (el : ∀ {n : Nat} {cs : List Value} {x : DataW H × List MemPlace}, DataW.trod enc Tryz.prog w 0 sp hd n e cs = some x → ∃ a, RC w (cellsD (f a)) cs)
    {fuel : Nat} {cs : List Value} {x : DataW H × List MemPlace} (h : DataW.trod enc Tryz.prog w 0 sp hd fuel t cs = some x) :
    ∃ (l : List α) (v : Value), cs = [v] ∧ RD w (fun _ => False) (.sl (l.map f)) v ∧ v.oneCell' = true ∧ LenIs x.1 l.length := by
  rcases open_slice ht h with ⟨rfl, rfl⟩ | ⟨a, len, cap, m, n, D, Pl, rfl, hb, hl, hm, hmm, rfl, hx⟩
  · exact ⟨[], _, rfl, .sl0 none 0 (Nat.zero_le _), rfl, .inl ⟨rfl, rfl⟩⟩
  · have hlm : len ≤ m := by rw [hmm]; split <;> omega
    have each : ∀ i, i < len → ∃ y : α × List Value, w.cells? 0 (a.add (i * s)) s = some y.2 ∧ RC w (cellsD (f y.1)) y.2 := fun i hi => by
      obtain ⟨cs', h1, h2⟩ := hx i (by omega)
      rw [hc] at h1
      obtain ⟨b, hb⟩ := el h2
      exact ⟨(b, cs'), h1, hb⟩
    obtain ⟨g, hg⟩ := choose_lt each
    refine ⟨(List.range len).map fun i => (g i).1, _, rfl, ?_, rfl, .inr ⟨_, _, rfl, by simp⟩⟩
    by_cases hz : len = 0
    · subst hz
      exact .sl0 _ cap hm
    · have hcell : ∀ i, i < len → ∀ r, r < s → w.cell? ((a.add (i * s)).add r) = (g i).2[r]? := fun i hi r hr => (World.cells?_some (hg i hi).1).2.2 r hr
      have hlen2 : ∀ i, i < len → (g i).2.length = s := fun i hi => (World.cells?_some (hg i hi).1).2.1
      obtain ⟨b, o, spot⟩ := a
      have hfirst := hcell 0 (by omega) 0 h0
      have hspot : spot = none := by
        have h2 := hlen2 0 (by omega)
        have : ((g 0).2[0]?).isSome = true := by simp; omega
        obtain ⟨u, hu⟩ := Option.isSome_iff_exists.1 this
        rw [hu] at hfirst
        simpa [Addr.add] using World.cell?_spot hfirst
      subst hspot
      have hflat : flatD (((List.range len).map fun i => (g i).1).map f) = (List.range len).flatMap fun i => cellsD (f (g i).1) := by
        unfold flatD
        rw [List.map_map, List.flatMap_map]; rfl
      have gd := chunk_get (g := fun i => cellsD (f (g i).1)) h0 (len := len) (fun i _ => hs _)
      have gv := chunk_get (g := fun i => (g i).2) h0 (len := len) hlen2
      have hpos : ∀ j, j < len * s → j / s < len ∧ j % s < s ∧ j / s * s + j % s = j := fun j hj => ⟨(Nat.div_lt_iff_lt_mul h0).2 hj, Nat.mod_lt _ h0, by rw [Nat.mul_comm]; exact Nat.div_add_mod j s⟩
      have hul : ((List.range len).flatMap fun i => (g i).2).length = len * s := by
        have h1 : ∀ j, j < len * s → j < ((List.range len).flatMap fun i => (g i).2).length := fun j hj => by
          have h := gv j
          rw [if_pos hj] at h
          obtain ⟨p1, p2, p3⟩ := hpos j hj
          have h2 : ((g (j / s)).2[j % s]?).isSome = true := by simp; rw [hlen2 _ p1]; exact p2
          rw [← h] at h2
          simpa using h2
        have h3 := gv (len * s)
        rw [if_neg (by omega)] at h3
        have h4 := List.getElem?_eq_none_iff.1 h3
        by_cases q : len * s = 0
        · omega
        · have := h1 (len * s - 1) (by omega); omega
      have hfin := RD.sl (w := w) (E := fun _ => False) (((List.range len).map fun i => (g i).1).map f) b o cap s ((List.range len).flatMap fun i => (g i).2)
        (fun q => hz (by have := congrArg List.length q; simpa using this)) (fun q => q) (fun x hx => by obtain ⟨y, _, rfl⟩ := List.mem_map.1 hx; exact hs y) (by simpa using hl) hm (by rw [hul]; simp)
        (fun u hu => by
          obtain ⟨j, hj, rfl⟩ := List.getElem_of_mem hu
          have hj' : j < len * s := by omega
          have h := gv j
          rw [if_pos hj', List.getElem?_eq_getElem hj] at h
          obtain ⟨p1, p2, _⟩ := hpos j hj'
          exact ((hg _ p1).2.2 (j % s) ((cellsD (f (g (j / s)).1))[j % s]'(by rw [hs]; exact p2)) _ (by simp [hs, p2]) h.symm).2)
        (by have := World.cells?_block (hg 0 (by omega)).1 h0; simpa [Addr.add] using this)
        (fun j u hj => by
          rw [gv] at hj
          split at hj
          · rename_i hj'
            obtain ⟨p1, p2, p3⟩ := hpos j hj'
            rw [← hcell _ p1 _ p2, Addr.add_lit, Addr.add_lit, Nat.add_assoc, p3] at hj
            exact hj
          · cases hj)
        (fun i d v hd hv => by
          rw [hflat, gd] at hd
          rw [gv] at hv
          split at hd
          · rename_i hj'
            rw [if_pos hj'] at hv
            obtain ⟨p1, p2, _⟩ := hpos i hj'
            exact ((hg _ p1).2.2 _ d v hd hv).1
          · cases hd)
      simpa using hfin
theorem trod_i64 {fuel : Nat} {cs : List Value} {x : DataW H × List MemPlace} (h : DataW.trod enc Tryz.prog w 0 sp hd fuel 3 cs = some x) : ∃ n : Int, cs = [.int .i64 n] ∧ -9223372036854775808 ≤ n ∧ n ≤ 9223372036854775807 := by
  obtain ⟨n, h1, h2, h3⟩ := DataW.trod_int Tryz.underlying3 h
  exact ⟨n, h1, int_rng h3⟩
theorem trod_str {fuel : Nat} {cs : List Value} {x : DataW H × List MemPlace} (h : DataW.trod enc Tryz.prog w 0 sp hd fuel 9 cs = some x) : ∃ s : Str, RC w [.str s] cs := by
  obtain ⟨s, h1, _, _⟩ := DataW.trod_string Tryz.underlying9 h
  exact ⟨s.data.toList, by rw [h1]; exact RC.cons (str_rd s) rfl RC.nil⟩
theorem c3 : Tryz.prog.cellsOf 3 = 1 := by kernel_rfl
theorem c9 : Tryz.prog.cellsOf 9 = 1 := by kernel_rfl
theorem c24 : Tryz.prog.cellsOf 24 = 2 := by kernel_rfl
theorem c25 : Tryz.prog.cellsOf 25 = 1 := by kernel_rfl
theorem c26 : Tryz.prog.cellsOf 26 = 1 := by kernel_rfl
theorem c27 : Tryz.prog.cellsOf 27 = 1 := by kernel_rfl
theorem c29 : Tryz.prog.cellsOf 29 = 5 := by kernel_rfl
theorem c47 : Tryz.prog.cellsOf 47 = 2 := by kernel_rfl
theorem trod_nm {fuel : Nat} {cs : List Value} {x : DataW H × List MemPlace} (h : DataW.trod enc Tryz.prog w 0 sp hd fuel 24 cs = some x) : ∃ n : Nm, RC w (cellsD n.d) cs := by
  obtain ⟨y0, y1, n, _, hl, h0, h1⟩ := trod_struct2 Tryz.underlying24 h
  rw [c24] at hl
  simp only [c3] at h0 h1
  obtain ⟨a, e0, _⟩ := trod_i64 h0
  obtain ⟨b, e1, _⟩ := trod_i64 h1
  have e : cs = [.int .i64 a, .int .i64 b] := by
    rcases cs with _ | ⟨c, _ | ⟨d, _ | ⟨_, _⟩⟩⟩ <;> simp_all
  rw [e]
  exact ⟨⟨a, b⟩, RC.cons (.int .i64 a) rfl (RC.cons (.int .i64 b) rfl RC.nil)⟩
theorem trod_df {fuel : Nat} {cs : List Value} {x : DataW H × List MemPlace} (h : DataW.trod enc Tryz.prog w 0 sp hd fuel 47 cs = some x) : ∃ d : Df, RC w (cellsD d.d) cs := by
  obtain ⟨y0, y1, n, _, hl, h0, h1⟩ := trod_struct2 Tryz.underlying47 h
  rw [c47] at hl
  simp only [c9] at h0 h1
  obtain ⟨a, e0, _, _⟩ := DataW.trod_string Tryz.underlying9 h0
  obtain ⟨b, e1, _, _⟩ := DataW.trod_string Tryz.underlying9 h1
  have e : cs = [.string a, .string b] := by
    rcases cs with _ | ⟨c, _ | ⟨d, _ | ⟨_, _⟩⟩⟩ <;> simp_all
  rw [e]
  exact ⟨⟨a.data.toList, b.data.toList⟩, RC.cons (str_rd a) rfl (RC.cons (str_rd b) rfl RC.nil)⟩
theorem trod_nms {fuel : Nat} {cs : List Value} {x : DataW H × List MemPlace} (h : DataW.trod enc Tryz.prog w 0 sp hd fuel 25 cs = some x) :
    ∃ (l : List Nm) (v : Value), cs = [v] ∧ RD w (fun _ => False) (nmsD l) v ∧ v.oneCell' = true ∧ LenIs x.1 l.length := trod_sl Nm.d 2 (fun _ => rfl) (by omega) Tryz.underlying25 c24 trod_nm h
theorem trod_dfs {fuel : Nat} {cs : List Value} {x : DataW H × List MemPlace} (h : DataW.trod enc Tryz.prog w 0 sp hd fuel 26 cs = some x) :
    ∃ (l : List Df) (v : Value), cs = [v] ∧ RD w (fun _ => False) (dfsD l) v ∧ v.oneCell' = true ∧ LenIs x.1 l.length := trod_sl Df.d 2 (fun _ => rfl) (by omega) Tryz.underlying26 c47 trod_df h
theorem trod_strs {fuel : Nat} {cs : List Value} {x : DataW H × List MemPlace} (h : DataW.trod enc Tryz.prog w 0 sp hd fuel 27 cs = some x) :
    ∃ (l : List Str) (v : Value), cs = [v] ∧ RD w (fun _ => False) (strsD l) v ∧ v.oneCell' = true ∧ LenIs x.1 l.length := trod_sl DV.str 1 (fun _ => rfl) (by omega) Tryz.underlying27 c9 trod_str h
theorem trod_ed {fuel : Nat} {cs : List Value} {x : DataW H × List MemPlace} (h : DataW.trod enc Tryz.prog w 0 sp hd fuel 29 cs = some x) :
    ∃ (e : Ed) (d0 d1 d2 d3 : DataW H), RC w (cellsD e.d) cs ∧ x.1 = .agg [d0, d1, d2, d3] ∧ LenIs d1 e.needs.length ∧ LenIs d2 e.puts.length ∧ LenIs d3 e.drops.length := by
  obtain ⟨xs, n, _, rfl, hl, hlen, hf⟩ := DataW.trod_struct Tryz.underlying29 h
  rw [c29] at hl
  match xs, hlen with
  | [y0, y1, y2, y3], _ =>
    have f0 : DataW.trod enc Tryz.prog w 0 sp hd n 24 ((cs.drop 0).take (Tryz.prog.cellsOf 24)) = some y0 := hf 0 _ rfl
    have f1 : DataW.trod enc Tryz.prog w 0 sp hd n 25 ((cs.drop 2).take (Tryz.prog.cellsOf 25)) = some y1 := hf 1 _ rfl
    have f2 : DataW.trod enc Tryz.prog w 0 sp hd n 26 ((cs.drop 3).take (Tryz.prog.cellsOf 26)) = some y2 := hf 2 _ rfl
    have f3 : DataW.trod enc Tryz.prog w 0 sp hd n 27 ((cs.drop 4).take (Tryz.prog.cellsOf 27)) = some y3 := hf 3 _ rfl
    rw [c24] at f0
    rw [c25] at f1
    rw [c26] at f2
    rw [c27] at f3
    obtain ⟨v0, v1, v2, v3, v4, rfl⟩ : ∃ v0 v1 v2 v3 v4, cs = [v0, v1, v2, v3, v4] := by
      rcases cs with _ | ⟨v0, _ | ⟨v1, _ | ⟨v2, _ | ⟨v3, _ | ⟨v4, _ | ⟨_, _⟩⟩⟩⟩⟩⟩ <;> simp only [List.length_nil, List.length_cons] at hl <;> first | omega | exact ⟨v0, v1, v2, v3, v4, rfl⟩
    obtain ⟨nm, r0⟩ := trod_nm f0
    obtain ⟨ns, w1, e1, r1, o1, l1⟩ := trod_nms f1
    obtain ⟨ps, w2, e2, r2, o2, l2⟩ := trod_dfs f2
    obtain ⟨ds, w3, e3, r3, o3, l3⟩ := trod_strs f3
    obtain rfl : v2 = w1 := by simpa using e1
    obtain rfl : v3 = w2 := by simpa using e2
    obtain rfl : v4 = w3 := by simpa using e3
    have ra := r0.2 0 (I64 nm.who) v0 rfl rfl
    have rb := r0.2 1 (I64 nm.seq) v1 rfl rfl
    exact ⟨⟨nm, ns, ps, ds⟩, y0.1, y1.1, y2.1, y3.1, RC.cons ra.1 ra.2 (RC.cons rb.1 rb.2 (RC.cons r1 o1 (RC.cons r2 o2 (RC.cons r3 o3 RC.nil)))), rfl, l1, l2, l3⟩
end
end Go.Eng
