/-
  Texts of the proofs of this seat, part 8. No condition.
-/
import Derived.Test.YteklgabeddpinaaGreatMG
set_option linter.unusedVariables false
set_option linter.unusedSimpArgs false
namespace Go.Eng
open Go.Proofs
attribute [local simp] runL stepL evalG evalOp opLV constLV putEnv dstOk upd upds Res.plain Res.cond Res.fail evalBin evalUn seqQ blockQ argsEnv lookL lookH RetIs memless freshL evalPick evalMin bval bok evalLen evalIn strip whenC guardOps guardC slotsOf
  runM foldS stepI stepM maskE wrIn lk renO lookN evalCall evalCallee optAll resLV resObj retLV retObj retsLV retsObj evalLoad evalIndexAddr evalField solid cellsD_agg cellsD_int cellsD_bool cellsD_str cellsD_sl cellsD_ro cellsD_fn cellsL_agg cellsL_dagg cellsL_int cellsL_bool cellsL_str cellsL_sl cellsL_fn cellsL_ow cellsL_bx cellsL_lfn cellsL_nl takeL takeD mkAgg allD eqD eqDs kindsAre kindIs LObj.live TK.isNone TK.agg TK.isBool TK.isStr TK.isStruct Op.operands Call.operands
  evalBuildSlice evalAppend elemsOf evalStore evalBuild fillL lookupF putL evalSlice bound evalConv elemsS freezes frozen loadR
  mkEnv_at mkObs_at close_d close_agg close_ow close_bx close_fn close_nl touch_d touch_agg touch_ow touch_bx touch_fn touch_nl ren_d ren_agg ren_bx ren_rp ren_ow ren_fn ren_nl ren_junk retQ_ret retQ2_ret condQ_bool Nm.d Df.d Ed.d nmsD dfsD strsD edsD retC_ret nm_eq df_eq take_map_len take_map_app
  nm_t nm_d nm_td df_t df_d df_td str_t str_d str_td ed_t ed_d ed_td
  evalAppendIn evalCut evalClear evalCopy evalMake evalWrap evalCap evalNil isNilC lenL isInp gorc
  mapOf findD keyEq keyOk evalMakeMap evalRange zeroD zeroDV argsG shutG outN lenv retG0_ret retG0_normal retG1_ret renO close_mp touch_mp ren_mp optAll_d optAll_d' touch_ds cellsL_mp cellsD_mp cellsL_dmp
  evalMapSet evalPtr TK.isPtr evalToArr firstL retN_ret retsQ rvarL close_bm touch_bm ren_bm cellsD_bm cellsL_bm cellsL_lbm
attribute [local simp] cutQ_normal cutQ_ret cutQ_exit

set_option maxRecDepth 10000
set_option maxHeartbeats 2000000
/-- The texts' names in the statement. -/
def five3 : List Str := [[97], [98], [99], [100], [97, 97]]
/-- What the laws of chapter 23 say of the edits made of numbers. -/
structure IsMade (l : List Int) (E : List Ed) : Prop where
  eq : E = madeL l
  len : E.length ≤ 6
  needs : (allNeeds E).length ≤ 36
  sm : small E
  ok : (validV E).2 = 0
theorem is_made (l : List Int) : ∃ E, IsMade l E := ⟨madeL l, rfl, madeL_len l, made_needs l, made_small l, by rw [made_valid]⟩
theorem clo_six {l : List Ed} {S : List Nm} (h : closedB l (cloN l S) = true) : (cloN l S).length ≤ l.length := by
  have : (cloN l S).Nodup := sortN_nodup _
  have := nodup_le' (m := l.map Ed.name) this fun n hn => closed_names h hn
  rwa [List.length_map] at this
theorem closed_len {l : List Int} {E : List Ed} (h : IsMade l E) (b : Int) : (closureV E (someN E b)).1.length ≤ 6 ∧ closureV E (someN E b) = (cloN E (someN E b), 0) ∧ closedB E (cloN E (someN E b)) = true := by
  have u : ∀ n ∈ someN E b, n ∈ E.map Ed.name := fun n hn => someN_sub hn
  have e := closureV_ok h.ok u
  have c := closure_closed h.ok u
  have := clo_six c
  have := h.len
  rw [e]
  exact ⟨by show (cloN E (someN E b)).length ≤ 6; omega, rfl, c⟩
theorem less_len (l : List Nm) (n : Nm) : (lessN l n).length ≤ l.length := List.length_filter_le _ _

/-- culprit/culpritlaw23.PatchApart -/
theorem PatchApart_ok (l : List Int) (base bits n m : Int) (hr : ∀ n ∈ l, -9223372036854775808 ≤ n ∧ n ≤ 9223372036854775807) (q1 : -9223372036854775808 ≤ base ∧ base ≤ 9223372036854775807) (q2 : -9223372036854775808 ≤ bits ∧ bits ≤ 9223372036854775807) (q3 : -9223372036854775808 ≤ n ∧ n ≤ 9223372036854775807) (q4 : -9223372036854775808 ≤ m ∧ m ≤ 9223372036854775807) : Ok Tryz.prog 6 [.sl (l.map I64), I64 base, I64 bits, I64 n, I64 m] ⟨.d (.bool true), true⟩ := by
  refine Ok.ret Tryz.func6 (by kernel_rfl) (c := _) rfl Tryz.ntmps6 (by simp) Tryz.results6 (by intro _ h; cases h) fun w0 X hp => ?_
  obtain ⟨E, hE⟩ := is_made l
  have hmo := Made_ok l hr
  rw [← hE.eq] at hmo
  have hel := hE.len
  have hen := hE.needs
  have hes := hE.sm
  have hD := Base_ok base q1.1 q1.2
  have hDl := baseL_len base
  obtain ⟨D, hDD⟩ : ∃ D, D = baseL base := ⟨_, rfl⟩
  rw [← hDD] at hD hDl
  have ha := at_ok E n (by omega) q3
  have hb := at_ok E m (by omega) q4
  obtain ⟨a, haa⟩ : ∃ a, a = atN E n := ⟨_, rfl⟩
  obtain ⟨b, hbb⟩ : ∃ b, b = atN E m := ⟨_, rfl⟩
  rw [← haa] at ha
  rw [← hbb] at hb
  have hC := RClosed_ok E bits (by omega) (by omega) q2.1 q2.2
  have hCl := (closed_len hE bits).1
  obtain ⟨C, hCC⟩ : ∃ C, C = (closureV E (someN E bits)).1 := ⟨_, rfl⟩
  rw [← hCC] at hC hCl
  clear hCC hDD haa hbb
  have c1 := less_len C a
  have c2 := less_len (lessN C a) b
  have s1 := lset_ok C a (by omega)
  have s2 := lset_ok (lessN C a) b (by omega)
  obtain ⟨A, hA⟩ : ∃ A, A = lessN (lessN C a) b := ⟨_, rfl⟩
  rw [← hA] at s2 c2
  have p0 := EProgram_ok D E A hes (by omega) (by omega)
  have p1 := EProgram_ok D E (A ++ [a]) hes (by omega) (by simp; omega)
  have p2 := EProgram_ok D E (A ++ [b]) hes (by omega) (by simp; omega)
  have p3 := EProgram_ok D E (A ++ [a, b]) hes (by omega) (by simp; omega)
  have a1 := land_ok A [a] (by omega) (by simp)
  have a2 := land_ok A [b] (by omega) (by simp)
  have a3 := land_ok A [a, b] (by omega) (by simp)
  have hlaw : (apartV E a b).2 = 0 → (apartV E a b).1 = true → (programV D E A).2 = 0 → (programV D E (A ++ [a])).2 = 0 → (programV D E (A ++ [b])).2 = 0 → (programV D E (A ++ [a, b])).2 = 0 ∧ ∀ s, defOf (programV D E (A ++ [a, b])).1 s = if s ∈ touches (edAt E b) then defOf (programV D E (A ++ [b])).1 s else if s ∈ touches (edAt E a) then defOf (programV D E (A ++ [a])).1 s else defOf (programV D E A).1 s := by
    intro w1 w2 w3 w4 w5
    obtain ⟨P, x1, x2⟩ := apart_law (P0 := (programV D E A).1) (P1 := (programV D E (A ++ [a])).1) (P2 := (programV D E (A ++ [b])).1) (by rw [← w3]) (by rw [← w4]) (by rw [← w5]) (apart_inv (by rw [← w1, ← w2])).2
    rw [x1]
    exact ⟨rfl, x2⟩
  have hsa : ∀ n, (edAt E n).small := fun n => by
    by_cases h : 0 ≤ findI E n
    · obtain ⟨i, hi, _, e⟩ := edAt_of h
      rw [e]; exact hes _ (List.getElem_mem hi)
    · rw [edAt_none (by omega)]; exact ⟨by decide, by decide⟩
  have xs := hsa a
  have ys := hsa b
  have o1 := Of_ok E a
  have o2 := Of_ok E b
  obtain ⟨x, hx⟩ : ∃ x, x = edAt E a := ⟨_, rfl⟩
  obtain ⟨y, hy⟩ : ∃ y, y = edAt E b := ⟨_, rfl⟩
  rw [← hx] at xs o1 hlaw
  rw [← hy] at ys o2 hlaw
  obtain ⟨P0, h0⟩ : ∃ P, P = programV D E A := ⟨_, rfl⟩
  obtain ⟨P1, h1⟩ : ∃ P, P = programV D E (A ++ [a]) := ⟨_, rfl⟩
  obtain ⟨P2, h2⟩ : ∃ P, P = programV D E (A ++ [b]) := ⟨_, rfl⟩
  obtain ⟨P3, h3⟩ : ∃ P, P = programV D E (A ++ [a, b]) := ⟨_, rfl⟩
  rw [← h0] at p0 hlaw
  rw [← h1] at p1 hlaw
  rw [← h2] at p2 hlaw
  rw [← h3] at p3 hlaw
  have kp := PApart_ok E a b hes
  obtain ⟨v, hv⟩ : ∃ v, v = apartV E a b := ⟨_, rfl⟩
  rw [← hv] at kp hlaw
  clear h0 h1 h2 h3 hv hx hy hsa
  refine LWp.seq ?_
  refine LWp.reg hT hW (fun _ => none) (fun _ => ⟨rfl, fun _ h => h⟩) ?_
  simp
  refine LWp.seq ?_
  refine LWp.reg hT hW (fun | 37 => some <| .plain ⟨.d (edsD E), false⟩ | _ => none) (by intro d; first | exact ⟨rfl, fun _ h => h⟩ | (split <;> exact ⟨rfl, fun _ h => h⟩)) ?_
  simp
  refine ⟨hmo, ?_⟩
  refine LWp.seq ?_
  refine LWp.reg hT hW (fun | 39 => some <| .plain ⟨.d (dfsD D), true⟩ | _ => none) (by intro d; first | exact ⟨rfl, fun _ h => h⟩ | (split <;> exact ⟨rfl, fun _ h => h⟩)) ?_
  simp
  refine ⟨hD, ?_⟩
  refine LWp.seq ?_
  refine LWp.reg hT hW (fun | 42 => some <| .plain ⟨.d a.d, true⟩ | _ => none) (by intro d; first | exact ⟨rfl, fun _ h => h⟩ | (split <;> exact ⟨rfl, fun _ h => h⟩)) ?_
  simp
  refine ⟨ha, ?_⟩
  refine LWp.seq ?_
  refine LWp.reg hT hW (fun | 45 => some <| .plain ⟨.d b.d, true⟩ | _ => none) (by intro d; first | exact ⟨rfl, fun _ h => h⟩ | (split <;> exact ⟨rfl, fun _ h => h⟩)) ?_
  simp
  refine ⟨hb, ?_⟩
  refine LWp.seq ?_
  refine LWp.reg hT hW (fun | 50 => some <| .plain ⟨.tup [.d (.bool v.1), .d (I64 v.2)], true⟩ | _ => none) (by intro d; first | exact ⟨rfl, fun _ h => h⟩ | (split <;> exact ⟨rfl, fun _ h => h⟩)) ?_
  simp [evalExtract]
  refine ⟨kp, ?_⟩
  refine LWp.seq ?_
  refine LWp.regAny hT hW hMixed (lk [[], [], [0, 1], [], [0, 1, 2, 3], [], [0, 1, 2, 3, 4, 5], [0, 1, 2, 3, 4, 5, 6]]) (lk [[], [], [], [55], [], [55, 57], [], []]) (lk [[], [], [55], [], [57], [], [59], []]) (by kernel_rfl) (fun | 55 => some <| .plain ⟨.d (nmsD C), false⟩ | 57 => some <| .plain ⟨.d (nmsD (lessN C a)), true⟩ | 59 => some <| .plain ⟨.d (nmsD A), true⟩ | _ => none) (by intro d; first | exact ⟨rfl, fun _ h => h⟩ | (split <;> exact ⟨rfl, fun _ h => h⟩)) ?_
  simp
  refine ⟨⟨⟨hC, s1⟩, s2⟩, ?_⟩
  refine LWp.seq ?_
  refine LWp.reg hT hW (fun | 64 => some <| .plain ⟨.tup [.d (dfsD P0.1), .d (I64 P0.2)], true⟩ | _ => none) (by intro d; first | exact ⟨rfl, fun _ h => h⟩ | (split <;> exact ⟨rfl, fun _ h => h⟩)) ?_
  simp [evalExtract]
  refine ⟨p0, ?_⟩
  refine LWp.seq ?_
  refine LWp.reg hT hW (fun | 73 => some <| .plain ⟨.d (nmsD (A ++ [a])), true⟩ | 74 => some <| .plain ⟨.tup [.d (dfsD P1.1), .d (I64 P1.2)], true⟩ | _ => none) (by intro d; first | exact ⟨rfl, fun _ h => h⟩ | (split <;> exact ⟨rfl, fun _ h => h⟩)) ?_
  simp [evalExtract]
  refine ⟨⟨by simpa using a1, by simpa using p1⟩, ?_⟩
  refine LWp.seq ?_
  refine LWp.reg hT hW (fun | 83 => some <| .plain ⟨.d (nmsD (A ++ [b])), true⟩ | 84 => some <| .plain ⟨.tup [.d (dfsD P2.1), .d (I64 P2.2)], true⟩ | _ => none) (by intro d; first | exact ⟨rfl, fun _ h => h⟩ | (split <;> exact ⟨rfl, fun _ h => h⟩)) ?_
  simp [evalExtract]
  refine ⟨⟨by simpa using a2, by simpa using p2⟩, ?_⟩
  refine LWp.seq ?_
  refine LWp.seq ?_
  refine LWp.reg hT hW (fun _ => none) (fun _ => ⟨rfl, fun _ h => h⟩) ?_
  simp
  refine LWp.iff ?_
  simp
  refine ⟨fun h10 => ?_, fun w1 w2 w3 w4 w5 => ?_⟩
  · refine LWp.seq ?_
    refine LWp.reg hT hW (fun | 105 => some <| .plain ⟨.d (.bool true), true⟩ | _ => none) (by intro d; first | exact ⟨rfl, fun _ h => h⟩ | (split <;> exact ⟨rfl, fun _ h => h⟩)) ?_
    simp
    refine ⟨lives3_ok, ?_⟩
    refine LWp.ret ?_
    simp
  · refine LWp.skip ?_
    simp
    refine LWp.seq ?_
    obtain ⟨h30, hP⟩ := hlaw (by simpa using w1) (by simpa using w2) (by simpa using w3) (by simpa using w4) (by simpa using w5)
    refine LWp.reg hT hW (fun | 113 => some <| .plain ⟨.d (nmsD (A ++ [a, b])), true⟩ | 114 => some <| .plain ⟨.tup [.d (dfsD P3.1), .d (I64 P3.2)], true⟩ | _ => none) (by intro d; first | exact ⟨rfl, fun _ h => h⟩ | (split <;> exact ⟨rfl, fun _ h => h⟩)) ?_
    simp [evalExtract]
    refine ⟨⟨⟨rfl, by simpa using a3⟩, by simpa using p3⟩, ?_⟩
    refine LWp.seq ?_
    refine LWp.reg hT hW (fun | 120 => some <| .plain ⟨.tup [.d x.d, .d (.bool (decide (0 ≤ findI E a)))], false⟩ | _ => none) (by intro d; first | exact ⟨rfl, fun _ h => h⟩ | (split <;> exact ⟨rfl, fun _ h => h⟩)) ?_
    simp [evalExtract]
    refine ⟨by simpa using o1, ?_⟩
    refine LWp.seq ?_
    refine LWp.reg hT hW (fun | 126 => some <| .plain ⟨.tup [.d y.d, .d (.bool (decide (0 ≤ findI E b)))], false⟩ | _ => none) (by intro d; first | exact ⟨rfl, fun _ h => h⟩ | (split <;> exact ⟨rfl, fun _ h => h⟩)) ?_
    simp [evalExtract]
    refine ⟨by simpa using o2, ?_⟩
    refine LWp.seq ?_
    refine LWp.seq ?_
    refine LWp.reg hT hW (fun _ => none) (fun _ => ⟨rfl, fun _ h => h⟩) ?_
    simp
    refine LWp.iff ?_
    simp [h30]
    refine LWp.skip ?_
    simp
    refine LWp.seq ?_
    refine LWp.reg hT hW (fun _ => none) (fun _ => ⟨rfl, fun _ h => h⟩) ?_
    simp [(show [0, 1, 2, 3, 4] = List.range 5 from rfl)]
    refine LWp.weak (Weak.close 30 (x := strsD five3) (by simp [five3])) ?_
    refine LWp.seq ?_
    refine LWp.seq ?_
    refine LWp.reg hT hW (fun _ => none) (fun _ => ⟨rfl, fun _ h => h⟩) ?_
    simp
    refine LWp.block ?_
    refine LWp.loopW (ι := Nat) (fun i => mkEnv [(18, .d (dfsD P0.1)), (20, .d (dfsD P1.1)), (22, .d (dfsD P2.1)), (24, .d (dfsD P3.1)), (26, .bx 26 0), (28, .bx 28 0), (30, .d (strsD five3)), (31, .d (I64 i))]) (fun i => mkObs [(26, .box false ((cellsD x.d).map .d)), (28, .box false ((cellsD y.d).map .d))]) (fun i => i ≤ 5) (fun i => 5 - i) 0 (Weak.to [18, 20, 22, 24, 26, 28, 30, 31] [(26, 26), (28, 28)] (by decide) (by decide) (by simp [hp]) (by simp) (by simp)) (by simp) fun i hi19 => ?_
    refine LWp.seq ?_
    refine LWp.seq ?_
    have h5 : five3.length = 5 := rfl
    refine LWp.reg hT hW (fun _ => none) (fun _ => ⟨rfl, fun _ h => h⟩) ?_
    simp [h5]
    refine LWp.iff ?_
    simp
    refine ⟨fun h19 => ?_, fun h19 => ?_⟩
    · refine LWp.skip ?_
      simp
      refine LWp.seq ?_
      refine LWp.block ?_
      refine LWp.seq ?_
      have hi5 : i < five3.length := by rw [h5]; omega
      obtain ⟨s, hs⟩ : ∃ s, s = five3[i] := ⟨_, rfl⟩
      have hP := hP s
      refine LWp.reg hT hW (fun | 144 => some <| .plain ⟨.tup [.d ((defOf P0.1 s).getD default).d, .d (.bool (defOf P0.1 s).isSome)], true⟩ | _ => none) (by intro d; first | exact ⟨rfl, fun _ h => h⟩ | (split <;> exact ⟨rfl, fun _ h => h⟩)) ?_
      simp [evalExtract, hi5, ← hs]
      refine ⟨by simpa using Def_ok P0.1 s, ?_⟩
      refine LWp.seq ?_
      refine LWp.seq ?_
      refine LWp.regAny hT hW hMixed (lk [[], [0], [], [], [2, 3], [2, 3, 4], [0, 1, 2, 3, 4, 5]]) (lk [[], [], [148], [148], [148], [148], []]) (lk [[], [148], [], [], [], [], [153]]) (by kernel_rfl) (fun | 148 => some <| .plain ⟨.d (strsD (touches x)), true⟩ | 153 => some <| .plain ⟨.d (.bool (decide (s ∈ touches x))), true⟩ | _ => none) (by intro d; first | exact ⟨rfl, fun _ h => h⟩ | (split <;> exact ⟨rfl, fun _ h => h⟩)) ?_
      simp [hi5, ← hs]
      refine ⟨⟨by simpa using Touches_ok x xs.1 xs.2, In_ok _ _⟩, ?_⟩
      refine LWp.iff ?_
      simp
      refine ⟨fun h22 => ?_, fun h22 => ?_⟩
      · refine LWp.reg hT hW (fun | 160 => some <| .plain ⟨.tup [.d ((defOf P1.1 s).getD default).d, .d (.bool (defOf P1.1 s).isSome)], true⟩ | _ => none) (by intro d; first | exact ⟨rfl, fun _ h => h⟩ | (split <;> exact ⟨rfl, fun _ h => h⟩)) ?_
        simp [evalExtract, hi5, ← hs]
        refine ⟨by simpa using Def_ok P1.1 s, ?_⟩
        refine LWp.seq ?_
        refine LWp.seq ?_
        refine LWp.regAny hT hW hMixed (lk [[], [0], [], [], [2, 3], [2, 3, 4], [0, 1, 2, 3, 4, 5]]) (lk [[], [], [164], [164], [164], [164], []]) (lk [[], [164], [], [], [], [], [169]]) (by kernel_rfl) (fun | 164 => some <| .plain ⟨.d (strsD (touches y)), true⟩ | 169 => some <| .plain ⟨.d (.bool (decide (s ∈ touches y))), true⟩ | _ => none) (by intro d; first | exact ⟨rfl, fun _ h => h⟩ | (split <;> exact ⟨rfl, fun _ h => h⟩)) ?_
        simp [hi5, ← hs]
        refine ⟨⟨by simpa using Touches_ok y ys.1 ys.2, In_ok _ _⟩, ?_⟩
        refine LWp.iff ?_
        simp
        refine ⟨fun h24 => ?_, fun h24 => ?_⟩
        · refine LWp.reg hT hW (fun | 176 => some <| .plain ⟨.tup [.d ((defOf P2.1 s).getD default).d, .d (.bool (defOf P2.1 s).isSome)], true⟩ | _ => none) (by intro d; first | exact ⟨rfl, fun _ h => h⟩ | (split <;> exact ⟨rfl, fun _ h => h⟩)) ?_
          simp [evalExtract, hi5, ← hs]
          refine ⟨by simpa using Def_ok P2.1 s, ?_⟩
          refine LWp.seq ?_
          first | rw [if_pos h24] at hP | rw [if_neg h24, if_pos h22] at hP | rw [if_neg h24, if_neg h22] at hP
          have hdf := Def_ok P3.1 s
          rw [hP] at hdf
          refine LWp.reg hT hW (fun | 185 => some <| .plain ⟨.tup [.d ((defOf P3.1 s).getD default).d, .d (.bool (defOf P3.1 s).isSome)], true⟩ | _ => none) (by intro d; first | exact ⟨rfl, fun _ h => h⟩ | (split <;> exact ⟨rfl, fun _ h => h⟩)) ?_
          simp [evalExtract, hi5, ← hs, hP]
          refine ⟨by simpa using hdf, ?_⟩
          refine LWp.seq ?_
          refine LWp.reg hT hW (fun _ => none) (fun _ => ⟨rfl, fun _ h => h⟩) ?_
          simp
          refine LWp.iff ?_
          simp
          refine LWp.skip ?_
          simp
          refine LWp.reg hT hW (fun _ => none) (fun _ => ⟨rfl, fun _ h => h⟩) ?_
          simp
          refine ⟨by omega, ?_⟩
          refine loopQ.mk (i + 1) (Weak.to [18, 20, 22, 24, 26, 28, 30, 31] [(26, 26), (28, 28)] (by decide) (by decide) (by simp [hp]) (by simp) (by simp)) ?_ ?_
          · omega
          · omega
        · refine LWp.skip ?_
          simp
          refine LWp.seq ?_
          first | rw [if_pos h24] at hP | rw [if_neg h24, if_pos h22] at hP | rw [if_neg h24, if_neg h22] at hP
          have hdf := Def_ok P3.1 s
          rw [hP] at hdf
          refine LWp.reg hT hW (fun | 185 => some <| .plain ⟨.tup [.d ((defOf P3.1 s).getD default).d, .d (.bool (defOf P3.1 s).isSome)], true⟩ | _ => none) (by intro d; first | exact ⟨rfl, fun _ h => h⟩ | (split <;> exact ⟨rfl, fun _ h => h⟩)) ?_
          simp [evalExtract, hi5, ← hs, hP]
          refine ⟨by simpa using hdf, ?_⟩
          refine LWp.seq ?_
          refine LWp.reg hT hW (fun _ => none) (fun _ => ⟨rfl, fun _ h => h⟩) ?_
          simp
          refine LWp.iff ?_
          simp
          refine LWp.skip ?_
          simp
          refine LWp.reg hT hW (fun _ => none) (fun _ => ⟨rfl, fun _ h => h⟩) ?_
          simp
          refine ⟨by omega, ?_⟩
          refine loopQ.mk (i + 1) (Weak.to [18, 20, 22, 24, 26, 28, 30, 31] [(26, 26), (28, 28)] (by decide) (by decide) (by simp [hp]) (by simp) (by simp)) ?_ ?_
          · omega
          · omega
      · refine LWp.skip ?_
        simp
        refine LWp.seq ?_
        refine LWp.seq ?_
        refine LWp.regAny hT hW hMixed (lk [[], [0], [], [], [2, 3], [2, 3, 4], [0, 1, 2, 3, 4, 5]]) (lk [[], [], [164], [164], [164], [164], []]) (lk [[], [164], [], [], [], [], [169]]) (by kernel_rfl) (fun | 164 => some <| .plain ⟨.d (strsD (touches y)), true⟩ | 169 => some <| .plain ⟨.d (.bool (decide (s ∈ touches y))), true⟩ | _ => none) (by intro d; first | exact ⟨rfl, fun _ h => h⟩ | (split <;> exact ⟨rfl, fun _ h => h⟩)) ?_
        simp [hi5, ← hs]
        refine ⟨⟨by simpa using Touches_ok y ys.1 ys.2, In_ok _ _⟩, ?_⟩
        refine LWp.iff ?_
        simp
        refine ⟨fun h24 => ?_, fun h24 => ?_⟩
        · refine LWp.reg hT hW (fun | 176 => some <| .plain ⟨.tup [.d ((defOf P2.1 s).getD default).d, .d (.bool (defOf P2.1 s).isSome)], true⟩ | _ => none) (by intro d; first | exact ⟨rfl, fun _ h => h⟩ | (split <;> exact ⟨rfl, fun _ h => h⟩)) ?_
          simp [evalExtract, hi5, ← hs]
          refine ⟨by simpa using Def_ok P2.1 s, ?_⟩
          refine LWp.seq ?_
          first | rw [if_pos h24] at hP | rw [if_neg h24, if_pos h22] at hP | rw [if_neg h24, if_neg h22] at hP
          have hdf := Def_ok P3.1 s
          rw [hP] at hdf
          refine LWp.reg hT hW (fun | 185 => some <| .plain ⟨.tup [.d ((defOf P3.1 s).getD default).d, .d (.bool (defOf P3.1 s).isSome)], true⟩ | _ => none) (by intro d; first | exact ⟨rfl, fun _ h => h⟩ | (split <;> exact ⟨rfl, fun _ h => h⟩)) ?_
          simp [evalExtract, hi5, ← hs, hP]
          refine ⟨by simpa using hdf, ?_⟩
          refine LWp.seq ?_
          refine LWp.reg hT hW (fun _ => none) (fun _ => ⟨rfl, fun _ h => h⟩) ?_
          simp
          refine LWp.iff ?_
          simp
          refine LWp.skip ?_
          simp
          refine LWp.reg hT hW (fun _ => none) (fun _ => ⟨rfl, fun _ h => h⟩) ?_
          simp
          refine ⟨by omega, ?_⟩
          refine loopQ.mk (i + 1) (Weak.to [18, 20, 22, 24, 26, 28, 30, 31] [(26, 26), (28, 28)] (by decide) (by decide) (by simp [hp]) (by simp) (by simp)) ?_ ?_
          · omega
          · omega
        · refine LWp.skip ?_
          simp
          refine LWp.seq ?_
          first | rw [if_pos h24] at hP | rw [if_neg h24, if_pos h22] at hP | rw [if_neg h24, if_neg h22] at hP
          have hdf := Def_ok P3.1 s
          rw [hP] at hdf
          refine LWp.reg hT hW (fun | 185 => some <| .plain ⟨.tup [.d ((defOf P3.1 s).getD default).d, .d (.bool (defOf P3.1 s).isSome)], true⟩ | _ => none) (by intro d; first | exact ⟨rfl, fun _ h => h⟩ | (split <;> exact ⟨rfl, fun _ h => h⟩)) ?_
          simp [evalExtract, hi5, ← hs, hP]
          refine ⟨by simpa using hdf, ?_⟩
          refine LWp.seq ?_
          refine LWp.reg hT hW (fun _ => none) (fun _ => ⟨rfl, fun _ h => h⟩) ?_
          simp
          refine LWp.iff ?_
          simp
          refine LWp.skip ?_
          simp
          refine LWp.reg hT hW (fun _ => none) (fun _ => ⟨rfl, fun _ h => h⟩) ?_
          simp
          refine ⟨by omega, ?_⟩
          refine loopQ.mk (i + 1) (Weak.to [18, 20, 22, 24, 26, 28, 30, 31] [(26, 26), (28, 28)] (by decide) (by decide) (by simp [hp]) (by simp) (by simp)) ?_ ?_
          · omega
          · omega
    · refine LWp.exit ?_
      simp
      refine LWp.seq ?_
      refine LWp.reg hT hW (fun | 196 => some <| .plain ⟨.d (.bool true), true⟩ | _ => none) (by intro d; first | exact ⟨rfl, fun _ h => h⟩ | (split <;> exact ⟨rfl, fun _ h => h⟩)) ?_
      simp
      refine ⟨lives3_ok, ?_⟩
      refine LWp.ret ?_
      simp

end Go.Eng
