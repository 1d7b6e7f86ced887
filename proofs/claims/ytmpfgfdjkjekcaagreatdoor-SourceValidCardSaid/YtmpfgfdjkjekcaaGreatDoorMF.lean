/-
  Texts of the proofs of this seat, part 6. No condition.
-/
import Derived.Test.YtmpfgfdjkjekcaaGreatDoorME
import Derived.OpenShut
import Derived.Shelf.Strconv.Atoi
import Derived.Test.YtmpfgfdjkjekcaaGreatDoorProg
set_option linter.unusedVariables false
set_option linter.unusedSimpArgs false
namespace Go.Eng
open Go.Proofs
attribute [local simp] runL stepL evalG evalOp opLV constLV putEnv dstOk upd upds Res.plain Res.cond Res.fail evalBin evalUn seqQ blockQ argsEnv lookL lookH RetIs memless freshL evalPick evalMin bval bok evalLen evalIn strip whenC guardOps guardC slotsOf
  runM foldS stepI stepM maskE wrIn lk renO lookN evalCall evalCallee optAll resLV resObj retLV retObj retsLV retsObj evalLoad evalIndexAddr evalField solid cellsD_agg cellsD_int cellsD_bool cellsD_str cellsD_sl cellsD_ro cellsD_fn cellsL_agg cellsL_dagg cellsL_int cellsL_bool cellsL_str cellsL_sl cellsL_fn cellsL_ow cellsL_bx cellsL_lfn cellsL_nl takeL takeD mkAgg allD eqD eqDs kindsAre kindIs LObj.live TK.isNone TK.agg TK.isBool TK.isStr TK.isStruct Op.operands Call.operands
  evalBuildSlice evalAppend elemsOf evalStore evalBuild fillL lookupF putL evalSlice bound evalConv elemsS freezes frozen loadR
  mkEnv_at mkObs_at close_d close_agg close_ow close_bx close_fn close_nl touch_d touch_agg touch_ow touch_bx touch_fn touch_nl ren_d ren_agg ren_bx ren_rp ren_ow ren_fn ren_nl ren_junk retQ_ret retQ2_ret condQ_bool Nm.d Df.d Ed.d nmsD dfsD strsD edsD retC_ret nm_eq df_eq take_map_len take_map_app
  nm_t nm_d nm_td df_t df_d df_td str_t str_d str_td ed_t ed_d ed_td
  evalAppendIn evalBuildSliceC evalCopyC shortL evalApart evalAppendC evalAppendZ evalAppendG evalCapC isOc TK.isInt close_oc touch_oc ren_oc cellsL_oc evalCut evalClear evalCopy evalMake evalWrap evalCap evalNil isNilC lenL isInp gorc gorc2
  mapOf findD keyEq keyOk evalMakeMap evalRange zeroD zeroDV argsG shutG outN lenv retG0_ret retG0_normal retG1_ret retGR_ret renO close_mp touch_mp ren_mp optAll_d optAll_d' touch_ds cellsL_mp cellsD_mp cellsL_dmp
  evalMapSet evalPtr TK.isPtr evalToArr firstL retN_ret retsQ rvarL close_bm touch_bm ren_bm cellsD_bm cellsL_bm cellsL_lbm
attribute [local simp] cutQ_normal cutQ_ret cutQ_exit
section
attribute [local simp] Res.cond Nd.d_eq nd_t nd_dr nd_td ndsD
theorem RSize_step (x : Nd) (hw : weighN x ≤ 1000000000) (ih : ∀ y ∈ x.kids, weighN y ≤ 1000000000 → Ok Tryz.prog 19 [y.d] ⟨.d (I64 (sizeN y)), true⟩) : Ok Tryz.prog 19 [x.d] ⟨.d (I64 (sizeN x)), true⟩ := by
  refine Ok.ret Tryz.func19 (by kernel_rfl) (c := _) rfl Tryz.ntmps19 (by simp) Tryz.results19 (by intro _ h; cases h) fun w0 X hp => ?_
  refine LWp.seq ?_
  refine LWp.rz hT hW ?_
  simp
  refine LWp.seq ?_
  refine LWp.rz hT hW ?_
  simp
  refine LWp.seq ?_
  refine LWp.seq ?_
  refine LWp.rz hT hW ?_
  simp
  refine LWp.block ?_
  refine LWp.loopW (ι := Nat) (fun i => mkEnv [(1, .bx 1 0), (3, .d (I64 ((1 + sizeL (x.kids.take i) : Nat) : Int))), (4, .d (I64 i))]) (fun i => mkObs [(1, .box false [.d (I64 x.kind), .d (.str x.text), .d (I64 x.n), .d (ndsD x.kids)])]) (fun i => i ≤ x.kids.length) (fun i => x.kids.length - i) 0 (Weak.to [1, 3, 4] [(1, 1)] (by decide) (by decide) (by simp [hp]) (by simp [sizeL]) (by simp)) (Nat.zero_le _) fun i hi3 => ?_
  refine LWp.seq ?_
  refine LWp.seq ?_
  refine LWp.rz hT hW ?_
  simp
  refine LWp.iff ?_
  simp
  refine ⟨fun h3 => ?_, fun h3 => ?_⟩
  · refine LWp.skip ?_
    simp
    refine LWp.seq ?_
    refine LWp.block ?_
    have hi : i < x.kids.length := by omega
    have hk := ih _ (List.getElem_mem hi) (by have := kid_weigh hi; omega)
    have q1 := sizeL_take_le (l := x.kids) i
    have q2 := size_weigh x
    have q3 := size_weigh x.kids[i]
    have q4 := kid_weigh hi
    rw [sizeN_eq x] at q2
    refine LWp.ro hT hW (fun | 18 => some <| .plain ⟨.d (I64 (sizeN x.kids[i])), true⟩ | _ => none) ?_
    simp [hi]
    refine ⟨⟨by simpa using hk, by omega⟩, ?_⟩
    have := kids_weigh x
    refine LWp.rz hT hW ?_
    simp
    refine ⟨by omega, ?_⟩
    refine loopQ.mk (i + 1) (Weak.to [1, 3, 4] [(1, 1)] (by decide) (by decide) (by simp [hp]) (by simp [sizeL_succ hi, Int.add_assoc]) (by simp)) ?_ ?_
    · omega
    · omega
  · refine LWp.exit ?_
    simp
    refine LWp.seq ?_
    refine LWp.rz hT hW ?_
    simp
    refine LWp.ret ?_
    have hi : i = x.kids.length := by omega
    subst hi
    rw [List.take_length, sizeN_eq x]
    simp [Int.add_comm]
theorem RDepth_step (x : Nd) (hw : weighN x ≤ 1000000000) (ih : ∀ y ∈ x.kids, weighN y ≤ 1000000000 → Ok Tryz.prog 41 [y.d] ⟨.d (I64 (depthN y)), true⟩) : Ok Tryz.prog 41 [x.d] ⟨.d (I64 (depthN x)), true⟩ := by
  refine Ok.ret Tryz.func41 (by kernel_rfl) (c := _) rfl Tryz.ntmps41 (by simp) Tryz.results41 (by intro _ h; cases h) fun w0 X hp => ?_
  refine LWp.seq ?_
  refine LWp.rz hT hW ?_
  simp
  refine LWp.seq ?_
  refine LWp.rz hT hW ?_
  simp
  refine LWp.seq ?_
  refine LWp.seq ?_
  refine LWp.rz hT hW ?_
  simp
  refine LWp.block ?_
  refine LWp.loopW (ι := Nat) (fun i => mkEnv [(1, .bx 1 0), (3, .d (I64 (depthL (x.kids.take i)))), (4, .d (I64 i))]) (fun i => mkObs [(1, .box false [.d (I64 x.kind), .d (.str x.text), .d (I64 x.n), .d (ndsD x.kids)])]) (fun i => i ≤ x.kids.length) (fun i => x.kids.length - i) 0 (Weak.to [1, 3, 4] [(1, 1)] (by decide) (by decide) (by simp [hp]) (by simp [depthL]) (by simp)) (Nat.zero_le _) fun i hi3 => ?_
  refine LWp.seq ?_
  refine LWp.seq ?_
  refine LWp.rz hT hW ?_
  simp
  refine LWp.iff ?_
  simp
  refine ⟨fun h3 => ?_, fun h3 => ?_⟩
  · refine LWp.skip ?_
    simp
    refine LWp.seq ?_
    refine LWp.block ?_
    have hi : i < x.kids.length := by omega
    have hk := ih _ (List.getElem_mem hi) (by have := kid_weigh hi; omega)
    refine LWp.ro hT hW (fun | 18 => some <| .plain ⟨.d (I64 (depthN x.kids[i])), true⟩ | _ => none) ?_
    simp [hi]
    refine ⟨by simpa using hk, ?_⟩
    have := kids_weigh x
    refine LWp.rz hT hW ?_
    simp
    refine ⟨by omega, ?_⟩
    refine loopQ.mk (i + 1) (Weak.to [1, 3, 4] [(1, 1)] (by decide) (by decide) (by simp [hp]) (by simp [depthL_succ hi, max_nat]) (by simp)) ?_ ?_
    · omega
    · omega
  · refine LWp.exit ?_
    simp
    refine LWp.seq ?_
    have hi : i = x.kids.length := by omega
    subst hi
    rw [List.take_length]
    have q1 := depth_size x
    have q2 := size_weigh x
    have q3 := depthN_eq x
    refine LWp.rz hT hW ?_
    simp
    refine ⟨by omega, ?_⟩
    refine LWp.ret ?_
    simp [q3]
theorem RSize_ok (x : Nd) : weighN x ≤ 1000000000 → Ok Tryz.prog 19 [x.d] ⟨.d (I64 (sizeN x)), true⟩ :=
  Nd.ind (p := fun x => weighN x ≤ 1000000000 → Ok Tryz.prog 19 [x.d] ⟨.d (I64 (sizeN x)), true⟩) (fun _ _ _ _ ih hw => RSize_step _ hw ih) x
theorem RDepth_ok (x : Nd) : weighN x ≤ 1000000000 → Ok Tryz.prog 41 [x.d] ⟨.d (I64 (depthN x)), true⟩ :=
  Nd.ind (p := fun x => weighN x ≤ 1000000000 → Ok Tryz.prog 41 [x.d] ⟨.d (I64 (depthN x)), true⟩) (fun _ _ _ _ ih hw => RDepth_step _ hw ih) x
theorem RLevel_ok (x : Nd) : Ok Tryz.prog 119 [x.d] ⟨.d (I64 (lvlN x.kind)), true⟩ := by
  refine Ok.ret Tryz.func119 (by kernel_rfl) (c := _) rfl Tryz.ntmps119 (by simp) Tryz.results119 (by intro _ h; cases h) fun w0 X hp => ?_
  refine LWp.seq ?_
  refine LWp.rz hT hW ?_
  simp
  refine LWp.seq ?_
  refine LWp.seq ?_
  refine LWp.rz hT hW ?_
  simp
  refine LWp.block ?_
  refine LWp.seqCut (ι := BC) (fun ⟨b⟩ => mkEnv [(1, .bx 1 0), (4, .d (I64 (x.kind))), (5, .d (.bool b))]) (fun ⟨b⟩ => mkObs [(1, .box false [.d (I64 x.kind), .d (.str x.text), .d (I64 x.n), .d (ndsD x.kids)])]) (fun ⟨b⟩ => b = true ↔ (x.kind = 26 ∨ x.kind = 27 ∨ x.kind = 28)) ?_ fun ⟨b⟩ hc5 => ?_
  · refine LWp.seq ?_
    refine LWp.rz hT hW ?_
    simp
    refine LWp.iff ?_
    simp
    refine ⟨fun h2 => ?_, fun h2 => ?_⟩
    · refine LWp.skip ?_
      simp
      refine cutQ.mk ⟨decide (x.kind = 26)⟩ (Weak.to [1, 4, 5] [(1, 1)] (by decide) (by decide) (by simp [hp]) (by simp) (by simp)) ?_
      simp [h2]
    · refine LWp.seq ?_
      refine LWp.rz hT hW ?_
      simp
      refine LWp.iff ?_
      simp
      refine ⟨fun h3 => ?_, fun h3 => ?_⟩
      · refine LWp.skip ?_
        simp
        refine cutQ.mk ⟨decide (x.kind = 27)⟩ (Weak.to [1, 4, 5] [(1, 1)] (by decide) (by decide) (by simp [hp]) (by simp) (by simp)) ?_
        simp [h3]
      · refine LWp.rz hT hW ?_
        simp
        refine cutQ.mk ⟨decide (x.kind = 28)⟩ (Weak.to [1, 4, 5] [(1, 1)] (by decide) (by decide) (by simp [hp]) (by simp) (by simp)) ?_
        simp only [decide_eq_true_eq]; omega
  · refine LWp.iff ?_
    simp
    refine ⟨fun h5 => ?_, fun h5 => ?_⟩
    · have q5 := hc5.1 h5
      refine LWp.seq ?_
      refine LWp.rz hT hW ?_
      simp
      refine LWp.ret ?_
      have e : lvlN x.kind = 1 := by rcases q5 with h | h | h <;> rw [h] <;> rfl
      simp [e]
    · have q5 : ¬ (x.kind = 26 ∨ x.kind = 27 ∨ x.kind = 28) := fun q => by simp [hc5.2 q] at h5
      refine LWp.seqCut (ι := BC) (fun ⟨b⟩ => mkEnv [(1, .bx 1 0), (4, .d (I64 (x.kind))), (9, .d (.bool b))]) (fun ⟨b⟩ => mkObs [(1, .box false [.d (I64 x.kind), .d (.str x.text), .d (I64 x.n), .d (ndsD x.kids)])]) (fun ⟨b⟩ => b = true ↔ (x.kind = 29 ∨ x.kind = 30)) ?_ fun ⟨b⟩ hc8 => ?_
      · refine LWp.seq ?_
        refine LWp.rz hT hW ?_
        simp
        refine LWp.iff ?_
        simp
        refine ⟨fun h6 => ?_, fun h6 => ?_⟩
        · refine LWp.skip ?_
          simp
          refine cutQ.mk ⟨decide (x.kind = 29)⟩ (Weak.to [1, 4, 9] [(1, 1)] (by decide) (by decide) (by simp [hp]) (by simp) (by simp)) ?_
          simp [h6]
        · refine LWp.rz hT hW ?_
          simp
          refine cutQ.mk ⟨decide (x.kind = 30)⟩ (Weak.to [1, 4, 9] [(1, 1)] (by decide) (by decide) (by simp [hp]) (by simp) (by simp)) ?_
          simp only [decide_eq_true_eq]; omega
      · refine LWp.iff ?_
        simp
        refine ⟨fun h8 => ?_, fun h8 => ?_⟩
        · have q8 := hc8.1 h8
          refine LWp.seq ?_
          refine LWp.rz hT hW ?_
          simp
          refine LWp.ret ?_
          have e : lvlN x.kind = 2 := by rcases q8 with h | h <;> rw [h] <;> rfl
          simp [e]
        · have q8 : ¬ (x.kind = 29 ∨ x.kind = 30) := fun q => by simp [hc8.2 q] at h8
          refine LWp.seq ?_
          refine LWp.rz hT hW ?_
          simp
          refine LWp.iff ?_
          simp
          refine ⟨fun h9 => ?_, fun h9 => ?_⟩
          · refine LWp.seq ?_
            refine LWp.rz hT hW ?_
            simp
            refine LWp.ret ?_
            have e : lvlN x.kind = 3 := by rw [h9]; rfl
            simp [e]
          · refine LWp.skip ?_
            simp
            refine LWp.seq ?_
            refine LWp.rz hT hW ?_
            simp
            refine LWp.ret ?_
            have e : lvlN x.kind = 4 := by unfold lvlN; rw [if_neg (by omega)]
            simp [e]
theorem RInside_ok (x : Nd) (least : Int) (hx : Ok Tryz.prog 55 [x.d] ⟨.d (.str (exprT x)), true⟩) (hl : (exprT x).length ≤ 10000000000) : Ok Tryz.prog 87 [x.d, I64 least] ⟨.d (.str (paren (decide (lvlN x.kind < least)) (exprT x))), true⟩ := by
  refine Ok.ret Tryz.func87 (by kernel_rfl) (c := _) rfl Tryz.ntmps87 (by simp) Tryz.results87 (by intro _ h; cases h) fun w0 X hp => ?_
  refine LWp.seq ?_
  refine LWp.rz hT hW ?_
  simp
  refine LWp.seq ?_
  refine LWp.seq ?_
  have hv := RLevel_ok x
  refine LWp.ro hT hW (fun | 6 => some <| .plain ⟨.d (I64 (lvlN x.kind)), true⟩ | _ => none) ?_
  simp
  refine ⟨by simpa using hv, ?_⟩
  refine LWp.iff ?_
  simp
  refine ⟨fun h1 => ?_, fun h1 => ?_⟩
  · refine LWp.seq ?_
    refine LWp.ro hT hW (fun | 10 => some <| .plain ⟨.d (.str (exprT x)), true⟩ | _ => none) ?_
    simp
    refine ⟨by simpa using hx, ?_⟩
    refine LWp.ret ?_
    simp [paren]
    intro h
    omega
  · refine LWp.skip ?_
    simp
    refine LWp.seq ?_
    refine LWp.ro hT hW (fun | 12 => some <| .plain ⟨.d (.str (exprT x)), true⟩ | _ => none) ?_
    simp
    refine ⟨⟨⟨by simpa using hx, by omega⟩, by omega⟩, ?_⟩
    refine LWp.ret ?_
    simp [paren]
    intro h
    omega
theorem u8_wrap {x : Int} (h0 : 0 ≤ x) (h : x < 256) : IntKind.u8.wrap x = x := by
  unfold IntKind.wrap
  simp [IntKind.bits, IntKind.signed]
  omega
theorem itoa_nat (m : Nat) : itoaS (m : Int) = decS m := by unfold itoaS; rw [if_neg (by omega)]; rfl
theorem itoa_neg {m : Nat} (h : 0 < m) : itoaS (-(m : Int)) = 45 :: decS m := by unfold itoaS; rw [if_pos (by omega), Int.natAbs_neg]; rfl
theorem dec_split {n : Nat} (h : n < 1000) (h1 : 10 ≤ n) : decS n = decS (n / 10) ++ decS (n % 10) := by
  have h2 : n % 10 < 10 := Nat.mod_lt _ (by decide)
  unfold decS
  rw [if_neg (by omega), if_pos h2]
  by_cases q : n < 100
  · rw [if_pos q, if_pos (by omega)]; rfl
  · rw [if_neg q, if_neg (by omega), if_pos (by omega), Nat.div_div_eq_div_mul]; rfl
theorem dec_one {n : Nat} (h : n < 10) : decS n = [UInt8.ofNat (48 + n)] := by unfold decS; rw [if_pos h]
theorem RDecimal_step (n : Int) (h1 : -999 ≤ n) (h2 : n ≤ 999) (ih : ∀ m : Int, 0 ≤ m → m ≤ 999 → (n < 0 ∨ m < n) → Ok Tryz.prog 44 [I64 m] ⟨.d (.str (itoaS m)), true⟩) : Ok Tryz.prog 44 [I64 n] ⟨.d (.str (itoaS n)), true⟩ := by
  refine Ok.ret Tryz.func44 (by kernel_rfl) (c := _) rfl Tryz.ntmps44 (by simp) Tryz.results44 (by intro _ h; cases h) fun w0 X hp => ?_
  refine LWp.seq ?_
  refine LWp.rz hT hW ?_
  simp
  refine LWp.seq ?_
  refine LWp.seq ?_
  refine LWp.rz hT hW ?_
  simp
  refine LWp.iff ?_
  simp
  refine ⟨fun h1 => ?_, fun h1 => ?_⟩
  · refine LWp.seq ?_
    obtain ⟨m, hm⟩ : ∃ m : Nat, n = -(m : Int) := ⟨n.natAbs, by omega⟩
    obtain ⟨a, ha⟩ : ∃ a, a = m / 10 := ⟨_, rfl⟩
    obtain ⟨b, hb⟩ : ∃ b, b = m % 10 := ⟨_, rfl⟩
    have e1 : n.tdiv 10 = -(a : Int) := by subst hm ha; rw [Int.neg_tdiv]; rfl
    have e2 : n.tmod 10 = -(b : Int) := by subst hm hb; rw [Int.neg_tmod]; rfl
    have c1 := ih (a : Int) (by omega) (by omega) (by omega)
    have c2 := ih (b : Int) (by omega) (by omega) (by omega)
    have l1 := itoa_len (a : Int)
    have l2 := itoa_len (b : Int)
    have z1 : 0 - -(a : Int) = (a : Int) := by omega
    have z2 : 0 - -(b : Int) = (b : Int) := by omega
    refine LWp.ro hT hW (fun | 8 => some <| .plain ⟨.d (.str (itoaS (a : Int))), true⟩ | 13 => some <| .plain ⟨.d (.str (itoaS (b : Int))), true⟩ | _ => none) ?_
    simp [e1, e2]
    refine ⟨by (repeat' with_reducible apply And.intro) <;> first | omega | exact c1 | exact c2 | (simp only [List.length_cons]; omega), ?_⟩
    refine LWp.ret ?_
    simp
    subst hm ha hb
    rw [itoa_neg (by omega), itoa_nat, itoa_nat, dec_split (n := m) (by omega) (by omega)]
  · refine LWp.skip ?_
    simp
    refine LWp.seq ?_
    refine LWp.seq ?_
    refine LWp.rz hT hW ?_
    simp
    refine LWp.iff ?_
    simp
    refine ⟨fun h3 => ?_, fun h3 => ?_⟩
    · refine LWp.seq ?_
      obtain ⟨m, hm⟩ : ∃ m : Nat, n = -(m : Int) := ⟨n.natAbs, by omega⟩
      have c1 := ih (m : Int) (by omega) (by omega) (by omega)
      have l1 := itoa_len (m : Int)
      have z1 : 0 - n = (m : Int) := by omega
      refine LWp.ro hT hW (fun | 19 => some <| .plain ⟨.d (.str (itoaS (m : Int))), true⟩ | _ => none) ?_
      simp [z1]
      refine ⟨by (repeat' with_reducible apply And.intro) <;> first | omega | exact c1, ?_⟩
      refine LWp.ret ?_
      simp
      subst hm
      rw [itoa_neg (by omega), itoa_nat]
    · refine LWp.skip ?_
      simp
      refine LWp.seq ?_
      refine LWp.seq ?_
      refine LWp.rz hT hW ?_
      simp
      refine LWp.iff ?_
      simp
      refine ⟨fun h5 => ?_, fun h5 => ?_⟩
      · refine LWp.seq ?_
        obtain ⟨m, hm⟩ : ∃ m : Nat, n = (m : Int) := ⟨n.natAbs, by omega⟩
        have w1 : IntKind.u8.wrap (48 + n) = 48 + n := u8_wrap (by omega) (by omega)
        refine LWp.rz hT hW ?_
        simp [w1]
        refine ⟨by (repeat' with_reducible apply And.intro) <;> first | omega | decide, ?_⟩
        refine LWp.ret ?_
        simp
        subst hm
        rw [itoa_nat, dec_one (by omega)]
        rfl
      · refine LWp.skip ?_
        simp
        refine LWp.seq ?_
        obtain ⟨m, hm⟩ : ∃ m : Nat, n = (m : Int) := ⟨n.natAbs, by omega⟩
        obtain ⟨a, ha⟩ : ∃ a, a = m / 10 := ⟨_, rfl⟩
        obtain ⟨b, hb⟩ : ∃ b, b = m % 10 := ⟨_, rfl⟩
        have e1 : n.tdiv 10 = (a : Int) := by subst hm ha; rfl
        have e2 : n.tmod 10 = (b : Int) := by subst hm hb; rfl
        have c1 := ih (a : Int) (by omega) (by omega) (by omega)
        have l1 := itoa_len (a : Int)
        have w1 : IntKind.u8.wrap (48 + (b : Int)) = 48 + (b : Int) := u8_wrap (by omega) (by omega)
        refine LWp.regAny hT hW hMixed (lk [[],[0],[0,1],[],[3],[3,4],[3,4,5],[3,4,5,6],[3,4,5,6,7],[0,1,2,3,4,5,6,7,8],[0,1,2,3,4,5,6,7,8,9]]) (lk [[35],[35],[35],[30],[30],[30],[30],[30],[30],[],[]]) (lk [[],[],[30],[],[],[],[],[35],[],[],[]]) (by kernel_rfl) (fun | 30 => some <| .plain ⟨.d (.str (itoaS (a : Int))), true⟩ | _ => none) (by intro d; first | exact ⟨rfl, fun _ h => h⟩ | (split <;> exact ⟨rfl, fun _ h => h⟩)) ?_
        simp [e1, e2, w1]
        refine ⟨by (repeat' with_reducible apply And.intro) <;> first | omega | exact c1 | decide, ?_⟩
        refine LWp.ret ?_
        simp
        subst hm ha hb
        rw [itoa_nat, itoa_nat, dec_split (n := m) (by omega) (by omega), dec_one (n := m % 10) (by omega)]
        rfl
theorem RDecimal_ok (n : Int) (h1 : -999 ≤ n) (h2 : n ≤ 999) : Ok Tryz.prog 44 [I64 n] ⟨.d (.str (itoaS n)), true⟩ := by
  have pos : ∀ k : Nat, k ≤ 999 → Ok Tryz.prog 44 [I64 (k : Int)] ⟨.d (.str (itoaS (k : Int))), true⟩ := fun k => by
    induction k using Nat.strongRecOn with
    | ind k ih =>
      intro hk
      refine RDecimal_step _ (by omega) (by omega) fun m h0 _ hm => ?_
      obtain ⟨j, rfl⟩ := Int.eq_ofNat_of_zero_le h0
      exact ih j (by omega) (by omega)
  refine RDecimal_step n h1 h2 fun m h0 hm _ => ?_
  obtain ⟨j, rfl⟩ := Int.eq_ofNat_of_zero_le h0
  exact pos j (by omega)
theorem bin_l {x a b : Nd} (h : exprT x = paren (decide (lvlN a.kind < (if levelAt x.kind = 1 then 2 else levelAt x.kind))) (exprT a) ++ 32 :: (signAt x.kind ++ 32 :: paren (decide (lvlN b.kind < levelAt x.kind + 1)) (exprT b))) {l m : Int} {s : Str}
    (hl : (if levelAt x.kind = 1 then 2 else levelAt x.kind) = l) (hm : levelAt x.kind + 1 = m) (hs : signAt x.kind = s) : exprT x = paren (decide (lvlN a.kind < l)) (exprT a) ++ 32 :: (s ++ 32 :: paren (decide (lvlN b.kind < m)) (exprT b)) := by
  rw [h, hl, hm, hs]
theorem RExpr_step (x : Nd) (hr : rightN x = true) (he : isExprK x.kind = true) (hw : weighN x ≤ 1000000000) (ih : ∀ y ∈ x.kids, rightN y = true → isExprK y.kind = true → weighN y ≤ 1000000000 → Ok Tryz.prog 55 [y.d] ⟨.d (.str (exprT y)), true⟩) : Ok Tryz.prog 55 [x.d] ⟨.d (.str (exprT x)), true⟩ := by
  refine Ok.ret Tryz.func55 (by kernel_rfl) (c := _) rfl Tryz.ntmps55 (by simp) Tryz.results55 (by intro _ h; cases h) fun w0 X hp => ?_
  obtain ⟨f0, f32, f33, f36, f34, f26⟩ := expr_facts hr he
  have hwx := weighN_eq x
  refine LWp.seq ?_
  refine LWp.rz hT hW ?_
  simp
  refine LWp.seq ?_
  refine LWp.seq ?_
  refine LWp.rz hT hW ?_
  simp
  refine LWp.block ?_
  refine LWp.seq ?_
  refine LWp.rz hT hW ?_
  simp
  refine LWp.iff ?_
  simp
  refine ⟨fun h2 => ?_, fun h2 => ?_⟩
  · refine LWp.seq ?_
    obtain ⟨q1, q2, q3⟩ := f32 h2
    have hi := RDecimal_ok x.n (by omega) q3
    refine LWp.ro hT hW (fun | 11 => some <| .plain ⟨.d (.str (itoaS x.n)), true⟩ | _ => none) ?_
    simp
    refine ⟨hi, ?_⟩
    refine LWp.ret ?_
    simp [q1]
  · refine LWp.seq ?_
    refine LWp.rz hT hW ?_
    simp
    refine LWp.iff ?_
    simp
    refine ⟨fun h4 => ?_, fun h4 => ?_⟩
    · refine LWp.seq ?_
      refine LWp.rz hT hW ?_
      simp
      refine ⟨by omega, ?_⟩
      refine LWp.ret ?_
      simp [f33 h4]
    · refine LWp.seqCut (ι := BC) (fun ⟨b⟩ => mkEnv [(1, .bx 1 0), (6, .d (I64 (x.kind))), (17, .d (.bool b))]) (fun ⟨b⟩ => mkObs [(1, .box false [.d (I64 x.kind), .d (.str x.text), .d (I64 x.n), .d (ndsD x.kids)])]) (fun ⟨b⟩ => b = true ↔ (x.kind = 34 ∨ x.kind = 35)) ?_ fun ⟨b⟩ hc8 => ?_
      · refine LWp.seq ?_
        refine LWp.rz hT hW ?_
        simp
        refine LWp.iff ?_
        simp
        refine ⟨fun h6 => ?_, fun h6 => ?_⟩
        · refine LWp.skip ?_
          simp
          refine cutQ.mk ⟨decide (x.kind = 34)⟩ (Weak.to [1, 6, 17] [(1, 1)] (by decide) (by decide) (by simp [hp]) (by simp) (by simp)) ?_
          simp [h6]
        · refine LWp.rz hT hW ?_
          simp
          refine cutQ.mk ⟨decide (x.kind = 35)⟩ (Weak.to [1, 6, 17] [(1, 1)] (by decide) (by decide) (by simp [hp]) (by simp) (by simp)) ?_
          simp only [decide_eq_true_eq]; omega
      · refine LWp.iff ?_
        simp
        refine ⟨fun h8 => ?_, fun h8 => ?_⟩
        · have q8 := hc8.1 h8
          refine LWp.seq ?_
          refine LWp.rz hT hW ?_
          simp
          refine LWp.ret ?_
          simp [f34 q8]
        · have q8 : ¬ (x.kind = 34 ∨ x.kind = 35) := fun q => by simp [hc8.2 q] at h8
          refine LWp.seq ?_
          refine LWp.rz hT hW ?_
          simp
          refine LWp.iff ?_
          simp
          refine ⟨fun h9 => ?_, fun h9 => ?_⟩
          · refine LWp.seq ?_
            refine LWp.rz hT hW ?_
            simp
            refine LWp.ret ?_
            simp [f36 h9, sKind]
          · refine LWp.skip ?_
            simp
            refine LWp.seq ?_
            have hk31 : x.kind ≤ 31 := by omega
            obtain ⟨a, b', hks, ra, ea, rb, eb, hTx⟩ := f26 hk31
            rw [hks] at hwx ih
            simp only [weighL] at hwx
            have la := exprT_len a ra ea
            have lb := exprT_len b' rb eb
            have pa := fun c => paren_len c (exprT a)
            have pb := fun c => paren_len c (exprT b')
            have ka := fun l => RInside_ok a l (ih a (by simp) ra ea (by omega)) (by omega)
            have kb := fun l => RInside_ok b' l (ih b' (by simp) rb eb (by omega)) (by omega)
            refine LWp.rz hT hW ?_
            simp [hks]
            refine LWp.seq ?_
            refine LWp.rz hT hW ?_
            simp [hks]
            refine LWp.seq ?_
            refine LWp.seq ?_
            refine LWp.rz hT hW ?_
            simp
            refine LWp.block ?_
            refine LWp.seq ?_
            refine LWp.rz hT hW ?_
            simp
            refine LWp.iff ?_
            simp
            refine ⟨fun h14 => ?_, fun h14 => ?_⟩
            · refine LWp.seq ?_
              have pa15 := pa (decide (lvlN a.kind < 2))
              have pb15 := pb (decide (lvlN b'.kind < 2))
              have ka15 := ka 2
              have kb15 := kb 2
              have e15 := bin_l hTx (l := 2) (m := 2) (s := [60]) (by rw [h14]; rfl) (by rw [h14]; rfl) (by rw [h14]; rfl)
              refine LWp.regAny hT hW hMixed (lk [[],[0],[0,1],[],[0,1,3],[0,1,2,3,4],[0,1,2,3,4,5]]) (lk [[],[],[40],[37],[],[],[]]) (lk [[],[37],[],[],[40],[],[]]) (by kernel_rfl) (fun | 37 => some <| .plain ⟨.d (.str (paren (decide (lvlN a.kind < 2)) (exprT a))), true⟩ | 40 => some <| .plain ⟨.d (.str (paren (decide (lvlN b'.kind < 2)) (exprT b'))), true⟩ | _ => none) (by intro d; first | exact ⟨rfl, fun _ h => h⟩ | (split <;> exact ⟨rfl, fun _ h => h⟩)) ?_
              simp
              refine ⟨by (repeat' with_reducible apply And.intro) <;> first | omega | (simpa using ka15) | (simpa using kb15), ?_⟩
              refine LWp.ret ?_
              simp [e15]
            · refine LWp.seq ?_
              refine LWp.rz hT hW ?_
              simp
              refine LWp.iff ?_
              simp
              refine ⟨fun h16 => ?_, fun h16 => ?_⟩
              · refine LWp.seq ?_
                have pa17 := pa (decide (lvlN a.kind < 2))
                have pb17 := pb (decide (lvlN b'.kind < 2))
                have ka17 := ka 2
                have kb17 := kb 2
                have e17 := bin_l hTx (l := 2) (m := 2) (s := [60, 61]) (by rw [h16]; rfl) (by rw [h16]; rfl) (by rw [h16]; rfl)
                refine LWp.regAny hT hW hMixed (lk [[],[0],[0,1],[],[0,1,3],[0,1,2,3,4],[0,1,2,3,4,5]]) (lk [[],[],[48],[45],[],[],[]]) (lk [[],[45],[],[],[48],[],[]]) (by kernel_rfl) (fun | 45 => some <| .plain ⟨.d (.str (paren (decide (lvlN a.kind < 2)) (exprT a))), true⟩ | 48 => some <| .plain ⟨.d (.str (paren (decide (lvlN b'.kind < 2)) (exprT b'))), true⟩ | _ => none) (by intro d; first | exact ⟨rfl, fun _ h => h⟩ | (split <;> exact ⟨rfl, fun _ h => h⟩)) ?_
                simp
                refine ⟨by (repeat' with_reducible apply And.intro) <;> first | omega | (simpa using ka17) | (simpa using kb17), ?_⟩
                refine LWp.ret ?_
                simp [e17]
              · refine LWp.seq ?_
                refine LWp.rz hT hW ?_
                simp
                refine LWp.iff ?_
                simp
                refine ⟨fun h18 => ?_, fun h18 => ?_⟩
                · refine LWp.seq ?_
                  have pa19 := pa (decide (lvlN a.kind < 2))
                  have pb19 := pb (decide (lvlN b'.kind < 2))
                  have ka19 := ka 2
                  have kb19 := kb 2
                  have e19 := bin_l hTx (l := 2) (m := 2) (s := [61, 61]) (by rw [h18]; rfl) (by rw [h18]; rfl) (by rw [h18]; rfl)
                  refine LWp.regAny hT hW hMixed (lk [[],[0],[0,1],[],[0,1,3],[0,1,2,3,4],[0,1,2,3,4,5]]) (lk [[],[],[56],[53],[],[],[]]) (lk [[],[53],[],[],[56],[],[]]) (by kernel_rfl) (fun | 53 => some <| .plain ⟨.d (.str (paren (decide (lvlN a.kind < 2)) (exprT a))), true⟩ | 56 => some <| .plain ⟨.d (.str (paren (decide (lvlN b'.kind < 2)) (exprT b'))), true⟩ | _ => none) (by intro d; first | exact ⟨rfl, fun _ h => h⟩ | (split <;> exact ⟨rfl, fun _ h => h⟩)) ?_
                  simp
                  refine ⟨by (repeat' with_reducible apply And.intro) <;> first | omega | (simpa using ka19) | (simpa using kb19), ?_⟩
                  refine LWp.ret ?_
                  simp [e19]
                · refine LWp.seq ?_
                  refine LWp.rz hT hW ?_
                  simp
                  refine LWp.iff ?_
                  simp
                  refine ⟨fun h20 => ?_, fun h20 => ?_⟩
                  · refine LWp.seq ?_
                    have pa21 := pa (decide (lvlN a.kind < 2))
                    have pb21 := pb (decide (lvlN b'.kind < 3))
                    have ka21 := ka 2
                    have kb21 := kb 3
                    have e21 := bin_l hTx (l := 2) (m := 3) (s := [43]) (by rw [h20]; rfl) (by rw [h20]; rfl) (by rw [h20]; rfl)
                    refine LWp.regAny hT hW hMixed (lk [[],[0],[0,1],[],[0,1,3],[0,1,2,3,4],[0,1,2,3,4,5]]) (lk [[],[],[64],[61],[],[],[]]) (lk [[],[61],[],[],[64],[],[]]) (by kernel_rfl) (fun | 61 => some <| .plain ⟨.d (.str (paren (decide (lvlN a.kind < 2)) (exprT a))), true⟩ | 64 => some <| .plain ⟨.d (.str (paren (decide (lvlN b'.kind < 3)) (exprT b'))), true⟩ | _ => none) (by intro d; first | exact ⟨rfl, fun _ h => h⟩ | (split <;> exact ⟨rfl, fun _ h => h⟩)) ?_
                    simp
                    refine ⟨by (repeat' with_reducible apply And.intro) <;> first | omega | (simpa using ka21) | (simpa using kb21), ?_⟩
                    refine LWp.ret ?_
                    simp [e21]
                  · refine LWp.seq ?_
                    refine LWp.rz hT hW ?_
                    simp
                    refine LWp.iff ?_
                    simp
                    refine ⟨fun h22 => ?_, fun h22 => ?_⟩
                    · refine LWp.seq ?_
                      have pa23 := pa (decide (lvlN a.kind < 2))
                      have pb23 := pb (decide (lvlN b'.kind < 3))
                      have ka23 := ka 2
                      have kb23 := kb 3
                      have e23 := bin_l hTx (l := 2) (m := 3) (s := [45]) (by rw [h22]; rfl) (by rw [h22]; rfl) (by rw [h22]; rfl)
                      refine LWp.regAny hT hW hMixed (lk [[],[0],[0,1],[],[0,1,3],[0,1,2,3,4],[0,1,2,3,4,5]]) (lk [[],[],[72],[69],[],[],[]]) (lk [[],[69],[],[],[72],[],[]]) (by kernel_rfl) (fun | 69 => some <| .plain ⟨.d (.str (paren (decide (lvlN a.kind < 2)) (exprT a))), true⟩ | 72 => some <| .plain ⟨.d (.str (paren (decide (lvlN b'.kind < 3)) (exprT b'))), true⟩ | _ => none) (by intro d; first | exact ⟨rfl, fun _ h => h⟩ | (split <;> exact ⟨rfl, fun _ h => h⟩)) ?_
                      simp
                      refine ⟨by (repeat' with_reducible apply And.intro) <;> first | omega | (simpa using ka23) | (simpa using kb23), ?_⟩
                      refine LWp.ret ?_
                      simp [e23]
                    · refine LWp.skip ?_
                      simp
                      refine LWp.seq ?_
                      have pa24 := pa (decide (lvlN a.kind < 3))
                      have pb24 := pb (decide (lvlN b'.kind < 4))
                      have ka24 := ka 3
                      have kb24 := kb 4
                      have e24 := bin_l hTx (l := 3) (m := 4) (s := [42]) (by rw [(show x.kind = 31 by omega)]; rfl) (by rw [(show x.kind = 31 by omega)]; rfl) (by rw [(show x.kind = 31 by omega)]; rfl)
                      refine LWp.regAny hT hW hMixed (lk [[],[0],[0,1],[],[0,1,3],[0,1,2,3,4],[0,1,2,3,4,5]]) (lk [[],[],[78],[75],[],[],[]]) (lk [[],[75],[],[],[78],[],[]]) (by kernel_rfl) (fun | 75 => some <| .plain ⟨.d (.str (paren (decide (lvlN a.kind < 3)) (exprT a))), true⟩ | 78 => some <| .plain ⟨.d (.str (paren (decide (lvlN b'.kind < 4)) (exprT b'))), true⟩ | _ => none) (by intro d; first | exact ⟨rfl, fun _ h => h⟩ | (split <;> exact ⟨rfl, fun _ h => h⟩)) ?_
                      simp
                      refine ⟨by (repeat' with_reducible apply And.intro) <;> first | omega | (simpa using ka24) | (simpa using kb24), ?_⟩
                      refine LWp.ret ?_
                      simp [e24]
theorem RExpr_ok (x : Nd) : rightN x = true → isExprK x.kind = true → weighN x ≤ 1000000000 → Ok Tryz.prog 55 [x.d] ⟨.d (.str (exprT x)), true⟩ :=
  Nd.ind (p := fun x => rightN x = true → isExprK x.kind = true → weighN x ≤ 1000000000 → Ok Tryz.prog 55 [x.d] ⟨.d (.str (exprT x)), true⟩) (fun _ _ _ _ ih hr he hw => RExpr_step _ hr he hw ih) x
end
open Go.Proofs
section
attribute [local simp] Res.cond Nd.d_eq nd_t nd_dr nd_td ndsD
theorem cmd_one {x : Nd} (h : CmdR x.kind x.text x.n x.kids) (hk : x.kind = 15 ∨ x.kind = 22 ∨ x.kind = 16 ∨ x.kind = 23 ∨ x.kind = 24) : ∃ e, x.kids = [e] ∧ rightN e = true ∧ isExprK e.kind = true ∧ x.n = 0 := by
  obtain ⟨_, _, _, h4⟩ := cmd_facts h
  have key : ∀ e, x.kids = [e] → x.n = 0 → ∃ e, x.kids = [e] ∧ rightN e = true ∧ isExprK e.kind = true ∧ x.n = 0 := fun e he hn => ⟨e, he, (h4 e (by rw [he]; simp)).1, (h4 e (by rw [he]; simp)).2, hn⟩
  rcases h with ⟨h1, h2, h3, h4⟩ | ⟨h1, h2, h3, e, h4, h5, h6⟩ | ⟨h1, h2, h3, u, h4, h5⟩ | ⟨h1, h2, h3, h4, h5⟩ | ⟨h1, h2, h3, h4⟩ | ⟨h1, h2, h3, h4⟩ | ⟨h1, h2, h3, e, h4, h5, h6⟩
  · omega
  · exact key _ h4 h3
  · exact key _ h4 h3
  · omega
  · omega
  · omega
  · exact key _ h4 h3
theorem cmd_none {x : Nd} (h : CmdR x.kind x.text x.n x.kids) (hk : x.kind = 13 ∨ x.kind = 14 ∨ x.kind = 17 ∨ x.kind = 18) : x.kids = [] ∧ x.n = 0 := by
  rcases h with ⟨h1, h2, h3, h4⟩ | ⟨h1, h2, h3, e, h4, h5, h6⟩ | ⟨h1, h2, h3, u, h4, h5⟩ | ⟨h1, h2, h3, h4, h5⟩ | ⟨h1, h2, h3, h4⟩ | ⟨h1, h2, h3, h4⟩ | ⟨h1, h2, h3, e, h4, h5, h6⟩ <;> first | exact ⟨h4, h3⟩ | omega
theorem cmd_draw {x : Nd} (h : CmdR x.kind x.text x.n x.kids) (hk : x.kind = 19 ∨ x.kind = 21 ∨ x.kind = 25) : x.kids = [] ∧ 0 < x.n := by
  rcases h with ⟨h1, h2, h3, h4⟩ | ⟨h1, h2, h3, e, h4, h5, h6⟩ | ⟨h1, h2, h3, u, h4, h5⟩ | ⟨h1, h2, h3, h4, h5⟩ | ⟨h1, h2, h3, h4⟩ | ⟨h1, h2, h3, h4⟩ | ⟨h1, h2, h3, e, h4, h5, h6⟩ <;> first | exact ⟨h5, by omega⟩ | exact ⟨h4, by omega⟩ | omega
theorem cmd_now {x : Nd} (h : CmdR x.kind x.text x.n x.kids) (hk : x.kind = 20) : x.kids = [] ∧ x.n = 0 := by
  rcases h with ⟨h1, h2, h3, h4⟩ | ⟨h1, h2, h3, e, h4, h5, h6⟩ | ⟨h1, h2, h3, u, h4, h5⟩ | ⟨h1, h2, h3, h4, h5⟩ | ⟨h1, h2, h3, h4⟩ | ⟨h1, h2, h3, h4⟩ | ⟨h1, h2, h3, e, h4, h5, h6⟩ <;> first | exact ⟨h4, h3⟩ | omega
theorem right_while {x : Nd} (hr : rightN x = true) (h : x.kind = 12) : x.kids.length = 2 := by
  obtain ⟨k, t, n, ks⟩ := x
  have h : k = 12 := h
  subst h
  obtain ⟨_, _, hs, _⟩ := right_mk.1 hr
  obtain ⟨a, b, e, _⟩ := kids_two (ks := ks) (f := isExprK) (g := isBlockK) hs
  show ks.length = 2
  rw [e]; rfl
theorem RStarts_ok  : Ok Tryz.prog 43 [] ⟨.d (.sl glob0), true⟩ := by
  refine Ok.ret Tryz.func43 (by kernel_rfl) (c := _) rfl Tryz.ntmps43 (by simp) Tryz.results43 (by intro _ h; cases h) fun w0 X hp => ?_
  refine LWp.seq ?_
  refine LWp.rz hT hW ?_
  simp
  refine LWp.seq ?_
  refine LWp.rz hT hW ?_
  simp
  refine ⟨by decide, ?_⟩
  refine LWp.ret ?_
  simp
  rfl
theorem RBody_step (x : Nd) (hb : BlockR x) (hw : weighN x ≤ 1000000000) (ih : ∀ y ∈ x.kids, Ok Tryz.prog 69 [y.d] ⟨.d (.str (stmtT y)), true⟩) : Ok Tryz.prog 45 [x.d] ⟨.d (.str (blockT x)), true⟩ := by
  refine Ok.ret Tryz.func45 (by kernel_rfl) (c := _) rfl Tryz.ntmps45 (by simp) Tryz.results45 (by intro _ h; cases h) fun w0 X hp => ?_
  have hlen := (stmtT_len x).2 hb
  have hwx := kids_weigh x
  have hstm : ∀ y ∈ x.kids, rightN y = true ∧ isStmtK y.kind = true := by obtain ⟨ks, rfl, h⟩ := hb; exact h
  refine LWp.seq ?_
  refine LWp.rz hT hW ?_
  simp
  refine LWp.seq ?_
  refine LWp.rz hT hW ?_
  simp
  refine LWp.seq ?_
  refine LWp.seq ?_
  refine LWp.rz hT hW ?_
  simp
  refine LWp.block ?_
  refine LWp.loopW (ι := Nat) (fun i => mkEnv [(1, .bx 1 0), (3, .d (.str (123 :: 32 :: stmtsT (x.kids.take i)))), (4, .d (I64 i))]) (fun i => mkObs [(1, .box false [.d (I64 x.kind), .d (.str x.text), .d (I64 x.n), .d (ndsD x.kids)])]) (fun i => i ≤ x.kids.length) (fun i => x.kids.length - i) 0 (Weak.to [1, 3, 4] [(1, 1)] (by decide) (by decide) (by simp [hp]) (by simp [stmtsT]) (by simp)) (Nat.zero_le _) fun i hi3 => ?_
  refine LWp.seq ?_
  refine LWp.seq ?_
  refine LWp.rz hT hW ?_
  simp
  refine LWp.iff ?_
  simp
  refine ⟨fun h3 => ?_, fun h3 => ?_⟩
  · refine LWp.skip ?_
    simp
    refine LWp.seq ?_
    refine LWp.block ?_
    have hi : i < x.kids.length := by omega
    have hk := ih _ (List.getElem_mem hi)
    have hs := hstm _ (List.getElem_mem hi)
    have l1 := (stmtT_len x.kids[i]).1 hs.1 hs.2
    have l2 := kid_weigh hi
    have l3 := stmtsT_take_len (l := x.kids) (fun y hy => (stmtT_len y).1 (hstm y hy).1 (hstm y hy).2) i
    have l4 := weighN_eq x
    refine LWp.ro hT hW (fun | 18 => some <| .plain ⟨.d (.str (stmtT x.kids[i])), true⟩ | _ => none) ?_
    simp [hi]
    refine ⟨⟨⟨by simpa using hk, by omega⟩, by omega⟩, ?_⟩
    refine LWp.rz hT hW ?_
    simp
    refine ⟨by omega, ?_⟩
    refine loopQ.mk (i + 1) (Weak.to [1, 3, 4] [(1, 1)] (by decide) (by decide) (by simp [hp]) (by simp [stmtsT_succ hi]) (by simp)) ?_ ?_
    · omega
    · omega
  · refine LWp.exit ?_
    simp
    refine LWp.seq ?_
    have hi : i = x.kids.length := by omega
    subst hi
    rw [List.take_length]
    rw [blockT_eq] at hlen
    simp only [List.length_append, List.length_cons] at hlen
    refine LWp.rz hT hW ?_
    simp
    refine ⟨by omega, ?_⟩
    refine LWp.ret ?_
    simp [blockT_eq]
theorem RStmt_step (x : Nd) (hr : rightN x = true) (hk : isStmtK x.kind = true) (hw : weighN x ≤ 1000000000) (ihb : ∀ y ∈ x.kids, BlockR y → Ok Tryz.prog 45 [y.d] ⟨.d (.str (blockT y)), true⟩) : Ok Tryz.prog 69 [x.d] ⟨.d (.str (stmtT x)), true⟩ := by
  refine Ok.ret Tryz.func69 (by kernel_rfl) (c := _) rfl Tryz.ntmps69 (by simp) Tryz.results69 (by intro _ h; cases h) fun w0 X hp => ?_
  obtain ⟨f0, f9, f10, f11, f13⟩ := stmt_facts hr hk
  have hwx := weighN_eq x
  have hlen := (stmtT_len x).1 hr hk
  have wl := word_len x.kind
  have hmem : ∀ (i : Nat) (hi : i < x.kids.length), weighN x.kids[i] < weighN x := fun i hi => kid_weigh hi
  refine LWp.seq ?_
  refine LWp.rz hT hW ?_
  simp
  refine LWp.seq ?_
  refine LWp.rz hT hW ?_
  simp
  refine LWp.seq ?_
  refine LWp.seq ?_
  refine LWp.rz hT hW ?_
  simp
  refine LWp.block ?_
  refine LWp.seq ?_
  refine LWp.rz hT hW ?_
  simp
  refine LWp.iff ?_
  simp
  refine ⟨fun h3 => ?_, fun h3 => ?_⟩
  · refine LWp.seq ?_
    obtain ⟨h0, k0, e0⟩ := f9 h3
    have w0 := hmem 0 h0
    have l0 := exprT_len _ k0.1 k0.2
    have c0 := RExpr_ok _ k0.1 k0.2 (by omega)
    refine LWp.regAny hT hW hMixed (lk [[],[0],[0,1],[0,1,2],[],[4],[4,5],[4,5,6],[0,1,2,3,4,5,6,7],[0,1,2,3,4,5,6,7,8],[0,1,2,3,4,5,6,7,8,9]]) (lk [[19],[19],[19],[19],[],[],[],[],[],[],[]]) (lk [[],[],[],[],[],[],[],[19],[],[],[]]) (by kernel_rfl) (fun | 19 => some <| .plain ⟨.d (.str (exprT x.kids[0])), true⟩ | _ => none) (by intro d; first | exact ⟨rfl, fun _ h => h⟩ | (split <;> exact ⟨rfl, fun _ h => h⟩)) ?_
    simp [h0]
    refine ⟨by (repeat' with_reducible apply And.intro) <;> first | omega | (simpa using c0), ?_⟩
    refine LWp.ret ?_
    simp [e0, letT]
  · refine LWp.seq ?_
    refine LWp.rz hT hW ?_
    simp
    refine LWp.iff ?_
    simp
    refine ⟨fun h5 => ?_, fun h5 => ?_⟩
    · refine LWp.seq ?_
      obtain ⟨h0, h1, k0, k1, e0⟩ := f10 h5
      have w0 := hmem 0 h0
      have w1 := hmem 1 h1
      have l0 := exprT_len _ k0.1 k0.2
      have l1 := exprT_len _ k1.1 k1.2
      have c0 := RExpr_ok _ k0.1 k0.2 (by omega)
      have c1 := RExpr_ok _ k1.1 k1.2 (by omega)
      simp at c0 c1
      refine LWp.regAny hT hW hMixed (lk [[],[0],[0,1],[0,1,2],[0,1,2,3],[],[5],[5,6],[0,1,2,3,5,6,7],[0,1,2,3,4,5,6,7,8],[0,1,2,3,4,5,6,7,8,9],[0,1,2,3,4,5,6,7,8,9,10]]) (lk [[],[],[],[],[32],[27],[27],[27],[],[],[],[]]) (lk [[],[],[],[27],[],[],[],[],[32],[],[],[]]) (by kernel_rfl) (fun | 27 => some <| .plain ⟨.d (.str (exprT x.kids[0])), true⟩ | 32 => some <| .plain ⟨.d (.str (exprT x.kids[1])), true⟩ | _ => none) (by intro d; first | exact ⟨rfl, fun _ h => h⟩ | (split <;> exact ⟨rfl, fun _ h => h⟩)) ?_
      simp [h0, h1]
      refine ⟨by (repeat' with_reducible apply And.intro) <;> first | omega | with_reducible assumption, ?_⟩
      refine LWp.ret ?_
      simp [e0, setT]
    · refine LWp.seq ?_
      refine LWp.rz hT hW ?_
      simp
      refine LWp.iff ?_
      simp
      refine ⟨fun h7 => ?_, fun h7 => ?_⟩
      · refine LWp.seq ?_
        obtain ⟨h0, h1, k0, b1, e0⟩ := f11 (.inr h7)
        have w7 : wordAt x.kind = [119, 104, 105, 108, 101] := by rw [h7]; rfl
        have e0 : stmtT x = ifT (wordAt x.kind) (exprT x.kids[0]) (blockT x.kids[1]) := by
          rcases e0 with ⟨_, e0⟩ | ⟨h2, _, e0⟩
          · exact e0
          · exfalso
            have := (right_while hr h7)
            omega
        have w0 := hmem 0 h0
        have w1 := hmem 1 h1
        have l0 := exprT_len _ k0.1 k0.2
        have l1 := (stmtT_len x.kids[1]).2 b1
        have c0 := RExpr_ok _ k0.1 k0.2 (by omega)
        have c1 := ihb _ (List.getElem_mem h1) b1
        simp at c0 c1
        refine LWp.regAny hT hW hMixed (lk [[],[0],[0,1],[0,1,2],[0,1,2,3],[0,1,2,3,4],[],[6],[6,7],[0,1,2,3,6,7,8],[0,1,2,3,4,5,6,7,8,9],[0,1,2,3,4,5,6,7,8,9,10]]) (lk [[],[],[],[],[46],[46],[40],[40],[40],[],[],[]]) (lk [[],[],[],[40],[],[],[],[],[],[46],[],[]]) (by kernel_rfl) (fun | 40 => some <| .plain ⟨.d (.str (exprT x.kids[0])), true⟩ | 46 => some <| .plain ⟨.d (.str (blockT x.kids[1])), true⟩ | _ => none) (by intro d; first | exact ⟨rfl, fun _ h => h⟩ | (split <;> exact ⟨rfl, fun _ h => h⟩)) ?_
        simp [h0, h1]
        refine ⟨by (repeat' with_reducible apply And.intro) <;> first | omega | with_reducible assumption, ?_⟩
        refine LWp.ret ?_
        simp [e0, ifT, w7]
      · refine LWp.seq ?_
        refine LWp.rz hT hW ?_
        simp
        refine LWp.iff ?_
        simp
        refine ⟨fun h9 => ?_, fun h9 => ?_⟩
        · refine LWp.seq ?_
          obtain ⟨h0, h1, k0, b1, e0⟩ := f11 (.inl h9)
          have w9 : wordAt x.kind = [105, 102] := by rw [h9]; rfl
          have w0 := hmem 0 h0
          have w1 := hmem 1 h1
          have l0 := exprT_len _ k0.1 k0.2
          have l1 := (stmtT_len x.kids[1]).2 b1
          have c0 := RExpr_ok _ k0.1 k0.2 (by omega)
          have c1 := ihb _ (List.getElem_mem h1) b1
          simp at c0 c1
          refine LWp.regAny hT hW hMixed (lk [[],[0],[0,1],[0,1,2],[0,1,2,3],[0,1,2,3,4],[],[6],[6,7],[0,1,2,3,6,7,8],[0,1,2,3,4,5,6,7,8,9],[0,1,2,3,4,5,6,7,8,9,10]]) (lk [[],[],[],[],[59],[59],[53],[53],[53],[],[],[]]) (lk [[],[],[],[53],[],[],[],[],[],[59],[],[]]) (by kernel_rfl) (fun | 53 => some <| .plain ⟨.d (.str (exprT x.kids[0])), true⟩ | 59 => some <| .plain ⟨.d (.str (blockT x.kids[1])), true⟩ | _ => none) (by intro d; first | exact ⟨rfl, fun _ h => h⟩ | (split <;> exact ⟨rfl, fun _ h => h⟩)) ?_
          simp [h0, h1]
          refine ⟨by (repeat' with_reducible apply And.intro) <;> first | omega | with_reducible assumption, ?_⟩
          refine LWp.seqCut (ι := Unit) (fun i => mkEnv [(1, .bx 1 0), (4, .d (.str (stmtT x)))]) (fun i => mkObs [(1, .box false [.d (I64 x.kind), .d (.str x.text), .d (I64 x.n), .d (ndsD x.kids)])]) (fun i => True) ?_ fun i hc13 => ?_
          · refine LWp.seq ?_
            refine LWp.rz hT hW ?_
            simp
            refine LWp.iff ?_
            simp
            refine ⟨fun h11 => ?_, fun h11 => ?_⟩
            · have h2' : 2 < x.kids.length := by omega
              rcases e0 with ⟨e0, _⟩ | ⟨_, b2, e0⟩
              · omega
              have w2 := hmem 2 h2'
              have l2 := (stmtT_len x.kids[2]).2 b2
              have c2 := ihb _ (List.getElem_mem h2') b2
              refine LWp.ro hT hW (fun | 69 => some <| .plain ⟨.d (.str (blockT x.kids[2])), true⟩ | _ => none) ?_
              simp [h2']
              refine ⟨by (repeat' with_reducible apply And.intro) <;> first | omega | (simpa using c2), ?_⟩
              exact (Weak.to [1, 4] [(1, 1)] (by decide) (by decide) (by simp [hp]) (by simp [e0, ifT, elseT, sElse, w9]) (by simp))
            · refine LWp.skip ?_
              simp
              exact (Weak.to [1, 4] [(1, 1)] (by decide) (by decide) (by simp [hp]) (by simp [(e0.resolve_right (fun ⟨h2, _⟩ => by omega)).2, ifT, w9]) (by simp))
          · refine LWp.seq ?_
            refine LWp.rz hT hW ?_
            simp
            refine LWp.ret ?_
            simp
        · refine LWp.skip ?_
          simp
          refine LWp.seq ?_
          have hcm := f13 (by omega)
          obtain ⟨g1, g2, g3, g4⟩ := cmd_facts hcm
          have e0 := stmtT_c (x := x) (by omega)
          have ml := mid_len x.kind x.text
          have nl := withN_len x.n
          have kl := withE_len g4
          have il := itoa_len x.n
          have q1 := word_at (k := x.kind) (by omega) (by omega)
          have hst := RStarts_ok
          have q2 := glob0_len
          refine LWp.regAny hT hW hMixed (lk [[],[],[1],[0,1,2],[0,1,2,3],[0,1,2,3,4]]) (lk [[],[72],[72],[],[],[]]) (lk [[72],[],[],[],[],[]]) (by kernel_rfl) (fun | 72 => some <| .plain ⟨.d (.sl glob0), true⟩ | _ => none) (by intro d; first | exact ⟨rfl, fun _ h => h⟩ | (split <;> exact ⟨rfl, fun _ h => h⟩)) ?_
          simp [q1]
          refine ⟨by (repeat' with_reducible apply And.intro) <;> first | omega | exact hst, ?_⟩
          refine LWp.seq ?_
          refine LWp.seq ?_
          refine LWp.rz hT hW ?_
          simp
          refine LWp.block ?_
          refine LWp.seqCut (ι := BC) (fun ⟨b⟩ => mkEnv [(1, .bx 1 0), (3, .d (ndsD x.kids)), (5, .d (.str (wordAt x.kind))), (78, .d (I64 (x.kind))), (79, .d (.bool b))]) (fun ⟨b⟩ => mkObs [(1, .box false [.d (I64 x.kind), .d (.str x.text), .d (I64 x.n), .d (ndsD x.kids)])]) (fun ⟨b⟩ => b = true ↔ (x.kind = 13 ∨ x.kind = 14 ∨ x.kind = 17 ∨ x.kind = 18)) ?_ fun ⟨b⟩ hc20 => ?_
          · refine LWp.seq ?_
            refine LWp.rz hT hW ?_
            simp
            refine LWp.iff ?_
            simp
            refine ⟨fun h16 => ?_, fun h16 => ?_⟩
            · refine LWp.skip ?_
              simp
              refine cutQ.mk ⟨decide (x.kind = 13)⟩ (Weak.to [1, 3, 5, 78, 79] [(1, 1)] (by decide) (by decide) (by simp [hp]) (by simp) (by simp)) ?_
              simp [h16]
            · refine LWp.seq ?_
              refine LWp.rz hT hW ?_
              simp
              refine LWp.iff ?_
              simp
              refine ⟨fun h17 => ?_, fun h17 => ?_⟩
              · refine LWp.skip ?_
                simp
                refine cutQ.mk ⟨decide (x.kind = 14)⟩ (Weak.to [1, 3, 5, 78, 79] [(1, 1)] (by decide) (by decide) (by simp [hp]) (by simp) (by simp)) ?_
                simp [h17]
              · refine LWp.seq ?_
                refine LWp.rz hT hW ?_
                simp
                refine LWp.iff ?_
                simp
                refine ⟨fun h18 => ?_, fun h18 => ?_⟩
                · refine LWp.skip ?_
                  simp
                  refine cutQ.mk ⟨decide (x.kind = 17)⟩ (Weak.to [1, 3, 5, 78, 79] [(1, 1)] (by decide) (by decide) (by simp [hp]) (by simp) (by simp)) ?_
                  simp [h18]
                · refine LWp.rz hT hW ?_
                  simp
                  refine cutQ.mk ⟨decide (x.kind = 18)⟩ (Weak.to [1, 3, 5, 78, 79] [(1, 1)] (by decide) (by decide) (by simp [hp]) (by simp) (by simp)) ?_
                  simp only [decide_eq_true_eq]; omega
          · refine LWp.iff ?_
            simp
            refine ⟨fun h20 => ?_, fun h20 => ?_⟩
            · have q20 := hc20.1 h20
              refine LWp.seq ?_
              refine LWp.rz hT hW ?_
              simp
              refine ⟨by (repeat' with_reducible apply And.intro) <;> omega, ?_⟩
              refine LWp.ret ?_
              have hk0 : x.kids = [] ∧ x.n = 0 := cmd_none hcm q20
              simp [e0, hk0.1, hk0.2, withN, withE, midT, show ¬ (x.kind = 19 ∨ x.kind = 20) by omega, show ¬ (x.kind = 21 ∨ x.kind = 25 ∨ x.kind = 24) by omega]
            · have q20 : ¬ (x.kind = 13 ∨ x.kind = 14 ∨ x.kind = 17 ∨ x.kind = 18) := fun q => by simp [hc20.2 q] at h20
              refine LWp.seqCut (ι := BC) (fun ⟨b⟩ => mkEnv [(1, .bx 1 0), (3, .d (ndsD x.kids)), (5, .d (.str (wordAt x.kind))), (78, .d (I64 (x.kind))), (90, .d (.bool b))]) (fun ⟨b⟩ => mkObs [(1, .box false [.d (I64 x.kind), .d (.str x.text), .d (I64 x.n), .d (ndsD x.kids)])]) (fun ⟨b⟩ => b = true ↔ (x.kind = 15 ∨ x.kind = 22 ∨ x.kind = 16 ∨ x.kind = 23)) ?_ fun ⟨b⟩ hc25 => ?_
              · refine LWp.seq ?_
                refine LWp.rz hT hW ?_
                simp
                refine LWp.iff ?_
                simp
                refine ⟨fun h21 => ?_, fun h21 => ?_⟩
                · refine LWp.skip ?_
                  simp
                  refine cutQ.mk ⟨decide (x.kind = 15)⟩ (Weak.to [1, 3, 5, 78, 90] [(1, 1)] (by decide) (by decide) (by simp [hp]) (by simp) (by simp)) ?_
                  simp [h21]
                · refine LWp.seq ?_
                  refine LWp.rz hT hW ?_
                  simp
                  refine LWp.iff ?_
                  simp
                  refine ⟨fun h22 => ?_, fun h22 => ?_⟩
                  · refine LWp.skip ?_
                    simp
                    refine cutQ.mk ⟨decide (x.kind = 22)⟩ (Weak.to [1, 3, 5, 78, 90] [(1, 1)] (by decide) (by decide) (by simp [hp]) (by simp) (by simp)) ?_
                    simp [h22]
                  · refine LWp.seq ?_
                    refine LWp.rz hT hW ?_
                    simp
                    refine LWp.iff ?_
                    simp
                    refine ⟨fun h23 => ?_, fun h23 => ?_⟩
                    · refine LWp.skip ?_
                      simp
                      refine cutQ.mk ⟨decide (x.kind = 16)⟩ (Weak.to [1, 3, 5, 78, 90] [(1, 1)] (by decide) (by decide) (by simp [hp]) (by simp) (by simp)) ?_
                      simp [h23]
                    · refine LWp.rz hT hW ?_
                      simp
                      refine cutQ.mk ⟨decide (x.kind = 23)⟩ (Weak.to [1, 3, 5, 78, 90] [(1, 1)] (by decide) (by decide) (by simp [hp]) (by simp) (by simp)) ?_
                      simp only [decide_eq_true_eq]; omega
              · refine LWp.iff ?_
                simp
                refine ⟨fun h25 => ?_, fun h25 => ?_⟩
                · have q25 := hc25.1 h25
                  refine LWp.seq ?_
                  have hks : ∃ e, x.kids = [e] ∧ rightN e = true ∧ isExprK e.kind = true ∧ x.n = 0 := cmd_one hcm (by omega)
                  obtain ⟨e, hks, r0, i0, n0⟩ := hks
                  have w0 := hmem 0 (by simp [hks])
                  have l0 := exprT_len e r0 i0
                  have c0 := RExpr_ok e r0 i0 (by simp only [hks, List.getElem_cons_zero] at w0; omega)
                  simp only [hks, List.getElem_cons_zero] at w0
                  refine LWp.regAny hT hW hMixed (lk [[],[0],[],[2],[0,1,2,3],[0,1,2,3,4],[],[6],[6,7],[6,7,8],[0,1,2,3,4,5,6,7,8,9],[0,1,2,3,4,5,6,7,8,9,10],[0,1,2,3,4,5,6,7,8,9,10,11]]) (lk [[104],[104],[104],[104],[104],[104],[],[],[],[],[],[],[]]) (lk [[],[],[],[],[],[],[],[],[],[104],[],[],[]]) (by kernel_rfl) (fun | 104 => some <| .plain ⟨.d (.str (exprT e)), true⟩ | _ => none) (by intro d; first | exact ⟨rfl, fun _ h => h⟩ | (split <;> exact ⟨rfl, fun _ h => h⟩)) ?_
                  simp [hks]
                  refine ⟨by (repeat' with_reducible apply And.intro) <;> first | omega | (simpa using c0), ?_⟩
                  refine LWp.ret ?_
                  simp [e0, hks, n0, withN, withE, midT, show ¬ (x.kind = 19 ∨ x.kind = 20) by omega, show ¬ (x.kind = 21 ∨ x.kind = 25 ∨ x.kind = 24) by omega]
                · have q25 : ¬ (x.kind = 15 ∨ x.kind = 22 ∨ x.kind = 16 ∨ x.kind = 23) := fun q => by simp [hc25.2 q] at h25
                  refine LWp.seq ?_
                  refine LWp.rz hT hW ?_
                  simp
                  refine LWp.iff ?_
                  simp
                  refine ⟨fun h26 => ?_, fun h26 => ?_⟩
                  · refine LWp.seq ?_
                    have d1 := RDecimal_ok x.n (by omega) (by omega)
                    refine LWp.regAny hT hW hMixed (lk [[],[0],[],[2],[0,1,2,3],[0,1,2,3,4],[],[6],[6,7],[0,1,2,3,4,5,6,7,8],[0,1,2,3,4,5,6,7,8,9],[0,1,2,3,4,5,6,7,8,9,10]]) (lk [[117],[117],[117],[117],[117],[117],[],[],[],[],[],[]]) (lk [[],[],[],[],[],[],[],[],[117],[],[],[]]) (by kernel_rfl) (fun | 117 => some <| .plain ⟨.d (.str (itoaS x.n)), true⟩ | _ => none) (by intro d; first | exact ⟨rfl, fun _ h => h⟩ | (split <;> exact ⟨rfl, fun _ h => h⟩)) ?_
                    simp
                    refine ⟨by (repeat' with_reducible apply And.intro) <;> first | omega | exact d1, ?_⟩
                    refine LWp.ret ?_
                    have hk0 : x.kids = [] ∧ 0 < x.n := cmd_draw hcm (by omega)
                    simp [e0, hk0.1, hk0.2, withN, withE, midT, h26]
                  · refine LWp.seq ?_
                    refine LWp.rz hT hW ?_
                    simp
                    refine LWp.iff ?_
                    simp
                    refine ⟨fun h28 => ?_, fun h28 => ?_⟩
                    · refine LWp.seq ?_
                      refine LWp.rz hT hW ?_
                      simp
                      refine ⟨by (repeat' with_reducible apply And.intro) <;> omega, ?_⟩
                      refine LWp.ret ?_
                      have hk0 : x.kids = [] ∧ x.n = 0 := cmd_now hcm (by omega)
                      simp [e0, hk0.1, hk0.2, withN, withE, midT, h28]
                    · refine LWp.seq ?_
                      refine LWp.rz hT hW ?_
                      simp
                      refine LWp.iff ?_
                      simp
                      refine ⟨fun h30 => ?_, fun h30 => ?_⟩
                      · refine LWp.seq ?_
                        have hks : ∃ e, x.kids = [e] ∧ rightN e = true ∧ isExprK e.kind = true ∧ x.n = 0 := cmd_one hcm (by omega)
                        obtain ⟨e, hks, r0, i0, n0⟩ := hks
                        have w0 := hmem 0 (by simp [hks])
                        have l0 := exprT_len e r0 i0
                        have c0 := RExpr_ok e r0 i0 (by simp only [hks, List.getElem_cons_zero] at w0; omega)
                        simp only [hks, List.getElem_cons_zero] at w0
                        refine LWp.ro hT hW (fun | 135 => some <| .plain ⟨.d (.str (exprT e)), true⟩ | _ => none) ?_
                        simp [hks]
                        refine ⟨by (repeat' with_reducible apply And.intro) <;> first | omega | (simpa using c0), ?_⟩
                        refine LWp.ret ?_
                        simp [e0, hks, n0, withN, withE, midT, h30]
                      · refine LWp.skip ?_
                        simp
                        refine LWp.seq ?_
                        have d1 := RDecimal_ok x.n (by omega) (by omega)
                        refine LWp.ro hT hW (fun | 142 => some <| .plain ⟨.d (.str (itoaS x.n)), true⟩ | _ => none) ?_
                        simp
                        refine ⟨by (repeat' with_reducible apply And.intro) <;> first | omega | exact d1, ?_⟩
                        refine LWp.ret ?_
                        have hk0 : x.kids = [] ∧ 0 < x.n := cmd_draw hcm (by omega)
                        simp [e0, hk0.1, hk0.2, withN, withE, midT, show ¬ (x.kind = 19 ∨ x.kind = 20) by omega, show (x.kind = 21 ∨ x.kind = 25 ∨ x.kind = 24) by omega]
theorem RSb_ok (x : Nd) : (rightN x = true → isStmtK x.kind = true → weighN x ≤ 1000000000 → Ok Tryz.prog 69 [x.d] ⟨.d (.str (stmtT x)), true⟩) ∧ (BlockR x → weighN x ≤ 1000000000 → Ok Tryz.prog 45 [x.d] ⟨.d (.str (blockT x)), true⟩) := by
  refine Nd.ind (p := fun x => (rightN x = true → isStmtK x.kind = true → weighN x ≤ 1000000000 → Ok Tryz.prog 69 [x.d] ⟨.d (.str (stmtT x)), true⟩) ∧ (BlockR x → weighN x ≤ 1000000000 → Ok Tryz.prog 45 [x.d] ⟨.d (.str (blockT x)), true⟩)) (fun k t n ks ih => ⟨?_, ?_⟩) x
  · intro hr hk hw
    have hwk : ∀ y ∈ ks, weighN y ≤ 1000000000 := fun y hy => by have := weigh_mem hy; rw [weighN] at hw; omega
    exact RStmt_step _ hr hk hw fun y hy hb => (ih y hy).2 hb (hwk y hy)
  · intro hb hw
    have hwk : ∀ y ∈ ks, weighN y ≤ 1000000000 := fun y hy => by have := weigh_mem hy; rw [weighN] at hw; omega
    obtain ⟨ks', hx, hy⟩ := id hb
    injection hx with i1 i2 i3 i4
    exact RBody_step _ hb hw fun y hyk => (ih y hyk).1 (hy y (i4 ▸ hyk)).1 (hy y (i4 ▸ hyk)).2 (hwk y hyk)
theorem RText_ok (x : Nd) (hd : DefR x) (hw : weighN x ≤ 1000000000) : Ok Tryz.prog 21 [x.d] ⟨.d (.str (textT x)), true⟩ := by
  refine Ok.ret Tryz.func21 (by kernel_rfl) (c := _) rfl Tryz.ntmps21 (by simp) Tryz.results21 (by intro _ h; cases h) fun w0 X hp => ?_
  obtain ⟨ht, hd⟩ := hd
  have hwx := weighN_eq x
  have wl := word_len x.kind
  have f0 : 0 ≤ x.kind ∧ x.kind ≤ 6 := by rcases hd with ⟨h | h, _⟩ | ⟨h, _⟩ | ⟨h, _⟩ | ⟨h, _⟩ | ⟨h | h, _⟩ <;> omega
  have q1 := word_at (k := x.kind) (by omega) (by omega)
  have il := itoa_len x.n
  have hst := RStarts_ok
  have q2 := glob0_len
  refine LWp.seq ?_
  refine LWp.rz hT hW ?_
  simp
  refine LWp.seq ?_
  refine LWp.regAny hT hW hMixed (lk [[],[],[1],[0,1,2],[0,1,2,3],[0,1,2,3,4],[],[6],[0,1,2,3,4,5,6,7],[0,1,2,3,4,5,6,7,8]]) (lk [[],[5],[5],[],[],[],[5],[5],[],[]]) (lk [[5],[],[],[],[],[],[],[],[],[]]) (by kernel_rfl) (fun | 5 => some <| .plain ⟨.d (.sl glob0), true⟩ | _ => none) (by intro d; first | exact ⟨rfl, fun _ h => h⟩ | (split <;> exact ⟨rfl, fun _ h => h⟩)) ?_
  simp [q1]
  refine ⟨by (repeat' with_reducible apply And.intro) <;> first | omega | exact hst, ?_⟩
  refine LWp.seq ?_
  refine LWp.seq ?_
  refine LWp.rz hT hW ?_
  simp
  refine LWp.block ?_
  refine LWp.seq ?_
  refine LWp.rz hT hW ?_
  simp
  refine LWp.iff ?_
  simp
  refine ⟨fun h3 => ?_, fun h3 => ?_⟩
  · refine LWp.seq ?_
    have hd15 : -999 ≤ x.n ∧ x.n ≤ 999 := by
      rcases hd with ⟨h | h, _⟩ | ⟨h, _⟩ | ⟨_, _, h⟩ | ⟨h, _⟩ | ⟨h | h, _⟩ <;> omega
    have ci := RDecimal_ok x.n hd15.1 hd15.2
    refine LWp.ro hT hW (fun | 22 => some <| .plain ⟨.d (.str (itoaS x.n)), true⟩ | _ => none) ?_
    simp
    refine ⟨by (repeat' with_reducible apply And.intro) <;> first | omega | exact ci, ?_⟩
    refine LWp.ret ?_
    simp [textT, h3]
  · refine LWp.seq ?_
    refine LWp.rz hT hW ?_
    simp
    refine LWp.iff ?_
    simp
    refine ⟨fun h5 => ?_, fun h5 => ?_⟩
    · refine LWp.seq ?_
      have hd17 : 0 ≤ x.n ∧ x.n ≤ 3 := by
        rcases hd with ⟨h | h, _⟩ | ⟨h, _⟩ | ⟨h, _⟩ | ⟨_, _, h⟩ | ⟨h | h, _⟩ <;> omega
      have ci := RDecimal_ok x.n (by omega) (by omega)
      refine LWp.ro hT hW (fun | 31 => some <| .plain ⟨.d (.str (itoaS x.n)), true⟩ | _ => none) ?_
      simp
      refine ⟨by (repeat' with_reducible apply And.intro) <;> first | omega | exact ci, ?_⟩
      refine LWp.ret ?_
      simp [textT, h5]
    · refine LWp.seqCut (ι := BC) (fun ⟨b⟩ => mkEnv [(1, .bx 1 0), (3, .d (.str (wordAt x.kind ++ 32 :: x.text))), (15, .d (I64 (x.kind))), (34, .d (.bool b))]) (fun ⟨b⟩ => mkObs [(1, .box false [.d (I64 x.kind), .d (.str x.text), .d (I64 x.n), .d (ndsD x.kids)])]) (fun ⟨b⟩ => b = true ↔ (x.kind = 3 ∨ x.kind = 4)) ?_ fun ⟨b⟩ hc9 => ?_
      · refine LWp.seq ?_
        refine LWp.rz hT hW ?_
        simp
        refine LWp.iff ?_
        simp
        refine ⟨fun h7 => ?_, fun h7 => ?_⟩
        · refine LWp.skip ?_
          simp
          refine cutQ.mk ⟨decide (x.kind = 3)⟩ (Weak.to [1, 3, 15, 34] [(1, 1)] (by decide) (by decide) (by simp [hp]) (by simp) (by simp)) ?_
          simp [h7]
        · refine LWp.rz hT hW ?_
          simp
          refine cutQ.mk ⟨decide (x.kind = 4)⟩ (Weak.to [1, 3, 15, 34] [(1, 1)] (by decide) (by decide) (by simp [hp]) (by simp) (by simp)) ?_
          simp only [decide_eq_true_eq]; omega
      · refine LWp.iff ?_
        simp
        refine ⟨fun h9 => ?_, fun h9 => ?_⟩
        · have q9 := hc9.1 h9
          refine LWp.seq ?_
          refine LWp.rz hT hW ?_
          simp
          refine ⟨by omega, ?_⟩
          refine LWp.ret ?_
          simp [textT, show ¬ (x.kind = 5 ∨ x.kind = 6) by omega, show ¬ x.kind = 1 by omega, show ¬ x.kind = 0 by omega, show ¬ x.kind = 2 by omega]
        · have q9 : ¬ (x.kind = 3 ∨ x.kind = 4) := fun q => by simp [hc9.2 q] at h9
          refine LWp.seq ?_
          refine LWp.rz hT hW ?_
          simp
          refine LWp.iff ?_
          simp
          refine ⟨fun h10 => ?_, fun h10 => ?_⟩
          · refine LWp.seq ?_
            have hd7 : ∀ y ∈ x.kids, ItemR y := by
              rcases hd with ⟨h | h, _⟩ | ⟨_, _, h⟩ | ⟨h, _⟩ | ⟨h, _⟩ | ⟨h | h, _⟩ <;> first | exact h | omega
            refine LWp.rz hT hW ?_
            simp
            refine ⟨by omega, ?_⟩
            refine LWp.seq ?_
            refine LWp.seq ?_
            refine LWp.rz hT hW ?_
            simp
            refine LWp.block ?_
            refine LWp.loopW (ι := Nat) (fun i => mkEnv [(1, .bx 1 0), (3, .d (.str (wordAt x.kind ++ 32 :: (x.text ++ 32 :: 123 :: 32 :: itemsOf (x.kids.take i))))), (4, .d (I64 i))]) (fun i => mkObs [(1, .box false [.d (I64 x.kind), .d (.str x.text), .d (I64 x.n), .d (ndsD x.kids)])]) (fun i => i ≤ x.kids.length) (fun i => x.kids.length - i) 0 (Weak.to [1, 3, 4] [(1, 1)] (by decide) (by decide) (by simp [hp]) (by simp [itemsOf]) (by simp)) (Nat.zero_le _) fun i hi13 => ?_
            refine LWp.seq ?_
            refine LWp.seq ?_
            refine LWp.rz hT hW ?_
            simp
            refine LWp.iff ?_
            simp
            refine ⟨fun h13 => ?_, fun h13 => ?_⟩
            · refine LWp.skip ?_
              simp
              refine LWp.seq ?_
              refine LWp.block ?_
              have hi : i < x.kids.length := by omega
              obtain ⟨t', n', hy, g1, g2, g3⟩ := hd7 _ (List.getElem_mem hi)
              have en : x.kids[i].n = n' := by rw [hy]; rfl
              have ci := RDecimal_ok x.kids[i].n (by omega) (by omega)
              have lt := items_take_len (l := x.kids) i
              have li := itoa_len x.kids[i].n
              have wi := kid_weigh hi
              rw [weighN_eq x.kids[i]] at wi
              have lo : (itemsOf (x.kids.take i)).length ≤ 9 * weighL x.kids := lt
              refine LWp.regAny hT hW hMixed (lk [[],[],[1],[],[1,2,3],[1,2,3,4],[1,2,3,4,5],[0,1,2,3,4,5,6],[0,1,2,3,4,5,6,7],[],[9],[],[9,10,11],[9,10,11,12],[9,10,11,12,13],[9,10,11,12,13,14],[0,1,2,3,4,5,6,7,8,9,10,11,12,13,14,15],[0,1,2,3,4,5,6,7,8,9,10,11,12,13,14,15,16],[0,1,2,3,4,5,6,7,8,9,10,11,12,13,14,15,16,17]]) (lk [[65],[65],[65],[65],[65],[65],[65],[65],[65],[],[],[],[],[],[],[],[],[],[]]) (lk [[],[],[],[],[],[],[],[],[],[],[],[],[],[],[],[65],[],[],[]]) (by kernel_rfl) (fun | 65 => some <| .plain ⟨.d (.str (itoaS x.kids[i].n)), true⟩ | _ => none) (by intro d; first | exact ⟨rfl, fun _ h => h⟩ | (split <;> exact ⟨rfl, fun _ h => h⟩)) ?_
              simp [hi]
              refine ⟨by (repeat' with_reducible apply And.intro) <;> first | omega | exact ci | (simp only [List.length_append, List.length_cons]; omega), ?_⟩
              have := kids_weigh x
              refine LWp.rz hT hW ?_
              simp
              refine ⟨by omega, ?_⟩
              refine loopQ.mk (i + 1) (Weak.to [1, 3, 4] [(1, 1)] (by decide) (by decide) (by simp [hp]) (by simp [itemsOf, items_succ hi, itemT]) (by simp)) ?_ ?_
              · omega
              · omega
            · refine LWp.exit ?_
              simp
              refine LWp.seq ?_
              have hi : i = x.kids.length := by omega
              subst hi
              rw [List.take_length]
              have lt := itemsT_len x.kids
              have lo : (itemsOf x.kids).length ≤ 9 * weighL x.kids := lt
              refine LWp.rz hT hW ?_
              simp
              refine ⟨by omega, ?_⟩
              refine LWp.ret ?_
              simp [textT, h10, itemsOf]
          · refine LWp.skip ?_
            simp
            refine LWp.seq ?_
            have hd5 : ∃ b, x = .mk x.kind x.text 0 [b] ∧ BlockR b := by
              rcases hd with ⟨_, h⟩ | ⟨h, _⟩ | ⟨h, _⟩ | ⟨h, _⟩ | ⟨h | h, _⟩ <;> first | exact h | omega
            obtain ⟨c, hx, hb⟩ := hd5
            have hks : x.kids = [c] := by rw [hx]; rfl
            rw [hks] at hwx
            simp only [weighL] at hwx
            have bl := (stmtT_len c).2 hb
            have kb := (RSb_ok c).2 hb (by omega)
            refine LWp.ro hT hW (fun | 76 => some <| .plain ⟨.d (.str (blockT c)), true⟩ | _ => none) ?_
            simp [hks]
            refine ⟨by (repeat' with_reducible apply And.intro) <;> first | omega | (simpa using kb), ?_⟩
            refine LWp.ret ?_
            simp [textT, show x.kind = 5 ∨ x.kind = 6 by omega, hks]
end
open Go.Proofs
section
attribute [local simp] Res.cond Nd.d_eq nd_t nd_dr nd_td ndsD evalIndex
theorem firstIs_at (p : UInt8 → Bool) (s : Str) (i : Nat) : firstIs p (s.drop i) = (decide (i < s.length) && p (s[i]?.getD 0)) := by
  by_cases h : i < s.length
  · rw [List.drop_eq_getElem_cons h, List.getElem?_eq_getElem h]
    simp [firstIs, h]
  · rw [List.drop_eq_nil_of_le (by omega)]
    simp [firstIs, h]
theorem RLetter_ok (s : Str) (i : Nat) (hl : s.length ≤ 9223372036854775807) : Ok Tryz.prog 48 [.str s, I64 i] ⟨.d (.bool (firstIs letterB (s.drop i))), true⟩ := by
  refine Ok.ret Tryz.func48 (by kernel_rfl) (c := _) rfl Tryz.ntmps48 (by simp) Tryz.results48 (by intro _ h; cases h) fun w0 X hp => ?_
  refine LWp.seq ?_
  refine LWp.rz hT hW ?_
  simp
  refine LWp.seq ?_
  refine LWp.rz hT hW ?_
  simp
  refine ⟨fun h _ => h, ?_⟩
  refine LWp.ret ?_
  simp
  rw [firstIs_at, letterB_eq]
  simp [Bool.and_assoc]
theorem RDigit_ok (s : Str) (i : Nat) (hl : s.length ≤ 9223372036854775807) : Ok Tryz.prog 49 [.str s, I64 i] ⟨.d (.bool (firstIs digitB (s.drop i))), true⟩ := by
  refine Ok.ret Tryz.func49 (by kernel_rfl) (c := _) rfl Tryz.ntmps49 (by simp) Tryz.results49 (by intro _ h; cases h) fun w0 X hp => ?_
  refine LWp.seq ?_
  refine LWp.rz hT hW ?_
  simp
  refine LWp.seq ?_
  refine LWp.rz hT hW ?_
  simp
  refine ⟨fun h _ => h, ?_⟩
  refine LWp.ret ?_
  simp
  rw [firstIs_at, digitB_eq]
  simp [Bool.and_assoc]
def wordR (s : Str) (i : Nat) : Int := if 0 < wordN (s.drop i) then (i : Int) + wordN (s.drop i) else -1
def ldB (c : UInt8) : Bool := letterB c || digitB c
theorem firstIs_or (p q : UInt8 → Bool) (s : Str) : (firstIs p s || firstIs q s) = firstIs (fun c => p c || q c) s := by cases s <;> rfl
theorem wordN_ld (s : Str) : wordN s = if firstIs letterB s = true then (if runP ldB s ≤ 16 then runP ldB s else 0) else 0 := by
  cases s with
  | nil => rfl
  | cons c r => rfl
theorem runP_drop {p : UInt8 → Bool} : ∀ {s : Str} {k : Nat}, (∀ m (h : m < k), firstIs p (s.drop m) = true) → firstIs p (s.drop k) = false → runP p s = k
  | [], 0, _, _ => rfl
  | [], k + 1, h, _ => by have := h 0 (by omega); simp [firstIs] at this
  | c :: r, 0, _, h => by
    have h : p c = false := h
    simp [runP, h]
  | c :: r, k + 1, h, h2 => by
    have h0 : p c = true := h 0 (by omega)
    simp only [runP, h0, if_true]
    rw [runP_drop (s := r) (k := k) (fun m hm => h (m + 1) (by omega)) h2]
theorem go_lt {s : Str} {i k : Nat} (g : firstIs letterB (s.drop (i + k)) = true ∨ firstIs digitB (s.drop (i + k)) = true) : i + k < s.length := by
  refine Classical.byContradiction fun q => ?_
  rw [List.drop_eq_nil_of_le (by omega)] at g
  rcases g with g | g <;> cases g
theorem go_ld {s : Str} {i k : Nat} (g : firstIs letterB (s.drop (i + k)) = true ∨ firstIs digitB (s.drop (i + k)) = true) : firstIs ldB (s.drop (i + k)) = true := by
  show firstIs (fun c => letterB c || digitB c) (s.drop (i + k)) = true
  rw [← firstIs_or]
  rcases g with g | g <;> simp [g]
def wordsR : List Str := [[97, 99, 113, 117, 105, 114, 101], [97, 108, 108, 111, 99], [99, 97, 108, 108], [99, 104, 97, 110], [99, 104, 101, 99, 107], [100, 114, 97, 119], [101, 108, 115, 101], [102, 105, 108, 101], [103, 111], [105, 102], [107, 105, 110, 100], [108, 111, 99, 107], [110, 111, 119], [112, 114, 111, 99], [114, 101, 97, 100], [114, 101, 99], [114, 101, 99, 118], [114, 101, 108, 101, 97, 115, 101], [115, 101, 110, 100], [115, 108, 101, 101, 112], [116, 101, 115, 116], [118, 97, 114], [119, 104, 105, 108, 101], [119, 114, 105, 116, 101]]
theorem RWord_ok (s : Str) (i : Nat) (hi : i ≤ s.length) (hl : s.length ≤ 9223372036854775000) : Ok Tryz.prog 106 [.str s, I64 i] ⟨.d (I64 (wordR s i)), true⟩ := by
  refine Ok.ret Tryz.func106 (by kernel_rfl) (c := _) rfl Tryz.ntmps106 (by simp) Tryz.results106 (by intro _ h; cases h) fun w0 X hp => ?_
  refine LWp.seq ?_
  refine LWp.rz hT hW ?_
  simp
  refine LWp.seq ?_
  refine LWp.seq ?_
  have h1 := RLetter_ok s i (by omega)
  refine LWp.ro hT hW (fun | 8 => some <| .plain ⟨.d (.bool (firstIs letterB (s.drop i))), true⟩ | _ => none) ?_
  simp
  refine ⟨h1, ?_⟩
  refine LWp.iff ?_
  simp
  refine ⟨fun h1 => ?_, fun h1 => ?_⟩
  · refine LWp.seq ?_
    refine LWp.rz hT hW ?_
    simp
    refine LWp.ret ?_
    simp
    unfold wordR
    have hw : wordN (s.drop i) = 0 := by rw [wordN_ld, if_neg (by simp [h1])]
    rw [hw, if_neg (by omega)]
  · refine LWp.skip ?_
    simp
    refine LWp.seq ?_
    refine LWp.rz hT hW ?_
    simp
    refine LWp.seq ?_
    refine LWp.block ?_
    refine LWp.loopW (ι := Nat) (fun k => mkEnv [(0, .d (.str s)), (1, .d (I64 i)), (5, .d (I64 ((i + k : Nat) : Int)))]) (fun k => mkObs []) (fun k => i + k ≤ s.length ∧ ∀ m, m < k → firstIs ldB (s.drop (i + m)) = true) (fun k => s.length - i - k) 0 (Weak.to [0, 1, 5] [] (by decide) (by decide) (by simp [hp]) (by simp) (by simp)) (⟨by omega, fun m h => absurd h (Nat.not_lt_zero m)⟩) fun k hi4 => ?_
    refine LWp.seq ?_
    refine LWp.seq ?_
    have h2 := RLetter_ok s (i + k) (by omega)
    have h3 := RDigit_ok s (i + k) (by omega)
    refine LWp.ro hT hW (fun | 13 => some <| .plain ⟨.d (.bool (firstIs letterB (s.drop (i + k)))), true⟩ | 17 => some <| .plain ⟨.d (.bool (firstIs digitB (s.drop (i + k)))), true⟩ | _ => none) ?_
    simp [-Int.natCast_add]
    refine ⟨⟨h2, fun _ => h3⟩, ?_⟩
    refine LWp.iff ?_
    simp
    refine ⟨fun g4 => ?_, fun g5 g6 => ?_⟩
    · refine LWp.skip ?_
      simp
      refine LWp.block ?_
      refine LWp.rz hT hW ?_
      simp
      refine ⟨by omega, ?_⟩
      refine loopQ.mk (k + 1) (Weak.to [0, 1, 5] [] (by decide) (by decide) (by simp [hp]) (by simp [Int.add_assoc]) (by simp)) ?_ ?_
      · have hlt : i + k < s.length := go_lt g4
        refine ⟨by omega, fun m hm => ?_⟩
        by_cases e : m = k
        · rw [e]; exact go_ld g4
        · exact hi4.2 m (by omega)
      · have hlt : i + k < s.length := go_lt g4
        omega
    · refine LWp.exit ?_
      simp
      refine LWp.seq ?_
      refine LWp.seq ?_
      have hr : runP ldB (s.drop i) = k := runP_drop (fun m hm => by rw [List.drop_drop]; exact hi4.2 m hm) (by
        rw [List.drop_drop]
        show firstIs (fun c => letterB c || digitB c) (s.drop (i + k)) = false
        rw [← firstIs_or, g5, g6]; rfl)
      have hw := wordN_ld (s.drop i)
      rw [if_pos h1, hr] at hw
      have hk0 : 0 < k := by
        rcases Nat.eq_zero_or_pos k with z | z
        · rw [z] at g5; rw [Nat.add_zero, h1] at g5; cases g5
        · exact z
      refine LWp.rz hT hW ?_
      simp
      refine ⟨by omega, ?_⟩
      refine LWp.iff ?_
      simp
      refine ⟨fun h6 => ?_, fun h6 => ?_⟩
      · refine LWp.seq ?_
        refine LWp.rz hT hW ?_
        simp
        refine LWp.ret ?_
        simp
        unfold wordR
        have hw' : wordN (s.drop i) = 0 := by rw [hw, if_neg (by omega)]
        rw [hw', if_neg (by omega)]
      · refine LWp.skip ?_
        simp
        refine LWp.seq ?_
        refine LWp.rz hT hW ?_
        simp
        refine LWp.ret ?_
        simp
        unfold wordR
        have hw' : wordN (s.drop i) = k := by rw [hw, if_pos (by omega)]
        rw [hw', if_pos hk0]
theorem isName_words (c : UInt8) (r : Str) : isNameB (c :: r) = (letterB c && !decide ((c :: r) ∈ wordsR)) := by
  have h1 : ∀ x ∈ wordsR, reservedB x = true := by decide
  have h2 : ∀ x ∈ sElse :: sKind :: wordsL, x ≠ [] → x ∈ wordsR := by decide
  have e : reservedB (c :: r) = decide ((c :: r) ∈ wordsR) := by
    rw [Bool.eq_iff_iff, decide_eq_true_eq]
    refine ⟨fun h => h2 _ ?_ (by simp), h1 _⟩
    simp only [reservedB, Bool.or_eq_true, decide_eq_true_eq] at h
    simp only [List.mem_cons]
    rcases h with (h | h) | h
    · exact .inl h
    · exact .inr (.inl h)
    · exact .inr (.inr h)
  show (letterB c && !reservedB (c :: r)) = _
  rw [e]
theorem RIn_ok (l : List Str) (w : Str) : Ok Tryz.prog 135 [strsD l, .str w] ⟨.d (.bool (decide (w ∈ l))), true⟩ := by
  refine Ok.ret Tryz.func135 (by kernel_rfl) (c := _) rfl Tryz.ntmps135 (by simp) Tryz.results135 (by intro _ h; cases h) fun w0 X hp => ?_
  refine LWp.len (t := 0) rfl fun hlen => ?_
  simp at hlen
  refine LWp.seq ?_
  refine LWp.rz hT hW ?_
  simp
  refine LWp.seq ?_
  refine LWp.seq ?_
  refine LWp.rz hT hW ?_
  simp
  refine LWp.block ?_
  refine LWp.loopW (ι := Nat) (fun i => mkEnv [(0, .d (strsD l)), (1, .d (.str w)), (5, .d (I64 i))]) (fun i => mkObs []) (fun i => i ≤ l.length ∧ w ∉ l.take i) (fun i => l.length - i) 0 (Weak.to [0, 1, 5] [] (by decide) (by decide) (by simp [hp]) (by simp) (by simp)) (⟨Nat.zero_le _, by simp⟩) fun i hi2 => ?_
  refine LWp.seq ?_
  refine LWp.seq ?_
  refine LWp.rz hT hW ?_
  simp
  refine LWp.iff ?_
  simp
  refine ⟨fun h2 => ?_, fun h2 => ?_⟩
  · refine LWp.skip ?_
    simp
    refine LWp.seq ?_
    refine LWp.block ?_
    refine LWp.seq ?_
    have hi : i < l.length := by omega
    refine LWp.rz hT hW ?_
    simp [hi]
    refine LWp.iff ?_
    simp
    refine ⟨fun h4 => ?_, fun h4 => ?_⟩
    · refine LWp.seq ?_
      refine LWp.rz hT hW ?_
      simp
      refine LWp.ret ?_
      simp
      rw [← h4]
      exact (List.getElem_mem hi)
    · refine LWp.skip ?_
      simp
      refine LWp.rz hT hW ?_
      simp
      refine ⟨by omega, ?_⟩
      refine loopQ.mk (i + 1) (Weak.to [0, 1, 5] [] (by decide) (by decide) (by simp [hp]) (by simp) (by simp)) ?_ ?_
      · refine ⟨by omega, ?_⟩
        have hi : i < l.length := by omega
        rw [← List.take_append_getElem hi]
        simp only [List.mem_append, List.mem_singleton, not_or]
        exact ⟨hi2.2, fun e => h4 e.symm⟩
      · omega
  · refine LWp.exit ?_
    simp
    refine LWp.seq ?_
    refine LWp.rz hT hW ?_
    simp
    refine LWp.ret ?_
    simp
    have e := hi2.2
    rw [List.take_of_length_le (by omega)] at e
    exact e
theorem RWords_ok  : Ok Tryz.prog 34 [] ⟨.d (strsD wordsR), true⟩ := by
  refine Ok.ret Tryz.func34 (by kernel_rfl) (c := _) rfl Tryz.ntmps34 (by simp) Tryz.results34 (by intro _ h; cases h) fun w0 X hp => ?_
  refine LWp.seq ?_
  refine LWp.rz hT hW ?_
  simp
  refine LWp.seq ?_
  refine LWp.rz hT hW ?_
  simp
  refine ⟨by decide, ?_⟩
  refine LWp.ret ?_
  simp
  rfl
theorem RIsName_ok (s : Str) (hl : s.length ≤ 9223372036854775807) : Ok Tryz.prog 105 [.str s] ⟨.d (.bool (isNameB s)), true⟩ := by
  refine Ok.ret Tryz.func105 (by kernel_rfl) (c := _) rfl Tryz.ntmps105 (by simp) Tryz.results105 (by intro _ h; cases h) fun w0 X hp => ?_
  refine LWp.seq ?_
  refine LWp.rz hT hW ?_
  simp
  refine LWp.seq ?_
  have h1 := RLetter_ok s 0 hl
  have h2 := RWords_ok
  have h3 := RIn_ok wordsR s
  refine LWp.ro hT hW (fun | 4 => some <| .plain ⟨.d (.bool (firstIs letterB s)), true⟩ | 6 => some <| .plain ⟨.d (strsD wordsR), true⟩ | 8 => some <| .plain ⟨.d (.bool (decide (s ∈ wordsR))), true⟩ | _ => none) ?_
  simp
  refine ⟨⟨⟨by simpa using h1, fun _ => h2⟩, fun _ => h3⟩, ?_⟩
  refine LWp.ret ?_
  simp
  cases s with
  | nil => rfl
  | cons c r => rw [isName_words]; rfl
end
open Go.Proofs
section
attribute [local simp] Res.cond Nd.d_eq nd_t nd_dr nd_td ndsD evalIndex
def clsP (c : UInt8) : Int → Bool := if c = 101 then isExprK else if c = 112 then isPlaceK else if c = 108 then isLocalK else isBlockK
theorem u8_is {c : UInt8} {n : Nat} (h : n < 256) : ((c.toNat : Int) = (n : Int)) ↔ c = UInt8.ofNat n := by
  rw [← UInt8.toNat_inj, UInt8.toNat_ofNat_of_lt' (show n < UInt8.size from h)]
  omega
theorem u101 {c : UInt8} : ((c.toNat : Int) = 101) ↔ c = 101 := u8_is (n := 101) (by decide)
theorem u112 {c : UInt8} : ((c.toNat : Int) = 112) ↔ c = 112 := u8_is (n := 112) (by decide)
theorem u108 {c : UInt8} : ((c.toNat : Int) = 108) ↔ c = 108 := u8_is (n := 108) (by decide)
theorem u46 {c : UInt8} : ((c.toNat : Int) = 46) ↔ c = 46 := u8_is (n := 46) (by decide)
theorem RKinds_ok (l : List Nd) (t : Str) (ht : t.length ≤ 100) : Ok Tryz.prog 103 [ndsD l, .str t] ⟨.d (.bool (kidsB l (t.map clsP))), true⟩ := by
  refine Ok.ret Tryz.func103 (by kernel_rfl) (c := _) rfl Tryz.ntmps103 (by simp) Tryz.results103 (by intro _ h; cases h) fun w0 X hp => ?_
  refine LWp.seq ?_
  refine LWp.rz hT hW ?_
  simp
  refine LWp.seq ?_
  refine LWp.seq ?_
  refine LWp.rz hT hW ?_
  simp
  refine LWp.iff ?_
  simp
  refine ⟨fun h1 => ?_, fun h1 => ?_⟩
  · refine LWp.seq ?_
    refine LWp.rz hT hW ?_
    simp
    refine LWp.ret ?_
    simp
    exact kidsB_len (by rw [List.length_map]; omega)
  · refine LWp.skip ?_
    simp
    refine LWp.seq ?_
    refine LWp.seq ?_
    have hlen : l.length = t.length := by omega
    have hlen' : l.length = (t.map clsP).length := by simp [hlen]
    refine LWp.rz hT hW ?_
    simp
    refine LWp.block ?_
    refine LWp.loopW (ι := Nat) (fun i => mkEnv [(0, .d (ndsD l)), (1, .d (.str t)), (5, .d (I64 i))]) (fun i => mkObs []) (fun i => i ≤ l.length ∧ ∀ (j : Nat) (h1 : j < l.length) (h2 : j < t.length), j < i → clsP t[j] l[j].kind = true) (fun i => l.length - i) 0 (Weak.to [0, 1, 5] [] (by decide) (by decide) (by simp [hp]) (by simp) (by simp)) (⟨Nat.zero_le _, fun j _ _ h => absurd h (Nat.not_lt_zero _)⟩) fun i hi4 => ?_
    refine LWp.seq ?_
    refine LWp.seq ?_
    refine LWp.rz hT hW ?_
    simp
    refine LWp.iff ?_
    simp
    refine ⟨fun h4 => ?_, fun h4 => ?_⟩
    · refine LWp.skip ?_
      simp
      refine LWp.seq ?_
      refine LWp.block ?_
      refine LWp.seq ?_
      have hi : i < l.length := by omega
      have hit : i < t.length := by omega
      refine LWp.rz hT hW ?_
      simp [hi]
      refine LWp.seq ?_
      refine LWp.rz hT hW ?_
      simp
      refine LWp.seqCut (ι := BC) (fun ⟨b⟩ => mkEnv [(0, .d (ndsD l)), (1, .d (.str t)), (5, .d (I64 i)), (7, .d (.bool b))]) (fun ⟨b⟩ => mkObs []) (fun ⟨b⟩ => b = clsP t[i] l[i].kind) ?_ fun ⟨b⟩ hc15 => ?_
      · refine LWp.seq ?_
        refine LWp.rz hT hW ?_
        simp [hit]
        refine LWp.block ?_
        refine LWp.seq ?_
        refine LWp.rz hT hW ?_
        simp
        refine LWp.iff ?_
        simp
        refine ⟨fun h9 => ?_, fun h9 => ?_⟩
        · refine LWp.rz hT hW ?_
          simp
          refine cutQ.mk ⟨isExprK l[i].kind⟩ (Weak.to [0, 1, 5, 7] [] (by decide) (by decide) (by simp [hp]) (by simp [isExprK]) (by simp)) ?_
          simp [clsP, u101.1 h9]
        · refine LWp.seq ?_
          refine LWp.rz hT hW ?_
          simp
          refine LWp.iff ?_
          simp
          refine ⟨fun h11 => ?_, fun h11 => ?_⟩
          · refine LWp.rz hT hW ?_
            simp
            refine cutQ.mk ⟨isPlaceK l[i].kind⟩ (Weak.to [0, 1, 5, 7] [] (by decide) (by decide) (by simp [hp]) (by simp [isPlaceK]) (by simp)) ?_
            simp [clsP, u112.1 h11]
          · refine LWp.seq ?_
            refine LWp.rz hT hW ?_
            simp
            refine LWp.iff ?_
            simp
            refine ⟨fun h13 => ?_, fun h13 => ?_⟩
            · refine LWp.rz hT hW ?_
              simp
              refine cutQ.mk ⟨isLocalK l[i].kind⟩ (Weak.to [0, 1, 5, 7] [] (by decide) (by decide) (by simp [hp]) (by simp [isLocalK]) (by simp)) ?_
              simp [clsP, u108.1 h13]
            · refine LWp.skip ?_
              simp
              refine cutQ.mk ⟨isBlockK l[i].kind⟩ (Weak.to [0, 1, 5, 7] [] (by decide) (by decide) (by simp [hp]) (by simp [isBlockK]) (by simp)) ?_
              have e1 : ¬ t[i] = 101 := fun e => h9 (u101.2 e)
              have e2 : ¬ t[i] = 112 := fun e => h11 (u112.2 e)
              have e3 : ¬ t[i] = 108 := fun e => h13 (u108.2 e)
              simp [clsP, e1, e2, e3]
      · refine LWp.seq ?_
        refine LWp.rz hT hW ?_
        simp
        refine LWp.iff ?_
        simp
        refine ⟨fun h15 => ?_, fun h15 => ?_⟩
        · refine LWp.seq ?_
          refine LWp.rz hT hW ?_
          simp
          refine LWp.ret ?_
          simp
          rw [← Bool.not_eq_true, kidsB_at hlen']
          intro h
          have := h i hi (by simpa using hit)
          simp only [List.getElem_map] at this
          rw [← hc15, h15] at this
          cases this
        · refine LWp.skip ?_
          simp
          refine LWp.rz hT hW ?_
          simp
          refine ⟨by omega, ?_⟩
          refine loopQ.mk (i + 1) (Weak.to [0, 1, 5] [] (by decide) (by decide) (by simp [hp]) (by simp) (by simp)) ?_ ?_
          · refine ⟨by omega, fun j q1 q2 q3 => ?_⟩
            rcases Nat.lt_or_ge j i with q | q
            · exact hi4.2 j q1 q2 q
            · have : j = i := by omega
              subst this
              rw [← hc15]; exact h15
          · omega
    · refine LWp.exit ?_
      simp
      refine LWp.seq ?_
      refine LWp.rz hT hW ?_
      simp
      refine LWp.ret ?_
      simp
      rw [kidsB_at hlen']
      intro j q1 q2
      simp only [List.getElem_map]
      exact hi4.2 j q1 (by simpa using q2) (by omega)
theorem cls_e : clsP 101 = isExprK := rfl
theorem cls_p : clsP 112 = isPlaceK := rfl
theorem cls_l : clsP 108 = isLocalK := rfl
theorem cls_b : clsP 98 = isBlockK := rfl
theorem kidsB_nil (l : List Nd) : kidsB l [] = decide (l.length = 0) := by cases l <;> simp [kidsB]
theorem RFits_ok (x : Nd) (hl : x.kids.length ≤ 9223372036854775806) : Ok Tryz.prog 67 [x.d] ⟨.d (.bool (shapedB x)), true⟩ := by
  refine Ok.ret Tryz.func67 (by kernel_rfl) (c := _) rfl Tryz.ntmps67 (by simp) Tryz.results67 (by intro _ h; cases h) fun w0 X hp => ?_
  refine LWp.seq ?_
  refine LWp.rz hT hW ?_
  simp
  refine LWp.seq ?_
  refine LWp.rz hT hW ?_
  simp
  refine LWp.seq ?_
  refine LWp.seq ?_
  refine LWp.rz hT hW ?_
  simp
  refine LWp.block ?_
  refine LWp.seq ?_
  refine LWp.rz hT hW ?_
  simp
  refine LWp.iff ?_
  simp
  refine ⟨fun h3 => ?_, fun h3 => ?_⟩
  · refine LWp.seq ?_
    refine LWp.seq ?_
    refine LWp.rz hT hW ?_
    simp
    refine LWp.block ?_
    refine LWp.loopW (ι := Nat) (fun i => mkEnv [(3, .d (ndsD x.kids)), (4, .d (I64 i))]) (fun i => mkObs []) (fun i => i ≤ x.kids.length ∧ ∀ (j : Nat) (h : j < x.kids.length), j < i → x.kids[j].kind = 7) (fun i => x.kids.length - i) 0 (Weak.to [3, 4] [] (by decide) (by decide) (by simp [hp]) (by simp) (by simp)) (⟨Nat.zero_le _, fun j _ h => absurd h (Nat.not_lt_zero _)⟩) fun i hi5 => ?_
    refine LWp.seq ?_
    refine LWp.seq ?_
    refine LWp.rz hT hW ?_
    simp
    refine LWp.iff ?_
    simp
    refine ⟨fun h5 => ?_, fun h5 => ?_⟩
    · refine LWp.skip ?_
      simp
      refine LWp.seq ?_
      refine LWp.block ?_
      refine LWp.seq ?_
      have hi : i < x.kids.length := by omega
      refine LWp.rz hT hW ?_
      simp [hi]
      refine LWp.iff ?_
      simp
      refine ⟨fun h7 => ?_, fun h7 => ?_⟩
      · refine LWp.seq ?_
        refine LWp.rz hT hW ?_
        simp
        refine LWp.ret ?_
        simp
        unfold shapedB shapedK
        rw [if_pos h3, Bool.eq_false_iff]
        intro h
        have := List.all_eq_true.1 h _ (List.getElem_mem hi)
        simp [isItemK] at this
        exact h7 this
      · refine LWp.skip ?_
        simp
        refine LWp.rz hT hW ?_
        simp
        refine ⟨by omega, ?_⟩
        refine loopQ.mk (i + 1) (Weak.to [3, 4] [] (by decide) (by decide) (by simp [hp]) (by simp) (by simp)) ?_ ?_
        · refine ⟨by omega, fun j q1 q2 => ?_⟩
          rcases Nat.lt_or_ge j i with q | q
          · exact hi5.2 j q1 q
          · have : j = i := by omega
            subst this
            exact h7
        · omega
    · refine LWp.exit ?_
      simp
      refine LWp.seq ?_
      refine LWp.rz hT hW ?_
      simp
      refine LWp.ret ?_
      simp
      unfold shapedB shapedK
      rw [if_pos h3, List.all_eq_true]
      intro y hy
      obtain ⟨j, hj, rfl⟩ := List.getElem_of_mem hy
      simp [isItemK, hi5.2 j hj (by omega)]
  · refine LWp.seq ?_
    refine LWp.rz hT hW ?_
    simp
    refine LWp.iff ?_
    simp
    refine ⟨fun h10 => ?_, fun h10 => ?_⟩
    · refine LWp.seq ?_
      refine LWp.seq ?_
      refine LWp.rz hT hW ?_
      simp
      refine LWp.block ?_
      refine LWp.loopW (ι := Nat) (fun i => mkEnv [(3, .d (ndsD x.kids)), (5, .d (I64 i))]) (fun i => mkObs []) (fun i => i ≤ x.kids.length ∧ ∀ (j : Nat) (h : j < x.kids.length), j < i → 9 ≤ x.kids[j].kind ∧ x.kids[j].kind ≤ 25) (fun i => x.kids.length - i) 0 (Weak.to [3, 5] [] (by decide) (by decide) (by simp [hp]) (by simp) (by simp)) (⟨Nat.zero_le _, fun j _ h => absurd h (Nat.not_lt_zero _)⟩) fun i hi12 => ?_
      refine LWp.seq ?_
      refine LWp.seq ?_
      refine LWp.rz hT hW ?_
      simp
      refine LWp.iff ?_
      simp
      refine ⟨fun h12 => ?_, fun h12 => ?_⟩
      · refine LWp.skip ?_
        simp
        refine LWp.seq ?_
        refine LWp.block ?_
        refine LWp.seq ?_
        have hi : i < x.kids.length := by omega
        refine LWp.rz hT hW ?_
        simp [hi]
        refine LWp.iff ?_
        simp
        refine ⟨fun g13 => ?_, fun g14 g15 => ?_⟩
        · refine LWp.seq ?_
          refine LWp.rz hT hW ?_
          simp
          refine LWp.ret ?_
          simp
          unfold shapedB shapedK
          rw [if_neg h3, if_pos h10, Bool.eq_false_iff]
          intro h
          have := List.all_eq_true.1 h _ (List.getElem_mem hi)
          simp [isStmtK] at this
          omega
        · refine LWp.skip ?_
          simp
          refine LWp.rz hT hW ?_
          simp
          refine ⟨by omega, ?_⟩
          refine loopQ.mk (i + 1) (Weak.to [3, 5] [] (by decide) (by decide) (by simp [hp]) (by simp) (by simp)) ?_ ?_
          · refine ⟨by omega, fun j q1 q2 => ?_⟩
            rcases Nat.lt_or_ge j i with q | q
            · exact hi12.2 j q1 q
            · have : j = i := by omega
              subst this
              exact ⟨g14, g15⟩
          · omega
      · refine LWp.exit ?_
        simp
        refine LWp.seq ?_
        refine LWp.rz hT hW ?_
        simp
        refine LWp.ret ?_
        simp
        unfold shapedB shapedK
        rw [if_neg h3, if_pos h10, List.all_eq_true]
        intro y hy
        obtain ⟨j, hj, rfl⟩ := List.getElem_of_mem hy
        simp [isStmtK, hi12.2 j hj (by omega)]
    · refine LWp.seqCut (ι := BC) (fun ⟨b⟩ => mkEnv [(1, .bx 1 0), (3, .d (ndsD x.kids)), (9, .d (I64 (x.kind))), (46, .d (.bool b))]) (fun ⟨b⟩ => mkObs [(1, .box false [.d (I64 x.kind), .d (.str x.text), .d (I64 x.n), .d (ndsD x.kids)])]) (fun ⟨b⟩ => b = true ↔ (x.kind = 5 ∨ x.kind = 6)) ?_ fun ⟨b⟩ hc19 => ?_
      · refine LWp.seq ?_
        refine LWp.rz hT hW ?_
        simp
        refine LWp.iff ?_
        simp
        refine ⟨fun h17 => ?_, fun h17 => ?_⟩
        · refine LWp.skip ?_
          simp
          refine cutQ.mk ⟨decide (x.kind = 5)⟩ (Weak.to [1, 3, 9, 46] [(1, 1)] (by decide) (by decide) (by simp [hp]) (by simp) (by simp)) ?_
          simp [h17]
        · refine LWp.rz hT hW ?_
          simp
          refine cutQ.mk ⟨decide (x.kind = 6)⟩ (Weak.to [1, 3, 9, 46] [(1, 1)] (by decide) (by decide) (by simp [hp]) (by simp) (by simp)) ?_
          simp only [decide_eq_true_eq]; omega
      · refine LWp.iff ?_
        simp
        refine ⟨fun h19 => ?_, fun h19 => ?_⟩
        · have q19 := hc19.1 h19
          refine LWp.seq ?_
          have k19 := RKinds_ok x.kids [98] (by decide)
          simp only [List.map_cons, List.map_nil, cls_b] at k19
          refine LWp.ro hT hW (fun | 50 => some <| .plain ⟨.d (.bool (kidsB x.kids [isBlockK])), true⟩ | _ => none) ?_
          simp
          refine ⟨k19, ?_⟩
          refine LWp.ret ?_
          simp
          unfold shapedB shapedK
          repeat (first | rw [if_pos (by omega)] | rw [if_neg (by omega)])
          try rw [kidsB_nil]
          try simp
        · have q19 : ¬ (x.kind = 5 ∨ x.kind = 6) := fun q => by simp [hc19.2 q] at h19
          refine LWp.seqCut (ι := BC) (fun ⟨b⟩ => mkEnv [(1, .bx 1 0), (3, .d (ndsD x.kids)), (9, .d (I64 (x.kind))), (51, .d (.bool b))]) (fun ⟨b⟩ => mkObs [(1, .box false [.d (I64 x.kind), .d (.str x.text), .d (I64 x.n), .d (ndsD x.kids)])]) (fun ⟨b⟩ => b = true ↔ (x.kind = 9 ∨ x.kind = 15 ∨ x.kind = 22 ∨ x.kind = 24)) ?_ fun ⟨b⟩ hc24 => ?_
          · refine LWp.seq ?_
            refine LWp.rz hT hW ?_
            simp
            refine LWp.iff ?_
            simp
            refine ⟨fun h20 => ?_, fun h20 => ?_⟩
            · refine LWp.skip ?_
              simp
              refine cutQ.mk ⟨decide (x.kind = 9)⟩ (Weak.to [1, 3, 9, 51] [(1, 1)] (by decide) (by decide) (by simp [hp]) (by simp) (by simp)) ?_
              simp [h20]
            · refine LWp.seq ?_
              refine LWp.rz hT hW ?_
              simp
              refine LWp.iff ?_
              simp
              refine ⟨fun h21 => ?_, fun h21 => ?_⟩
              · refine LWp.skip ?_
                simp
                refine cutQ.mk ⟨decide (x.kind = 15)⟩ (Weak.to [1, 3, 9, 51] [(1, 1)] (by decide) (by decide) (by simp [hp]) (by simp) (by simp)) ?_
                simp [h21]
              · refine LWp.seq ?_
                refine LWp.rz hT hW ?_
                simp
                refine LWp.iff ?_
                simp
                refine ⟨fun h22 => ?_, fun h22 => ?_⟩
                · refine LWp.skip ?_
                  simp
                  refine cutQ.mk ⟨decide (x.kind = 22)⟩ (Weak.to [1, 3, 9, 51] [(1, 1)] (by decide) (by decide) (by simp [hp]) (by simp) (by simp)) ?_
                  simp [h22]
                · refine LWp.rz hT hW ?_
                  simp
                  refine cutQ.mk ⟨decide (x.kind = 24)⟩ (Weak.to [1, 3, 9, 51] [(1, 1)] (by decide) (by decide) (by simp [hp]) (by simp) (by simp)) ?_
                  simp only [decide_eq_true_eq]; omega
          · refine LWp.iff ?_
            simp
            refine ⟨fun h24 => ?_, fun h24 => ?_⟩
            · have q24 := hc24.1 h24
              refine LWp.seq ?_
              have k24 := RKinds_ok x.kids [101] (by decide)
              simp only [List.map_cons, List.map_nil, cls_e] at k24
              refine LWp.ro hT hW (fun | 57 => some <| .plain ⟨.d (.bool (kidsB x.kids [isExprK])), true⟩ | _ => none) ?_
              simp
              refine ⟨k24, ?_⟩
              refine LWp.ret ?_
              simp
              unfold shapedB shapedK
              repeat (first | rw [if_pos (by omega)] | rw [if_neg (by omega)])
              try rw [kidsB_nil]
              try simp
            · have q24 : ¬ (x.kind = 9 ∨ x.kind = 15 ∨ x.kind = 22 ∨ x.kind = 24) := fun q => by simp [hc24.2 q] at h24
              refine LWp.seq ?_
              refine LWp.rz hT hW ?_
              simp
              refine LWp.iff ?_
              simp
              refine ⟨fun h25 => ?_, fun h25 => ?_⟩
              · refine LWp.seq ?_
                have k26 := RKinds_ok x.kids [112, 101] (by decide)
                simp only [List.map_cons, List.map_nil, cls_e, cls_p] at k26
                refine LWp.ro hT hW (fun | 61 => some <| .plain ⟨.d (.bool (kidsB x.kids [isPlaceK, isExprK])), true⟩ | _ => none) ?_
                simp
                refine ⟨k26, ?_⟩
                refine LWp.ret ?_
                simp
                unfold shapedB shapedK
                repeat (first | rw [if_pos (by omega)] | rw [if_neg (by omega)])
                try rw [kidsB_nil]
                try simp
              · refine LWp.seq ?_
                refine LWp.rz hT hW ?_
                simp
                refine LWp.iff ?_
                simp
                refine ⟨fun h27 => ?_, fun h27 => ?_⟩
                · refine LWp.seq ?_
                  have k28 := RKinds_ok x.kids [101, 98] (by decide)
                  have l28 := RKinds_ok x.kids [101, 98, 98] (by decide)
                  simp only [List.map_cons, List.map_nil, cls_e, cls_b] at k28 l28
                  refine LWp.ro hT hW (fun | 65 => some <| .plain ⟨.d (.bool (kidsB x.kids [isExprK, isBlockK])), true⟩ | 68 => some <| .plain ⟨.d (.bool (kidsB x.kids [isExprK, isBlockK, isBlockK])), true⟩ | _ => none) ?_
                  simp
                  refine ⟨⟨k28, fun _ => l28⟩, ?_⟩
                  refine LWp.ret ?_
                  simp
                  unfold shapedB shapedK
                  repeat (first | rw [if_pos (by omega)] | rw [if_neg (by omega)])
                  try rw [kidsB_nil]
                  try simp
                · refine LWp.seq ?_
                  refine LWp.rz hT hW ?_
                  simp
                  refine LWp.iff ?_
                  simp
                  refine ⟨fun h29 => ?_, fun h29 => ?_⟩
                  · refine LWp.seq ?_
                    have k30 := RKinds_ok x.kids [101, 98] (by decide)
                    simp only [List.map_cons, List.map_nil, cls_e, cls_b] at k30
                    refine LWp.ro hT hW (fun | 73 => some <| .plain ⟨.d (.bool (kidsB x.kids [isExprK, isBlockK])), true⟩ | _ => none) ?_
                    simp
                    refine ⟨k30, ?_⟩
                    refine LWp.ret ?_
                    simp
                    unfold shapedB shapedK
                    repeat (first | rw [if_pos (by omega)] | rw [if_neg (by omega)])
                    try rw [kidsB_nil]
                    try simp
                  · refine LWp.seqCut (ι := BC) (fun ⟨b⟩ => mkEnv [(1, .bx 1 0), (3, .d (ndsD x.kids)), (9, .d (I64 (x.kind))), (74, .d (.bool b))]) (fun ⟨b⟩ => mkObs [(1, .box false [.d (I64 x.kind), .d (.str x.text), .d (I64 x.n), .d (ndsD x.kids)])]) (fun ⟨b⟩ => b = true ↔ (x.kind = 16 ∨ x.kind = 23)) ?_ fun ⟨b⟩ hc33 => ?_
                    · refine LWp.seq ?_
                      refine LWp.rz hT hW ?_
                      simp
                      refine LWp.iff ?_
                      simp
                      refine ⟨fun h31 => ?_, fun h31 => ?_⟩
                      · refine LWp.skip ?_
                        simp
                        refine cutQ.mk ⟨decide (x.kind = 16)⟩ (Weak.to [1, 3, 9, 74] [(1, 1)] (by decide) (by decide) (by simp [hp]) (by simp) (by simp)) ?_
                        simp [h31]
                      · refine LWp.rz hT hW ?_
                        simp
                        refine cutQ.mk ⟨decide (x.kind = 23)⟩ (Weak.to [1, 3, 9, 74] [(1, 1)] (by decide) (by decide) (by simp [hp]) (by simp) (by simp)) ?_
                        simp only [decide_eq_true_eq]; omega
                    · refine LWp.iff ?_
                      simp
                      refine ⟨fun h33 => ?_, fun h33 => ?_⟩
                      · have q33 := hc33.1 h33
                        refine LWp.seq ?_
                        have k33 := RKinds_ok x.kids [108] (by decide)
                        simp only [List.map_cons, List.map_nil, cls_l] at k33
                        refine LWp.ro hT hW (fun | 78 => some <| .plain ⟨.d (.bool (kidsB x.kids [isLocalK])), true⟩ | _ => none) ?_
                        simp
                        refine ⟨k33, ?_⟩
                        refine LWp.ret ?_
                        simp
                        unfold shapedB shapedK
                        repeat (first | rw [if_pos (by omega)] | rw [if_neg (by omega)])
                        try rw [kidsB_nil]
                        try simp
                      · have q33 : ¬ (x.kind = 16 ∨ x.kind = 23) := fun q => by simp [hc33.2 q] at h33
                        refine LWp.seqCut (ι := BC) (fun ⟨b⟩ => mkEnv [(1, .bx 1 0), (3, .d (ndsD x.kids)), (9, .d (I64 (x.kind))), (79, .d (.bool b))]) (fun ⟨b⟩ => mkObs [(1, .box false [.d (I64 x.kind), .d (.str x.text), .d (I64 x.n), .d (ndsD x.kids)])]) (fun ⟨b⟩ => b = true ↔ (x.kind = 26 ∨ x.kind = 27 ∨ x.kind = 28 ∨ x.kind = 29 ∨ x.kind = 30 ∨ x.kind = 31)) ?_ fun ⟨b⟩ hc40 => ?_
                        · refine LWp.seq ?_
                          refine LWp.rz hT hW ?_
                          simp
                          refine LWp.iff ?_
                          simp
                          refine ⟨fun h34 => ?_, fun h34 => ?_⟩
                          · refine LWp.skip ?_
                            simp
                            refine cutQ.mk ⟨decide (x.kind = 26)⟩ (Weak.to [1, 3, 9, 79] [(1, 1)] (by decide) (by decide) (by simp [hp]) (by simp) (by simp)) ?_
                            simp [h34]
                          · refine LWp.seq ?_
                            refine LWp.rz hT hW ?_
                            simp
                            refine LWp.iff ?_
                            simp
                            refine ⟨fun h35 => ?_, fun h35 => ?_⟩
                            · refine LWp.skip ?_
                              simp
                              refine cutQ.mk ⟨decide (x.kind = 27)⟩ (Weak.to [1, 3, 9, 79] [(1, 1)] (by decide) (by decide) (by simp [hp]) (by simp) (by simp)) ?_
                              simp [h35]
                            · refine LWp.seq ?_
                              refine LWp.rz hT hW ?_
                              simp
                              refine LWp.iff ?_
                              simp
                              refine ⟨fun h36 => ?_, fun h36 => ?_⟩
                              · refine LWp.skip ?_
                                simp
                                refine cutQ.mk ⟨decide (x.kind = 28)⟩ (Weak.to [1, 3, 9, 79] [(1, 1)] (by decide) (by decide) (by simp [hp]) (by simp) (by simp)) ?_
                                simp [h36]
                              · refine LWp.seq ?_
                                refine LWp.rz hT hW ?_
                                simp
                                refine LWp.iff ?_
                                simp
                                refine ⟨fun h37 => ?_, fun h37 => ?_⟩
                                · refine LWp.skip ?_
                                  simp
                                  refine cutQ.mk ⟨decide (x.kind = 29)⟩ (Weak.to [1, 3, 9, 79] [(1, 1)] (by decide) (by decide) (by simp [hp]) (by simp) (by simp)) ?_
                                  simp [h37]
                                · refine LWp.seq ?_
                                  refine LWp.rz hT hW ?_
                                  simp
                                  refine LWp.iff ?_
                                  simp
                                  refine ⟨fun h38 => ?_, fun h38 => ?_⟩
                                  · refine LWp.skip ?_
                                    simp
                                    refine cutQ.mk ⟨decide (x.kind = 30)⟩ (Weak.to [1, 3, 9, 79] [(1, 1)] (by decide) (by decide) (by simp [hp]) (by simp) (by simp)) ?_
                                    simp [h38]
                                  · refine LWp.rz hT hW ?_
                                    simp
                                    refine cutQ.mk ⟨decide (x.kind = 31)⟩ (Weak.to [1, 3, 9, 79] [(1, 1)] (by decide) (by decide) (by simp [hp]) (by simp) (by simp)) ?_
                                    simp only [decide_eq_true_eq]; omega
                        · refine LWp.iff ?_
                          simp
                          refine ⟨fun h40 => ?_, fun h40 => ?_⟩
                          · have q40 := hc40.1 h40
                            refine LWp.seq ?_
                            have k40 := RKinds_ok x.kids [101, 101] (by decide)
                            simp only [List.map_cons, List.map_nil, cls_e] at k40
                            refine LWp.ro hT hW (fun | 87 => some <| .plain ⟨.d (.bool (kidsB x.kids [isExprK, isExprK])), true⟩ | _ => none) ?_
                            simp
                            refine ⟨k40, ?_⟩
                            refine LWp.ret ?_
                            simp
                            unfold shapedB shapedK
                            repeat (first | rw [if_pos (by omega)] | rw [if_neg (by omega)])
                            try rw [kidsB_nil]
                            try simp
                          · have q40 : ¬ (x.kind = 26 ∨ x.kind = 27 ∨ x.kind = 28 ∨ x.kind = 29 ∨ x.kind = 30 ∨ x.kind = 31) := fun q => by simp [hc40.2 q] at h40
                            refine LWp.skip ?_
                            simp
                            refine LWp.seq ?_
                            refine LWp.rz hT hW ?_
                            simp
                            refine LWp.ret ?_
                            simp
                            unfold shapedB shapedK
                            repeat (first | rw [if_pos (by omega)] | rw [if_neg (by omega)])
                            try rw [kidsB_nil]
                            try simp
theorem bounds_else {k : Int} (h0 : 0 ≤ k) (h1 : k < 37) (hn : ¬ (k = 0 ∨ k = 7 ∨ k = 32 ∨ k = 2 ∨ k = 19 ∨ k = 21 ∨ k = 25)) : loAt k = 0 ∧ hiAt k = 0 := by
  obtain ⟨n, rfl⟩ := Int.eq_ofNat_of_zero_le h0
  have key : ∀ n : Nat, n < 37 → ¬ (n = 0 ∨ n = 7 ∨ n = 32 ∨ n = 2 ∨ n = 19 ∨ n = 21 ∨ n = 25) → boundsL.getD n (0, 0) = (0, 0) := by decide
  have := key n (by omega) (by omega)
  exact ⟨congrArg Prod.fst this, congrArg Prod.snd this⟩
theorem RBounds_ok (k : Int) (h0 : 0 ≤ k) (h1 : k < 37) : Ok Tryz.prog 104 [I64 k] ⟨.tup [.d (I64 (loAt k)), .d (I64 (hiAt k))], true⟩ := by
  refine Ok.two Tryz.func104 (by kernel_rfl) (c := _) rfl Tryz.ntmps104 (by simp) Tryz.results104 rfl fun w0 X hp => ?_
  refine LWp.seq ?_
  refine LWp.rz hT hW ?_
  simp
  refine LWp.seq ?_
  refine LWp.seq ?_
  refine LWp.rz hT hW ?_
  simp
  refine LWp.block ?_
  refine LWp.seqCut (ι := BC) (fun ⟨b⟩ => mkEnv [(0, .d (I64 k)), (4, .d (I64 (k))), (5, .d (.bool b))]) (fun ⟨b⟩ => mkObs []) (fun ⟨b⟩ => b = true ↔ (k = 0 ∨ k = 7)) ?_ fun ⟨b⟩ hc4 => ?_
  · refine LWp.seq ?_
    refine LWp.rz hT hW ?_
    simp
    refine LWp.iff ?_
    simp
    refine ⟨fun h2 => ?_, fun h2 => ?_⟩
    · refine LWp.skip ?_
      simp
      refine cutQ.mk ⟨decide (k = 0)⟩ (Weak.to [0, 4, 5] [] (by decide) (by decide) (by simp [hp]) (by simp) (by simp)) ?_
      simp [h2]
    · refine LWp.rz hT hW ?_
      simp
      refine cutQ.mk ⟨decide (k = 7)⟩ (Weak.to [0, 4, 5] [] (by decide) (by decide) (by simp [hp]) (by simp) (by simp)) ?_
      simp only [decide_eq_true_eq]; omega
  · refine LWp.iff ?_
    simp
    refine ⟨fun h4 => ?_, fun h4 => ?_⟩
    · have q4 := hc4.1 h4
      refine LWp.seq ?_
      refine LWp.rz hT hW ?_
      simp
      refine LWp.ret ?_
      have e : loAt k = -999 ∧ hiAt k = 999 := by rcases q4 with h | h <;> rw [h] <;> exact ⟨rfl, rfl⟩
      simp [e.1, e.2]
    · have q4 : ¬ (k = 0 ∨ k = 7) := fun q => by simp [hc4.2 q] at h4
      refine LWp.seq ?_
      refine LWp.rz hT hW ?_
      simp
      refine LWp.iff ?_
      simp
      refine ⟨fun h5 => ?_, fun h5 => ?_⟩
      · refine LWp.seq ?_
        refine LWp.rz hT hW ?_
        simp
        refine LWp.ret ?_
        have e : loAt k = 0 ∧ hiAt k = 999 := by rw [h5]; exact ⟨rfl, rfl⟩
        simp [e.1, e.2]
      · refine LWp.seq ?_
        refine LWp.rz hT hW ?_
        simp
        refine LWp.iff ?_
        simp
        refine ⟨fun h7 => ?_, fun h7 => ?_⟩
        · refine LWp.seq ?_
          refine LWp.rz hT hW ?_
          simp
          refine LWp.ret ?_
          have e : loAt k = 0 ∧ hiAt k = 3 := by rw [h7]; exact ⟨rfl, rfl⟩
          simp [e.1, e.2]
        · refine LWp.seq ?_
          refine LWp.rz hT hW ?_
          simp
          refine LWp.iff ?_
          simp
          refine ⟨fun h9 => ?_, fun h9 => ?_⟩
          · refine LWp.seq ?_
            refine LWp.rz hT hW ?_
            simp
            refine LWp.ret ?_
            have e : loAt k = 2 ∧ hiAt k = 6 := by rw [h9]; exact ⟨rfl, rfl⟩
            simp [e.1, e.2]
          · refine LWp.seq ?_
            refine LWp.rz hT hW ?_
            simp
            refine LWp.iff ?_
            simp
            refine ⟨fun h11 => ?_, fun h11 => ?_⟩
            · refine LWp.seq ?_
              refine LWp.rz hT hW ?_
              simp
              refine LWp.ret ?_
              have e : loAt k = 1 ∧ hiAt k = 9 := by rw [h11]; exact ⟨rfl, rfl⟩
              simp [e.1, e.2]
            · refine LWp.seq ?_
              refine LWp.rz hT hW ?_
              simp
              refine LWp.iff ?_
              simp
              refine ⟨fun h13 => ?_, fun h13 => ?_⟩
              · refine LWp.seq ?_
                refine LWp.rz hT hW ?_
                simp
                refine LWp.ret ?_
                have e : loAt k = 1 ∧ hiAt k = 99 := by rw [h13]; exact ⟨rfl, rfl⟩
                simp [e.1, e.2]
              · refine LWp.skip ?_
                simp
                refine LWp.seq ?_
                refine LWp.rz hT hW ?_
                simp
                refine LWp.ret ?_
                have e := bounds_else h0 h1 (by omega)
                simp [e.1, e.2]
theorem wordR_range {t : Str} : -1 ≤ wordR t 0 ∧ wordR t 0 ≤ t.length := by
  unfold wordR
  rw [List.drop_zero]
  have := wordN_le t
  split <;> omega
theorem word_all (t : Str) : decide (wordR t 0 = (t.length : Int)) = (decide (t ≠ []) && decide (wordN t = t.length)) := by
  unfold wordR
  rw [List.drop_zero]
  cases t with
  | nil => rfl
  | cons c r =>
    by_cases h : 0 < wordN (c :: r)
    · rw [if_pos h, Bool.eq_iff_iff]
      simp
      omega
    · rw [if_neg h, Bool.eq_iff_iff]
      simp
      omega
theorem field_iff (t : Str) : fieldB t = true ↔ ∃ a b, t = a ++ 46 :: b ∧ wholeB a true = true ∧ wholeB b true = true := by
  constructor
  · intro h
    unfold fieldB at h
    cases e : cutAt 46 t with
    | none => rw [e] at h; cases h
    | some q =>
      rw [e] at h
      simp only [Bool.and_eq_true] at h
      exact ⟨q.1, q.2, cutAt_eq (a := q.1) (b := q.2) e, h.1, h.2⟩
  · rintro ⟨a, b, rfl, ha, hb⟩
    exact field_ok ha hb
theorem whole_parts {a : Str} (h : wholeB a true = true) : a ≠ [] ∧ wordN a = a.length ∧ isNameB a = true := by
  unfold wholeB at h
  simp only [Bool.and_eq_true, decide_eq_true_eq, Bool.not_true, Bool.false_or] at h
  exact ⟨h.1.1, h.1.2, h.2⟩
theorem whole_mk {a : Str} (h1 : a ≠ []) (h2 : wordN a = a.length) (h3 : isNameB a = true) : wholeB a true = true := by
  unfold wholeB
  simp [h1, h2, h3]
theorem field_at {a b : Str} (ha : wholeB a true = true) : wordR (a ++ 46 :: b) 0 = (a.length : Int) := by
  obtain ⟨h1, h2, _⟩ := whole_parts ha
  have hp : 0 < a.length := List.length_pos_iff.2 h1
  have := wordN_app (t := a) (s := 46 :: b) h2 (by omega) rfl
  unfold wordR
  rw [List.drop_zero, this, if_pos hp]
  simp
theorem field_no {t : Str} {k : Int} (hk : wordR t 0 = k) (h : (k < 0 ∨ (t.length : Int) ≤ k) ∨ ¬ (((t[(if k < 0 then 0 else k).toNat]?.getD 0).toNat : Int)) = 46) : fieldB t = false := by
  rw [← Bool.not_eq_true, field_iff]
  rintro ⟨a, b, rfl, ha, _⟩
  rw [field_at ha] at hk
  subst hk
  rw [if_neg (by omega)] at h
  rw [List.length_append, List.length_cons] at h
  rcases h with (h | h) | h
  · omega
  · omega
  · apply h
    simp
theorem field_yes {t : Str} {n : Nat} (hk : wordR t 0 = (n : Int)) (hn : n < t.length) (h : (((t[n]?.getD 0).toNat : Int)) = 46) : fieldB t = (isNameB (t.take n) && isNameB (t.drop (n + 1)) && decide (wordR t (n + 1) = (t.length : Int))) := by
  have h46 : t[n] = 46 := by rw [List.getElem?_eq_getElem hn] at h; exact u46.1 h
  have et : t = t.take n ++ 46 :: t.drop (n + 1) := by rw [← h46, List.getElem_cons_drop, List.take_append_drop]
  have hw : 0 < wordN t ∧ wordN t = n := by
    unfold wordR at hk
    rw [List.drop_zero] at hk
    split at hk <;> omega
  have hlt : (t.take n).length = n := by rw [List.length_take]; omega
  have hwt : wordN (t.take n) = n := by have := wordN_take hw.1; rw [hw.2] at this; exact this
  rw [Bool.eq_iff_iff, field_iff]
  simp only [Bool.and_eq_true, decide_eq_true_eq]
  constructor
  · rintro ⟨a, b, e, ha, hb⟩
    have hna : a.length = n := by
      have := field_at (b := b) ha
      rw [← e, hk] at this
      omega
    have ea : t.take n = a := by rw [e, ← hna]; simp
    have eb : t.drop (n + 1) = b := by rw [e, ← hna]; simp
    obtain ⟨a1, a2, a3⟩ := whole_parts ha
    obtain ⟨b1, b2, b3⟩ := whole_parts hb
    refine ⟨⟨by rw [ea]; exact a3, by rw [eb]; exact b3⟩, ?_⟩
    unfold wordR
    have hb0 := List.length_pos_iff.2 b1
    rw [eb, b2, if_pos hb0, e, List.length_append, List.length_cons]
    omega
  · rintro ⟨⟨h1, h2⟩, h3⟩
    have hld : (t.drop (n + 1)).length = t.length - (n + 1) := List.length_drop
    refine ⟨_, _, et, whole_mk (fun z => by rw [z] at h1; cases h1) (by rw [hwt, hlt]) h1, whole_mk (fun z => by rw [z] at h2; cases h2) ?_ h2⟩
    unfold wordR at h3
    split at h3 <;> omega
set_option maxRecDepth 10000 in
theorem RReads_ok (x : Nd) (h0 : 0 ≤ x.kind) (h1 : x.kind < 37) (hl : x.text.length ≤ 1000000000) : Ok Tryz.prog 68 [x.d] ⟨.d (.bool (wordedB x)), true⟩ := by
  refine Ok.ret Tryz.func68 (by kernel_rfl) (c := _) rfl Tryz.ntmps68 (by simp) Tryz.results68 (by intro _ h; cases h) fun w0 X hp => ?_
  refine LWp.seq ?_
  refine LWp.rz hT hW ?_
  simp
  refine LWp.seq ?_
  have hb := RBounds_ok x.kind h0 h1
  refine LWp.ro hT hW (fun | 9 => some <| .plain ⟨.tup [.d (I64 (loAt x.kind)), .d (I64 (hiAt x.kind))], true⟩ | _ => none) ?_
  simp [evalExtract]
  refine ⟨hb, ?_⟩
  refine LWp.seq ?_
  refine LWp.seq ?_
  refine LWp.rz hT hW ?_
  simp
  refine LWp.iff ?_
  simp
  refine ⟨fun g => ?_, fun g1 g2 => ?_⟩
  · refine LWp.seq ?_
    refine LWp.rz hT hW ?_
    simp
    refine LWp.ret ?_
    simp
    unfold wordedB wordedK
    rw [Bool.eq_false_iff]
    intro h
    simp only [Bool.and_eq_true, decide_eq_true_eq] at h
    omega
  · refine LWp.skip ?_
    simp
    refine LWp.seq ?_
    refine LWp.seq ?_
    refine LWp.rz hT hW ?_
    simp
    refine LWp.block ?_
    refine LWp.seqCut (ι := BC) (fun ⟨b⟩ => mkEnv [(1, .bx 1 0), (23, .d (I64 (x.kind))), (24, .d (.bool b))]) (fun ⟨b⟩ => mkObs [(1, .box false [.d (I64 x.kind), .d (.str x.text), .d (I64 x.n), .d (ndsD x.kids)])]) (fun ⟨b⟩ => b = true ↔ (x.kind = 0 ∨ x.kind = 1 ∨ x.kind = 2 ∨ x.kind = 3 ∨ x.kind = 4 ∨ x.kind = 5 ∨ x.kind = 6 ∨ x.kind = 7 ∨ x.kind = 13 ∨ x.kind = 14 ∨ x.kind = 15 ∨ x.kind = 16 ∨ x.kind = 17 ∨ x.kind = 18 ∨ x.kind = 22 ∨ x.kind = 23 ∨ x.kind = 34)) ?_ fun ⟨b⟩ hc22 => ?_
    · refine LWp.seq ?_
      refine LWp.rz hT hW ?_
      simp
      refine LWp.iff ?_
      simp
      refine ⟨fun h5 => ?_, fun h5 => ?_⟩
      · refine LWp.skip ?_
        simp
        refine cutQ.mk ⟨decide (x.kind = 0)⟩ (Weak.to [1, 23, 24] [(1, 1)] (by decide) (by decide) (by simp [hp]) (by simp) (by simp)) ?_
        simp [h5]
      · refine LWp.seq ?_
        refine LWp.rz hT hW ?_
        simp
        refine LWp.iff ?_
        simp
        refine ⟨fun h6 => ?_, fun h6 => ?_⟩
        · refine LWp.skip ?_
          simp
          refine cutQ.mk ⟨decide (x.kind = 1)⟩ (Weak.to [1, 23, 24] [(1, 1)] (by decide) (by decide) (by simp [hp]) (by simp) (by simp)) ?_
          simp [h6]
        · refine LWp.seq ?_
          refine LWp.rz hT hW ?_
          simp
          refine LWp.iff ?_
          simp
          refine ⟨fun h7 => ?_, fun h7 => ?_⟩
          · refine LWp.skip ?_
            simp
            refine cutQ.mk ⟨decide (x.kind = 2)⟩ (Weak.to [1, 23, 24] [(1, 1)] (by decide) (by decide) (by simp [hp]) (by simp) (by simp)) ?_
            simp [h7]
          · refine LWp.seq ?_
            refine LWp.rz hT hW ?_
            simp
            refine LWp.iff ?_
            simp
            refine ⟨fun h8 => ?_, fun h8 => ?_⟩
            · refine LWp.skip ?_
              simp
              refine cutQ.mk ⟨decide (x.kind = 3)⟩ (Weak.to [1, 23, 24] [(1, 1)] (by decide) (by decide) (by simp [hp]) (by simp) (by simp)) ?_
              simp [h8]
            · refine LWp.seq ?_
              refine LWp.rz hT hW ?_
              simp
              refine LWp.iff ?_
              simp
              refine ⟨fun h9 => ?_, fun h9 => ?_⟩
              · refine LWp.skip ?_
                simp
                refine cutQ.mk ⟨decide (x.kind = 4)⟩ (Weak.to [1, 23, 24] [(1, 1)] (by decide) (by decide) (by simp [hp]) (by simp) (by simp)) ?_
                simp [h9]
              · refine LWp.seq ?_
                refine LWp.rz hT hW ?_
                simp
                refine LWp.iff ?_
                simp
                refine ⟨fun h10 => ?_, fun h10 => ?_⟩
                · refine LWp.skip ?_
                  simp
                  refine cutQ.mk ⟨decide (x.kind = 5)⟩ (Weak.to [1, 23, 24] [(1, 1)] (by decide) (by decide) (by simp [hp]) (by simp) (by simp)) ?_
                  simp [h10]
                · refine LWp.seq ?_
                  refine LWp.rz hT hW ?_
                  simp
                  refine LWp.iff ?_
                  simp
                  refine ⟨fun h11 => ?_, fun h11 => ?_⟩
                  · refine LWp.skip ?_
                    simp
                    refine cutQ.mk ⟨decide (x.kind = 6)⟩ (Weak.to [1, 23, 24] [(1, 1)] (by decide) (by decide) (by simp [hp]) (by simp) (by simp)) ?_
                    simp [h11]
                  · refine LWp.seq ?_
                    refine LWp.rz hT hW ?_
                    simp
                    refine LWp.iff ?_
                    simp
                    refine ⟨fun h12 => ?_, fun h12 => ?_⟩
                    · refine LWp.skip ?_
                      simp
                      refine cutQ.mk ⟨decide (x.kind = 7)⟩ (Weak.to [1, 23, 24] [(1, 1)] (by decide) (by decide) (by simp [hp]) (by simp) (by simp)) ?_
                      simp [h12]
                    · refine LWp.seq ?_
                      refine LWp.rz hT hW ?_
                      simp
                      refine LWp.iff ?_
                      simp
                      refine ⟨fun h13 => ?_, fun h13 => ?_⟩
                      · refine LWp.skip ?_
                        simp
                        refine cutQ.mk ⟨decide (x.kind = 13)⟩ (Weak.to [1, 23, 24] [(1, 1)] (by decide) (by decide) (by simp [hp]) (by simp) (by simp)) ?_
                        simp [h13]
                      · refine LWp.seq ?_
                        refine LWp.rz hT hW ?_
                        simp
                        refine LWp.iff ?_
                        simp
                        refine ⟨fun h14 => ?_, fun h14 => ?_⟩
                        · refine LWp.skip ?_
                          simp
                          refine cutQ.mk ⟨decide (x.kind = 14)⟩ (Weak.to [1, 23, 24] [(1, 1)] (by decide) (by decide) (by simp [hp]) (by simp) (by simp)) ?_
                          simp [h14]
                        · refine LWp.seq ?_
                          refine LWp.rz hT hW ?_
                          simp
                          refine LWp.iff ?_
                          simp
                          refine ⟨fun h15 => ?_, fun h15 => ?_⟩
                          · refine LWp.skip ?_
                            simp
                            refine cutQ.mk ⟨decide (x.kind = 15)⟩ (Weak.to [1, 23, 24] [(1, 1)] (by decide) (by decide) (by simp [hp]) (by simp) (by simp)) ?_
                            simp [h15]
                          · refine LWp.seq ?_
                            refine LWp.rz hT hW ?_
                            simp
                            refine LWp.iff ?_
                            simp
                            refine ⟨fun h16 => ?_, fun h16 => ?_⟩
                            · refine LWp.skip ?_
                              simp
                              refine cutQ.mk ⟨decide (x.kind = 16)⟩ (Weak.to [1, 23, 24] [(1, 1)] (by decide) (by decide) (by simp [hp]) (by simp) (by simp)) ?_
                              simp [h16]
                            · refine LWp.seq ?_
                              refine LWp.rz hT hW ?_
                              simp
                              refine LWp.iff ?_
                              simp
                              refine ⟨fun h17 => ?_, fun h17 => ?_⟩
                              · refine LWp.skip ?_
                                simp
                                refine cutQ.mk ⟨decide (x.kind = 17)⟩ (Weak.to [1, 23, 24] [(1, 1)] (by decide) (by decide) (by simp [hp]) (by simp) (by simp)) ?_
                                simp [h17]
                              · refine LWp.seq ?_
                                refine LWp.rz hT hW ?_
                                simp
                                refine LWp.iff ?_
                                simp
                                refine ⟨fun h18 => ?_, fun h18 => ?_⟩
                                · refine LWp.skip ?_
                                  simp
                                  refine cutQ.mk ⟨decide (x.kind = 18)⟩ (Weak.to [1, 23, 24] [(1, 1)] (by decide) (by decide) (by simp [hp]) (by simp) (by simp)) ?_
                                  simp [h18]
                                · refine LWp.seq ?_
                                  refine LWp.rz hT hW ?_
                                  simp
                                  refine LWp.iff ?_
                                  simp
                                  refine ⟨fun h19 => ?_, fun h19 => ?_⟩
                                  · refine LWp.skip ?_
                                    simp
                                    refine cutQ.mk ⟨decide (x.kind = 22)⟩ (Weak.to [1, 23, 24] [(1, 1)] (by decide) (by decide) (by simp [hp]) (by simp) (by simp)) ?_
                                    simp [h19]
                                  · refine LWp.seq ?_
                                    refine LWp.rz hT hW ?_
                                    simp
                                    refine LWp.iff ?_
                                    simp
                                    refine ⟨fun h20 => ?_, fun h20 => ?_⟩
                                    · refine LWp.skip ?_
                                      simp
                                      refine cutQ.mk ⟨decide (x.kind = 23)⟩ (Weak.to [1, 23, 24] [(1, 1)] (by decide) (by decide) (by simp [hp]) (by simp) (by simp)) ?_
                                      simp [h20]
                                    · refine LWp.rz hT hW ?_
                                      simp
                                      refine cutQ.mk ⟨decide (x.kind = 34)⟩ (Weak.to [1, 23, 24] [(1, 1)] (by decide) (by decide) (by simp [hp]) (by simp) (by simp)) ?_
                                      simp only [decide_eq_true_eq]; omega
    · refine LWp.iff ?_
      simp
      refine ⟨fun h22 => ?_, fun h22 => ?_⟩
      · have q22 := hc22.1 h22
        refine LWp.seq ?_
        have n22 := RIsName_ok x.text (by omega)
        have w22 := RWord_ok x.text 0 (by omega) (by omega)
        refine LWp.regAny hT hW hMixed (lk [[],[0],[0,1],[0,1,2],[0,1,2,3],[0,1,2,3,4],[0,1,2,3,4,5],[0,1,2,3],[0,1,2,3,7],[0,1,2,3,7,8],[0,1,2,3,4,5,6,7,8,9],[0,1,2,3,4,5,6,7,8,9,10],[0,1,2,3,4,5,6,7,8,9,10,11]]) (lk [[],[],[],[],[],[],[],[48],[48],[48],[],[],[]]) (lk [[],[],[44],[],[],[],[48],[],[],[],[],[],[]]) (by kernel_rfl) (fun | 44 => some <| .plain ⟨.d (.bool (isNameB x.text)), true⟩ | 48 => some <| .plain ⟨.d (I64 (wordR x.text 0)), true⟩ | _ => none) (by intro d; first | exact ⟨rfl, fun _ h => h⟩ | (split <;> exact ⟨rfl, fun _ h => h⟩)) ?_
        simp
        refine ⟨⟨n22, fun _ => w22⟩, ?_⟩
        refine LWp.ret ?_
        simp
        rw [word_all]
        unfold wordedB wordedK textB
        simp only [g1, g2, decide_true, Bool.true_and]
        repeat (first | rw [if_pos (by omega)] | rw [if_neg (by omega)])
        unfold wholeB
        rw [Bool.and_comm]
        simp
      · have q22 : ¬ (x.kind = 0 ∨ x.kind = 1 ∨ x.kind = 2 ∨ x.kind = 3 ∨ x.kind = 4 ∨ x.kind = 5 ∨ x.kind = 6 ∨ x.kind = 7 ∨ x.kind = 13 ∨ x.kind = 14 ∨ x.kind = 15 ∨ x.kind = 16 ∨ x.kind = 17 ∨ x.kind = 18 ∨ x.kind = 22 ∨ x.kind = 23 ∨ x.kind = 34) := fun q => by simp [hc22.2 q] at h22
        refine LWp.seqCut (ι := BC) (fun ⟨b⟩ => mkEnv [(1, .bx 1 0), (23, .d (I64 (x.kind))), (54, .d (.bool b))]) (fun ⟨b⟩ => mkObs [(1, .box false [.d (I64 x.kind), .d (.str x.text), .d (I64 x.n), .d (ndsD x.kids)])]) (fun ⟨b⟩ => b = true ↔ (x.kind = 9 ∨ x.kind = 19 ∨ x.kind = 20 ∨ x.kind = 33)) ?_ fun ⟨b⟩ hc27 => ?_
        · refine LWp.seq ?_
          refine LWp.rz hT hW ?_
          simp
          refine LWp.iff ?_
          simp
          refine ⟨fun h23 => ?_, fun h23 => ?_⟩
          · refine LWp.skip ?_
            simp
            refine cutQ.mk ⟨decide (x.kind = 9)⟩ (Weak.to [1, 23, 54] [(1, 1)] (by decide) (by decide) (by simp [hp]) (by simp) (by simp)) ?_
            simp [h23]
          · refine LWp.seq ?_
            refine LWp.rz hT hW ?_
            simp
            refine LWp.iff ?_
            simp
            refine ⟨fun h24 => ?_, fun h24 => ?_⟩
            · refine LWp.skip ?_
              simp
              refine cutQ.mk ⟨decide (x.kind = 19)⟩ (Weak.to [1, 23, 54] [(1, 1)] (by decide) (by decide) (by simp [hp]) (by simp) (by simp)) ?_
              simp [h24]
            · refine LWp.seq ?_
              refine LWp.rz hT hW ?_
              simp
              refine LWp.iff ?_
              simp
              refine ⟨fun h25 => ?_, fun h25 => ?_⟩
              · refine LWp.skip ?_
                simp
                refine cutQ.mk ⟨decide (x.kind = 20)⟩ (Weak.to [1, 23, 54] [(1, 1)] (by decide) (by decide) (by simp [hp]) (by simp) (by simp)) ?_
                simp [h25]
              · refine LWp.rz hT hW ?_
                simp
                refine cutQ.mk ⟨decide (x.kind = 33)⟩ (Weak.to [1, 23, 54] [(1, 1)] (by decide) (by decide) (by simp [hp]) (by simp) (by simp)) ?_
                simp only [decide_eq_true_eq]; omega
        · refine LWp.iff ?_
          simp
          refine ⟨fun h27 => ?_, fun h27 => ?_⟩
          · have q27 := hc27.1 h27
            refine LWp.seq ?_
            have w27 := RWord_ok x.text 0 (by omega) (by omega)
            refine LWp.regAny hT hW hMixed (lk [[],[0],[0,1],[],[3],[3,4],[0,1,2,3,4,5],[0,1,2,3,4,5,6]]) (lk [[],[],[],[61],[61],[61],[],[]]) (lk [[],[],[61],[],[],[],[],[]]) (by kernel_rfl) (fun | 61 => some <| .plain ⟨.d (I64 (wordR x.text 0)), true⟩ | _ => none) (by intro d; first | exact ⟨rfl, fun _ h => h⟩ | (split <;> exact ⟨rfl, fun _ h => h⟩)) ?_
            simp
            refine ⟨w27, ?_⟩
            refine LWp.ret ?_
            simp
            rw [word_all]
            unfold wordedB wordedK textB
            simp only [g1, g2, decide_true, Bool.true_and]
            repeat (first | rw [if_pos (by omega)] | rw [if_neg (by omega)])
            unfold wholeB
            simp
          · have q27 : ¬ (x.kind = 9 ∨ x.kind = 19 ∨ x.kind = 20 ∨ x.kind = 33) := fun q => by simp [hc27.2 q] at h27
            refine LWp.seq ?_
            refine LWp.rz hT hW ?_
            simp
            refine LWp.iff ?_
            simp
            refine ⟨fun h28 => ?_, fun h28 => ?_⟩
            · refine LWp.seq ?_
              have w29 := RWord_ok x.text 0 (by omega) (by omega)
              refine LWp.ro hT hW (fun | 70 => some <| .plain ⟨.d (I64 (wordR x.text 0)), true⟩ | _ => none) ?_
              simp
              refine ⟨w29, ?_⟩
              obtain ⟨k, hk⟩ : ∃ k, wordR x.text 0 = k := ⟨_, rfl⟩
              rw [hk]
              have hkr : -1 ≤ k ∧ k ≤ x.text.length := by rw [← hk]; exact wordR_range
              refine LWp.seq ?_
              refine LWp.seq ?_
              refine LWp.rz hT hW ?_
              simp
              refine ⟨fun a1 a2 => by rw [if_neg (by omega)]; omega, ?_⟩
              refine LWp.iff ?_
              simp
              refine ⟨fun g30 => ?_, fun g31 g32 g33 => ?_⟩
              · refine LWp.seq ?_
                refine LWp.rz hT hW ?_
                simp
                refine LWp.ret ?_
                simp
                unfold wordedB wordedK textB
                repeat (first | rw [if_pos (by omega)] | rw [if_neg (by omega)])
                rw [field_no hk g30]
                simp
              · rw [if_neg (by omega)] at g33
                obtain ⟨n, hn⟩ : ∃ n : Nat, k = (n : Int) := ⟨k.toNat, by omega⟩
                subst hn
                have hn32 := RIsName_ok (x.text.take n) (by rw [List.length_take]; omega)
                have hn33 := RIsName_ok (x.text.drop (n + 1)) (by rw [List.length_drop]; omega)
                have hw32 := RWord_ok x.text (n + 1) (by omega) (by omega)
                refine LWp.skip ?_
                simp
                refine LWp.seq ?_
                refine LWp.weak (Weak.shrink [1, 5] [(1, 1)] (by decide) (by decide) (by simp [hp])) ?_
                simp
                refine LWp.regAny hT hW hMixed (lk [[],[0],[],[0,1,2],[0,1,2,3],[0,1,2,3,4],[0,1,2,3,4,5],[0,1,2,3,4,5,6],[0,1,2,3,4,5],[0,1,2,3,4,5,8],[0,1,2,3,4,5,6,7,8,9],[0,1,2,3,4,5,6,7,8,9,10],[0,1,2,3,4,5,6,7,8,9,10,11],[0,1,2,3,4,5,6,7,8,9,10,11,12],[0,1,2,3,4,5,6,7,8,9,10,11,12,13],[0,1,2,3,4,5,6,7,8,9,10,11,12,13,14],[0,1,2,3,4,5,6,7,8,9,10,11,12,13],[0,1,2,3,4,5,6,7,8,9,10,11,12,13,16],[0,1,2,3,4,5,6,7,8,9,10,11,12,13,14,15,16,17],[0,1,2,3,4,5,6,7,8,9,10,11,12,13],[0,1,2,3,4,5,6,7,8,9,10,11,12,13,19],[0,1,2,3,4,5,6,7,8,9,10,11,12,13,19,20],[0,1,2,3,4,5,6,7,8,9,10,11,12,13,14,15,16,17,18,19,20,21],[0,1,2,3,4,5,6,7,8,9,10,11,12,13,14,15,16,17,18,19,20,21,22],[0,1,2,3,4,5,6,7,8,9,10,11,12,13,14,15,16,17,18,19,20,21,22,23]]) (lk [[],[],[],[],[],[],[],[],[],[],[],[],[],[],[],[],[],[],[],[106],[106],[106],[],[],[]]) (lk [[],[],[],[],[92],[],[],[],[],[],[],[99],[],[],[],[],[],[],[106],[],[],[],[],[],[]]) (by kernel_rfl) (fun | 92 => some <| .plain ⟨.d (.bool (isNameB (x.text.take n))), true⟩ | 99 => some <| .plain ⟨.d (.bool (isNameB (x.text.drop (n + 1)))), true⟩ | 106 => some <| .plain ⟨.d (I64 (wordR x.text (n + 1))), true⟩ | _ => none) (by intro d; first | exact ⟨rfl, fun _ h => h⟩ | (split <;> exact ⟨rfl, fun _ h => h⟩)) ?_
                simp
                refine ⟨⟨⟨⟨⟨⟨⟨by omega, hn32⟩, fun _ => by omega⟩, fun _ => by omega⟩, fun _ => hn33⟩, fun _ _ => by omega⟩, fun _ _ => by simpa using hw32⟩, ?_⟩
                refine LWp.ret ?_
                simp
                unfold wordedB wordedK textB
                simp only [g1, g2, decide_true, Bool.true_and]
                repeat (first | rw [if_pos (by omega)] | rw [if_neg (by omega)])
                rw [field_yes hk (by omega) g33]
            · refine LWp.skip ?_
              simp
              refine LWp.seq ?_
              refine LWp.rz hT hW ?_
              simp
              refine LWp.ret ?_
              simp
              unfold wordedB wordedK textB
              simp only [g1, g2, decide_true, Bool.true_and]
              repeat (first | rw [if_pos (by omega)] | rw [if_neg (by omega)])
              exact isEmpty_dec _
theorem RRight_step (x : Nd) (hw : weighN x ≤ 1000000000) (ih : ∀ y ∈ x.kids, weighN y ≤ 1000000000 → Ok Tryz.prog 42 [y.d] ⟨.d (.bool (rightN y)), true⟩) : Ok Tryz.prog 42 [x.d] ⟨.d (.bool (rightN x)), true⟩ := by
  refine Ok.ret Tryz.func42 (by kernel_rfl) (c := _) rfl Tryz.ntmps42 (by simp) Tryz.results42 (by intro _ h; cases h) fun w0 X hp => ?_
  have hwx := weighN_eq x
  have hkx := kids_weigh x
  refine LWp.seq ?_
  refine LWp.rz hT hW ?_
  simp
  refine LWp.seq ?_
  refine LWp.seq ?_
  have hs := RFits_ok x (by omega)
  have hwo := RReads_ok x
  simp at hs
  refine LWp.ro hT hW (fun | 14 => some <| .plain ⟨.d (.bool (shapedB x)), true⟩ | 19 => some <| .plain ⟨.d (.bool (wordedB x)), true⟩ | _ => none) ?_
  simp
  refine ⟨⟨fun _ _ => hs, fun g0 g1 _ => by simpa using hwo g0 (by omega) (by omega)⟩, ?_⟩
  refine LWp.iff ?_
  simp
  refine ⟨fun g => ?_, fun g0 g1 g2 g3 => ?_⟩
  · refine LWp.seq ?_
    refine LWp.rz hT hW ?_
    simp
    refine LWp.ret ?_
    simp
    rw [rightN_eq, Bool.eq_false_iff]
    intro h
    simp only [Bool.and_eq_true, decide_eq_true_eq] at h
    rcases g with ((g | g) | g) | g
    · omega
    · omega
    · rw [h.1.1.2] at g; cases g
    · rw [h.1.2] at g; cases g
  · refine LWp.skip ?_
    simp
    refine LWp.seq ?_
    refine LWp.seq ?_
    refine LWp.rz hT hW ?_
    simp
    refine LWp.block ?_
    refine LWp.loopW (ι := Nat) (fun i => mkEnv [(1, .bx 1 0), (3, .d (I64 i))]) (fun i => mkObs [(1, .box false [.d (I64 x.kind), .d (.str x.text), .d (I64 x.n), .d (ndsD x.kids)])]) (fun i => i ≤ x.kids.length ∧ ∀ (j : Nat) (h : j < x.kids.length), j < i → rightN x.kids[j] = true) (fun i => x.kids.length - i) 0 (Weak.to [1, 3] [(1, 1)] (by decide) (by decide) (by simp [hp]) (by simp) (by simp)) (⟨Nat.zero_le _, fun j _ h => absurd h (Nat.not_lt_zero _)⟩) fun i hi4 => ?_
    refine LWp.seq ?_
    refine LWp.seq ?_
    refine LWp.rz hT hW ?_
    simp
    refine LWp.iff ?_
    simp
    refine ⟨fun h4 => ?_, fun h4 => ?_⟩
    · refine LWp.skip ?_
      simp
      refine LWp.seq ?_
      refine LWp.block ?_
      refine LWp.seq ?_
      have hi : i < x.kids.length := by omega
      have hk := ih _ (List.getElem_mem hi) (by have := kid_weigh hi; omega)
      simp at hk
      refine LWp.ro hT hW (fun | 34 => some <| .plain ⟨.d (.bool (rightN x.kids[i])), true⟩ | _ => none) ?_
      simp [hi]
      refine ⟨hk, ?_⟩
      refine LWp.iff ?_
      simp
      refine ⟨fun h6 => ?_, fun h6 => ?_⟩
      · refine LWp.seq ?_
        refine LWp.rz hT hW ?_
        simp
        refine LWp.ret ?_
        simp
        rw [rightN_eq, Bool.eq_false_iff]
        intro h
        simp only [Bool.and_eq_true, decide_eq_true_eq] at h
        have := List.all_eq_true.1 h.2 _ (List.getElem_mem hi)
        rw [this] at h6; cases h6
      · refine LWp.skip ?_
        simp
        refine LWp.rz hT hW ?_
        simp
        refine ⟨by omega, ?_⟩
        refine loopQ.mk (i + 1) (Weak.to [1, 3] [(1, 1)] (by decide) (by decide) (by simp [hp]) (by simp) (by simp)) ?_ ?_
        · refine ⟨by omega, fun j q1 q2 => ?_⟩
          rcases Nat.lt_or_ge j i with q | q
          · exact hi4.2 j q1 q
          · have : j = i := by omega
            subst this
            exact h6
        · omega
    · refine LWp.exit ?_
      simp
      refine LWp.seq ?_
      refine LWp.rz hT hW ?_
      simp
      refine LWp.ret ?_
      simp
      rw [rightN_eq]
      simp only [Bool.and_eq_true, decide_eq_true_eq]
      refine ⟨⟨⟨⟨g0, by omega⟩, g2⟩, g3⟩, List.all_eq_true.2 fun y hy => ?_⟩
      obtain ⟨j, hj, rfl⟩ := List.getElem_of_mem hy
      exact hi4.2 j hj (by omega)
theorem RRight_ok (x : Nd) : weighN x ≤ 1000000000 → Ok Tryz.prog 42 [x.d] ⟨.d (.bool (rightN x)), true⟩ :=
  Nd.ind (p := fun x => weighN x ≤ 1000000000 → Ok Tryz.prog 42 [x.d] ⟨.d (.bool (rightN x)), true⟩) (fun _ _ _ _ ih hw => RRight_step _ hw (fun y hy => ih y hy)) x
theorem RValid_ok (x : Nd) (hw : weighN x ≤ 1000000000) : Ok Tryz.prog 15 [x.d] ⟨.d (.bool (validB x)), true⟩ := by
  refine Ok.ret Tryz.func15 (by kernel_rfl) (c := _) rfl Tryz.ntmps15 (by simp) Tryz.results15 (by intro _ h; cases h) fun w0 X hp => ?_
  refine LWp.seq ?_
  refine LWp.rz hT hW ?_
  simp
  refine LWp.seq ?_
  have h1 := RDepth_ok x hw
  have h2 := RRight_ok x hw
  have h3 := RText_ok x
  have h4 := @right_def x
  refine LWp.ro hT hW (fun | 13 => some <| .plain ⟨.d (I64 (depthN x)), true⟩ | 18 => some <| .plain ⟨.d (.bool (rightN x)), true⟩ | 22 => some <| .plain ⟨.d (.str (textT x)), true⟩ | _ => none) ?_
  simp
  refine ⟨⟨⟨fun _ _ => by simpa using h1, fun _ _ _ => by simpa using h2⟩, fun a b _ d => by simpa using h3 (h4 d a b) hw⟩, ?_⟩
  refine LWp.ret ?_
  simp [validB]
  rw [show decide ((depthN x : Int) ≤ 24) = decide (depthN x ≤ 24) from by rw [decide_eq_decide]; omega, show decide (((textT x).length : Int) ≤ 1024) = decide ((textT x).length ≤ 1024) from by rw [decide_eq_decide]; omega]
theorem RPrint_ok (x : Nd) (hw : weighN x ≤ 1000000000) : Ok Tryz.prog 17 [x.d] ⟨.d (.str (printS x)), true⟩ := by
  refine Ok.ret Tryz.func17 (by kernel_rfl) (c := _) rfl Tryz.ntmps17 (by simp) Tryz.results17 (by intro _ h; cases h) fun w0 X hp => ?_
  refine LWp.seq ?_
  refine LWp.rz hT hW ?_
  simp
  refine LWp.seq ?_
  refine LWp.seq ?_
  have v1 := RValid_ok x hw
  refine LWp.ro hT hW (fun | 4 => some <| .plain ⟨.d (.bool (validB x)), true⟩ | _ => none) ?_
  simp
  refine ⟨by simpa using v1, ?_⟩
  refine LWp.iff ?_
  simp
  refine ⟨fun h1 => ?_, fun h1 => ?_⟩
  · refine LWp.seq ?_
    refine LWp.rz hT hW ?_
    simp
    refine LWp.ret ?_
    simp [printS, h1]
  · refine LWp.skip ?_
    simp
    refine LWp.seq ?_
    have hv := valid_def h1
    have h4 := RText_ok x hv hw
    refine LWp.ro hT hW (fun | 7 => some <| .plain ⟨.d (.str (textT x)), true⟩ | _ => none) ?_
    simp
    refine ⟨by simpa using h4, ?_⟩
    refine LWp.ret ?_
    simp [printS, h1]
theorem RHead_ok (x : Nd) (hw : weighN x ≤ 1000000000) : Ok Tryz.prog 13 [x.d] ⟨.tup [.d (I64 (headK x)), .d (.str (headT x))], true⟩ := by
  refine Ok.two Tryz.func13 (by kernel_rfl) (c := _) rfl Tryz.ntmps13 (by simp) Tryz.results13 rfl fun w0 X hp => ?_
  refine LWp.seq ?_
  refine LWp.rz hT hW ?_
  simp
  refine LWp.seq ?_
  refine LWp.seq ?_
  have v1 := RValid_ok x hw
  refine LWp.ro hT hW (fun | 5 => some <| .plain ⟨.d (.bool (validB x)), true⟩ | _ => none) ?_
  simp
  refine ⟨by simpa using v1, ?_⟩
  refine LWp.iff ?_
  simp
  refine ⟨fun h1 => ?_, fun h1 => ?_⟩
  · refine LWp.seq ?_
    refine LWp.rz hT hW ?_
    simp
    refine LWp.ret ?_
    simp [headK, headT, h1]
  · refine LWp.skip ?_
    simp
    refine LWp.seq ?_
    refine LWp.regAny hT hW hMixed (lk [[],[0],[],[2],[0,1],[0,1,2,3,4]]) (lk [[],[],[],[],[],[]]) (lk [[],[],[],[],[],[]]) (by kernel_rfl) (fun _ => none) (fun _ => ⟨rfl, fun _ h => h⟩) ?_
    simp
    refine LWp.ret ?_
    simp [headK, headT, h1]
end
open Go.Proofs
section
attribute [local simp] Res.cond Nd.d_eq nd_t nd_dr nd_td ndsD evalIndex
theorem HasPrefix1_ok (s t : Str) (hl : s.length ≤ 9223372036854775807) (ht : t.length ≤ 9223372036854775807) : Ok Tryz.prog 137 [.str s, .str t] ⟨.d (.bool (decide (s.take t.length = t))), true⟩ := by
  refine Ok.ret Tryz.func137 (by kernel_rfl) (c := _) rfl Tryz.ntmps137 (by simp) Tryz.results137 (by intro _ h; cases h) fun w0 X hp => ?_
  refine LWp.seq ?_
  refine LWp.rz hT hW ?_
  simp
  refine LWp.seq ?_
  refine LWp.rz hT hW ?_
  simp
  refine LWp.ret ?_
  simp
  rw [Bool.beq_eq_decide_eq, Bool.eq_iff_iff]
  simp only [Bool.and_eq_true, decide_eq_true_eq]
  refine ⟨fun h => h.2, fun h => ⟨?_, h⟩⟩
  have e := congrArg List.length h
  rw [List.length_take] at e
  omega
theorem HasPrefix_ok (s t : Str) (hl : s.length ≤ 9223372036854775807) (ht : t.length ≤ 9223372036854775807) : Ok Tryz.prog 111 [.str s, .str t] ⟨.d (.bool (decide (s.take t.length = t))), true⟩ := by
  refine Ok.ret Tryz.func111 (by kernel_rfl) (c := _) rfl Tryz.ntmps111 (by simp) Tryz.results111 (by intro _ h; cases h) fun w0 X hp => ?_
  refine LWp.seq ?_
  refine LWp.rz hT hW ?_
  simp
  refine LWp.seq ?_
  have h := HasPrefix1_ok s t hl ht
  refine LWp.ro hT hW (fun | 7 => some <| .plain ⟨.d (.bool (decide (s.take t.length = t))), true⟩ | _ => none) ?_
  simp
  refine ⟨h, ?_⟩
  refine LWp.ret ?_
  simp
theorem StrIndexByte_ok (s : Str) (c : UInt8) : Ok Tryz.prog 112 [.str s, .int .u8 (c.toNat : Int)] ⟨.d (I64 (idxC c s)), true⟩ := by
  refine Ok.ret Tryz.func112 (by kernel_rfl) (c := _) rfl Tryz.ntmps112 (by simp) Tryz.results112 (by intro _ h; cases h) fun w0 X hp => ?_
  refine LWp.seq ?_
  refine LWp.rz hT hW ?_
  simp
  refine LWp.seq ?_
  have h := IndexByte_ok s c
  refine LWp.ro hT hW (fun | 7 => some <| .plain ⟨.d (I64 (idxC c s)), true⟩ | _ => none) ?_
  simp
  refine ⟨h, ?_⟩
  refine LWp.ret ?_
  simp
theorem next_eq (c : UInt8) (r : Str) : nextN (c :: r) = if letterB c then wordN (c :: r) else if c = 36 then (if 0 < wordN r then wordN r + 1 else 0)
    else if digitB c then (if runP digitB (c :: r) ≤ 3 then runP digitB (c :: r) else 0)
    else if (c :: r).take 2 = [60, 61] ∨ (c :: r).take 2 = [61, 61] then 2 else if c ∈ signs then 1 else 0 := rfl
theorem u36 {c : UInt8} : ((c.toNat : Int) = 36) ↔ c = 36 := by
  rw [← UInt8.toNat_inj]
  have : (36 : UInt8).toNat = 36 := rfl
  omega
theorem take2_eq (c : UInt8) (r : Str) (a b : UInt8) : (c :: r).take 2 = [a, b] ↔ c = a ∧ r.take 1 = [b] := by simp
theorem idxC_mem (c : UInt8) : ∀ l : Str, 0 ≤ idxC c l ↔ c ∈ l
  | [] => by simp [idxC, cutAt]
  | d :: l => by
    have ih := idxC_mem c l
    unfold idxC at ih ⊢
    unfold cutAt
    by_cases h : d = c
    · simp [h]
    · rw [if_neg h]
      have h' : ¬ c = d := fun e => h e.symm
      cases q : cutAt c l with
      | none => rw [q] at ih; simp only [Option.map_none, List.mem_cons, h', false_or]; exact ih
      | some q2 => rw [q] at ih; simp only [Option.map_some, List.mem_cons, h', false_or, List.length_cons]; exact ⟨fun _ => ih.1 (by simp), fun _ => by omega⟩
theorem next_ok (c : UInt8) (r : Str) (hl : (c :: r).length ≤ 9223372036854775807) : Ok Tryz.prog 71 [.str (c :: r)] ⟨.d (I64 (nextN (c :: r))), true⟩ := by
  refine Ok.ret Tryz.func71 (by kernel_rfl) (c := _) rfl Tryz.ntmps71 (by simp) Tryz.results71 (by intro _ h; cases h) fun w0 X hp => ?_
  have hr : r.length + 1 ≤ 9223372036854775807 := by simpa using hl
  refine LWp.seq ?_
  refine LWp.rz hT hW ?_
  simp
  refine LWp.seq ?_
  refine LWp.block ?_
  refine LWp.seq ?_
  have l1 := letter_ok c
  refine LWp.ro hT hW (fun | 8 => some <| .plain ⟨.d (.bool (letterB c)), true⟩ | _ => none) ?_
  simp
  refine ⟨l1, ?_⟩
  refine LWp.iff ?_
  simp
  refine ⟨fun h1 => ?_, fun h1 => ?_⟩
  · refine LWp.seq ?_
    have w1 := word_ok (c :: r) hl
    refine LWp.ro hT hW (fun | 10 => some <| .plain ⟨.d (I64 (wordN (c :: r))), true⟩ | _ => none) ?_
    simp
    refine ⟨w1, ?_⟩
    refine LWp.ret ?_
    simp
    rw [next_eq, if_pos h1]
  · refine LWp.seq ?_
    refine LWp.rz hT hW ?_
    simp
    refine LWp.iff ?_
    simp
    refine ⟨fun h3 => ?_, fun h3 => ?_⟩
    · refine LWp.seq ?_
      refine LWp.seq ?_
      have w4 := word_ok r (by omega)
      refine LWp.ro hT hW (fun | 17 => some <| .plain ⟨.d (I64 (wordN r)), true⟩ | _ => none) ?_
      simp
      refine ⟨⟨by omega, w4⟩, ?_⟩
      refine LWp.seq ?_
      refine LWp.rz hT hW ?_
      simp
      refine LWp.iff ?_
      simp
      refine ⟨fun h5 => ?_, fun h5 => ?_⟩
      · refine LWp.seq ?_
        have b6 := wordN_le r
        refine LWp.rz hT hW ?_
        simp
        refine ⟨by omega, ?_⟩
        refine LWp.ret ?_
        simp
        rw [next_eq, if_neg (by simp [h1]), if_pos (u36.1 h3), if_pos h5]
        rfl
      · refine LWp.skip ?_
        simp
        refine LWp.seq ?_
        refine LWp.rz hT hW ?_
        simp
        refine LWp.ret ?_
        simp
        rw [next_eq, if_neg (by simp [h1]), if_pos (u36.1 h3), if_neg (by omega)]
        rfl
    · refine LWp.seq ?_
      have l8 := digit_ok c
      refine LWp.ro hT hW (fun | 25 => some <| .plain ⟨.d (.bool (digitB c)), true⟩ | _ => none) ?_
      simp
      refine ⟨l8, ?_⟩
      refine LWp.iff ?_
      simp
      refine ⟨fun h8 => ?_, fun h8 => ?_⟩
      · refine LWp.seq ?_
        refine LWp.seq ?_
        have w9 := run_ok (c :: r) digitB 109 (fun c => digit_ok c) hl
        refine LWp.ro hT hW (fun | 27 => some <| .plain ⟨.d (I64 (runP digitB (c :: r))), true⟩ | _ => none) ?_
        simp
        refine ⟨w9, ?_⟩
        refine LWp.seq ?_
        refine LWp.rz hT hW ?_
        simp
        refine LWp.iff ?_
        simp
        refine ⟨fun h10 => ?_, fun h10 => ?_⟩
        · refine LWp.seq ?_
          refine LWp.rz hT hW ?_
          simp
          refine LWp.ret ?_
          simp
          rw [next_eq, if_neg (by simp [h1]), if_neg (fun e => h3 (u36.2 e)), if_pos h8, if_pos (by omega)]
        · refine LWp.skip ?_
          simp
          refine LWp.seq ?_
          refine LWp.rz hT hW ?_
          simp
          refine LWp.ret ?_
          simp
          rw [next_eq, if_neg (by simp [h1]), if_neg (fun e => h3 (u36.2 e)), if_pos h8, if_neg (by omega)]
          rfl
      · refine LWp.seq ?_
        have w13 := HasPrefix_ok (c :: r) [60, 61] hl (by decide)
        have v13 := HasPrefix_ok (c :: r) [61, 61] hl (by decide)
        refine LWp.ro hT hW (fun | 33 => some <| .plain ⟨.d (.bool (decide ((c :: r).take 2 = [60, 61]))), true⟩ | 36 => some <| .plain ⟨.d (.bool (decide ((c :: r).take 2 = [61, 61]))), true⟩ | _ => none) ?_
        simp
        refine ⟨⟨⟨by simpa using w13, fun _ => by simpa using v13⟩, fun h => Classical.not_and_iff_not_or_not.1 fun q => h q.1 q.2⟩, ?_⟩
        refine LWp.iff ?_
        simp
        refine ⟨fun g => ?_, fun g1 g2 => ?_⟩
        · refine LWp.seq ?_
          refine LWp.rz hT hW ?_
          simp
          refine LWp.ret ?_
          simp
          rw [next_eq, if_neg (by simp [h1]), if_neg (fun e => h3 (u36.2 e)), if_neg (by simp [h8]), if_pos (by rw [take2_eq, take2_eq]; exact g)]
          rfl
        · refine LWp.seq ?_
          have w15 := StrIndexByte_ok [40, 41, 123, 125, 61, 43, 45, 42, 60, 59, 46] c
          refine LWp.ro hT hW (fun | 41 => some <| .plain ⟨.d (I64 (idxC c [40, 41, 123, 125, 61, 43, 45, 42, 60, 59, 46])), true⟩ | _ => none) ?_
          simp
          refine ⟨w15, ?_⟩
          refine LWp.iff ?_
          simp
          refine ⟨fun h15 => ?_, fun h15 => ?_⟩
          · refine LWp.seq ?_
            refine LWp.rz hT hW ?_
            simp
            refine LWp.ret ?_
            simp
            rw [next_eq, if_neg (by simp [h1]), if_neg (fun e => h3 (u36.2 e)), if_neg (by simp [h8]), if_neg (by rw [take2_eq, take2_eq]; rintro (⟨e1, e2⟩ | ⟨e1, e2⟩); exact g1 e1 e2; exact g2 e1 e2), if_pos ((idxC_mem c signs).1 h15)]
            rfl
          · refine LWp.skip ?_
            simp
            refine LWp.seq ?_
            refine LWp.rz hT hW ?_
            simp
            refine LWp.ret ?_
            simp
            rw [next_eq, if_neg (by simp [h1]), if_neg (fun e => h3 (u36.2 e)), if_neg (by simp [h8]), if_neg (by rw [take2_eq, take2_eq]; rintro (⟨e1, e2⟩ | ⟨e1, e2⟩); exact g1 e1 e2; exact g2 e1 e2), if_neg (fun e => by have := (idxC_mem c signs).2 e; unfold signs at this; omega)]
            rfl
end
end Go.Eng
namespace Go.Eng
open Go.RowKit
def IsRow (k : IntKind) (w : World) (a : Option Addr) (len cap : Nat) (zs : List Int) : Prop :=
  (a = none ∧ len = 0 ∧ cap = 0 ∧ zs = []) ∨
  ∃ x, a = some x ∧ len ≤ cap ∧ cap ≤ maxLen ∧ zs.length = cap ∧ (∀ i, i < zs.length → w.cell? (x.add i) = some (.int k (zs.getD i 0))) ∧ ∀ n ∈ zs, (Lit.int k n).wf = true
theorem int_rng {n : Int} (h : (Lit.int .i64 n).wf = true) : -9223372036854775808 ≤ n ∧ n ≤ 9223372036854775807 := by
  simp only [Lit.wf, Bool.and_eq_true, decide_eq_true_eq, IntKind.min, IntKind.max, IntKind.signed, IntKind.bits] at h
  exact ⟨h.1, h.2⟩
theorem row_rng {w : World} {a : Option Addr} {len cap : Nat} {zs : List Int} (h : IsRow .i64 w a len cap zs) : ∀ n ∈ zs.take len, -9223372036854775808 ≤ n ∧ n ≤ 9223372036854775807 := fun n hn => by
  have hn := List.mem_of_mem_take hn
  rcases h with ⟨_, _, _, rfl⟩ | ⟨x, _, _, _, _, _, h⟩
  · cases hn
  · exact int_rng (h n hn)
theorem row_rd {w : World} {k : IntKind} {a : Option Addr} {len cap : Nat} {zs : List Int} (h : IsRow k w a len cap zs) : RD w (fun _ => False) (.sl ((zs.take len).map (.int k))) (.slice a len cap) := by
  rcases h with ⟨rfl, rfl, rfl, rfl⟩ | ⟨x, rfl, h1, h2, h3, h4, h5⟩
  · exact .sl0 _ 0 (Nat.zero_le _)
  · by_cases h0 : len = 0
    · subst h0
      rw [List.take_zero]
      exact .sl0 _ cap h2
    · obtain ⟨b, o, rfl, hc⟩ := ints_at h4 (by omega)
      have hl : ((zs.take len).map (DV.int k)).length = len := by simp; omega
      have hfl : flatD ((zs.take len).map (DV.int k)) = (zs.take len).map (DV.int k) := by
        unfold flatD
        rw [List.flatMap_map]
        induction zs.take len with
        | nil => rfl
        | cons a l ih => rw [List.flatMap_cons, ih]; rfl
      have := RD.sl (w := w) (E := fun _ => False) ((zs.take len).map (.int k)) b o cap 1 ((zs.take len).map (.int k)) (fun e => by rw [e] at hl; simp at hl; omega) (fun h => h) (fun x hx => by obtain ⟨n, _, rfl⟩ := List.mem_map.1 hx; rfl)
        (by rw [hl]; exact h1) h2 (by simp) (fun u hu => by obtain ⟨n, _, rfl⟩ := List.mem_map.1 hu; rfl) (cell_lt (hc 0 (by omega))) (fun j u hj => by
          have hj' : j < len := by
            have := (List.getElem?_eq_some_iff.1 hj).1
            simp at this; omega
          have hz : j < zs.length := by omega
          have := hc j hz
          rw [this]
          simp [hj', hz] at hj
          simp [hz, hj]) (fun i d v hd hv => by
          rw [hfl] at hd
          simp only [List.getElem?_map] at hd hv
          cases q : (zs.take len)[i]? with
          | none => rw [q] at hd; cases hd
          | some n => rw [q] at hd hv; cases hd; cases hv; exact .int k n)
      rw [hl] at this
      exact this
theorem RDs.nil {w : World} {E : Nat → Prop} : RDs w E [] [] := ⟨rfl, fun i c v h => by simp at h⟩
theorem RDs.cons {w : World} {E : Nat → Prop} {d : DV} {v : Value} {ds : List DV} {vs : List Value} (h : RD w E d v) (hs : RDs w E ds vs) : RDs w E (d :: ds) (v :: vs) :=
  ⟨by simp [hs.1], fun i c u hc hu => by
    cases i with
    | zero => simp at hc hu; subst hc; subst hu; exact h
    | succ i => exact hs.2 i c u (by simpa using hc) (by simpa using hu)⟩
theorem law_calls {P : Program} {f : FuncId} {args : List DV} {fr : Bool} (h : Ok P f args ⟨.d (.bool true), fr⟩) (w : World) (vs : List Value) (hr : RDs w (fun _ => False) args vs) (hg : Glob w (fun _ => False) := by intro n cs h; simp [Go.Eng.globD] at h) :
    Calls P f vs.toArray w fun e w' => e = .returned (.bool true) ∧ Below w.heap.size w w' :=
  (h.2 w (fun _ => False) vs ⟨fun _ h => h.elim, hg⟩ hr).mono fun _ _ ⟨v, h1, h2, h3⟩ => by
    obtain ⟨_, h4⟩ := h3
    cases h4
    exact ⟨h1, h2.below⟩
theorem RVok.own_d {w w' : World} {E E' : Nat → Prop} {B : Option Nat} {s : Nat} {xs : List DV} {v : Value} (h : RVok w w' E B (.own s xs) v) (hE : ∀ k, E' k → k < w.heap.size) (hEE : ∀ k, E' k → E k) : RD w' E' (.sl xs) v := by
  obtain ⟨hs, hxs, h⟩ := h
  rcases h with ⟨_, rfl, a, rfl⟩ | ⟨b, c, cur, e, _, rfl, hb, hblk, hl, hc, hcs, hcell⟩
  · exact .sl0 a 0 (Nat.zero_le _)
  · by_cases hx : xs = []
    · subst hx; exact .sl0 _ c hc
    · have hfl := flat_len hxs
      have hle : xs.length * s ≤ cur.size := by rw [← hcs]; exact Nat.mul_le_mul_right _ hl
      have hlt : b < w'.heap.size := (Array.getElem?_eq_some_iff.1 hblk).1
      refine .sl xs b 0 c s (cur.toList.take (xs.length * s)) hx (fun q => by have := hE b q; omega) hxs hl hc (by simp; omega) (fun u hu => ?_) hlt (fun j u hj => ?_) (fun i d v hd hv => ?_)
      · obtain ⟨j, hj, rfl⟩ := List.getElem_of_mem hu
        simp only [List.length_take, Array.length_toList] at hj
        have hjc : j < cur.size := by omega
        have hjf : j < (flatD xs).length := by rw [hfl]; omega
        simp only [List.getElem_take, Array.getElem_toList]
        exact (hcell j _ _ (List.getElem?_eq_getElem hjf) (Array.getElem?_eq_getElem hjc)).1
      · rw [cell_of_row w' b _ cur e (0, 0) hblk, Nat.zero_add]
        rw [List.getElem?_take] at hj
        split at hj
        · simpa using hj
        · cases hj
      · rw [List.getElem?_take] at hv
        split at hv
        · exact ((hcell i d v hd (by simpa using hv)).2).anti hEE
        · cases hv
theorem Ok.own_d {P : Program} {f : FuncId} {args : List DV} {s : Nat} {xs : List DV} {fr : Bool} (h : Ok P f args ⟨.own s xs, fr⟩) : Ok P f args ⟨.d (.sl xs), fr⟩ :=
  ⟨h.1, fun w X vs hX hr => (h.2 w X vs hX hr).mono fun _ _ ⟨v, h1, h2, B, h3⟩ =>
    ⟨v, h1, h2, none, h3.own_d (fun k q => by
      rcases q with (q | ⟨_, q⟩) | q
      · exact hX.1 k q
      · exact q
      · cases q) (fun k q => by
      rcases q with q | q
      · exact .inl q
      · cases q)⟩⟩
theorem Ok.own2_d {P : Program} {f : FuncId} {args : List DV} {s : Nat} {xs : List DV} {y : DV} {fr : Bool} (h : Ok P f args ⟨.tup [.own s xs, .d y], fr⟩) : Ok P f args ⟨.tup [.d (.sl xs), .d y], fr⟩ :=
  ⟨h.1, fun w X vs hX hr => (h.2 w X vs hX hr).mono fun _ _ ⟨v, h1, h2, us, B, h3, h4, h5, h6⟩ =>
    ⟨v, h1, h2, us, fun _ => none, h3, h4, fun _ _ _ q => (by cases q), fun i r u hi hu => by
      match i, hi with
      | 0, hi =>
        cases hi
        exact (h6 0 _ u rfl hu).own_d (fun k q => by
          rcases q with (q | ⟨_, q⟩) | ⟨_, q⟩
          · exact hX.1 k q
          · exact q
          · cases q) (fun k q => by
          rcases q with q | ⟨_, q⟩
          · exact .inl q
          · cases q)
      | 1, hi =>
        cases hi
        exact RD.anti (fun k q => by
          rcases q with q | ⟨_, q⟩
          · exact .inl q
          · cases q) (h6 1 _ u rfl hu)⟩⟩
end Go.Eng
namespace Go.Eng
open Go.Proofs
attribute [local simp] runL stepL evalG evalOp opLV constLV putEnv dstOk upd upds Res.plain Res.cond Res.fail evalBin evalUn seqQ blockQ argsEnv lookL lookH RetIs memless freshL evalPick evalMin bval bok evalLen evalIn strip whenC guardOps guardC slotsOf
  runM foldS stepI stepM maskE wrIn lk renO lookN evalCall evalCallee optAll resLV resObj retLV retObj retsLV retsObj evalLoad evalIndexAddr evalField solid cellsD_agg cellsD_int cellsD_bool cellsD_str cellsD_sl cellsD_ro cellsD_fn cellsL_agg cellsL_dagg cellsL_int cellsL_bool cellsL_str cellsL_sl cellsL_fn cellsL_ow cellsL_bx cellsL_lfn cellsL_nl takeL takeD mkAgg allD eqD eqDs kindsAre kindIs LObj.live TK.isNone TK.agg TK.isBool TK.isStr TK.isStruct Op.operands Call.operands
  evalBuildSlice evalAppend elemsOf evalStore evalBuild fillL lookupF putL evalSlice bound evalConv elemsS freezes frozen loadR
  mkEnv_at mkObs_at close_d close_agg close_ow close_bx close_fn close_nl touch_d touch_agg touch_ow touch_bx touch_fn touch_nl ren_d ren_agg ren_bx ren_rp ren_ow ren_fn ren_nl ren_junk retQ_ret retQ2_ret condQ_bool Nm.d Df.d Ed.d nmsD dfsD strsD edsD retC_ret nm_eq df_eq take_map_len take_map_app
  nm_t nm_d nm_td df_t df_d df_td str_t str_d str_td ed_t ed_d ed_td
  evalAppendIn evalBuildSliceC evalCopyC shortL evalApart evalAppendC evalAppendZ evalAppendG evalCapC isOc TK.isInt close_oc touch_oc ren_oc cellsL_oc evalCut evalClear evalCopy evalMake evalWrap evalCap evalNil isNilC lenL isInp gorc gorc2
  mapOf findD keyEq keyOk evalMakeMap evalRange zeroD zeroDV argsG shutG outN lenv retG0_ret retG0_normal retG1_ret retGR_ret renO close_mp touch_mp ren_mp optAll_d optAll_d' touch_ds cellsL_mp cellsD_mp cellsL_dmp
  evalMapSet evalPtr TK.isPtr evalToArr firstL retN_ret retsQ rvarL close_bm touch_bm ren_bm cellsD_bm cellsL_bm cellsL_lbm
attribute [local simp] cutQ_normal cutQ_ret cutQ_exit
section
attribute [local simp] Res.cond Nd.d_eq nd_t nd_dr nd_td ndsD evalIndex
theorem scanF_fuel : ∀ (f : Nat) (s : Str) (i : Int), s.length ≤ f → scanF f s i = scanF s.length s i
  | 0, s, i, h => by
    have : s = [] := List.eq_nil_of_length_eq_zero (by omega)
    subst this; rfl
  | f + 1, [], i, _ => by simp [scanF]
  | f + 1, c :: r, i, h => by
    have e1 := scanF_fuel f r (i + 1) (by simpa using h)
    simp only [List.length_cons, scanF]
    by_cases q : c = 32 ∨ c = 10
    · rw [if_pos q, if_pos q, e1]
    · rw [if_neg q, if_neg q]
      by_cases z : nextN (c :: r) = 0
      · rw [if_pos z, if_pos z]
      · rw [if_neg z, if_neg z]
        have hl : ((c :: r).drop (nextN (c :: r))).length ≤ r.length := by rw [List.length_drop, List.length_cons]; omega
        have h' : r.length ≤ f := by simpa using h
        have e2 := scanF_fuel f ((c :: r).drop (nextN (c :: r))) (i + nextN (c :: r)) (by omega)
        have e3 := scanF_fuel r.length ((c :: r).drop (nextN (c :: r))) (i + nextN (c :: r)) hl
        rw [e2, e3]
termination_by f _ _ _ => f
def scanA (s : Str) (k : Nat) : List Tk × Int := scanF (s.drop k).length (s.drop k) k
theorem scanA_end {s : Str} {k : Nat} (h : s.length ≤ k) : scanA s k = ([], (k : Int)) := by
  unfold scanA
  rw [List.drop_eq_nil_of_le h]; rfl
theorem scanA_blank {s : Str} {k : Nat} (h : k < s.length) (hc : s[k] = 32 ∨ s[k] = 10) : scanA s k = scanA s (k + 1) := by
  unfold scanA
  rw [List.drop_eq_getElem_cons h, List.length_cons, scanF, if_pos hc]
  rfl
theorem scanA_stop {s : Str} {k : Nat} (h : k < s.length) (hc : ¬ (s[k] = 32 ∨ s[k] = 10)) (hn : nextN (s.drop k) = 0) : scanA s k = ([], (k : Int)) := by
  unfold scanA
  rw [List.drop_eq_getElem_cons h] at hn ⊢
  rw [List.length_cons, scanF, if_neg hc, if_pos hn]
theorem scanA_tok {s : Str} {k : Nat} (h : k < s.length) (hc : ¬ (s[k] = 32 ∨ s[k] = 10)) (hn : nextN (s.drop k) ≠ 0) :
    scanA s k = (⟨(s.drop k).take (nextN (s.drop k)), k⟩ :: (scanA s (k + nextN (s.drop k))).1, (scanA s (k + nextN (s.drop k))).2) := by
  have hl := nextN_le (s.drop k)
  have e : (s.drop k).drop (nextN (s.drop k)) = s.drop (k + nextN (s.drop k)) := by rw [List.drop_drop]
  unfold scanA
  rw [← e]
  generalize hm : nextN (s.drop k) = m at hn hl e ⊢
  rw [List.drop_eq_getElem_cons h] at hm hl ⊢
  rw [List.length_cons, scanF, if_neg hc, if_neg (by rw [hm]; exact hn), hm]
  rw [scanF_fuel _ _ _ (by rw [List.length_drop, List.length_cons]; omega)]
  push_cast
  rfl
theorem u8_eq {c : UInt8} {n : Nat} (hn : n < 256) : ((c.toNat : Int) = n) ↔ c = UInt8.ofNat n := by
  rw [← UInt8.toNat_inj]
  have : (UInt8.ofNat n).toNat = n := by simp [UInt8.toNat_ofNat']; omega
  omega
theorem blank_iff {s : Str} {k : Nat} (hk : k < s.length) : (((s[k]?.getD 0).toNat : Int) = 32 ∨ ((s[k]?.getD 0).toNat : Int) = 10) ↔ (s[k] = 32 ∨ s[k] = 10) := by
  rw [List.getElem?_eq_getElem hk, Option.getD_some]
  have e1 := u8_eq (c := s[k]) (n := 32) (by decide)
  have e2 := u8_eq (c := s[k]) (n := 10) (by decide)
  exact ⟨fun q => q.imp e1.1 e2.1, fun q => q.imp e1.2 e2.2⟩
theorem tok_cut (s : Str) (k n : Nat) : List.drop k (List.take ((k : Int) + (n : Int)).toNat s) = List.take n (List.drop k s) := by
  rw [show ((k : Int) + (n : Int)).toNat = k + n by omega, List.drop_take, show k + n - k = n by omega]
structure ScS where
  k : Nat
  L : List Tk
  deriving Inhabited
theorem scan_own (s : Str) (hl : s.length ≤ 1000000000) : Ok Tryz.prog 51 [.str s] ⟨.tup [.own 2 ((scanS s).1.map Tk.d), .d (I64 (scanS s).2)], true⟩ := by
  refine Ok.two Tryz.func51 (by kernel_rfl) (c := _) rfl Tryz.ntmps51 (by simp) Tryz.results51 rfl fun w0 X hp => ?_
  refine LWp.seq ?_
  refine LWp.rz hT hW ?_
  simp
  refine LWp.scope ?_
  refine LWp.seq ?_
  refine LWp.rz hT hW ?_
  simp
  refine LWp.seq ?_
  refine LWp.rz hT hW ?_
  simp
  refine LWp.seq ?_
  refine LWp.label ?_
  simp
  refine LWp.seq ?_
  refine LWp.block ?_
  refine LWp.loopW (ι := ScS) (fun ⟨k, L⟩ => mkEnv [(0, .d (.str s)), (4, .ow 4 0 L.length), (5, .d (I64 k))]) (fun ⟨k, L⟩ => mkObs [(4, .row false 2 (L.map Tk.d))]) (fun ⟨k, L⟩ => L.length ≤ k ∧ k ≤ s.length ∧ scanS s = (L ++ (scanA s k).1, (scanA s k).2)) (fun ⟨k, L⟩ => s.length - k) ⟨0, []⟩ (Weak.to [0, 4, 5] [(4, 4)] (by decide) (by decide) (by simp [hp]) (by simp) (by simp)) (⟨Nat.le_refl _, Nat.zero_le _, by simp [scanA, scanS]⟩) fun ⟨k, L⟩ hi3 => ?_
  refine LWp.seq ?_
  refine LWp.seq ?_
  refine LWp.rz hT hW ?_
  simp
  refine LWp.iff ?_
  simp
  refine ⟨fun h3 => ?_, fun h3 => ?_⟩
  · refine LWp.skip ?_
    simp
    refine LWp.block ?_
    refine LWp.seq ?_
    refine LWp.seq ?_
    have hk : k < s.length := by omega
    refine LWp.rz hT hW ?_
    simp
    refine ⟨hk, ?_⟩
    refine LWp.block ?_
    refine LWp.seqCut (ι := BC) (fun ⟨b⟩ => mkEnv [(0, .d (.str s)), (4, .ow 4 0 L.length), (5, .d (I64 k)), (14, .d (.bool b))]) (fun ⟨b⟩ => mkObs [(4, .row false 2 (L.map Tk.d))]) (fun ⟨b⟩ => b = true ↔ (((s[k]?.getD 0).toNat : Int) = 32 ∨ ((s[k]?.getD 0).toNat : Int) = 10)) ?_ fun ⟨b⟩ hc7 => ?_
    · refine LWp.seq ?_
      refine LWp.rz hT hW ?_
      simp
      refine LWp.iff ?_
      simp
      refine ⟨fun h5 => ?_, fun h5 => ?_⟩
      · refine LWp.skip ?_
        simp
        refine cutQ.mk ⟨decide (((s[k]?.getD 0).toNat : Int) = 32)⟩ (Weak.to [0, 4, 5, 14] [(4, 4)] (by decide) (by decide) (by simp [hp]) (by simp) (by simp)) ?_
        simp [h5]
      · refine LWp.rz hT hW ?_
        simp
        refine cutQ.mk ⟨decide (((s[k]?.getD 0).toNat : Int) = 10)⟩ (Weak.to [0, 4, 5, 14] [(4, 4)] (by decide) (by decide) (by simp [hp]) (by simp) (by simp)) ?_
        simp only [decide_eq_true_eq]; omega
    · refine LWp.iff ?_
      simp
      refine ⟨fun h7 => ?_, fun h7 => ?_⟩
      · have q7 := (blank_iff hk).1 (hc7.1 h7)
        refine LWp.seq ?_
        refine LWp.rz hT hW ?_
        simp
        refine ⟨by omega, ?_⟩
        refine LWp.exit ?_
        simp
        refine loopQ.mk ⟨k + 1, L⟩ (Weak.to [0, 4, 5] [(4, 4)] (by decide) (by decide) (by simp [hp]) (by simp) (by simp)) ?_ ?_
        · refine ⟨Nat.le_succ_of_le hi3.1, hk, ?_⟩
          rw [hi3.2.2, scanA_blank hk q7]
        · show s.length - (k + 1) < s.length - k
          omega
      · have q7 : ¬ (s[k] = 32 ∨ s[k] = 10) := fun q => by simp [hc7.2 ((blank_iff hk).2 q)] at h7
        refine LWp.skip ?_
        simp
        refine LWp.seq ?_
        have hn := next_ok s[k] (s.drop (k + 1)) (by simp; omega)
        rw [← List.drop_eq_getElem_cons hk] at hn
        refine LWp.ro hT hW (fun | 22 => some <| .plain ⟨.d (I64 (nextN (s.drop k))), true⟩ | _ => none) ?_
        simp
        refine ⟨⟨by omega, hn⟩, ?_⟩
        refine LWp.seq ?_
        refine LWp.seq ?_
        refine LWp.rz hT hW ?_
        simp
        refine LWp.iff ?_
        simp
        refine ⟨fun h9 => ?_, fun h9 => ?_⟩
        · refine LWp.exit ?_
          simp
          refine LWp.seq ?_
          refine LWp.rz hT hW ?_
          simp
          refine LWp.ret ?_
          simp
          have e := hi3.2.2
          rw [scanA_stop hk q7 h9] at e
          rw [e]
          exact ⟨⟨by simp, fun a _ c hc => by simp [Tk.d, cellsD] at hc; rcases hc with rfl | rfl <;> rfl⟩, rfl⟩
        · refine LWp.skip ?_
          simp
          refine LWp.seq ?_
          have hnl := nextN_le (s.drop k)
          rw [List.length_drop] at hnl
          refine LWp.rz hT hW ?_
          simp
          refine ⟨⟨⟨⟨by omega, by omega⟩, by omega, by omega⟩, by omega, by omega⟩, ?_⟩
          refine LWp.rz hT hW ?_
          simp
          refine ⟨by omega, ?_⟩
          refine loopQ.mk ⟨k + nextN (s.drop k), L ++ [⟨(s.drop k).take (nextN (s.drop k)), k⟩]⟩ (Weak.to [0, 4, 5] [(35, 4)] (by decide) (by decide) (by simp [hp]) (by simp) (by simp [Tk.d, tok_cut])) ?_ ?_
          · refine ⟨?_, ?_, ?_⟩
            · show (L ++ [_]).length ≤ k + nextN (s.drop k)
              rw [List.length_append, List.length_singleton]; omega
            · show k + nextN (s.drop k) ≤ s.length
              omega
            · rw [hi3.2.2, scanA_tok hk q7 h9]
              simp
          · show s.length - (k + nextN (s.drop k)) < s.length - k
            omega
  · refine LWp.exit ?_
    simp
    refine LWp.seq ?_
    refine LWp.rz hT hW ?_
    simp
    refine LWp.ret ?_
    simp
    have e := hi3.2.2
    rw [scanA_end h3] at e
    rw [e]
    exact ⟨⟨by simp, fun a _ c hc => by simp [Tk.d, cellsD] at hc; rcases hc with rfl | rfl <;> rfl⟩, rfl⟩
theorem scan_ok (s : Str) (hl : s.length ≤ 1000000000) : Ok Tryz.prog 51 [.str s] ⟨.tup [.d (.sl ((scanS s).1.map Tk.d)), .d (I64 (scanS s).2)], true⟩ := Ok.own2_d (scan_own s hl)
end
end Go.Eng
namespace Go.Eng
open Go.RowKit
section
variable {P : Program} {T : TypeId → TyI} {w0 : Base} {X : Nat → Prop} {env : Env} {H : Obs}
def retGC (w0 : Base) (T : TypeId → TyI) (t : Nat) (ty : TypeId) (fin : List (Nat × LObj)) (ret : LV) (x : LX) (env : Env) (H : Obs) : Prop :=
  (match x with | .exit _ => False | _ => True) ∧ (loadR T H ty (env t)).ok ∧ Weak w0 (mkEnv [(0, (loadR T H ty (env t)).v)]) H (mkEnv [(0, ret)]) (mkObs fin)
theorem retGC_ret {t : Nat} {ty : TypeId} {fin : List (Nat × LObj)} {ret : LV} : retGC w0 T t ty fin ret .ret env H ↔ (loadR T H ty (env t)).ok ∧ Weak w0 (mkEnv [(0, (loadR T H ty (env t)).v)]) H (mkEnv [(0, ret)]) (mkObs fin) := by simp [retGC]
theorem OkG.cell (hT : TOk P T) {f : FuncId} {fn : Func} {c : Code} {args : List LV} {h fin : List (Nat × LObj)} {ret : LV} {n t : Nat} {ty : TypeId} (hf : P.funcs[f]? = some fn) (hname : (fn.name == "runtime.NumGoroutine") = false) (hb : fn.body = some c) (hn : fn.ntmps = n) (hargs : args.length ≤ n) (hres : fn.results = #[.cell t ty])
    (hw : ∀ w0 X, w0.pins = h.map (·.1) → LWp P n w0 X c (retGC w0 T t ty fin ret) (lenv args) (mkObs h)) : OkG P f args h fin ret :=
  OkG.of_body hf hname hb hn hargs fun w0 X hp => (hw w0 X hp).mono fun x env H ⟨h1, h2, h3⟩ => ⟨h1, fun β a w s => by
    obtain ⟨v, hv, hr⟩ := loadR_sound hT s h2
    have s1 : Sim 1 w0 X (mkEnv [(0, (loadR T H ty (env t)).v)]) H β ⟨#[v], []⟩ w := by
      refine ⟨rfl, rfl, s.ext, s.xold, s.fresh, s.inj, fun t' => ?_, s.obj, s.pin⟩
      cases t' with
      | zero => exact hr
      | succ t' => exact .junk _
    obtain ⟨β', s'⟩ := h3 _ _ _ _ _ s1
    have e := s'.env 0
    rw [show mkEnv [(0, ret)] 0 = ret by simp [mkEnv, lookL]] at e
    refine ⟨v, β', ?_, s'.mem, e⟩
    simp only [results, hres]
    simpa [Sem.run_bind, Result.andThen] using hv⟩
theorem Weak.closed {l : LV} {x : DV} {env' : Env} {H' : Obs} (h : Eng.close H 8 l = some x) (k : Weak w0 (mkEnv [(0, .d x)]) (upds H (freezes H (touch H 8 l))) env' H') : Weak w0 (mkEnv [(0, l)]) H env' H' := by
  have e : upd (mkEnv [(0, l)]) 0 (.d x) = mkEnv [(0, .d x)] := by
    funext j
    by_cases q : j = 0
    · subst q; rfl
    · rw [upd_ne _ _ q]; simp [mkEnv, lookL, q, Ne.symm q]
  have z : mkEnv [(0, l)] 0 = l := by simp [mkEnv, lookL]
  have c := Weak.close (w0 := w0) (H := H) (env := mkEnv [(0, l)]) 0 (x := x) (by rw [z]; exact h)
  rw [e, z] at c
  exact c.trans k
theorem ex_not {β : Nat → Option Nat} {w : World} (m : Mem w0 X H β w) {id b : Nat} (hl : (H id).live = true) (hm : (H id).mut = false) (hb : β id = some b) : ¬ Ex X β H b := fun he => by
  have hf := m.fresh id b hl hb
  rcases he with he | ⟨i, h1, h2⟩
  · rcases hf.1 with h1 | h1
    · have := (m.xold.1 b he).1; omega
    · exact (m.xold.1 b he).2 h1.1
  · have := m.inj i id b (LObj.live_of_mut h1) hl h2 hb
    subst this
    rw [hm] at h1; cases h1
theorem Weak.freeze (ids : List Nat) : Weak w0 env H env (upds H (freezes H ids)) := fun N X β a w s => by
  obtain ⟨m, g⟩ := s.mem.freeze ids
  exact ⟨β, s.defers, s.size, m.ext, m.xold, m.fresh, m.inj, fun u => g.R (s.env u), m.obj, m.pin⟩
theorem Weak.shut (b : Nat) {fz : Bool} {cs : List LV} {ds : List DV} (hH : H b = .box fz cs) (h : optAll (cs.map (Eng.close H 8)) = some ds) (ht : ∀ c ∈ cs, ∀ id ∈ touch H 8 c, (H id).mut = false) : Weak w0 env H env (upd H b (.box fz (ds.map .d))) := fun N X β a w s => by
  obtain ⟨e1, e2⟩ := optAll_map h
  obtain ⟨m2, g2⟩ := s.mem.rebox (cs' := ds.map .d) hH (by simp [e1]) (fun i c c' v hc hc' hr => by
    obtain ⟨d, hd, rfl⟩ := map_get hc'
    have hcl := e2 i _ _ hc hd
    exact .d _ _ (close_sound s.mem.obj (fun _ _ h => h) 8 c d v hcl (fun id hid b hb => ex_not s.mem (close_live 8 c d hcl id hid) (ht c (List.mem_of_getElem? hc) id hid) hb) hr))
  exact ⟨β, s.defers, s.size, m2.ext, m2.xold, m2.fresh, m2.inj, fun u => g2.R (s.env u), m2.obj, m2.pin⟩
theorem Weak.shutBox (b : Nat) (ids : List Nat) {fz : Bool} {cs : List LV} {ds : List DV} (hH : H b = .box fz cs) (hb : b ∉ ids) (h : optAll (cs.map (Eng.close (upds H (freezes H ids)) 8)) = some ds)
    (ht : ∀ c ∈ cs, ∀ id ∈ touch (upds H (freezes H ids)) 8 c, (upds H (freezes H ids) id).mut = false) : Weak w0 env H env (upd (upds H (freezes H ids)) b (.box fz (ds.map .d))) :=
  (Weak.freeze ids).trans (Weak.shut b (by rw [upds_freezes, if_neg hb]; exact hH) h ht)
theorem loopQ.weak {ι : Type} {E : ι → Env} {O : ι → Obs} {I : ι → Prop} {μ : ι → Nat} {i : ι} {env' : Env} {H' : Obs} (h : Weak w0 env H env' H') (k : loopQ w0 E O I μ i env' H') : loopQ w0 E O I μ i env H := by
  obtain ⟨j, hw, r⟩ := k
  exact ⟨j, h.trans hw, r⟩
theorem exWeak {ι : Type} {E : ι → Env} {O : ι → Obs} {I : ι → Prop} {env' : Env} {H' : Obs} (h : Weak w0 env H env' H') (k : ∃ i, Weak w0 env' H' (E i) (O i) ∧ I i) : ∃ i, Weak w0 env H (E i) (O i) ∧ I i := by
  obtain ⟨i, hw, r⟩ := k
  exact ⟨i, h.trans hw, r⟩
end
end Go.Eng
namespace Go.Eng
open Go.Proofs
attribute [local simp] runL stepL evalG evalOp opLV constLV putEnv dstOk upd upds Res.plain Res.cond Res.fail evalBin evalUn seqQ blockQ argsEnv lookL lookH RetIs memless freshL evalPick evalMin bval bok evalLen evalIn strip whenC guardOps guardC slotsOf
  runM foldS stepI stepM maskE wrIn lk renO lookN evalCall evalCallee optAll resLV resObj retLV retObj retsLV retsObj evalLoad evalIndexAddr evalField solid cellsD_agg cellsD_int cellsD_bool cellsD_str cellsD_sl cellsD_ro cellsD_fn cellsL_agg cellsL_dagg cellsL_int cellsL_bool cellsL_str cellsL_sl cellsL_fn cellsL_ow cellsL_bx cellsL_lfn cellsL_nl takeL takeD mkAgg allD eqD eqDs kindsAre kindIs LObj.live TK.isNone TK.agg TK.isBool TK.isStr TK.isStruct Op.operands Call.operands
  evalBuildSlice evalAppend elemsOf evalStore evalBuild fillL lookupF putL evalSlice bound evalConv elemsS freezes frozen loadR
  mkEnv_at mkObs_at close_d close_agg close_ow close_bx close_fn close_nl touch_d touch_agg touch_ow touch_bx touch_fn touch_nl ren_d ren_agg ren_bx ren_rp ren_ow ren_fn ren_nl ren_junk retQ_ret retQ2_ret condQ_bool Nm.d Df.d Ed.d nmsD dfsD strsD edsD retC_ret nm_eq df_eq take_map_len take_map_app
  nm_t nm_d nm_td df_t df_d df_td str_t str_d str_td ed_t ed_d ed_td
  evalAppendIn evalBuildSliceC evalCopyC shortL evalApart evalAppendC evalAppendZ evalAppendG evalCapC isOc TK.isInt close_oc touch_oc ren_oc cellsL_oc evalCut evalClear evalCopy evalMake evalWrap evalCap evalNil isNilC lenL isInp gorc gorc2
  mapOf findD keyEq keyOk evalMakeMap evalRange zeroD zeroDV argsG shutG outN lenv retG0_ret retG0_normal retG1_ret retGR_ret renO close_mp touch_mp ren_mp optAll_d optAll_d' touch_ds cellsL_mp cellsD_mp cellsL_dmp
  evalMapSet evalPtr TK.isPtr evalToArr firstL retN_ret retsQ rvarL close_bm touch_bm ren_bm cellsD_bm cellsL_bm cellsL_lbm
attribute [local simp] cutQ_normal cutQ_ret cutQ_exit
section
attribute [local simp] Res.cond Nd.d_eq nd_t nd_dr nd_td ndsD evalIndex retGC_ret
def tksD (l : List Tk) : DV := .sl (l.map Tk.d)
theorem tk_t : ∀ t : Tk, (cellsD t.d).length = 2 := fun _ => rfl
def psH (p : PS) : List (Nat × LObj) := [(0, .box false [.d (tksD p.l), .d (I64 p.e)])]
attribute [local simp] tksD psH
theorem upds_same (c : Prop) [Decidable c] (A B : LObj) (x : Nat) : upds (fun x => if x = 0 then A else B) (if c then [] else [(0, A)]) x = if x = 0 then A else B := by
  by_cases h : c <;> by_cases q : x = 0 <;> simp [h, q, upds, upd]
attribute [local simp] upds_same
theorem peek_none {p : PS} (h : ¬ p.e = 0 ∨ p.l = []) : p.peek = [] := by
  unfold PS.peek
  by_cases q : p.e = 0
  · rcases h with h | h
    · exact absurd q h
    · rw [if_neg (by simpa using q), h]
  · rw [if_pos q]
theorem peek_cons {p : PS} {t : Tk} {r : List Tk} (h : p.e = 0) (hl : p.l = t :: r) : p.peek = t.text := by
  unfold PS.peek
  rw [if_neg (by simpa using h), hl]
theorem is_iff {p : PS} {s : Str} : p.is s = true ↔ s ≠ [] ∧ p.peek = s := by simp [PS.is]
theorem took_is {p : PS} {s : Str} (h : p.is s = true) : p.took s = p.skip := if_pos h
theorem took_not {p : PS} {s : Str} (h : ¬ p.is s = true) : p.took s = p := if_neg h
theorem peek_ok (p : PS) : OkG Tryz.prog 73 [.bx 0 0] (psH p) (psH p) (.d (.str p.peek)) := by
  unfold psH
  refine OkG.one Tryz.func73 (by kernel_rfl) (c := _) rfl Tryz.ntmps73 (by simp) Tryz.results73 fun w0 X hp => ?_
  refine LWp.seq ?_
  refine LWp.rz hT hW ?_
  simp
  refine LWp.seq ?_
  refine LWp.seq ?_
  refine LWp.rz hT hW ?_
  simp
  refine LWp.iff ?_
  simp
  refine ⟨fun g => ?_, fun g1 g2 => ?_⟩
  · refine LWp.seq ?_
    refine LWp.rz hT hW ?_
    simp
    refine LWp.ret ?_
    simp
    exact Weak.to [2] [(0, 0)] (by decide) (by decide) (by simp [hp]) (by simp [peek_none g]) (by simp)
  · refine LWp.skip ?_
    simp
    refine LWp.seq ?_
    obtain ⟨t, r, htr⟩ := List.exists_cons_of_ne_nil g2
    refine LWp.rz hT hW ?_
    simp [htr, Tk.d]
    refine LWp.ret ?_
    simp
    exact Weak.to [2] [(0, 0)] (by decide) (by decide) (by simp [hp]) (by simp [peek_cons g1 htr]) (by simp [htr])
theorem fail_ok (p : PS) (e : Int) : OkG Tryz.prog 74 [.bx 0 0, .d (I64 e)] (psH p) (psH (p.fail e)) (.tup []) := by
  unfold psH
  refine OkG.unit Tryz.func74 (by kernel_rfl) (c := _) rfl Tryz.ntmps74 (by simp) Tryz.results74 fun w0 X hp => ?_
  refine LWp.seq ?_
  refine LWp.rz hT hW ?_
  simp
  refine LWp.iff ?_
  simp
  refine ⟨fun h0 => ?_, fun h0 => ?_⟩
  · refine LWp.rz hT hW ?_
    simp
    exact Weak.to [] [(0, 0)] (by decide) (by decide) (by simp [hp]) (by simp) (by simp [PS.fail, h0])
  · refine LWp.skip ?_
    simp
    exact Weak.to [] [(0, 0)] (by decide) (by decide) (by simp [hp]) (by simp) (by simp [PS.fail, h0])
theorem take_ok (p : PS) (s : Str) : OkG Tryz.prog 75 [.bx 0 0, .d (.str s)] (psH p) (psH (p.took s)) (.d (.bool (p.is s))) := by
  unfold psH
  refine OkG.one Tryz.func75 (by kernel_rfl) (c := _) rfl Tryz.ntmps75 (by simp) Tryz.results75 fun w0 X hp => ?_
  refine LWp.seq ?_
  refine LWp.rz hT hW ?_
  simp
  refine LWp.seq ?_
  refine LWp.seq ?_
  refine LWp.ro hT hW (fun | 9 => some (.gen ⟨[(0, 0)], [], [], psH p, .d (.str p.peek)⟩) | _ => none) ?_
  simp
  refine ⟨fun _ => peek_ok p, ?_⟩
  refine LWp.iff ?_
  simp
  refine ⟨fun g => ?_, fun g1 g2 => ?_⟩
  · refine LWp.seq ?_
    refine LWp.rz hT hW ?_
    simp
    refine LWp.ret ?_
    simp
    have hn : ¬ p.is s = true := fun q => by
      obtain ⟨q1, q2⟩ := is_iff.1 q
      rcases g with g | g
      · exact q1 g
      · exact g q2
    exact Weak.to [4] [(0, 0)] (by decide) (by decide) (by simp [hp]) (by simp [hn]) (by simp [took_not hn])
  · refine LWp.skip ?_
    simp
    refine LWp.seq ?_
    have hs : p.is s = true := is_iff.2 ⟨g1, by simpa using g2⟩
    have hl := is_len hs
    refine LWp.rz hT hW ?_
    simp
    refine ⟨⟨by omega, fun t _ => tk_t t⟩, ?_⟩
    refine LWp.seq ?_
    refine LWp.rz hT hW ?_
    simp
    refine LWp.ret ?_
    simp
    exact Weak.to [4] [(0, 0)] (by decide) (by decide) (by simp [hp]) (by simp [hs]) (by simp [took_is hs, PS.skip])
theorem need_is {p : PS} {s : Str} (h : p.is s = true) : p.need s = p.took s := by unfold PS.need PS.took; rw [if_pos h, if_pos h]
theorem need_not {p : PS} {s : Str} (h : p.is s = false) : p.need s = (p.took s).fail 2 := by
  have h' : ¬ p.is s = true := by simp [h]
  rw [took_not h']; unfold PS.need; rw [if_neg h']
theorem name_is {p : PS} (h : isNameB p.peek = true) : nameP p = (p.peek, p.took p.peek) := by
  have : p.is p.peek = true := is_iff.2 ⟨fun e => (by rw [e] at h; cases h), rfl⟩
  rw [took_is this]; unfold nameP; rw [if_pos h]
theorem name_not {p : PS} (h : isNameB p.peek = false) : nameP p = ([], p.fail 2) := by unfold nameP; rw [if_neg (by simp [h])]
theorem need_ok (p : PS) (s : Str) : OkG Tryz.prog 78 [.bx 0 0, .d (.str s)] (psH p) (psH (p.need s)) (.tup []) := by
  unfold psH
  refine OkG.unit Tryz.func78 (by kernel_rfl) (c := _) rfl Tryz.ntmps78 (by simp) Tryz.results78 fun w0 X hp => ?_
  refine LWp.seq ?_
  refine LWp.ro hT hW (fun | 6 => some (.gen ⟨[(0, 0)], [], [], psH (p.took s), .d (.bool (p.is s))⟩) | _ => none) ?_
  simp
  refine ⟨take_ok p s, ?_⟩
  refine LWp.iff ?_
  simp
  refine ⟨fun h0 => ?_, fun h0 => ?_⟩
  · have en := need_not h0
    refine LWp.ro hT hW (fun | 9 => some (.gen ⟨[(0, 0)], [], [], psH ((p.took s).fail 2), .tup []⟩) | _ => none) ?_
    simp
    refine ⟨fail_ok (p.took s) 2, ?_⟩
    exact Weak.to [] [(0, 0)] (by decide) (by decide) (by simp [hp]) (by simp) (by simp [en])
  · have en := need_is h0
    refine LWp.skip ?_
    simp
    exact Weak.to [] [(0, 0)] (by decide) (by decide) (by simp [hp]) (by simp) (by simp [en])
theorem name_ok (p : PS) : OkG Tryz.prog 76 [.bx 0 0] (psH p) (psH (nameP p).2) (.d (.str (nameP p).1)) := by
  unfold psH
  refine OkG.one Tryz.func76 (by kernel_rfl) (c := _) rfl Tryz.ntmps76 (by simp) Tryz.results76 fun w0 X hp => ?_
  refine LWp.seq ?_
  refine LWp.rz hT hW ?_
  simp
  refine LWp.seq ?_
  refine LWp.ro hT hW (fun | 5 => some (.gen ⟨[(0, 0)], [], [], psH p, .d (.str p.peek)⟩) | _ => none) ?_
  simp
  refine ⟨peek_ok p, ?_⟩
  refine LWp.seq ?_
  refine LWp.seq ?_
  refine LWp.ro hT hW (fun | 7 => some <| .plain ⟨.d (.bool (isNameB p.peek)), true⟩ | _ => none) ?_
  simp
  refine ⟨isName_ok p.peek, ?_⟩
  refine LWp.iff ?_
  simp
  refine ⟨fun h2 => ?_, fun h2 => ?_⟩
  · refine LWp.seq ?_
    refine LWp.ro hT hW (fun | 10 => some (.gen ⟨[(0, 0)], [], [], psH (p.fail 2), .tup []⟩) | _ => none) ?_
    simp
    refine ⟨fail_ok p 2, ?_⟩
    refine LWp.seq ?_
    refine LWp.rz hT hW ?_
    simp
    refine LWp.ret ?_
    simp
    exact Weak.to [2] [(0, 0)] (by decide) (by decide) (by simp [hp]) (by simp [name_not h2]) (by simp [name_not h2])
  · refine LWp.skip ?_
    simp
    refine LWp.seq ?_
    refine LWp.ro hT hW (fun | 13 => some (.gen ⟨[(0, 0)], [], [], psH (p.took p.peek), .d (.bool (p.is p.peek))⟩) | _ => none) ?_
    simp
    refine ⟨take_ok p p.peek, ?_⟩
    refine LWp.seq ?_
    refine LWp.rz hT hW ?_
    simp
    refine LWp.ret ?_
    simp
    exact Weak.to [2] [(0, 0)] (by decide) (by decide) (by simp [hp]) (by simp [name_is h2]) (by simp [name_is h2])
end
end Go.Eng
namespace Go.Proofs
open Go.Shelf
def Tryz.atoiLay_ren : Go.Shelf.Ren := ⟨fun | 172 => 115 | 244 => 144 | 245 => 145 | 247 => 165 | 279 => 166 | 280 => 167 | 281 => 168 | 282 => 169 | 287 => 187 | 316 => 188 | 171 => 66 | 205 => 189 | 321 => 196 | 322 => 197 | 243 => 102 | 246 => 134 | 283 => 156 | 284 => 157 | 285 => 158 | 286 => 159 | 129 => 130 | 317 => 178 | 318 => 179 | 319 => 180 | 320 => 181 | 337 => 193 | 338 => 194 | n => n, fun | 9 => 9 | 3 => 3 | 75 => 111 | 76 => 112 | 4 => 4 | 5 => 5 | 167 => 149 | 37 => 67 | 0 => 0 | 85 => 150 | 2 => 2 | 168 => 152 | 53 => 125 | 175 => 164 | 46 => 94 | 210 => 168 | 127 => 173 | 145 => 176 | 143 => 174 | 21 => 21 | 171 => 143 | 173 => 145 | 212 => 158 | 51 => 123 | 20 => 20 | 213 => 159 | 232 => 177 | 233 => 178 | 80 => 56 | n => n, fun | 15 => 5 | 16 => 6 | 17 => 4 | 18 => 7 | 19 => 8 | n => n⟩
theorem Tryz.atoiLay : Go.Proofs.Lays.n172 Tryz.prog Tryz.atoiLay_ren := {
  mixed := by kernel_rfl,
  f129 := Tryz.func130.trans (congrArg some (by kernel_rfl)),
  f171 := Tryz.func66.trans (congrArg some (by kernel_rfl)),
  f172 := Tryz.func115.trans (congrArg some (by kernel_rfl)),
  f205 := Tryz.func189.trans (congrArg some (by kernel_rfl)),
  f243 := Tryz.func102.trans (congrArg some (by kernel_rfl)),
  f244 := Tryz.func144.trans (congrArg some (by kernel_rfl)),
  f245 := Tryz.func145.trans (congrArg some (by kernel_rfl)),
  f246 := Tryz.func134.trans (congrArg some (by kernel_rfl)),
  f247 := Tryz.func165.trans (congrArg some (by kernel_rfl)),
  f279 := Tryz.func166.trans (congrArg some (by kernel_rfl)),
  f280 := Tryz.func167.trans (congrArg some (by kernel_rfl)),
  f281 := Tryz.func168.trans (congrArg some (by kernel_rfl)),
  f282 := Tryz.func169.trans (congrArg some (by kernel_rfl)),
  f283 := Tryz.func156.trans (congrArg some (by kernel_rfl)),
  f284 := Tryz.func157.trans (congrArg some (by kernel_rfl)),
  f285 := Tryz.func158.trans (congrArg some (by kernel_rfl)),
  f286 := Tryz.func159.trans (congrArg some (by kernel_rfl)),
  f287 := Tryz.func187.trans (congrArg some (by kernel_rfl)),
  f316 := Tryz.func188.trans (congrArg some (by kernel_rfl)),
  f317 := Tryz.func178.trans (congrArg some (by kernel_rfl)),
  f318 := Tryz.func179.trans (congrArg some (by kernel_rfl)),
  f319 := Tryz.func180.trans (congrArg some (by kernel_rfl)),
  f320 := Tryz.func181.trans (congrArg some (by kernel_rfl)),
  f321 := Tryz.func196.trans (congrArg some (by kernel_rfl)),
  f322 := Tryz.func197.trans (congrArg some (by kernel_rfl)),
  f337 := Tryz.func193.trans (congrArg some (by kernel_rfl)),
  f338 := Tryz.func194.trans (congrArg some (by kernel_rfl)),
  t0 := Tryz.underlying0,
  a0 := Tryz.isAgg0,
  z0 := Tryz.sizeOf0,
  v0 := Tryz.zeroValue0,
  t2 := Tryz.underlying2,
  a2 := Tryz.isAgg2,
  z2 := Tryz.sizeOf2,
  v2 := Tryz.zeroValue2,
  t3 := Tryz.underlying3,
  a3 := Tryz.isAgg3,
  z3 := Tryz.sizeOf3,
  v3 := Tryz.zeroValue3,
  t4 := Tryz.underlying4,
  a4 := Tryz.isAgg4,
  z4 := Tryz.sizeOf4,
  v4 := Tryz.zeroValue4,
  t5 := Tryz.underlying5,
  a5 := Tryz.isAgg5,
  z5 := Tryz.sizeOf5,
  v5 := Tryz.zeroValue5,
  t9 := Tryz.underlying9,
  a9 := Tryz.isAgg9,
  z9 := Tryz.sizeOf9,
  v9 := Tryz.zeroValue9,
  t20 := Tryz.underlying20,
  a20 := Tryz.isAgg20,
  z20 := Tryz.sizeOf20,
  v20 := Tryz.zeroValue20,
  t21 := Tryz.underlying21,
  a21 := Tryz.isAgg21,
  z21 := Tryz.sizeOf21,
  v21 := Tryz.zeroValue21,
  t37 := Tryz.underlying67,
  a37 := Tryz.isAgg67,
  z37 := Tryz.sizeOf67,
  v37 := Tryz.zeroValue67,
  t46 := Tryz.underlying94,
  a46 := Tryz.isAgg94,
  z46 := Tryz.sizeOf94,
  v46 := Tryz.zeroValue94,
  t51 := Tryz.underlying123,
  a51 := Tryz.isAgg123,
  z51 := Tryz.sizeOf123,
  v51 := Tryz.zeroValue123,
  t53 := Tryz.underlying125,
  a53 := Tryz.isAgg125,
  z53 := Tryz.sizeOf125,
  v53 := Tryz.zeroValue125,
  t75 := Tryz.underlying111,
  a75 := Tryz.isAgg111,
  z75 := Tryz.sizeOf111,
  v75 := Tryz.zeroValue111,
  t76 := Tryz.underlying112,
  a76 := Tryz.isAgg112,
  z76 := Tryz.sizeOf112,
  v76 := Tryz.zeroValue112,
  t85 := Tryz.underlying150,
  a85 := Tryz.isAgg150,
  z85 := Tryz.sizeOf150,
  v85 := Tryz.zeroValue150,
  t127 := Tryz.underlying173,
  a127 := Tryz.isAgg173,
  z127 := Tryz.sizeOf173,
  v127 := Tryz.zeroValue173,
  t143 := Tryz.underlying174,
  a143 := Tryz.isAgg174,
  z143 := Tryz.sizeOf174,
  v143 := Tryz.zeroValue174,
  t145 := Tryz.underlying176,
  a145 := Tryz.isAgg176,
  z145 := Tryz.sizeOf176,
  v145 := Tryz.zeroValue176,
  t167 := Tryz.underlying149,
  a167 := Tryz.isAgg149,
  z167 := Tryz.sizeOf149,
  v167 := Tryz.zeroValue149,
  t168 := Tryz.underlying152,
  a168 := Tryz.isAgg152,
  z168 := Tryz.sizeOf152,
  v168 := Tryz.zeroValue152,
  t171 := Tryz.underlying143,
  a171 := Tryz.isAgg143,
  z171 := Tryz.sizeOf143,
  v171 := Tryz.zeroValue143,
  t173 := Tryz.underlying145,
  a173 := Tryz.isAgg145,
  z173 := Tryz.sizeOf145,
  v173 := Tryz.zeroValue145,
  t175 := Tryz.underlying164,
  a175 := Tryz.isAgg164,
  z175 := Tryz.sizeOf164,
  v175 := Tryz.zeroValue164,
  t210 := Tryz.underlying168,
  a210 := Tryz.isAgg168,
  z210 := Tryz.sizeOf168,
  v210 := Tryz.zeroValue168,
  t212 := Tryz.underlying158,
  a212 := Tryz.isAgg158,
  z212 := Tryz.sizeOf158,
  v212 := Tryz.zeroValue158,
  t213 := Tryz.underlying159,
  a213 := Tryz.isAgg159,
  z213 := Tryz.sizeOf159,
  t232 := Tryz.underlying177,
  a232 := Tryz.isAgg177,
  z232 := Tryz.sizeOf177,
  v232 := Tryz.zeroValue177,
  t233 := Tryz.underlying178,
  a233 := Tryz.isAgg178,
  z233 := Tryz.sizeOf178,
  v233 := Tryz.zeroValue178,
  g15 := by kernel_rfl,
  g16 := by kernel_rfl,
  g17 := by kernel_rfl,
  g18 := by kernel_rfl,
  g19 := by kernel_rfl }
end Go.Proofs
