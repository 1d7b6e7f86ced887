/-
  Texts of the proofs of this seat, part 7. No condition.
-/
import Derived.Test.YtmpfgfdjkjekcaaGreatDoorMF
set_option linter.unusedVariables false
set_option linter.unusedSimpArgs false
namespace Go.Eng
open Go.Proofs
attribute [local simp] runL stepL evalG evalOp opLV constLV putEnv dstOk upd upds Res.plain Res.cond Res.fail evalBin evalUn seqQ blockQ argsEnv lookL lookH RetIs memless freshL evalPick evalMin bval bok evalLen evalIn strip whenC guardOps guardC slotsOf
  runM foldS stepI stepM maskE wrIn lk renO lookN evalCall evalCallee optAll resLV resObj retLV retObj retsLV retsObj evalLoad evalIndexAddr evalField solid cellsD_agg cellsD_int cellsD_bool cellsD_str cellsD_sl cellsD_ro cellsD_fn cellsL_agg cellsL_dagg cellsL_int cellsL_bool cellsL_str cellsL_sl cellsL_fn cellsL_ow cellsL_bx cellsL_lfn cellsL_nl takeL takeD mkAgg allD eqD eqDs kindsAre kindIs LObj.live TK.isNone TK.agg TK.isBool TK.isStr TK.isStruct Op.operands Call.operands
  evalBuildSlice evalAppend elemsOf evalStore evalBuild fillL lookupF putL evalSlice bound evalConv elemsS freezes frozen loadR
  mkEnv_at mkObs_at close_d close_agg close_ow close_bx close_fn close_nl touch_d touch_agg touch_ow touch_bx touch_fn touch_nl ren_d ren_agg ren_bx ren_rp ren_ow ren_fn ren_nl ren_junk retQ_ret retQ2_ret condQ_bool Nm.d Df.d Ed.d nmsD dfsD strsD edsD retC_ret nm_eq df_eq take_map_len take_map_app
  nm_t nm_d nm_td df_t df_d df_td str_t str_d str_td ed_t ed_d ed_td
  evalAppendIn evalBuildSliceC evalCopyC shortL evalApart evalAppendC evalAppendZ evalAppendG evalCapC isOc TK.isInt close_oc touch_oc ren_oc cellsL_oc evalCut evalClear evalCopy evalMake evalWrap evalCap evalNil isNilC lenL isInp gorc gorc2
  mapOf findD keyEq keyOk evalMakeMap evalRange zeroD zeroDV argsG shutG outN lenv retG0_ret retG0_normal retG1_ret retGR_ret renO close_mp touch_mp ren_mp optAll_d optAll_d' touch_ds cellsL_mp cellsD_mp cellsL_dmp
  evalMapSet evalPtr TK.isPtr evalToArr firstL retN_ret retsQ rvarL close_bm touch_bm ren_bm cellsD_bm cellsL_bm cellsL_lbm
attribute [local simp] cutQ_normal cutQ_ret cutQ_exit
section
attribute [local simp] Res.cond Nd.d_eq nd_t nd_dr nd_td ndsD evalIndex retGC_ret tksD psH upds_same
theorem digit_val {c : UInt8} (h : digitB c = true) : Lib.digitVal c = some (c.toNat - 48) ∧ 48 ≤ c.toNat ∧ c.toNat ≤ 57 := by
  rw [digitB_eq] at h
  simp only [Bool.and_eq_true, decide_eq_true_eq] at h
  have h1 : 48 ≤ c.toNat := by omega
  have h2 : c.toNat ≤ 57 := by omega
  exact ⟨by unfold Lib.digitVal; rw [if_pos ⟨h1, h2⟩], h1, h2⟩
theorem dec_fold : ∀ (s : Str) (acc : Nat), (∀ c ∈ s, digitB c = true) → ∃ m : Nat, Lib.decFrom acc s = some m ∧ (m : Int) = s.foldl (fun n c => 10 * n + ((c.toNat : Int) - 48)) (acc : Int)
  | [], acc, _ => ⟨acc, rfl, rfl⟩
  | c :: r, acc, h => by
    obtain ⟨h1, h2, h3⟩ := digit_val (h c (List.mem_cons_self ..))
    obtain ⟨m, e1, e2⟩ := dec_fold r (acc * 10 + (c.toNat - 48)) fun x hx => h x (List.mem_cons_of_mem _ hx)
    refine ⟨m, ?_, ?_⟩
    · unfold Lib.decFrom; rw [h1]; exact e1
    · rw [e2, List.foldl_cons]
      congr 1
      omega
theorem atoi_digits {s : Str} (h0 : s ≠ []) (h : ∀ c ∈ s, digitB c = true) : Lib.atoi s = some (valS s) := by
  cases s with
  | nil => exact absurd rfl h0
  | cons c r =>
    obtain ⟨m, e1, e2⟩ := dec_fold (c :: r) 0 h
    obtain ⟨_, d1, d2⟩ := digit_val (h c (List.mem_cons_self ..))
    have n1 : ¬ (c == 45) = true := fun q => (by have e : c = 45 := (by simpa using q); subst e; exact absurd d1 (by decide))
    have n2 : ¬ (c == 43) = true := fun q => (by have e : c = 43 := (by simpa using q); subst e; exact absurd d1 (by decide))
    show (if (c == 45) = true then (Lib.decNat r).map (fun m : Nat => -(m : Int)) else if (c == 43) = true then (Lib.decNat r).map (fun m : Nat => (m : Int)) else (Lib.decNat (c :: r)).map (fun m : Nat => (m : Int))) = some (valS (c :: r))
    rw [if_neg n1, if_neg n2]
    unfold Lib.decNat
    rw [if_neg (by simp), e1, Option.map_some, e2]
    rfl
theorem tok_digits {s : Str} (h : tokB s) (hd : digitB (s[0]?.getD 0) = true) : s.length ≤ 3 ∧ ∀ c ∈ s, digitB c = true := by
  obtain ⟨h0, h1⟩ := h
  cases s with
  | nil => exact absurd rfl h0
  | cons c r =>
    have hd : digitB c = true := hd
    obtain ⟨_, d1, d2⟩ := digit_val hd
    have nl : ¬ letterB c = true := fun q => by
      rw [letterB_eq] at q
      simp only [Bool.and_eq_true, decide_eq_true_eq] at q
      omega
    have n36 : ¬ c = 36 := fun q => by subst q; exact absurd d1 (by decide)
    rw [next_eq, if_neg nl, if_neg n36, if_pos hd] at h1
    by_cases q : runP digitB (c :: r) ≤ 3
    · rw [if_pos q] at h1
      refine ⟨by omega, fun x hx => ?_⟩
      obtain ⟨i, hi, rfl⟩ := List.getElem_of_mem hx
      exact runP_all hi (by omega)
    · rw [if_neg q] at h1; simp at h1
theorem tok_len {s : Str} (h : tokB s) : s.length ≤ 17 := by
  obtain ⟨h0, h1⟩ := h
  cases s with
  | nil => simp
  | cons c r =>
    rw [← h1, next_eq]
    have hw : ∀ t : Str, wordN t ≤ 16 := fun t => by
      rcases Nat.eq_zero_or_pos (wordN t) with q | q
      · omega
      · obtain ⟨_, _, _, _, _, q2⟩ := wordN_pos q
        exact q2
    have a1 := hw (c :: r)
    have a2 := hw r
    repeat' split
    all_goals omega
theorem peek_tl {p : PS} (h : GoodT p.l) : p.peek.length ≤ 17 := by
  by_cases q : p.peek = []
  · rw [q]; simp
  · exact tok_len (peek_tok h q)
theorem Atoi_ok (s : Str) (n : Int) (hl : s.length ≤ 18) (h : Lib.atoi s = some n) : Ok Tryz.prog 115 [.str s] ⟨.tup [.d (I64 n), .d (.val .nilIface)], true⟩ := by
  refine ⟨⟨_, Tryz.func115, by kernel_rfl, rfl⟩, fun w X vs hX hr => ?_⟩
  match vs, hr.1 with
  | [u], _ =>
    have h1 := hr.2 0 _ _ rfl rfl
    cases h1
    refine (Go.Proofs.Any.strconv_Atoi Tryz.atoiLay ⟨s.toArray⟩ n (by simpa [ByteArray.size] using hl) (by simpa using h) w).mono ?_
    rintro e w' ⟨rfl, t, rfl⟩
    refine ⟨_, rfl, ?_, ?_⟩
    · refine ⟨by unfold Lib.bytesWorld World.freeze; split <;> rfl, by unfold Lib.bytesWorld World.freeze; split <;> rfl, by unfold Lib.bytesWorld World.freeze; split <;> rfl, by rw [Lib.bytesWorld_size]; omega, fun k hk => Lib.bytesWorld_at_old _ _ _ k hk, ?_⟩
      unfold Lib.bytesWorld World.freeze
      split <;> exact Nat.le_succ w.drawn
    · refine ⟨[.int .i64 n, .nilIface], fun _ => none, rfl, rfl, fun _ _ _ q => (by cases q), fun i r v hi hv => ?_⟩
      match i, hi with
      | 0, hi => cases hi; cases hv; exact .int _ _
      | 1, hi => cases hi; cases hv; exact .val _ rfl
theorem CutPrefix1_ok (s t : Str) (hl : s.length ≤ 9223372036854775807) (ht : t.length ≤ 9223372036854775807) : Ok Tryz.prog 186 [.str s, .str t] ⟨.tup [.d (.str (if s.take t.length = t then s.drop t.length else s)), .d (.bool (decide (s.take t.length = t)))], true⟩ := by
  refine Ok.two Tryz.func186 (by kernel_rfl) (c := _) rfl Tryz.ntmps186 (by simp) Tryz.results186 rfl fun w0 X hp => ?_
  refine LWp.seq ?_
  refine LWp.rz hT hW ?_
  simp
  refine LWp.seq ?_
  refine LWp.seq ?_
  have h := HasPrefix1_ok s t hl ht
  refine LWp.ro hT hW (fun | 8 => some <| .plain ⟨.d (.bool (decide (s.take t.length = t))), true⟩ | _ => none) ?_
  simp
  refine ⟨h, ?_⟩
  refine LWp.iff ?_
  simp
  refine ⟨fun h1 => ?_, fun h1 => ?_⟩
  · refine LWp.seq ?_
    refine LWp.rz hT hW ?_
    simp
    refine LWp.ret ?_
    simp
    exact ⟨fun q => absurd q h1, h1⟩
  · refine LWp.skip ?_
    simp
    refine LWp.seq ?_
    have hle : t.length ≤ s.length := by have e := congrArg List.length h1; rw [List.length_take] at e; omega
    refine LWp.rz hT hW ?_
    simp
    refine ⟨by omega, ?_⟩
    refine LWp.ret ?_
    simp
    exact ⟨fun q => absurd h1 q, h1⟩
theorem CutPrefix_ok (s t : Str) (hl : s.length ≤ 9223372036854775807) (ht : t.length ≤ 9223372036854775807) : Ok Tryz.prog 164 [.str s, .str t] ⟨.tup [.d (.str (if s.take t.length = t then s.drop t.length else s)), .d (.bool (decide (s.take t.length = t)))], true⟩ := by
  refine Ok.two Tryz.func164 (by kernel_rfl) (c := _) rfl Tryz.ntmps164 (by simp) Tryz.results164 rfl fun w0 X hp => ?_
  refine LWp.seq ?_
  refine LWp.rz hT hW ?_
  simp
  refine LWp.seq ?_
  have h := CutPrefix1_ok s t hl ht
  refine LWp.ro hT hW (fun | 8 => some <| .plain ⟨.tup [.d (.str (if s.take t.length = t then s.drop t.length else s)), .d (.bool (decide (s.take t.length = t)))], true⟩ | _ => none) ?_
  simp [evalExtract]
  refine ⟨h, ?_⟩
  refine LWp.ret ?_
  simp
theorem local_is {p : PS} (h : p.peek.take 1 = [36]) : p.peek = 36 :: p.peek.drop 1 ∧ localP p = (p.peek.drop 1, p.took p.peek) := by
  cases e : p.peek with
  | nil => rw [e] at h; cases h
  | cons c r =>
    rw [e] at h
    have hc : c = 36 := by simpa using h
    subst hc
    have hi : p.is (36 :: r) = true := is_iff.2 ⟨by simp, e⟩
    refine ⟨rfl, ?_⟩
    rw [took_is hi]
    unfold localP
    rw [e]
    rfl
theorem local_not {p : PS} (h : ¬ p.peek.take 1 = [36]) : localP p = ([], p.fail 2) := by
  unfold localP
  split
  · rename_i r e
    rw [e] at h; exact absurd rfl h
  · rfl
theorem num_not {k : Int} {p : PS} (h : p.peek = [] ∨ digitB (p.peek[0]?.getD 0) = false) : numeralP k p = (0, p.fail 2) := by
  unfold numeralP
  split
  · rfl
  · rename_i c r e
    rw [e] at h
    rcases h with h | h
    · cases h
    · have h : digitB c = false := h
      rw [if_neg (by simp [h])]
theorem num_out {k : Int} {p : PS} (h0 : ¬ p.peek = []) (h1 : digitB (p.peek[0]?.getD 0) = true) (h2 : valS p.peek < loAt k ∨ hiAt k < valS p.peek) : numeralP k p = (0, p.fail 5) := by
  unfold numeralP
  split
  · rename_i e; exact absurd e h0
  · rename_i c r e
    rw [e] at h1 h2
    have h1 : digitB c = true := h1
    rw [if_pos h1, if_pos h2]
theorem num_in {k : Int} {p : PS} (h0 : ¬ p.peek = []) (h1 : digitB (p.peek[0]?.getD 0) = true) (h2 : ¬ (valS p.peek < loAt k ∨ hiAt k < valS p.peek)) : numeralP k p = (valS p.peek, p.took p.peek) := by
  have hi : p.is p.peek = true := is_iff.2 ⟨h0, rfl⟩
  rw [took_is hi]
  unfold numeralP
  split
  · rename_i e; exact absurd e h0
  · rename_i c r e
    rw [e] at h1 h2
    have h1 : digitB c = true := h1
    rw [if_pos h1, if_neg h2, e]
theorem local_ok (p : PS) (hg : GoodT p.l) : OkG Tryz.prog 142 [.bx 0 0] (psH p) (psH (localP p).2) (.d (.str (localP p).1)) := by
  unfold psH
  refine OkG.one Tryz.func142 (by kernel_rfl) (c := _) rfl Tryz.ntmps142 (by simp) Tryz.results142 fun w0 X hp => ?_
  refine LWp.seq ?_
  refine LWp.rz hT hW ?_
  simp
  refine LWp.seq ?_
  have hk := peek_tl hg
  have hc := CutPrefix_ok p.peek [36] (by omega) (by decide)
  refine LWp.ro hT hW (fun | 7 => some (.gen ⟨[(0, 0)], [], [], psH p, .d (.str p.peek)⟩) | 8 => some <| .plain ⟨.tup [.d (.str (if p.peek.take 1 = [36] then p.peek.drop 1 else p.peek)), .d (.bool (decide (p.peek.take 1 = [36])))], true⟩ | _ => none) ?_
  simp [evalExtract]
  refine ⟨⟨peek_ok p, by simpa using hc⟩, ?_⟩
  refine LWp.seq ?_
  refine LWp.seq ?_
  refine LWp.rz hT hW ?_
  simp
  refine LWp.iff ?_
  simp
  refine ⟨fun h2 => ?_, fun h2 => ?_⟩
  · refine LWp.seq ?_
    refine LWp.ro hT hW (fun | 14 => some (.gen ⟨[(0, 0)], [], [], psH (p.fail 2), .tup []⟩) | _ => none) ?_
    simp
    refine ⟨fail_ok p 2, ?_⟩
    refine LWp.seq ?_
    refine LWp.rz hT hW ?_
    simp
    refine LWp.ret ?_
    simp
    exact Weak.to [2] [(0, 0)] (by decide) (by decide) (by simp [hp]) (by simp [local_not h2]) (by simp [local_not h2])
  · refine LWp.skip ?_
    simp
    refine LWp.seq ?_
    obtain ⟨e1, e2⟩ := local_is h2
    have e3 : 36 :: p.peek.tail = p.peek := by rw [← List.drop_one]; exact e1.symm
    have ht := take_ok p p.peek
    have hl3 := congrArg List.length e3
    refine LWp.ro hT hW (fun | 18 => some (.gen ⟨[(0, 0)], [], [], psH (p.took p.peek), .d (.bool (p.is p.peek))⟩) | _ => none) ?_
    simp [h2]
    refine ⟨⟨by simp at hl3; omega, by rw [e3]; exact ht⟩, ?_⟩
    refine LWp.seq ?_
    refine LWp.rz hT hW ?_
    simp
    refine LWp.ret ?_
    simp
    exact Weak.to [2] [(0, 0)] (by decide) (by decide) (by simp [hp]) (by simp [h2, e2]) (by simp [e2])
theorem numeral_ok (p : PS) (k : Int) (hg : GoodT p.l) (hk : 0 ≤ k ∧ k < 37) : OkG Tryz.prog 80 [.bx 0 0, .d (I64 k)] (psH p) (psH (numeralP k p).2) (.d (I64 (numeralP k p).1)) := by
  unfold psH
  refine OkG.one Tryz.func80 (by kernel_rfl) (c := _) rfl Tryz.ntmps80 (by simp) Tryz.results80 fun w0 X hp => ?_
  refine LWp.seq ?_
  refine LWp.rz hT hW ?_
  simp
  refine LWp.seq ?_
  refine LWp.ro hT hW (fun | 9 => some (.gen ⟨[(0, 0)], [], [], psH p, .d (.str p.peek)⟩) | _ => none) ?_
  simp
  refine ⟨peek_ok p, ?_⟩
  refine LWp.seq ?_
  refine LWp.seq ?_
  have hd := digit_ok (p.peek[0]?.getD 0)
  refine LWp.ro hT hW (fun | 15 => some <| .plain ⟨.d (.bool (digitB (p.peek[0]?.getD 0))), true⟩ | _ => none) ?_
  simp
  refine ⟨⟨fun h => List.length_pos_iff.2 h, fun _ => hd⟩, ?_⟩
  refine LWp.iff ?_
  simp
  refine ⟨fun g => ?_, fun g1 g2 => ?_⟩
  · refine LWp.seq ?_
    refine LWp.ro hT hW (fun | 19 => some (.gen ⟨[(0, 0)], [], [], psH (p.fail 2), .tup []⟩) | _ => none) ?_
    simp
    refine ⟨fail_ok p 2, ?_⟩
    refine LWp.seq ?_
    refine LWp.rz hT hW ?_
    simp
    refine LWp.ret ?_
    simp
    have e := num_not (k := k) g
    exact Weak.to [4] [(0, 0)] (by decide) (by decide) (by simp [hp]) (by simp [e]) (by simp [e])
  · refine LWp.skip ?_
    simp
    refine LWp.seq ?_
    obtain ⟨hl, hds⟩ := tok_digits (peek_tok hg g1) g2
    have ha := Atoi_ok p.peek (valS p.peek) (by omega) (atoi_digits g1 hds)
    refine LWp.ro hT hW (fun | 22 => some <| .plain ⟨.tup [.d (I64 (valS p.peek)), .d (.val .nilIface)], true⟩ | _ => none) ?_
    simp [evalExtract]
    refine ⟨ha, ?_⟩
    refine LWp.seq ?_
    refine LWp.seq ?_
    have hg1 := glob1_lo hk
    have hg2 := glob1_hi hk
    have hg3 := glob1_len
    refine LWp.rz hT hW ?_
    simp [hg1, hg2]
    refine ⟨⟨⟨⟨hk, by omega⟩, fun _ => hk⟩, fun _ => by omega⟩, ?_⟩
    refine LWp.iff ?_
    simp
    refine ⟨fun b => ?_, fun b1 b2 => ?_⟩
    · refine LWp.seq ?_
      refine LWp.ro hT hW (fun | 40 => some (.gen ⟨[(0, 0)], [], [], psH (p.fail 5), .tup []⟩) | _ => none) ?_
      simp
      refine ⟨fail_ok p 5, ?_⟩
      refine LWp.seq ?_
      refine LWp.rz hT hW ?_
      simp
      refine LWp.ret ?_
      simp
      have e := num_out (k := k) g1 g2 b
      exact Weak.to [4] [(0, 0)] (by decide) (by decide) (by simp [hp]) (by simp [e]) (by simp [e])
    · refine LWp.skip ?_
      simp
      refine LWp.seq ?_
      refine LWp.ro hT hW (fun | 43 => some (.gen ⟨[(0, 0)], [], [], psH (p.took p.peek), .d (.bool (p.is p.peek))⟩) | _ => none) ?_
      simp
      refine ⟨take_ok p p.peek, ?_⟩
      refine LWp.seq ?_
      refine LWp.rz hT hW ?_
      simp
      refine LWp.ret ?_
      simp
      have e := num_in (k := k) g1 g2 (by omega)
      exact Weak.to [4] [(0, 0)] (by decide) (by decide) (by simp [hp]) (by simp [e]) (by simp [e])
theorem num_range {k : Int} {p : PS} (h : GoodT p.l) (hk : loAt k ≤ 0 ∧ 0 ≤ hiAt k ∧ -999 ≤ loAt k ∧ hiAt k ≤ 999) : -999 ≤ (numeralP k p).1 ∧ (numeralP k p).1 ≤ 999 := by
  by_cases q1 : p.peek = [] ∨ digitB (p.peek[0]?.getD 0) = false
  · rw [num_not q1]; simp
  · have q2 : ¬ p.peek = [] := fun e => q1 (.inl e)
    have q3 : digitB (p.peek[0]?.getD 0) = true := by
      cases e : digitB (p.peek[0]?.getD 0) with
      | true => rfl
      | false => exact absurd (.inr e) q1
    by_cases q4 : valS p.peek < loAt k ∨ hiAt k < valS p.peek
    · rw [num_out q2 q3 q4]; simp
    · rw [num_in q2 q3 q4]; simp only; omega
theorem number_neg {p : PS} (h : p.is [45] = true) : numberP p = (-(numeralP 0 (p.took [45])).1, (numeralP 0 (p.took [45])).2) := by
  rw [took_is h]; unfold numberP; rw [if_pos h]
theorem number_pos {p : PS} (h : p.is [45] = false) : numberP p = numeralP 0 (p.took [45]) := by
  have h' : ¬ p.is [45] = true := by simp [h]
  rw [took_not h']; unfold numberP; rw [if_neg h']
theorem good_took {p : PS} {s : Str} (h : GoodT p.l) : GoodT (p.took s).l := by
  unfold PS.took; split
  · exact good_skip h
  · exact h
theorem number_ok (p : PS) (hg : GoodT p.l) : OkG Tryz.prog 79 [.bx 0 0] (psH p) (psH (numberP p).2) (.d (I64 (numberP p).1)) := by
  unfold psH
  refine OkG.one Tryz.func79 (by kernel_rfl) (c := _) rfl Tryz.ntmps79 (by simp) Tryz.results79 fun w0 X hp => ?_
  refine LWp.seq ?_
  refine LWp.rz hT hW ?_
  simp
  refine LWp.seq ?_
  refine LWp.seq ?_
  refine LWp.ro hT hW (fun | 4 => some (.gen ⟨[(0, 0)], [], [], psH (p.took [45]), .d (.bool (p.is [45]))⟩) | _ => none) ?_
  simp
  refine ⟨take_ok p [45], ?_⟩
  refine LWp.iff ?_
  simp
  refine ⟨fun h1 => ?_, fun h1 => ?_⟩
  · refine LWp.seq ?_
    have hn := numeral_ok (p.took [45]) 0 (good_took hg) (by decide)
    have hr := num_range (k := 0) (good_took (s := [45]) hg) (by decide)
    refine LWp.ro hT hW (fun | 6 => some (.gen ⟨[(0, 0)], [], [], psH (numeralP 0 (p.took [45])).2, .d (I64 (numeralP 0 (p.took [45])).1)⟩) | _ => none) ?_
    simp
    refine ⟨⟨hn, by omega⟩, ?_⟩
    refine LWp.ret ?_
    simp
    have e := number_neg h1
    exact Weak.to [2] [(0, 0)] (by decide) (by decide) (by simp [hp]) (by simp [e]) (by simp [e])
  · refine LWp.skip ?_
    simp
    refine LWp.seq ?_
    have hn := numeral_ok (p.took [45]) 0 (good_took hg) (by decide)
    refine LWp.ro hT hW (fun | 9 => some (.gen ⟨[(0, 0)], [], [], psH (numeralP 0 (p.took [45])).2, .d (I64 (numeralP 0 (p.took [45])).1)⟩) | _ => none) ?_
    simp
    refine ⟨hn, ?_⟩
    refine LWp.ret ?_
    simp
    have e := number_pos h1
    exact Weak.to [2] [(0, 0)] (by decide) (by decide) (by simp [hp]) (by simp [e]) (by simp [e])
end
open Go.Proofs
section
attribute [local simp] Res.cond Nd.d_eq nd_t nd_dr nd_td ndsD evalIndex retGC_ret tksD psH upds_same
theorem place_dot {p : PS} (h : (nameP p).2.is [46] = true) : placeP p = (.mk 35 ((nameP p).1 ++ 46 :: (nameP ((nameP p).2.took [46])).1) 0 [], (nameP ((nameP p).2.took [46])).2) := by
  rw [took_is h]; unfold placeP; rw [if_pos h]
theorem place_plain {p : PS} (h : (nameP p).2.is [46] = false) : placeP p = (.mk 34 (nameP p).1 0 [], (nameP p).2.took [46]) := by
  have h' : ¬ (nameP p).2.is [46] = true := by simp [h]
  rw [took_not h']; unfold placeP; rw [if_neg h']
theorem name_tl {p : PS} (h : GoodT p.l) : (nameP p).1.length ≤ 17 := by
  unfold nameP; split
  · exact peek_tl h
  · simp
theorem place_ok (p : PS) (hg : GoodT p.l) : OkG Tryz.prog 143 [.bx 0 0] (psH p) (psH (placeP p).2) (.d (placeP p).1.d) := by
  unfold psH
  refine OkG.cell hT Tryz.func143 (by kernel_rfl) (c := _) rfl Tryz.ntmps143 (by simp) Tryz.results143 fun w0 X hp => ?_
  refine LWp.seq ?_
  refine LWp.rz hT hW ?_
  simp
  refine LWp.seq ?_
  refine LWp.ro hT hW (fun | 5 => some (.gen ⟨[(0, 0)], [], [], psH (nameP p).2, .d (.str (nameP p).1)⟩) | _ => none) ?_
  simp
  refine ⟨name_ok p, ?_⟩
  refine LWp.seq ?_
  refine LWp.seq ?_
  refine LWp.ro hT hW (fun | 8 => some (.gen ⟨[(0, 0)], [], [], psH ((nameP p).2.took [46]), .d (.bool ((nameP p).2.is [46]))⟩) | _ => none) ?_
  simp
  refine ⟨take_ok (nameP p).2 [46], ?_⟩
  refine LWp.iff ?_
  simp
  refine ⟨fun h2 => ?_, fun h2 => ?_⟩
  · have l1 := name_tl hg
    have l2 := name_tl (p := (nameP p).2.took [46]) (good_took (nameP_good hg).2.1)
    refine LWp.regAny hT hW hMixed (lk [[],[0],[0,1],[],[3],[0,1,2,3,4],[0,1,2,3,4,5],[0,1,2,3,4,5,6]]) (lk [[0],[0],[0],[],[],[],[],[]]) (lk [[],[],[],[],[0],[],[],[3]]) (by kernel_rfl) (fun | 13 => some (.gen ⟨[(0, 0)], [], [], psH (nameP ((nameP p).2.took [46])).2, .d (.str (nameP ((nameP p).2.took [46])).1)⟩) | _ => none) (by intro d; first | exact ⟨rfl, fun _ h => h⟩ | (split <;> exact ⟨rfl, fun _ h => h⟩)) ?_
    simp
    refine ⟨⟨⟨by omega, name_ok _⟩, by omega⟩, ?_⟩
    refine LWp.seq ?_
    refine LWp.rz hT hW ?_
    simp
    refine LWp.ret ?_
    simp
    have e := place_dot h2
    refine Weak.closed (x := (placeP p).1.d) (by simp [e]) ?_
    simp
    exact Weak.to [0] [(0, 0)] (by decide) (by decide) (by simp [hp]) (by simp) (by simp [e])
  · refine LWp.skip ?_
    simp
    refine LWp.seq ?_
    refine LWp.rz hT hW ?_
    simp
    refine LWp.ret ?_
    simp
    have e := place_plain h2
    refine Weak.closed (x := (placeP p).1.d) (by simp [e]) ?_
    simp
    exact Weak.to [0] [(0, 0)] (by decide) (by decide) (by simp [hp]) (by simp) (by simp [e])
def opD (o : Str × Int) : DV := .agg [.str o.1, I64 o.2]
theorem ops_chunks : chunksD 6 2 glob2 = opsL.map opD := by kernel_rfl
def opH (p : PS) (lv : Int) : List (Nat × LObj) := [(0, .box false [.d (tksD p.l), .d (I64 p.e)]), (1, .box false [.d (I64 lv)]), (2, .box false [.bx 0 0])]
def opQ (p : PS) (lv : Int) (o : Str × Int) : Bool := decide (o.2 = lv) && decide (o.1 = p.peek)
attribute [local simp] opH opD
theorem op1_ok (p : PS) (lv : Int) (o : Str × Int) : OkG Tryz.prog 185 [.d (opD o), .bx 1 0, .bx 2 0] (opH p lv) (opH p lv) (.d (.bool (opQ p lv o))) := by
  unfold opH
  refine OkG.one Tryz.func185 (by kernel_rfl) (c := _) rfl Tryz.ntmps185 (by simp) Tryz.results185 fun w0 X hp => ?_
  refine LWp.seq ?_
  refine LWp.rz hT hW ?_
  simp
  refine LWp.seq ?_
  refine LWp.regAny hT hW hMixed (lk [[],[0],[],[0,1,2],[0,1,2,3],[0,1,2,3,4],[0,1,2,3,4,5],[0,1,2,3,4],[0,1,2,3,4,7],[0,1,2,3,4,5,6,7,8],[0,1,2,3,4,5,6,7,8,9],[0,1,2,3,4,5,6,7,8,9,10]]) (lk [[],[],[],[],[],[0],[0],[],[],[],[],[]]) (lk [[],[],[],[],[],[],[],[],[0],[],[],[]]) (by kernel_rfl) (fun | 13 => some (.gen ⟨[(0, 0)], [], [], psH p, .d (.str p.peek)⟩) | _ => none) (by intro d; first | exact ⟨rfl, fun _ h => h⟩ | (split <;> exact ⟨rfl, fun _ h => h⟩)) ?_
  simp
  refine ⟨fun _ => peek_ok p, ?_⟩
  refine LWp.ret ?_
  simp
  by_cases hq : o.2 = lv
  · exact Weak.to [4] [(0, 0), (1, 1), (2, 2)] (by decide) (by decide) (by simp [hp]) (by simp [hq, opQ, Bool.beq_eq_decide_eq]) (by simp [hq])
  · exact Weak.to [4] [(0, 0), (1, 1), (2, 2)] (by decide) (by decide) (by simp [hp]) (by simp [hq, opQ]) (by simp [hq])
theorem IndexOp_ok (p : PS) (lv : Int) (l : List (Str × Int)) : OkG Tryz.prog 184 [.d (.sl (l.map opD)), .fn 185 [.bx 1 0, .bx 2 0]] (opH p lv) (opH p lv) (.d (I64 (idxI (opQ p lv) l))) := by
  unfold opH
  refine OkG.one Tryz.func184 (by kernel_rfl) (c := _) rfl Tryz.ntmps184 (by simp) Tryz.results184 fun w0 X hp => ?_
  refine LWp.len (t := 0) rfl fun hlen => ?_
  simp at hlen
  refine LWp.seq ?_
  refine LWp.rz hT hW ?_
  simp
  refine LWp.seq ?_
  refine LWp.seq ?_
  refine LWp.rz hT hW ?_
  simp
  refine LWp.block ?_
  refine LWp.loopW (ι := Nat) (fun i => mkEnv [(0, .d (.sl (l.map opD))), (1, .fn 185 [.bx 1 0, .bx 2 0]), (7, .d (I64 l.length)), (8, .d (I64 i))]) (fun i => mkObs [(0, .box false [.d (tksD p.l), .d (I64 p.e)]), (1, .box false [.d (I64 lv)]), (2, .box false [.bx 0 0])]) (fun i => i ≤ l.length ∧ Pre (opQ p lv) l i) (fun i => l.length - i) 0 (Weak.to [0, 1, 7, 8] [(0, 0), (1, 1), (2, 2)] (by decide) (by decide) (by simp [hp]) (by simp) (by simp)) (⟨Nat.zero_le _, Pre.zero⟩) fun i hi2 => ?_
  refine LWp.seq ?_
  refine LWp.rz hT hW ?_
  simp
  refine LWp.seq ?_
  refine LWp.iff ?_
  simp
  refine ⟨fun h2 => ?_, fun h2 => ?_⟩
  · refine LWp.skip ?_
    simp
    refine LWp.seq ?_
    refine LWp.block ?_
    refine LWp.seq ?_
    refine LWp.rz hT hW ?_
    simp
    refine LWp.seq ?_
    have h2' : i < l.length := by omega
    have ho := op1_ok p lv l[i]
    refine LWp.ro hT hW (fun | 16 => some (.gen ⟨[(0, 0), (1, 1), (2, 2)], [], [], opH p lv, .d (.bool (opQ p lv l[i]))⟩) | _ => none) ?_
    simp [h2', evalCallee]
    refine ⟨ho, ?_⟩
    refine LWp.iff ?_
    simp
    refine ⟨fun h4 => ?_, fun h4 => ?_⟩
    · refine LWp.seq ?_
      refine LWp.rz hT hW ?_
      simp
      refine LWp.ret ?_
      simp
      exact Weak.to [4] [(0, 0), (1, 1), (2, 2)] (by decide) (by decide) (by simp [hp]) (by simp [idxI_some (hi2.2.found h2 h4)]) (by simp)
    · refine LWp.skip ?_
      simp
      refine LWp.rz hT hW ?_
      simp
      refine ⟨by omega, ?_⟩
      refine loopQ.mk (i + 1) (Weak.to [0, 1, 7, 8] [(0, 0), (1, 1), (2, 2)] (by decide) (by decide) (by simp [hp]) (by simp) (by simp)) ?_ ?_
      · exact ⟨h2, hi2.2.succ h2 h4⟩
      · omega
  · refine LWp.exit ?_
    simp
    refine LWp.seq ?_
    refine LWp.rz hT hW ?_
    simp
    refine LWp.ret ?_
    simp
    exact Weak.to [4] [(0, 0), (1, 1), (2, 2)] (by decide) (by decide) (by simp [hp]) (by simp [idxI_none (hi2.2.none (by omega))]) (by simp)
theorem find_ops (q : Str × Int → Bool) : (List.range 6).find? (fun i => q (opsL.getD i ([], 0))) = opsL.findIdx? q := by
  rw [show List.range 6 = [0, 1, 2, 3, 4, 5] from rfl]
  unfold opsL
  simp only [List.find?_cons, List.findIdx?_cons, List.getD_cons_zero, List.getD_cons_succ, List.find?_nil, List.findIdx?_nil]
  cases q ([60], 1) <;> cases q ([60, 61], 1) <;> cases q ([61, 61], 1) <;> cases q ([43], 2) <;> cases q ([45], 2) <;> cases q ([42], 3) <;> rfl
theorem opI_idx (p : PS) (lv : Int) : opI lv p.peek = idxI (opQ p lv) opsL := by
  unfold opI idxI
  rw [← find_ops (opQ p lv)]
  rfl
def opsD (l : List (Str × Int)) : List DV := l.flatMap fun o => [.str o.1, I64 o.2]
theorem glob2_eq : glob2 = opsD opsL := by kernel_rfl
theorem opsD_at : ∀ (l : List (Str × Int)) (k : Nat) (h : k < l.length), (opsD l)[k * 2]?.getD default = .str l[k].1
  | o :: l, 0, _ => rfl
  | o :: l, k + 1, h => by
    have ih := opsD_at l k (by simpa using h)
    have e : opsD (o :: l) = .str o.1 :: I64 o.2 :: opsD l := rfl
    rw [e, show (k + 1) * 2 = k * 2 + 1 + 1 by omega]
    exact ih
theorem op_sign {p : PS} {lv : Int} (h : 0 ≤ opI lv p.peek) : glob2[(opI lv p.peek).toNat * 2]?.getD default = .str p.peek ∧ p.is p.peek = true ∧ opI lv p.peek < 6 := by
  rw [opI_idx] at h ⊢
  unfold idxI at h ⊢
  split at h
  · rename_i i hi
    obtain ⟨h1, h2, _⟩ := List.findIdx?_eq_some_iff_getElem.1 hi
    simp only [opQ, Bool.and_eq_true, decide_eq_true_eq] at h2
    have hne : ∀ o ∈ opsL, o.1 ≠ [] := by decide
    have hn := hne _ (List.getElem_mem h1)
    rw [glob2_eq, Int.toNat_natCast, opsD_at opsL i h1, h2.2]
    rw [h2.2] at hn
    have : i < 6 := h1
    exact ⟨rfl, is_iff.2 ⟨hn, rfl⟩, by omega⟩
  · omega
theorem op_yes {p : PS} {lv : Int} (h : 0 ≤ opI lv p.peek) : opP lv p = (opI lv p.peek, p.took p.peek) := by
  rw [took_is (op_sign h).2.1]; unfold opP; rw [if_pos h]
theorem op_no {p : PS} {lv : Int} (h : opI lv p.peek < 0) : opP lv p = (opI lv p.peek, p) := by
  unfold opP; rw [if_neg (by omega)]
theorem operation_ok (p : PS) (lv : Int) : OkG Tryz.prog 163 [.bx 0 0, .d (I64 lv)] (psH p) (psH (opP lv p).2) (.d (I64 (opP lv p).1)) := by
  unfold psH
  refine OkG.one Tryz.func163 (by kernel_rfl) (c := _) rfl Tryz.ntmps163 (by simp) Tryz.results163 fun w0 X hp => ?_
  refine LWp.seq ?_
  refine LWp.rz hT hW ?_
  simp
  refine LWp.seq ?_
  have ho := IndexOp_ok p lv opsL
  have hgl := glob2_len
  rw [← opI_idx] at ho
  refine LWp.ro hT hW (fun | 8 => some (.gen ⟨[(0, 0), (3, 1), (2, 2)], [], [], opH p lv, .d (I64 (opI lv p.peek))⟩) | _ => none) ?_
  simp [ops_chunks]
  refine ⟨⟨by omega, ho⟩, ?_⟩
  refine LWp.seq ?_
  refine LWp.seq ?_
  refine LWp.rz hT hW ?_
  simp
  refine LWp.iff ?_
  simp
  refine ⟨fun h2 => ?_, fun h2 => ?_⟩
  · have eo := op_yes h2
    obtain ⟨s1, s2, s3⟩ := op_sign h2
    refine LWp.regAny hT hW hMixed (lk [[],[],[1],[1,2],[1,2,3],[0,1,2,3,4]]) (lk [[],[],[],[],[],[]]) (lk [[],[],[],[],[],[0]]) (by kernel_rfl) (fun | 16 => some (.gen ⟨[(0, 0)], [], [], psH (p.took p.peek), .d (.bool (p.is p.peek))⟩) | _ => none) (by intro d; first | exact ⟨rfl, fun _ h => h⟩ | (split <;> exact ⟨rfl, fun _ h => h⟩)) ?_
    simp [s1]
    refine ⟨⟨⟨⟨h2, s3⟩, by omega⟩, take_ok p p.peek⟩, ?_⟩
    refine LWp.seq ?_
    refine LWp.rz hT hW ?_
    simp
    refine LWp.ret ?_
    simp
    exact Weak.to [4] [(0, 0)] (by decide) (by decide) (by simp [hp]) (by simp [eo]) (by simp [eo])
  · have eo := op_no h2
    refine LWp.skip ?_
    simp
    refine LWp.seq ?_
    refine LWp.rz hT hW ?_
    simp
    refine LWp.ret ?_
    simp
    exact Weak.to [4] [(0, 0)] (by decide) (by decide) (by simp [hp]) (by simp [eo]) (by simp [eo])
end
open Go.Proofs
section
attribute [local simp] Res.cond Nd.d_eq nd_t nd_dr nd_td ndsD evalIndex retGC_ret tksD psH upds_same
structure Reads (n : Nat) (g : FuncId) (x : PS → Nd × PS) : Prop where
  ok : ∀ q : PS, q.l.length < n → GoodT q.l → OkG Tryz.prog g [.bx 0 0] (psH q) (psH (x q).2) (.d (x q).1.d)
  le : ∀ q : PS, q.l.length < n → GoodT q.l → (x q).2.l.length ≤ q.l.length ∧ GoodT (x q).2.l
structure ChS where
  f : Nat
  n : Nd
  q : PS
theorem chain_err {lv : Int} {x : PS → Nd × PS} {f : Nat} {n : Nd} {q : PS} (hf : q.l.length < f) (h : ¬ q.e = 0) : chainF lv x f n q = (n, q) := by
  obtain ⟨k, rfl⟩ : ∃ k, f = k + 1 := ⟨f - 1, by omega⟩
  rw [chainF, if_pos h]
theorem chain_stop {lv : Int} {x : PS → Nd × PS} {f : Nat} {n : Nd} {q : PS} (hf : q.l.length < f) (h : q.e = 0) (ho : (opP lv q).1 < 0) : chainF lv x f n q = (n, (opP lv q).2) := by
  obtain ⟨k, rfl⟩ : ∃ k, f = k + 1 := ⟨f - 1, by omega⟩
  rw [chainF, if_neg (by simp [h]), if_pos ho]
theorem chain_go {lv : Int} {x : PS → Nd × PS} {f : Nat} {n : Nd} {q : PS} (hf : q.l.length < f) (h : q.e = 0) (ho : 0 ≤ (opP lv q).1) :
    chainF lv x f n q = chainF lv x (f - 1) (.mk (26 + (opP lv q).1) [] 0 [n, (x (opP lv q).2).1]) (x (opP lv q).2).2 := by
  obtain ⟨k, rfl⟩ : ∃ k, f = k + 1 := ⟨f - 1, by omega⟩
  rw [chainF, if_neg (by simp [h]), if_neg (by omega)]
  rfl
theorem op_less {lv : Int} {q : PS} (ho : 0 ≤ (opP lv q).1) : (opP lv q).2.l.length + 1 = q.l.length ∧ (opP lv q).1 ≤ 5 := by
  have h : 0 ≤ opI lv q.peek := ho
  obtain ⟨_, h2, h3⟩ := op_sign h
  rw [op_yes h, took_is h2]
  exact ⟨is_len h2, by simp only; omega⟩
theorem chain_ok (p : PS) (lv : Int) (x : PS → Nd × PS) (g : FuncId) (m : Nat) (hx : Reads m g x) (hm : p.l.length < m) (hg : GoodT p.l) : OkG Tryz.prog 182 [.bx 0 0, .d (I64 lv), .bm g [.bx 0 0]] (psH p) (psH (chainP lv x p).2) (.d (chainP lv x p).1.d) := by
  unfold psH
  refine OkG.cell hT Tryz.func182 (by kernel_rfl) (c := _) rfl Tryz.ntmps182 (by simp) Tryz.results182 fun w0 X hp => ?_
  refine LWp.seq ?_
  refine LWp.rz hT hW ?_
  simp
  refine LWp.seq ?_
  have h1 := hx.ok p hm hg
  refine LWp.ro hT hW (fun | 10 => some (.gen ⟨[(0, 0)], [], [], psH (x p).2, .d (x p).1.d⟩) | _ => none) ?_
  simp [evalCallee]
  refine ⟨by simpa using h1, ?_⟩
  refine LWp.seq ?_
  refine LWp.block ?_
  refine LWp.loopW (ι := ChS) (fun ⟨f, n, q⟩ => mkEnv [(0, .bx 0 0), (1, .d (I64 lv)), (2, .bm g [.bx 0 0]), (6, .bx 6 0), (7, .bx 7 0)]) (fun ⟨f, n, q⟩ => mkObs [(0, .box false [.d (tksD q.l), .d (I64 q.e)]), (6, .box false [.d (I64 0), .d (.str []), .d (I64 0), .nl]), (7, .box false [.d (I64 n.kind), .d (.str n.text), .d (I64 n.n), .d (ndsD n.kids)])]) (fun ⟨f, n, q⟩ => q.l.length < f ∧ GoodT q.l ∧ q.l.length ≤ p.l.length ∧ chainP lv x p = chainF lv x f n q) (fun ⟨f, n, q⟩ => q.l.length) ⟨(x p).2.l.length + 1, (x p).1, (x p).2⟩ (Weak.to [0, 1, 2, 6, 7] [(0, 0), (6, 6), (7, 7)] (by decide) (by decide) (by simp [hp]) (by simp) (by simp)) (⟨Nat.lt_succ_self _, (hx.le p hm hg).2, (hx.le p hm hg).1, rfl⟩) fun ⟨f, n, q⟩ hi2 => ?_
  refine LWp.seq ?_
  refine LWp.seq ?_
  refine LWp.rz hT hW ?_
  simp
  refine LWp.iff ?_
  simp
  refine ⟨fun h2 => ?_, fun h2 => ?_⟩
  · refine LWp.skip ?_
    simp
    refine LWp.block ?_
    refine LWp.seq ?_
    have ho := operation_ok q lv
    refine LWp.ro hT hW (fun | 18 => some (.gen ⟨[(0, 0)], [], [], psH (opP lv q).2, .d (I64 (opP lv q).1)⟩) | _ => none) ?_
    simp
    refine ⟨ho, ?_⟩
    refine LWp.seq ?_
    refine LWp.seq ?_
    refine LWp.rz hT hW ?_
    simp
    refine LWp.iff ?_
    simp
    refine ⟨fun h4 => ?_, fun h4 => ?_⟩
    · refine LWp.exit ?_
      simp
      refine LWp.seq ?_
      refine LWp.rz hT hW ?_
      simp
      refine LWp.ret ?_
      simp
      have e : chainP lv x p = (n, (opP lv q).2) := by rw [hi2.2.2.2]; exact chain_stop hi2.1 h2 h4
      exact Weak.to [0] [(0, 0)] (by decide) (by decide) (by simp [hp]) (by simp [e]) (by simp [e])
    · refine LWp.skip ?_
      simp
      obtain ⟨ol, or⟩ := op_less h4
      have gg := good_op (lv := lv) hi2.2.1
      have hc := hx.ok (opP lv q).2 (by omega) gg.2
      refine LWp.regAny hT hW hMixed (lk [[],[0],[],[],[3],[2,3,4],[0,1,2,3,4,5],[0,1,2,3,4,5,6]]) (lk [[0,26],[0,26],[0],[],[],[],[],[]]) (lk [[],[],[],[],[0],[26],[],[7]]) (by kernel_rfl) (fun | 25 => some (.gen ⟨[(0, 0)], [], [], psH (x (opP lv q).2).2, .d (x (opP lv q).2).1.d⟩) | _ => none) (by intro d; first | exact ⟨rfl, fun _ h => h⟩ | (split <;> exact ⟨rfl, fun _ h => h⟩)) ?_
      simp [evalCallee]
      refine ⟨⟨⟨⟨by omega, by omega⟩, by simpa using hc⟩, by decide⟩, ?_⟩
      refine loopQ.weak (Weak.shutBox 7 [26] (fz := false) (cs := [.d (I64 (26 + (opP lv q).1)), .d (.str []), .d (I64 0), .ow 26 0 2]) (ds := [I64 (26 + (opP lv q).1), .str [], I64 0, .sl [n.d, (x (opP lv q).2).1.d]]) (by simp) (by simp) (by simp) (by simp [LObj.mut])) ?_
      simp
      refine loopQ.mk ⟨f - 1, .mk (26 + (opP lv q).1) [] 0 [n, (x (opP lv q).2).1], (x (opP lv q).2).2⟩ (Weak.to [0, 1, 2, 6, 7] [(0, 0), (6, 6), (7, 7)] (by decide) (by decide) (by simp [hp]) (by simp) (by simp)) ?_ ?_
      · have le := hx.le (opP lv q).2 (by omega) gg.2
        have i1 := hi2.1
        have i3 := hi2.2.2.1
        refine ⟨?_, le.2, ?_, ?_⟩
        · show (x (opP lv q).2).2.l.length < f - 1
          omega
        · show (x (opP lv q).2).2.l.length ≤ p.l.length
          omega
        · rw [hi2.2.2.2]; exact chain_go hi2.1 h2 h4
      · have le := hx.le (opP lv q).2 (by omega) gg.2
        show (x (opP lv q).2).2.l.length < q.l.length
        omega
  · refine LWp.exit ?_
    simp
    refine LWp.seq ?_
    refine LWp.rz hT hW ?_
    simp
    refine LWp.ret ?_
    simp
    have e : chainP lv x p = (n, q) := by rw [hi2.2.2.2]; exact chain_err hi2.1 h2
    exact Weak.to [0] [(0, 0)] (by decide) (by decide) (by simp [hp]) (by simp [e]) (by simp [e])
end
open Go.Proofs
section
attribute [local simp] Res.cond Nd.d_eq nd_t nd_dr nd_td ndsD evalIndex retGC_ret tksD psH upds_same
theorem factP_paren {ex : PS → Nd × PS} {p : PS} (h : p.is [40] = true) : factP ex p = ((ex (p.took [40])).1, (ex (p.took [40])).2.need [41]) := by
  rw [took_is h]; unfold factP; rw [if_pos h]
theorem factP_kind {ex : PS → Nd × PS} {p : PS} (h1 : p.is [40] = false) (h2 : p.is sKind = true) : factP ex p = (.mk 36 [] 0 [], p.took sKind) := by
  rw [took_is h2]; unfold factP; rw [if_neg (by simp [h1]), if_pos h2]
theorem factP_digit {ex : PS → Nd × PS} {p : PS} (h1 : p.is [40] = false) (h2 : p.is sKind = false) (h3 : ¬ p.peek = []) (h4 : digitB (p.peek[0]?.getD 0) = true) : factP ex p = (.mk 32 [] (numeralP 32 p).1 [], (numeralP 32 p).2) := by
  unfold factP; rw [if_neg (by simp [h1]), if_neg (by simp [h2])]
  cases e : p.peek with
  | nil => exact absurd e h3
  | cons c r =>
    rw [e] at h4
    have h4 : digitB c = true := h4
    simp only [h4, if_true]
theorem factP_local {ex : PS → Nd × PS} {p : PS} (h1 : p.is [40] = false) (h2 : p.is sKind = false) (h3 : ¬ p.peek = [] → digitB (p.peek[0]?.getD 0) = false) (h4 : p.peek.take 1 = [36]) : factP ex p = (.mk 33 (localP p).1 0 [], (localP p).2) := by
  unfold factP; rw [if_neg (by simp [h1]), if_neg (by simp [h2])]
  cases e : p.peek with
  | nil => rw [e] at h4; cases h4
  | cons c r =>
    rw [e] at h3 h4
    have h3 : digitB c = false := h3 (by simp)
    have h4 : c = 36 := by simpa using h4
    simp [h4]
    decide
theorem factP_place {ex : PS → Nd × PS} {p : PS} (h1 : p.is [40] = false) (h2 : p.is sKind = false) (h3 : ¬ p.peek = [] → digitB (p.peek[0]?.getD 0) = false) (h4 : ¬ p.peek.take 1 = [36]) : factP ex p = placeP p := by
  unfold factP; rw [if_neg (by simp [h1]), if_neg (by simp [h2])]
  cases e : p.peek with
  | nil => rfl
  | cons c r =>
    rw [e] at h3 h4
    have h3 : digitB c = false := h3 (by simp)
    have h4 : ¬ c = 36 := by simpa using h4
    simp [h3, h4]
theorem fact_ok (p : PS) (n : Nat) (ex : PS → Nd × PS) (hE : Reads n 140 ex) (hn : p.l.length < n + 1) (hg : GoodT p.l) : OkG Tryz.prog 195 [.bx 0 0] (psH p) (psH (factP ex p).2) (.d (factP ex p).1.d) := by
  unfold psH
  refine OkG.cell hT Tryz.func195 (by kernel_rfl) (c := _) rfl Tryz.ntmps195 (by simp) Tryz.results195 fun w0 X hp => ?_
  refine LWp.seq ?_
  refine LWp.rz hT hW ?_
  simp
  refine LWp.seq ?_
  refine LWp.ro hT hW (fun | 6 => some (.gen ⟨[(0, 0)], [], [], psH p, .d (.str p.peek)⟩) | _ => none) ?_
  simp
  refine ⟨peek_ok p, ?_⟩
  refine LWp.seq ?_
  refine LWp.block ?_
  refine LWp.seq ?_
  refine LWp.ro hT hW (fun | 9 => some (.gen ⟨[(0, 0)], [], [], psH (p.took [40]), .d (.bool (p.is [40]))⟩) | _ => none) ?_
  simp
  refine ⟨take_ok p [40], ?_⟩
  refine LWp.iff ?_
  simp
  refine ⟨fun h2 => ?_, fun h2 => ?_⟩
  · refine LWp.seq ?_
    have hl := is_len h2
    rw [← took_is h2] at hl
    have hx := hE.ok (p.took [40]) (by omega) (good_took hg)
    refine LWp.ro hT hW (fun | 11 => some (.gen ⟨[(0, 0)], [], [], psH (ex (p.took [40])).2, .d (ex (p.took [40])).1.d⟩) | _ => none) ?_
    simp
    refine ⟨by simpa using hx, ?_⟩
    refine LWp.seq ?_
    have hn4 := need_ok (ex (p.took [40])).2 [41]
    refine LWp.ro hT hW (fun | 13 => some (.gen ⟨[(0, 0)], [], [], psH ((ex (p.took [40])).2.need [41]), .tup []⟩) | _ => none) ?_
    simp
    refine ⟨hn4, ?_⟩
    refine LWp.seq ?_
    refine LWp.rz hT hW ?_
    simp
    refine LWp.ret ?_
    simp
    have e := factP_paren (ex := ex) h2
    exact Weak.to [0] [(0, 0)] (by decide) (by decide) (by simp [hp]) (by simp [e]) (by simp [e])
  · have e2 : p.took [40] = p := took_not (by simp [h2])
    simp only [e2]
    refine LWp.seq ?_
    refine LWp.ro hT hW (fun | 17 => some (.gen ⟨[(0, 0)], [], [], psH (p.took [107, 105, 110, 100]), .d (.bool (p.is [107, 105, 110, 100]))⟩) | _ => none) ?_
    simp
    refine ⟨take_ok p [107, 105, 110, 100], ?_⟩
    refine LWp.iff ?_
    simp
    refine ⟨fun h6 => ?_, fun h6 => ?_⟩
    · refine LWp.seq ?_
      refine LWp.rz hT hW ?_
      simp
      refine LWp.ret ?_
      simp
      have e := factP_kind (ex := ex) h2 h6
      refine Weak.closed (x := (factP ex p).1.d) (by simp [e]) ?_
      simp
      exact Weak.to [0] [(0, 0)] (by decide) (by decide) (by simp [hp]) (by simp) (by simp [e, sKind])
    · have e6 : p.took [107, 105, 110, 100] = p := took_not (by simp [h6])
      simp only [e6]
      refine LWp.seq ?_
      have hd := digit_ok (p.peek[0]?.getD 0)
      refine LWp.ro hT hW (fun | 25 => some <| .plain ⟨.d (.bool (digitB (p.peek[0]?.getD 0))), true⟩ | _ => none) ?_
      simp
      refine ⟨⟨fun h => List.length_pos_iff.2 h, fun _ => hd⟩, ?_⟩
      refine LWp.iff ?_
      simp
      refine ⟨fun g1 g2 => ?_, fun g => ?_⟩
      · refine LWp.seq ?_
        have hnu := numeral_ok p 32 hg (by decide)
        refine LWp.ro hT hW (fun | 28 => some (.gen ⟨[(0, 0)], [], [], psH (numeralP 32 p).2, .d (I64 (numeralP 32 p).1)⟩) | _ => none) ?_
        simp
        refine ⟨hnu, ?_⟩
        refine LWp.ret ?_
        simp
        have e := factP_digit (ex := ex) h2 h6 g1 g2
        refine Weak.closed (x := (factP ex p).1.d) (by simp [e]) ?_
        simp
        exact Weak.to [0] [(0, 0)] (by decide) (by decide) (by simp [hp]) (by simp) (by simp [e])
      · refine LWp.seq ?_
        have hpf := HasPrefix_ok p.peek [36] (by have := peek_tl hg; omega) (by decide)
        refine LWp.ro hT hW (fun | 32 => some <| .plain ⟨.d (.bool (decide (p.peek.take 1 = [36]))), true⟩ | _ => none) ?_
        simp
        refine ⟨hpf, ?_⟩
        refine LWp.iff ?_
        simp
        refine ⟨fun h10 => ?_, fun h10 => ?_⟩
        · refine LWp.seq ?_
          have hlo := local_ok p hg
          refine LWp.ro hT hW (fun | 34 => some (.gen ⟨[(0, 0)], [], [], psH (localP p).2, .d (.str (localP p).1)⟩) | _ => none) ?_
          simp
          refine ⟨hlo, ?_⟩
          refine LWp.ret ?_
          simp
          have e := factP_local (ex := ex) h2 h6 g h10
          refine Weak.closed (x := (factP ex p).1.d) (by simp [e]) ?_
          simp
          exact Weak.to [0] [(0, 0)] (by decide) (by decide) (by simp [hp]) (by simp) (by simp [e])
        · refine LWp.skip ?_
          simp
          refine LWp.seq ?_
          have hpl := place_ok p hg
          refine LWp.ro hT hW (fun | 37 => some (.gen ⟨[(0, 0)], [], [], psH (placeP p).2, .d (placeP p).1.d⟩) | _ => none) ?_
          simp
          refine ⟨by simpa using hpl, ?_⟩
          refine LWp.ret ?_
          simp
          have e := factP_place (ex := ex) h2 h6 g h10
          exact Weak.to [0] [(0, 0)] (by decide) (by decide) (by simp [hp]) (by simp [e]) (by simp [e])
theorem Rt.le {n : Nat} {cls : Int → Bool} {x : PS → Nd × PS} (h : Rt n cls x) (q : PS) (hq : q.l.length < n) (hg : GoodT q.l) : (x q).2.l.length ≤ q.l.length ∧ GoodT (x q).2.l := ⟨(h q hq hg).1, (h q hq hg).2.1⟩
theorem Reads.fact {n : Nat} {ex : PS → Nd × PS} (hE : Reads n 140 ex) (hR : Rt n isExprK ex) : Reads (n + 1) 195 (factP ex) :=
  ⟨fun q hq hg => fact_ok q n ex hE hq hg, fun q hq hg => (factP_rt hR).le q hq hg⟩
theorem prod_ok (p : PS) (n : Nat) (ex : PS → Nd × PS) (hE : Reads n 140 ex) (hR : Rt n isExprK ex) (hn : p.l.length < n + 1) (hg : GoodT p.l) : OkG Tryz.prog 183 [.bx 0 0] (psH p) (psH (prodP ex p).2) (.d (prodP ex p).1.d) := by
  unfold psH
  refine OkG.cell hT Tryz.func183 (by kernel_rfl) (c := _) rfl Tryz.ntmps183 (by simp) Tryz.results183 fun w0 X hp => ?_
  refine LWp.seq ?_
  refine LWp.rz hT hW ?_
  simp
  refine LWp.seq ?_
  have hc := chain_ok p 3 (factP ex) 195 (n + 1) (hE.fact hR) hn hg
  refine LWp.ro hT hW (fun | 6 => some (.gen ⟨[(0, 0)], [], [], psH (prodP ex p).2, .d (prodP ex p).1.d⟩) | _ => none) ?_
  simp
  refine ⟨by simpa [prodP] using hc, ?_⟩
  refine LWp.ret ?_
  simp
  exact Weak.to [0] [(0, 0)] (by decide) (by decide) (by simp [hp]) (by simp) (by simp)
theorem Reads.prod {n : Nat} {ex : PS → Nd × PS} (hE : Reads n 140 ex) (hR : Rt n isExprK ex) : Reads (n + 1) 183 (prodP ex) :=
  ⟨fun q hq hg => prod_ok q n ex hE hR hq hg, fun q hq hg => (chainP_rt (factP_rt hR)).le q hq hg⟩
theorem sum_ok (p : PS) (n : Nat) (ex : PS → Nd × PS) (hE : Reads n 140 ex) (hR : Rt n isExprK ex) (hn : p.l.length < n + 1) (hg : GoodT p.l) : OkG Tryz.prog 162 [.bx 0 0] (psH p) (psH (sumP ex p).2) (.d (sumP ex p).1.d) := by
  unfold psH
  refine OkG.cell hT Tryz.func162 (by kernel_rfl) (c := _) rfl Tryz.ntmps162 (by simp) Tryz.results162 fun w0 X hp => ?_
  refine LWp.seq ?_
  refine LWp.rz hT hW ?_
  simp
  refine LWp.seq ?_
  have hc := chain_ok p 2 (prodP ex) 183 (n + 1) (hE.prod hR) hn hg
  refine LWp.ro hT hW (fun | 6 => some (.gen ⟨[(0, 0)], [], [], psH (sumP ex p).2, .d (sumP ex p).1.d⟩) | _ => none) ?_
  simp
  refine ⟨by simpa [sumP] using hc, ?_⟩
  refine LWp.ret ?_
  simp
  exact Weak.to [0] [(0, 0)] (by decide) (by decide) (by simp [hp]) (by simp) (by simp)
theorem exprB_bin {ex : PS → Nd × PS} {p : PS} (h : 0 ≤ (opP 1 (sumP ex p).2).1) : exprB ex p = (.mk (26 + (opP 1 (sumP ex p).2).1) [] 0 [(sumP ex p).1, (sumP ex (opP 1 (sumP ex p).2).2).1], (sumP ex (opP 1 (sumP ex p).2).2).2) := by
  unfold exprB; simp only []; rw [if_pos h]
theorem exprB_one {ex : PS → Nd × PS} {p : PS} (h : (opP 1 (sumP ex p).2).1 < 0) : exprB ex p = ((sumP ex p).1, (opP 1 (sumP ex p).2).2) := by
  unfold exprB; simp only []; rw [if_neg (by omega)]
theorem pexpr_step (p : PS) (n : Nat) (ex : PS → Nd × PS) (hE : Reads n 140 ex) (hR : Rt n isExprK ex) (hn : p.l.length < n + 1) (hg : GoodT p.l) : OkG Tryz.prog 140 [.bx 0 0] (psH p) (psH (exprB ex p).2) (.d (exprB ex p).1.d) := by
  unfold psH
  refine OkG.cell hT Tryz.func140 (by kernel_rfl) (c := _) rfl Tryz.ntmps140 (by simp) Tryz.results140 fun w0 X hp => ?_
  refine LWp.seq ?_
  refine LWp.rz hT hW ?_
  simp
  refine LWp.seq ?_
  have hc := sum_ok p n ex hE hR hn hg
  have hl1 := (sumP_rt hR).le p hn hg
  refine LWp.ro hT hW (fun | 6 => some (.gen ⟨[(0, 0)], [], [], psH (sumP ex p).2, .d (sumP ex p).1.d⟩) | _ => none) ?_
  simp
  refine ⟨by simpa using hc, ?_⟩
  refine LWp.seq ?_
  refine LWp.seq ?_
  have ho := operation_ok (sumP ex p).2 1
  refine LWp.ro hT hW (fun | 8 => some (.gen ⟨[(0, 0)], [], [], psH (opP 1 (sumP ex p).2).2, .d (I64 (opP 1 (sumP ex p).2).1)⟩) | _ => none) ?_
  simp
  refine ⟨ho, ?_⟩
  refine LWp.seq ?_
  refine LWp.rz hT hW ?_
  simp
  refine LWp.iff ?_
  simp
  refine ⟨fun h3 => ?_, fun h3 => ?_⟩
  · refine LWp.seq ?_
    have hol := op_less h3
    have hog := good_op (lv := 1) hl1.2
    have hc4 := sum_ok (opP 1 (sumP ex p).2).2 n ex hE hR (by omega) hog.2
    refine LWp.regAny hT hW hMixed (lk [[],[0],[],[],[3],[2,3,4],[0,1,2,3,4,5],[0,1,2,3,4,5,6]]) (lk [[0,16],[0,16],[0],[],[],[],[],[]]) (lk [[],[],[],[],[0],[16],[],[2]]) (by kernel_rfl) (fun | 15 => some (.gen ⟨[(0, 0)], [], [], psH (sumP ex (opP 1 (sumP ex p).2).2).2, .d (sumP ex (opP 1 (sumP ex p).2).2).1.d⟩) | _ => none) (by intro d; first | exact ⟨rfl, fun _ h => h⟩ | (split <;> exact ⟨rfl, fun _ h => h⟩)) ?_
    simp
    refine ⟨⟨⟨⟨by omega, by omega⟩, by simpa using hc4⟩, by decide⟩, ?_⟩
    refine LWp.ret ?_
    simp
    have e := exprB_bin h3
    refine Weak.closed (x := (exprB ex p).1.d) (by simp [e]) ?_
    simp
    exact Weak.to [0] [(0, 0)] (by decide) (by decide) (by simp [hp]) (by simp) (by simp [e])
  · refine LWp.skip ?_
    simp
    refine LWp.seq ?_
    refine LWp.rz hT hW ?_
    simp
    refine LWp.ret ?_
    simp
    have e := exprB_one h3
    exact Weak.to [0] [(0, 0)] (by decide) (by decide) (by simp [hp]) (by simp [e]) (by simp [e])
theorem Reads.expr : ∀ n : Nat, Reads n 140 (exprP false n)
  | 0 => ⟨fun q h _ => absurd h (Nat.not_lt_zero _), fun q h _ => absurd h (Nat.not_lt_zero _)⟩
  | n + 1 => by
    have e : ∀ q, exprP false (n + 1) q = exprB (exprP false n) q := fun q => by rw [exprP, if_neg (by simp)]
    refine ⟨fun q hq hg => ?_, fun q hq hg => (exprP_rt (n + 1)).le q hq hg⟩
    rw [e]
    exact pexpr_step q n (exprP false n) (Reads.expr n) (exprP_rt n) hq hg
end
end Go.Eng
namespace Go.Eng
open Go.RowKit
section
variable {P : Program} {N : Nat} {w0 : Base} {X : Nat → Prop} {Q : LX → Env → Obs → Prop} {env : Env} {H : Obs}
theorem LWp.nlCell {c : Code} (b j id s : Nat) {fz : Bool} {cs : List LV} (hs : 0 < s) (h : H b = .box fz cs ∧ cs[j]? = some .nl ∧ H id = .absent ∧ LWp P N w0 X c Q env (upd (upd H id (.row false s [])) b (.box fz (cs.set j (.ow id 0 0))))) : LWp P N w0 X c Q env H := by
  obtain ⟨hb, hj, hid, h⟩ := h
  have hne : b ≠ id := fun e => by rw [e, hid] at hb; cases hb
  intro β a w sm
  obtain ⟨m1, g1⟩ := new_none sm.mem hid hs
  obtain ⟨m2, g2⟩ := m1.rebox (b := b) (fz := fz) (cs := cs) (cs' := cs.set j (.ow id 0 0)) (by rw [upd_ne _ _ hne]; exact hb) (by simp) fun i c c' v hc hc' hr => by
    rw [List.getElem?_set] at hc'
    by_cases e : j = i
    · subst e
      rw [hj] at hc; injection hc with hc; subst hc
      have hl := (List.getElem?_eq_some_iff.1 hj).1
      simp [hl] at hc'
      subst hc'
      cases hr with | nl p => exact .ow0 id 0 p false s [] (by rw [upd_same]) (.inl ⟨by rw [upd_same], rfl⟩)
    · simp only [e, if_false] at hc'
      rw [hc] at hc'; injection hc' with hc'; subst hc'
      exact hr
  exact h _ a w ⟨sm.defers, sm.size, m2.ext, m2.xold, m2.fresh, m2.inj, fun t => g2.R (g1.R (sm.env t)), m2.obj, m2.pin⟩
end
end Go.Eng
namespace Go.Eng
open Go.Proofs
attribute [local simp] runL stepL evalG evalOp opLV constLV putEnv dstOk upd upds Res.plain Res.cond Res.fail evalBin evalUn seqQ blockQ argsEnv lookL lookH RetIs memless freshL evalPick evalMin bval bok evalLen evalIn strip whenC guardOps guardC slotsOf
  runM foldS stepI stepM maskE wrIn lk renO lookN evalCall evalCallee optAll resLV resObj retLV retObj retsLV retsObj evalLoad evalIndexAddr evalField solid cellsD_agg cellsD_int cellsD_bool cellsD_str cellsD_sl cellsD_ro cellsD_fn cellsL_agg cellsL_dagg cellsL_int cellsL_bool cellsL_str cellsL_sl cellsL_fn cellsL_ow cellsL_bx cellsL_lfn cellsL_nl takeL takeD mkAgg allD eqD eqDs kindsAre kindIs LObj.live TK.isNone TK.agg TK.isBool TK.isStr TK.isStruct Op.operands Call.operands
  evalBuildSlice evalAppend elemsOf evalStore evalBuild fillL lookupF putL evalSlice bound evalConv elemsS freezes frozen loadR
  mkEnv_at mkObs_at close_d close_agg close_ow close_bx close_fn close_nl touch_d touch_agg touch_ow touch_bx touch_fn touch_nl ren_d ren_agg ren_bx ren_rp ren_ow ren_fn ren_nl ren_junk retQ_ret retQ2_ret condQ_bool Nm.d Df.d Ed.d nmsD dfsD strsD edsD retC_ret nm_eq df_eq take_map_len take_map_app
  nm_t nm_d nm_td df_t df_d df_td str_t str_d str_td ed_t ed_d ed_td
  evalAppendIn evalBuildSliceC evalCopyC shortL evalApart evalAppendC evalAppendZ evalAppendG evalCapC isOc TK.isInt close_oc touch_oc ren_oc cellsL_oc evalCut evalClear evalCopy evalMake evalWrap evalCap evalNil isNilC lenL isInp gorc gorc2
  mapOf findD keyEq keyOk evalMakeMap evalRange zeroD zeroDV argsG shutG outN lenv retG0_ret retG0_normal retG1_ret retGR_ret renO close_mp touch_mp ren_mp optAll_d optAll_d' touch_ds cellsL_mp cellsD_mp cellsL_dmp
  evalMapSet evalPtr TK.isPtr evalToArr firstL retN_ret retsQ rvarL close_bm touch_bm ren_bm cellsD_bm cellsL_bm cellsL_lbm
attribute [local simp] cutQ_normal cutQ_ret cutQ_exit
section
attribute [local simp] Res.cond Nd.d_eq nd_t nd_dr nd_td ndsD evalIndex retGC_ret tksD psH upds_same
theorem upds_then {c : Prop} [Decidable c] {f : Nat → LObj} {A : LObj} {x : Nat} (h : f 0 = A) : upds f (if c then [(0, A)] else []) x = f x := by
  by_cases hc : c
  · rw [if_pos hc]
    subst h
    simp only [upds, upd]
    split
    · rename_i e; rw [e]
    · rfl
  · rw [if_neg hc]; rfl
def Eats (n : Nat) (x : PS → Nd × PS) : Prop := ∀ q : PS, q.l.length < n → GoodT q.l → q.e = 0 → (x q).2.e ≠ 0 ∨ (x q).2.l.length < q.l.length
structure BlS where
  f : Nat
  ks : List Nd
  q : PS
theorem stmts_end {st : PS → Nd × PS} {ks : List Nd} {q : PS} (h : q.e = 0 → q.peek = [125]) : ∀ f, stmtsF st f ks q = (ks, q)
  | 0 => rfl
  | f + 1 => by
    rw [stmtsF, if_pos]
    by_cases e : q.e = 0
    · exact .inr (h e)
    · exact .inl e
theorem stmts_go {st : PS → Nd × PS} {ks : List Nd} {q : PS} {f : Nat} (hf : q.l.length < f) (h : q.e = 0) (hp : ¬ q.peek = [125]) : stmtsF st f ks q = stmtsF st (f - 1) (ks ++ [(st q).1]) (st q).2 := by
  obtain ⟨k, rfl⟩ : ∃ k, f = k + 1 := ⟨f - 1, by omega⟩
  rw [stmtsF, if_neg]
  · rfl
  · rintro (e | e)
    · exact e h
    · exact hp e
theorem block_ok (p : PS) (n : Nat) (st : PS → Nd × PS) (hS : Reads n 114 st) (hE : Eats n st) (hn : p.l.length < n) (hg : GoodT p.l) (hb : p.l.length ≤ 1100000) : OkG Tryz.prog 77 [.bx 0 0] (psH p) (psH (blockB st p).2) (.d (blockB st p).1.d) := by
  unfold psH
  refine OkG.cell hT Tryz.func77 (by kernel_rfl) (c := _) rfl Tryz.ntmps77 (by simp) Tryz.results77 fun w0 X hp => ?_
  refine LWp.seq ?_
  refine LWp.rz hT hW ?_
  simp
  refine LWp.seq ?_
  refine LWp.rz hT hW ?_
  simp
  refine LWp.nlCell (fz := false) (cs := [.d (I64 8), .d (.str []), .d (I64 0), .nl]) 3 3 1022 4 (by decide) ⟨by simp, by simp, by simp, ?_⟩
  simp
  refine LWp.seq ?_
  have hn2 := need_ok p [123]
  have gl := good_need (s := [123]) hg
  refine LWp.ro hT hW (fun | 6 => some (.gen ⟨[(0, 0)], [], [], psH (p.need [123]), .tup []⟩) | _ => none) ?_
  simp
  refine ⟨hn2, ?_⟩
  refine LWp.seq ?_
  refine LWp.block ?_
  refine LWp.loopW (ι := BlS) (fun ⟨f, ks, q⟩ => mkEnv [(0, .bx 0 0), (2, .bx 2 0), (3, .bx 3 0)]) (fun ⟨f, ks, q⟩ => mkObs [(0, .box false [.d (tksD q.l), .d (I64 q.e)]), (2, .box false [.d (I64 0), .d (.str []), .d (I64 0), .nl]), (3, .box false [.d (I64 8), .d (.str []), .d (I64 0), .ow 1022 0 ks.length]), (1022, .row false 4 (ks.map Nd.d))]) (fun ⟨f, ks, q⟩ => (q.e = 0 → q.l.length < f) ∧ GoodT q.l ∧ q.l.length ≤ p.l.length ∧ ks.length + q.l.length ≤ p.l.length + (if q.e = 0 then 0 else 1) ∧ stmtsF st ((p.need [123]).l.length + 1) [] (p.need [123]) = stmtsF st f ks q) (fun ⟨f, ks, q⟩ => 2 * q.l.length + (if q.e = 0 then 1 else 0)) ⟨(p.need [123]).l.length + 1, [], p.need [123]⟩ (Weak.to [0, 2, 3] [(0, 0), (2, 2), (3, 3), (1022, 1022)] (by decide) (by decide) (by simp [hp]) (by simp) (by simp)) (⟨fun _ => Nat.lt_succ_self _, gl.2, gl.1, by have := gl.1; simp only [List.length_nil]; omega, rfl⟩) fun ⟨f, ks, q⟩ hi3 => ?_
  refine LWp.seq ?_
  refine LWp.seq ?_
  have hpk := peek_ok q
  refine LWp.ro hT hW (fun | 14 => some (.gen ⟨[(0, 0)], [], [], psH q, .d (.str q.peek)⟩) | _ => none) ?_
  simp [upds_then]
  refine ⟨fun _ => hpk, ?_⟩
  refine LWp.iff ?_
  simp
  refine ⟨fun g1 g2 => ?_, fun g => ?_⟩
  · refine LWp.skip ?_
    simp
    refine LWp.block ?_
    have ha : q.l.length ≤ p.l.length := hi3.2.2.1
    have hk : ks.length + q.l.length ≤ p.l.length := by have z := hi3.2.2.2.1; simp only [g1, if_true] at z; omega
    have hs := hS.ok q (by omega) hi3.2.1
    have hle := hS.le q (by omega) hi3.2.1
    have heat := hE q (by omega) hi3.2.1 g1
    refine LWp.regAny hT hW hMixed (lk [[],[0],[],[2],[2,3],[0,1,2,3,4],[0,1,2,3,4,5],[0,1,2,3,4,5,6]]) (lk [[0,21],[0,21],[],[],[],[],[],[]]) (lk [[],[],[],[0],[21],[22,1022],[],[3]]) (by kernel_rfl) (fun | 20 => some (.gen ⟨[(0, 0)], [], [], psH (st q).2, .d (st q).1.d⟩) | _ => none) (by intro d; first | exact ⟨rfl, fun _ h => h⟩ | (split <;> exact ⟨rfl, fun _ h => h⟩)) ?_
    simp
    refine ⟨⟨by simpa using hs, by omega, by omega⟩, ?_⟩
    refine loopQ.mk ⟨f - 1, ks ++ [(st q).1], (st q).2⟩ (Weak.to [0, 2, 3] [(0, 0), (2, 2), (3, 3), (22, 1022)] (by decide) (by decide) (by simp [hp]) (by simp) (by simp)) ?_ ?_
    · refine ⟨fun e => ?_, hle.2, ?_, ?_, ?_⟩
      · show (st q).2.l.length < f - 1
        have z := hi3.1 g1
        rcases heat with h | h
        · exact absurd e h
        · omega
      · show (st q).2.l.length ≤ p.l.length
        omega
      · show (ks ++ [(st q).1]).length + (st q).2.l.length ≤ p.l.length + (if (st q).2.e = 0 then 0 else 1)
        rw [List.length_append, List.length_singleton]
        by_cases e : (st q).2.e = 0
        · rw [if_pos e]
          rcases heat with h | h
          · exact absurd e h
          · omega
        · rw [if_neg e]; omega
      · rw [hi3.2.2.2.2]; exact stmts_go (hi3.1 g1) g1 g2
    · show 2 * (st q).2.l.length + (if (st q).2.e = 0 then 1 else 0) < 2 * q.l.length + (if q.e = 0 then 1 else 0)
      rw [if_pos g1]
      by_cases e : (st q).2.e = 0
      · rw [if_pos e]
        rcases heat with h | h
        · exact absurd e h
        · omega
      · rw [if_neg e]; omega
  · refine LWp.exit ?_
    simp
    refine LWp.seq ?_
    have hn5 := need_ok q [125]
    refine LWp.ro hT hW (fun | 25 => some (.gen ⟨[(0, 0)], [], [], psH (q.need [125]), .tup []⟩) | _ => none) ?_
    simp
    refine ⟨hn5, ?_⟩
    refine LWp.seq ?_
    refine LWp.rz hT hW ?_
    simp
    refine LWp.ret ?_
    simp
    have e : blockB st p = (.mk 8 [] 0 ks, q.need [125]) := by unfold blockB; simp only []; rw [hi3.2.2.2.2, stmts_end g]
    refine Weak.closed (x := (blockB st p).1.d) (by simp [e]) ?_
    simp
    exact Weak.to [0] [(0, 0)] (by decide) (by decide) (by simp [hp]) (by simp) (by simp [e])
end
open Go.Proofs
section
attribute [local simp] Res.cond Nd.d_eq nd_t nd_dr nd_td ndsD evalIndex retGC_ret tksD psH upds_same
def cmdA (k : Int) (p : PS) : Str × PS := if k = 19 ∨ k = 20 then localP p else if k = 21 ∨ k = 25 ∨ k = 24 then ([], p) else nameP p
theorem cmdA_good {k : Int} {p : PS} (h : GoodT p.l) : (cmdA k p).2.l.length ≤ p.l.length ∧ GoodT (cmdA k p).2.l := by
  unfold cmdA
  split
  · exact ⟨(localP_good h).1, (localP_good h).2.1⟩
  · split
    · exact ⟨Nat.le_refl _, h⟩
    · exact ⟨(nameP_good h).1, (nameP_good h).2.1⟩
theorem cmd_ex {ex : PS → Nd × PS} {k : Int} {p : PS} (h : k = 15 ∨ k = 22 ∨ k = 24) : cmdP ex k p = (.mk k (cmdA k p).1 0 [(ex (cmdA k p).2).1], (ex (cmdA k p).2).2) := by
  unfold cmdP; simp only []; rw [if_pos h]; rfl
theorem cmd_loc {ex : PS → Nd × PS} {k : Int} {p : PS} (h0 : ¬ (k = 15 ∨ k = 22 ∨ k = 24)) (h : k = 16 ∨ k = 23) : cmdP ex k p = (.mk k (cmdA k p).1 0 [.mk 33 (localP (cmdA k p).2).1 0 []], (localP (cmdA k p).2).2) := by
  unfold cmdP; simp only []; rw [if_neg h0, if_pos h]; rfl
theorem cmd_num {ex : PS → Nd × PS} {k : Int} {p : PS} (h0 : ¬ (k = 15 ∨ k = 22 ∨ k = 24)) (h1 : ¬ (k = 16 ∨ k = 23)) (h : k = 19 ∨ k = 21 ∨ k = 25) : cmdP ex k p = (.mk k (cmdA k p).1 (numeralP k (cmdA k p).2).1 [], (numeralP k (cmdA k p).2).2) := by
  unfold cmdP; simp only []; rw [if_neg h0, if_neg h1, if_pos h]; rfl
theorem cmd_plain {ex : PS → Nd × PS} {k : Int} {p : PS} (h0 : ¬ (k = 15 ∨ k = 22 ∨ k = 24)) (h1 : ¬ (k = 16 ∨ k = 23)) (h : ¬ (k = 19 ∨ k = 21 ∨ k = 25)) : cmdP ex k p = (.mk k (cmdA k p).1 0 [], (cmdA k p).2) := by
  unfold cmdP; simp only []; rw [if_neg h0, if_neg h1, if_neg h]; rfl
def cdH (p : PS) (x : Nd) : List (Nat × LObj) := [(0, .box false [.d (tksD p.l), .d (I64 p.e)]), (1, .box false [.d (I64 x.kind), .d (.str x.text), .d (I64 x.n), .d (ndsD x.kids)])]
structure SPS where
  s : Str
  q : PS
theorem command_ok (p : PS) (n : Nat) (ex : PS → Nd × PS) (k : Int) (hk : 0 ≤ k ∧ k < 37) (hE : Reads n 140 ex) (hn : p.l.length < n) (hg : GoodT p.l) : OkG Tryz.prog 141 [.bx 0 0, .bx 1 0] [(0, .box false [.d (tksD p.l), .d (I64 p.e)]), (1, .box false [.d (I64 k), .d (.str []), .d (I64 0), .nl])] (cdH (cmdP ex k p).2 (cmdP ex k p).1) (.tup []) := by
  unfold cdH
  refine OkG.unit Tryz.func141 (by kernel_rfl) (c := _) rfl Tryz.ntmps141 (by simp) Tryz.results141 fun w0 X hp => ?_
  refine LWp.seqCut (ι := SPS) (fun ⟨s, q⟩ => mkEnv [(0, .bx 0 0), (1, .bx 1 0)]) (fun ⟨s, q⟩ => mkObs [(0, .box false [.d (tksD q.l), .d (I64 q.e)]), (1, .box false [.d (I64 k), .d (.str s), .d (I64 0), .nl])]) (fun ⟨s, q⟩ => cmdA k p = (s, q)) ?_ fun ⟨s, q⟩ hc8 => ?_
  · refine LWp.seq ?_
    refine LWp.rz hT hW ?_
    simp
    refine LWp.block ?_
    refine LWp.seqCut (ι := BC) (fun ⟨b⟩ => mkEnv [(0, .bx 0 0), (1, .bx 1 0), (7, .d (I64 k)), (13, .d (.bool b))]) (fun ⟨b⟩ => mkObs [(0, .box false [.d (tksD p.l), .d (I64 p.e)]), (1, .box false [.d (I64 k), .d (.str []), .d (I64 0), .nl])]) (fun ⟨b⟩ => b = true ↔ (k = 19 ∨ k = 20)) ?_ fun ⟨b⟩ hc4 => ?_
    · refine LWp.seq ?_
      refine LWp.rz hT hW ?_
      simp
      refine LWp.iff ?_
      simp
      refine ⟨fun h2 => ?_, fun h2 => ?_⟩
      · refine LWp.skip ?_
        simp
        refine cutQ.mk ⟨decide (k = 19)⟩ (Weak.to [0, 1, 7, 13] [(0, 0), (1, 1)] (by decide) (by decide) (by simp [hp]) (by simp) (by simp)) ?_
        simp [h2]
      · refine LWp.rz hT hW ?_
        simp
        refine cutQ.mk ⟨decide (k = 20)⟩ (Weak.to [0, 1, 7, 13] [(0, 0), (1, 1)] (by decide) (by decide) (by simp [hp]) (by simp) (by simp)) ?_
        simp only [decide_eq_true_eq]; omega
    · refine LWp.iff ?_
      simp
      refine ⟨fun h4 => ?_, fun h4 => ?_⟩
      · have q4 := hc4.1 h4
        have hlo := local_ok p hg
        refine LWp.ro hT hW (fun | 18 => some (.gen ⟨[(0, 0)], [], [], psH (localP p).2, .d (.str (localP p).1)⟩) | _ => none) ?_
        simp
        refine ⟨hlo, ?_⟩
        refine cutQ.mk ⟨(localP p).1, (localP p).2⟩ (Weak.to [0, 1] [(0, 0), (1, 1)] (by decide) (by decide) (by simp [hp]) (by simp) (by simp)) ?_
        unfold cmdA; rw [if_pos q4]
      · have q4 : ¬ (k = 19 ∨ k = 20) := fun q => by simp [hc4.2 q] at h4
        refine LWp.seqCut (ι := BC) (fun ⟨b⟩ => mkEnv [(0, .bx 0 0), (1, .bx 1 0), (7, .d (I64 k)), (21, .d (.bool b))]) (fun ⟨b⟩ => mkObs [(0, .box false [.d (tksD p.l), .d (I64 p.e)]), (1, .box false [.d (I64 k), .d (.str []), .d (I64 0), .nl])]) (fun ⟨b⟩ => b = true ↔ (k = 21 ∨ k = 25 ∨ k = 24)) ?_ fun ⟨b⟩ hc1 => ?_
        · refine LWp.seq ?_
          refine LWp.rz hT hW ?_
          simp
          refine LWp.iff ?_
          simp
          refine ⟨fun h5 => ?_, fun h5 => ?_⟩
          · refine LWp.skip ?_
            simp
            refine cutQ.mk ⟨decide (k = 21)⟩ (Weak.to [0, 1, 7, 21] [(0, 0), (1, 1)] (by decide) (by decide) (by simp [hp]) (by simp) (by simp)) ?_
            simp [h5]
          · refine LWp.seq ?_
            refine LWp.rz hT hW ?_
            simp
            refine LWp.iff ?_
            simp
            refine ⟨fun h6 => ?_, fun h6 => ?_⟩
            · refine LWp.skip ?_
              simp
              refine cutQ.mk ⟨decide (k = 25)⟩ (Weak.to [0, 1, 7, 21] [(0, 0), (1, 1)] (by decide) (by decide) (by simp [hp]) (by simp) (by simp)) ?_
              simp [h6]
            · refine LWp.rz hT hW ?_
              simp
              refine cutQ.mk ⟨decide (k = 24)⟩ (Weak.to [0, 1, 7, 21] [(0, 0), (1, 1)] (by decide) (by decide) (by simp [hp]) (by simp) (by simp)) ?_
              simp only [decide_eq_true_eq]; omega
        · refine LWp.iff ?_
          simp
          refine ⟨fun h1 => ?_, fun h1 => ?_⟩
          · have q1 := hc1.1 h1
            refine LWp.skip ?_
            simp
            refine cutQ.mk ⟨[], p⟩ (Weak.to [0, 1] [(0, 0), (1, 1)] (by decide) (by decide) (by simp [hp]) (by simp) (by simp)) ?_
            unfold cmdA; rw [if_neg q4, if_pos q1]
          · have q1 : ¬ (k = 21 ∨ k = 25 ∨ k = 24) := fun q => by simp [hc1.2 q] at h1
            have hna := name_ok p
            refine LWp.ro hT hW (fun | 10 => some (.gen ⟨[(0, 0)], [], [], psH (nameP p).2, .d (.str (nameP p).1)⟩) | _ => none) ?_
            simp
            refine ⟨hna, ?_⟩
            refine cutQ.mk ⟨(nameP p).1, (nameP p).2⟩ (Weak.to [0, 1] [(0, 0), (1, 1)] (by decide) (by decide) (by simp [hp]) (by simp) (by simp)) ?_
            unfold cmdA; rw [if_neg q4, if_neg q1]
  · refine LWp.seq ?_
    refine LWp.rz hT hW ?_
    simp
    refine LWp.block ?_
    refine LWp.seqCut (ι := BC) (fun ⟨b⟩ => mkEnv [(0, .bx 0 0), (1, .bx 1 0), (28, .d (I64 k)), (29, .d (.bool b))]) (fun ⟨b⟩ => mkObs [(0, .box false [.d (tksD q.l), .d (I64 q.e)]), (1, .box false [.d (I64 k), .d (.str s), .d (I64 0), .nl])]) (fun ⟨b⟩ => b = true ↔ (k = 15 ∨ k = 22 ∨ k = 24)) ?_ fun ⟨b⟩ hc12 => ?_
    · refine LWp.seq ?_
      refine LWp.rz hT hW ?_
      simp
      refine LWp.iff ?_
      simp
      refine ⟨fun h9 => ?_, fun h9 => ?_⟩
      · refine LWp.skip ?_
        simp
        refine cutQ.mk ⟨decide (k = 15)⟩ (Weak.to [0, 1, 28, 29] [(0, 0), (1, 1)] (by decide) (by decide) (by simp [hp]) (by simp) (by simp)) ?_
        simp [h9]
      · refine LWp.seq ?_
        refine LWp.rz hT hW ?_
        simp
        refine LWp.iff ?_
        simp
        refine ⟨fun h10 => ?_, fun h10 => ?_⟩
        · refine LWp.skip ?_
          simp
          refine cutQ.mk ⟨decide (k = 22)⟩ (Weak.to [0, 1, 28, 29] [(0, 0), (1, 1)] (by decide) (by decide) (by simp [hp]) (by simp) (by simp)) ?_
          simp [h10]
        · refine LWp.rz hT hW ?_
          simp
          refine cutQ.mk ⟨decide (k = 24)⟩ (Weak.to [0, 1, 28, 29] [(0, 0), (1, 1)] (by decide) (by decide) (by simp [hp]) (by simp) (by simp)) ?_
          simp only [decide_eq_true_eq]; omega
    · refine LWp.iff ?_
      simp
      refine ⟨fun h12 => ?_, fun h12 => ?_⟩
      · have q12 := hc12.1 h12
        have ga := cmdA_good (k := k) hg
        rw [hc8] at ga
        have hx := hE.ok q (by have := ga.1; simp only at this; omega) ga.2
        refine LWp.ro hT hW (fun | 35 => some (.gen ⟨[(0, 0)], [], [], psH (ex q).2, .d (ex q).1.d⟩) | _ => none) ?_
        simp
        refine ⟨by simpa using hx, ?_⟩
        have e := cmd_ex (ex := ex) (p := p) q12
        rw [hc8] at e
        refine Weak.trans (Weak.shutBox 1 [36] (fz := false) (cs := [.d (I64 k), .d (.str s), .d (I64 0), .ow 36 0 1]) (ds := [I64 k, .str s, I64 0, .sl [(ex q).1.d]]) (by simp) (by simp) (by simp) (by simp [LObj.mut])) ?_
        simp
        exact Weak.to [] [(0, 0), (1, 1)] (by decide) (by decide) (by simp [hp]) (by simp) (by simp [e])
      · have q12 : ¬ (k = 15 ∨ k = 22 ∨ k = 24) := fun q => by simp [hc12.2 q] at h12
        refine LWp.seqCut (ι := BC) (fun ⟨b⟩ => mkEnv [(0, .bx 0 0), (1, .bx 1 0), (28, .d (I64 k)), (39, .d (.bool b))]) (fun ⟨b⟩ => mkObs [(0, .box false [.d (tksD q.l), .d (I64 q.e)]), (1, .box false [.d (I64 k), .d (.str s), .d (I64 0), .nl])]) (fun ⟨b⟩ => b = true ↔ (k = 16 ∨ k = 23)) ?_ fun ⟨b⟩ hc15 => ?_
        · refine LWp.seq ?_
          refine LWp.rz hT hW ?_
          simp
          refine LWp.iff ?_
          simp
          refine ⟨fun h13 => ?_, fun h13 => ?_⟩
          · refine LWp.skip ?_
            simp
            refine cutQ.mk ⟨decide (k = 16)⟩ (Weak.to [0, 1, 28, 39] [(0, 0), (1, 1)] (by decide) (by decide) (by simp [hp]) (by simp) (by simp)) ?_
            simp [h13]
          · refine LWp.rz hT hW ?_
            simp
            refine cutQ.mk ⟨decide (k = 23)⟩ (Weak.to [0, 1, 28, 39] [(0, 0), (1, 1)] (by decide) (by decide) (by simp [hp]) (by simp) (by simp)) ?_
            simp only [decide_eq_true_eq]; omega
        · refine LWp.iff ?_
          simp
          refine ⟨fun h15 => ?_, fun h15 => ?_⟩
          · have q15 := hc15.1 h15
            have ga := cmdA_good (k := k) hg
            rw [hc8] at ga
            have hlo := local_ok q ga.2
            refine LWp.ro hT hW (fun | 44 => some (.gen ⟨[(0, 0)], [], [], psH (localP q).2, .d (.str (localP q).1)⟩) | _ => none) ?_
            simp
            refine ⟨hlo, ?_⟩
            have e := cmd_loc (ex := ex) (p := p) q12 q15
            rw [hc8] at e
            refine Weak.trans (Weak.shutBox 1 [46] (fz := false) (cs := [.d (I64 k), .d (.str s), .d (I64 0), .ow 46 0 1]) (ds := [I64 k, .str s, I64 0, .sl [(Nd.mk 33 (localP q).1 0 []).d]]) (by simp) (by simp) (by simp) (by simp [LObj.mut])) ?_
            simp
            exact Weak.to [] [(0, 0), (1, 1)] (by decide) (by decide) (by simp [hp]) (by simp) (by simp [e])
          · have q15 : ¬ (k = 16 ∨ k = 23) := fun q => by simp [hc15.2 q] at h15
            refine LWp.seqCut (ι := BC) (fun ⟨b⟩ => mkEnv [(0, .bx 0 0), (1, .bx 1 0), (28, .d (I64 k)), (49, .d (.bool b))]) (fun ⟨b⟩ => mkObs [(0, .box false [.d (tksD q.l), .d (I64 q.e)]), (1, .box false [.d (I64 k), .d (.str s), .d (I64 0), .nl])]) (fun ⟨b⟩ => b = true ↔ (k = 19 ∨ k = 21 ∨ k = 25)) ?_ fun ⟨b⟩ hc19 => ?_
            · refine LWp.seq ?_
              refine LWp.rz hT hW ?_
              simp
              refine LWp.iff ?_
              simp
              refine ⟨fun h16 => ?_, fun h16 => ?_⟩
              · refine LWp.skip ?_
                simp
                refine cutQ.mk ⟨decide (k = 19)⟩ (Weak.to [0, 1, 28, 49] [(0, 0), (1, 1)] (by decide) (by decide) (by simp [hp]) (by simp) (by simp)) ?_
                simp [h16]
              · refine LWp.seq ?_
                refine LWp.rz hT hW ?_
                simp
                refine LWp.iff ?_
                simp
                refine ⟨fun h17 => ?_, fun h17 => ?_⟩
                · refine LWp.skip ?_
                  simp
                  refine cutQ.mk ⟨decide (k = 21)⟩ (Weak.to [0, 1, 28, 49] [(0, 0), (1, 1)] (by decide) (by decide) (by simp [hp]) (by simp) (by simp)) ?_
                  simp [h17]
                · refine LWp.rz hT hW ?_
                  simp
                  refine cutQ.mk ⟨decide (k = 25)⟩ (Weak.to [0, 1, 28, 49] [(0, 0), (1, 1)] (by decide) (by decide) (by simp [hp]) (by simp) (by simp)) ?_
                  simp only [decide_eq_true_eq]; omega
            · refine LWp.iff ?_
              simp
              refine ⟨fun h19 => ?_, fun h19 => ?_⟩
              · have q19 := hc19.1 h19
                have ga := cmdA_good (k := k) hg
                rw [hc8] at ga
                have hnu := numeral_ok q k ga.2 hk
                refine LWp.ro hT hW (fun | 59 => some (.gen ⟨[(0, 0)], [], [], psH (numeralP k q).2, .d (I64 (numeralP k q).1)⟩) | _ => none) ?_
                simp
                refine ⟨hnu, ?_⟩
                have e := cmd_num (ex := ex) (p := p) q12 q15 q19
                rw [hc8] at e
                refine Weak.trans (Weak.shutBox 1 [] (fz := false) (cs := [.d (I64 k), .d (.str s), .d (I64 (numeralP k q).1), .nl]) (ds := [I64 k, .str s, I64 (numeralP k q).1, .sl []]) (by simp) (by simp) (by simp) (by simp [LObj.mut])) ?_
                simp
                exact Weak.to [] [(0, 0), (1, 1)] (by decide) (by decide) (by simp [hp]) (by simp) (by simp [e])
              · have q19 : ¬ (k = 19 ∨ k = 21 ∨ k = 25) := fun q => by simp [hc19.2 q] at h19
                refine LWp.skip ?_
                simp
                have e := cmd_plain (ex := ex) (p := p) q12 q15 q19
                rw [hc8] at e
                refine Weak.trans (Weak.shutBox 1 [] (fz := false) (cs := [.d (I64 k), .d (.str s), .d (I64 0), .nl]) (ds := [I64 k, .str s, I64 0, .sl []]) (by simp) (by simp) (by simp) (by simp [LObj.mut])) ?_
                simp
                exact Weak.to [] [(0, 0), (1, 1)] (by decide) (by decide) (by simp [hp]) (by simp) (by simp [e])
end
end Go.Eng
namespace Go.Eng
open Go.Proofs
theorem range_find {α : Type} (q : α → Bool) (d : α) : ∀ l : List α, (List.range l.length).find? (fun i => q (l.getD i d)) = l.findIdx? q
  | [] => rfl
  | x :: l => by
    have ih := range_find q d l
    rw [List.length_cons, List.range_succ_eq_map, List.find?_cons, List.findIdx?_cons]
    have e : (x :: l).getD 0 d = x := rfl
    rw [e]
    cases h : q x with
    | true => simp
    | false =>
      simp only [List.find?_map]
      rw [← ih]
      rfl
theorem kind_eq {s : Str} (h : ¬ s = []) : kindP s = idxI (fun x => decide (s = x)) wordsL := by
  unfold kindP wordI idxI
  rw [if_neg h]
  have e := range_find (fun x => decide (s = x)) [] wordsL
  rw [show wordsL.length = 26 from rfl] at e
  rw [← e]
  have e2 : (fun i => decide (wordsL.getD i [] = s)) = fun i => decide (s = wordsL.getD i []) := by funext i; rw [decide_eq_decide]; exact eq_comm
  rw [e2]
  rfl
theorem kind_nil {s : Str} (h : s = []) : kindP s = -1 := by unfold kindP; rw [if_pos h]
theorem kind_pos {p : PS} (h : 0 ≤ kindP p.peek) : p.is p.peek = true := is_iff.2 ⟨fun e => by rw [kind_nil e] at h; omega, rfl⟩
theorem st_else {ex bl : PS → Nd × PS} {p : PS} {k : Int} (hk : kindP p.peek = k) (h : k = 11) (he : (bl (ex (p.took p.peek)).2).2.is sElse = true) :
    stmtB ex bl p = (.mk k [] 0 [(ex (p.took p.peek)).1, (bl (ex (p.took p.peek)).2).1, (bl ((bl (ex (p.took p.peek)).2).2.took sElse)).1], (bl ((bl (ex (p.took p.peek)).2).2.took sElse)).2) := by
  subst hk
  rw [took_is he]
  rw [took_is (kind_pos (by omega))] at he ⊢
  unfold stmtB; simp only []
  rw [if_pos (by omega), if_pos ⟨h, he⟩]
theorem st_if {ex bl : PS → Nd × PS} {p : PS} {k : Int} (hk : kindP p.peek = k) (h : k = 11 ∨ k = 12) (he : k = 11 → (bl (ex (p.took p.peek)).2).2.is sElse = false) :
    stmtB ex bl p = (.mk k [] 0 [(ex (p.took p.peek)).1, (bl (ex (p.took p.peek)).2).1], (bl (ex (p.took p.peek)).2).2) := by
  subst hk
  rw [took_is (kind_pos (by omega))] at he ⊢
  unfold stmtB; simp only []
  rw [if_pos h, if_neg (fun q => by rw [he q.1] at q; exact absurd q.2 (by simp))]
theorem st_cmd {ex bl : PS → Nd × PS} {p : PS} {k : Int} (hk : kindP p.peek = k) (h : 12 < k) : stmtB ex bl p = ((cmdP ex k (p.took p.peek)).1, (cmdP ex k (p.took p.peek)).2.need [59]) := by
  subst hk
  rw [took_is (kind_pos (by omega))]
  unfold stmtB; simp only []
  rw [if_neg (by omega), if_pos h]
theorem st_local {ex bl : PS → Nd × PS} {p : PS} {k : Int} (hk : kindP p.peek = k) (h0 : ¬ (k = 11 ∨ k = 12)) (h : ¬ 12 < k) (hd : p.peek.take 1 = [36]) : stmtB ex bl p = (.mk 9 (localP p).1 0 [(ex ((localP p).2.need [61])).1], (ex ((localP p).2.need [61])).2.need [59]) := by
  subst hk
  unfold stmtB; simp only []
  rw [if_neg h0, if_neg h]
  rw [(local_is hd).1]
  rfl
theorem st_place {ex bl : PS → Nd × PS} {p : PS} {k : Int} (hk : kindP p.peek = k) (h0 : ¬ (k = 11 ∨ k = 12)) (h : ¬ 12 < k) (hd : ¬ p.peek.take 1 = [36]) : stmtB ex bl p = (.mk 10 [] 0 [(placeP p).1, (ex ((placeP p).2.need [61])).1], (ex ((placeP p).2.need [61])).2.need [59]) := by
  subst hk
  unfold stmtB; simp only []
  rw [if_neg h0, if_neg h]
  split
  · rename_i r e; rw [e] at hd; exact absurd rfl hd
  · rfl
theorem need_le {p : PS} {s : Str} : (p.need s).l.length ≤ p.l.length := by
  unfold PS.need
  split
  · exact skip_len
  · rw [fail_l]; exact Nat.le_refl _
theorem stmtB_eats {m : Nat} {ex bl : PS → Nd × PS} (hs : Stk ex) (ht : Stk bl) (hx : Rt (m + 1) isExprK ex) (hb : Rt m isBlockK bl) : Eats (m + 1) (stmtB ex bl) := fun p hl h _ => by
  by_cases he : (stmtB ex bl p).2.e = 0
  · right
    obtain ⟨k, hk⟩ : ∃ k, kindP p.peek = k := ⟨_, rfl⟩
    by_cases h1 : k = 11 ∨ k = 12
    · have ip := kind_pos (p := p) (by omega)
      have lp := is_len ip
      rw [← took_is ip] at lp
      have gp := good_took (s := p.peek) h
      obtain ⟨e0, e1, _⟩ := hx (p.took p.peek) (by omega) gp
      obtain ⟨b0, b1, _⟩ := hb (ex (p.took p.peek)).2 (by omega) e1
      by_cases h2 : k = 11 ∧ (bl (ex (p.took p.peek)).2).2.is sElse = true
      · rw [st_else hk h2.1 h2.2]
        have l2 := is_len h2.2
        rw [← took_is h2.2] at l2
        obtain ⟨c0, _, _⟩ := hb ((bl (ex (p.took p.peek)).2).2.took sElse) (by omega) (good_took b1)
        show (bl ((bl (ex (p.took p.peek)).2).2.took sElse)).2.l.length < p.l.length
        omega
      · rw [st_if hk h1 (fun q => by
          cases z : (bl (ex (p.took p.peek)).2).2.is sElse with
          | false => rfl
          | true => exact absurd ⟨q, z⟩ h2)]
        show (bl (ex (p.took p.peek)).2).2.l.length < p.l.length
        omega
    · by_cases h3 : 12 < k
      · have ip := kind_pos (p := p) (by omega)
        have lp := is_len ip
        rw [← took_is ip] at lp
        have gp := good_took (s := p.peek) h
        obtain ⟨c0, _, _⟩ := cmdP_rt (m := m + 1) hs hx (k := k) (hk ▸ kind_range (s := p.peek) (by omega)) (p.took p.peek) (by omega) gp
        rw [st_cmd hk h3]
        have := need_le (p := (cmdP ex k (p.took p.peek)).2) (s := [59])
        show ((cmdP ex k (p.took p.peek)).2.need [59]).l.length < p.l.length
        omega
      · by_cases h4 : p.peek.take 1 = [36]
        · obtain ⟨i1, i2⟩ := local_is h4
          have ip : p.is p.peek = true := is_iff.2 ⟨fun e => (by rw [e] at h4; cases h4), rfl⟩
          have lp := is_len ip
          rw [← took_is ip] at lp
          rw [st_local hk h1 h3 h4, i2]
          have n1 := need_le (p := p.took p.peek) (s := [61])
          obtain ⟨e0, _, _⟩ := hx ((p.took p.peek).need [61]) (by omega) (good_need (good_took h)).2
          have n2 := need_le (p := (ex ((p.took p.peek).need [61])).2) (s := [59])
          show ((ex ((p.took p.peek).need [61])).2.need [59]).l.length < p.l.length
          omega
        · rw [st_place hk h1 h3 h4] at he ⊢
          have he : ((ex ((placeP p).2.need [61])).2.need [59]).e = 0 := he
          have he2 := hs _ (need_e he).2
          have he3 := (need_e he2).2
          have pl : (placeP p).2.l.length < p.l.length := by
            unfold placeP at he3 ⊢
            have nm : (nameP p).2.e = 0 → (nameP p).2.l.length < p.l.length := fun z => by
              cases q : isNameB p.peek with
              | false => rw [name_not q] at z; exact absurd z (fail_e (by decide))
              | true =>
                have ip : p.is p.peek = true := is_iff.2 ⟨fun e => (by rw [e] at q; cases q), rfl⟩
                have lp := is_len ip
                rw [name_is q, took_is ip]
                simp only; omega
            have ng := nameP_good h
            split at he3
            · rename_i z
              rw [if_pos z]
              have z2 := nameP_stk _ he3
              have z3 : (nameP p).2.e = 0 := z2
              have ll := (nameP_good (p := (nameP p).2.skip) (good_skip ng.2.1)).1
              have l3 := skip_len (p := (nameP p).2)
              have := nm z3
              simp only; omega
            · rename_i z
              rw [if_neg z]
              exact nm he3
          have n1 := need_le (p := (placeP p).2) (s := [61])
          have pg := (placeP_rt (p.l.length + 1) p (Nat.lt_succ_self _) h).2.1
          obtain ⟨e0, _, _⟩ := hx ((placeP p).2.need [61]) (by omega) (good_need pg).2
          have n2 := need_le (p := (ex ((placeP p).2.need [61])).2) (s := [59])
          show ((ex ((placeP p).2.need [61])).2.need [59]).l.length < p.l.length
          omega
  · exact .inl he
end Go.Eng
namespace Go.Eng
open Go.Proofs
attribute [local simp] runL stepL evalG evalOp opLV constLV putEnv dstOk upd upds Res.plain Res.cond Res.fail evalBin evalUn seqQ blockQ argsEnv lookL lookH RetIs memless freshL evalPick evalMin bval bok evalLen evalIn strip whenC guardOps guardC slotsOf
  runM foldS stepI stepM maskE wrIn lk renO lookN evalCall evalCallee optAll resLV resObj retLV retObj retsLV retsObj evalLoad evalIndexAddr evalField solid cellsD_agg cellsD_int cellsD_bool cellsD_str cellsD_sl cellsD_ro cellsD_fn cellsL_agg cellsL_dagg cellsL_int cellsL_bool cellsL_str cellsL_sl cellsL_fn cellsL_ow cellsL_bx cellsL_lfn cellsL_nl takeL takeD mkAgg allD eqD eqDs kindsAre kindIs LObj.live TK.isNone TK.agg TK.isBool TK.isStr TK.isStruct Op.operands Call.operands
  evalBuildSlice evalAppend elemsOf evalStore evalBuild fillL lookupF putL evalSlice bound evalConv elemsS freezes frozen loadR
  mkEnv_at mkObs_at close_d close_agg close_ow close_bx close_fn close_nl touch_d touch_agg touch_ow touch_bx touch_fn touch_nl ren_d ren_agg ren_bx ren_rp ren_ow ren_fn ren_nl ren_junk retQ_ret retQ2_ret condQ_bool Nm.d Df.d Ed.d nmsD dfsD strsD edsD retC_ret nm_eq df_eq take_map_len take_map_app
  nm_t nm_d nm_td df_t df_d df_td str_t str_d str_td ed_t ed_d ed_td
  evalAppendIn evalBuildSliceC evalCopyC shortL evalApart evalAppendC evalAppendZ evalAppendG evalCapC isOc TK.isInt close_oc touch_oc ren_oc cellsL_oc evalCut evalClear evalCopy evalMake evalWrap evalCap evalNil isNilC lenL isInp gorc gorc2
  mapOf findD keyEq keyOk evalMakeMap evalRange zeroD zeroDV argsG shutG outN lenv retG0_ret retG0_normal retG1_ret retGR_ret renO close_mp touch_mp ren_mp optAll_d optAll_d' touch_ds cellsL_mp cellsD_mp cellsL_dmp
  evalMapSet evalPtr TK.isPtr evalToArr firstL retN_ret retsQ rvarL close_bm touch_bm ren_bm cellsD_bm cellsL_bm cellsL_lbm
attribute [local simp] cutQ_normal cutQ_ret cutQ_exit
section
attribute [local simp] Res.cond Nd.d_eq nd_t nd_dr nd_td ndsD evalIndex retGC_ret tksD psH upds_same
theorem one_i (k : IntKind) (n : Int) : (Value.int k n).oneCell' = true := rfl
theorem one_s (x : ByteArray) : (Value.string x).oneCell' = true := rfl
theorem one_l (x : Option Addr) (a b : Nat) : (Value.slice x a b).oneCell' = true := rfl
theorem all4 (a b c d : Value) : (∀ (i : Nat) (x : i < 4), ([a, b, c, d][i]'(x)).oneCell' = true) ↔ (a.oneCell' = true ∧ b.oneCell' = true ∧ c.oneCell' = true ∧ d.oneCell' = true) := by
  constructor
  · intro h
    exact ⟨h 0 (by decide), h 1 (by decide), h 2 (by decide), h 3 (by decide)⟩
  · rintro ⟨h1, h2, h3, h4⟩ i hi
    match i, hi with
    | 0, _ => exact h1
    | 1, _ => exact h2
    | 2, _ => exact h3
    | 3, _ => exact h4
attribute [local simp] constL1 one_i one_s one_l all4
theorem take_else {c : Prop} [Decidable c] {f : Nat → LObj} {a b : PS} {x : Nat} (h : f 0 = .box false [.d (.sl (b.l.map Tk.d)), .d (I64 b.e)]) :
    upds f (if c then [(0, .box false [.d (.sl (a.l.map Tk.d)), .d (I64 a.e)])] else []) x = if x = 0 then .box false [.d (.sl ((if c then a else b).l.map Tk.d)), .d (I64 (if c then a else b).e)] else f x := by
  by_cases hc : c
  · simp only [hc, if_true, upds, upd]
  · simp only [hc, if_false, upds]
    split
    · rename_i e; rw [e]; exact h
    · rfl
structure KC where
  k : Int
structure StS where
  x : Nd
  q : PS
theorem stmt_rstep (p : PS) (n : Nat) (ex bl : PS → Nd × PS) (hE : Reads (n + 1) 140 ex) (hB : Reads n 77 bl) (hn : p.l.length < n + 1) (hg : GoodT p.l) : OkG Tryz.prog 114 [.bx 0 0] (psH p) (psH (stmtB ex bl p).2) (.d (stmtB ex bl p).1.d) := by
  unfold psH
  refine OkG.cell hT Tryz.func114 (by kernel_rfl) (c := _) rfl Tryz.ntmps114 (by simp) Tryz.results114 fun w0 X hp => ?_
  refine LWp.seq ?_
  refine LWp.rz hT hW ?_
  simp
  refine LWp.seq ?_
  refine LWp.ro hT hW (fun | 7 => some (.gen ⟨[(0, 0)], [], [], psH p, .d (.str p.peek)⟩) | _ => none) ?_
  simp
  refine ⟨peek_ok p, ?_⟩
  refine LWp.seq ?_
  refine LWp.rz hT hW ?_
  simp
  refine LWp.seqCut (ι := KC) (fun ⟨k⟩ => mkEnv [(0, .bx 0 0), (2, .bx 2 0), (3, .d (.str p.peek)), (4, .d (I64 k))]) (fun ⟨k⟩ => mkObs [(0, .box false [.d (tksD p.l), .d (I64 p.e)]), (2, .box false [.d (I64 0), .d (.str []), .d (I64 0), .nl])]) (fun ⟨k⟩ => kindP p.peek = k) ?_ fun ⟨k⟩ hc5 => ?_
  · refine LWp.seq ?_
    refine LWp.rz hT hW ?_
    simp
    refine LWp.iff ?_
    simp
    refine ⟨fun h3 => ?_, fun h3 => ?_⟩
    · have hi := IndexOfStr_ok wordsL p.peek
      have q2 := glob0_len
      rw [← kind_eq h3] at hi
      refine LWp.ro hT hW (fun | 12 => some <| .plain ⟨.d (I64 (kindP p.peek)), true⟩ | _ => none) ?_
      simp [glob0_take]
      refine ⟨⟨by omega, hi⟩, ?_⟩
      refine cutQ.mk ⟨kindP p.peek⟩ (Weak.to [0, 2, 3, 4] [(0, 0), (2, 2)] (by decide) (by decide) (by simp [hp]) (by simp) (by simp)) ?_
      rfl
    · refine LWp.skip ?_
      simp
      refine cutQ.mk ⟨-1⟩ (Weak.to [0, 2, 3, 4] [(0, 0), (2, 2)] (by decide) (by decide) (by simp [hp]) (by simp) (by simp)) ?_
      exact kind_nil h3
  · refine LWp.seq ?_
    refine LWp.rz hT hW ?_
    simp
    refine LWp.seqCut (ι := StS) (fun ⟨x, q⟩ => mkEnv [(0, .bx 0 0), (2, .bx 2 0), (5, .bx 5 0)]) (fun ⟨x, q⟩ => mkObs [(0, .box false [.d (tksD q.l), .d (I64 q.e)]), (2, .box false [.d (I64 0), .d (.str []), .d (I64 0), .nl]), (5, .box false [.d (I64 x.kind), .d (.str x.text), .d (I64 x.n), .d (ndsD x.kids)])]) (fun ⟨x, q⟩ => stmtB ex bl p = (x, q.need [59])) ?_ fun ⟨x, q⟩ hc22 => ?_
    · refine LWp.block ?_
      refine LWp.seq ?_
      refine LWp.rz hT hW ?_
      simp
      refine LWp.iff ?_
      simp
      refine ⟨fun g => ?_, fun g1 g2 => ?_⟩
      · refine LWp.seq ?_
        have ip := kind_pos (p := p) (by omega)
        have lp := is_len ip
        rw [← took_is ip] at lp
        have gp := good_took (s := p.peek) hg
        refine LWp.ro hT hW (fun | 39 => some (.gen ⟨[(0, 0)], [], [], psH (p.took p.peek), .d (.bool (p.is p.peek))⟩) | _ => none) ?_
        simp
        refine ⟨take_ok p p.peek, ?_⟩
        refine LWp.nlCell (fz := false) (cs := [.d (I64 k), .d (.str []), .d (I64 0), .nl]) 5 3 1048 4 (by decide) ⟨by simp, by simp, by simp, ?_⟩
        simp
        refine LWp.seq ?_
        have he := hE.ok (p.took p.peek) (by omega) gp
        have le := hE.le (p.took p.peek) (by omega) gp
        have hb := hB.ok (ex (p.took p.peek)).2 (by omega) le.2
        have lb := hB.le (ex (p.took p.peek)).2 (by omega) le.2
        refine LWp.regAny hT hW hMixed (lk [[],[0],[],[2],[],[2,3,4],[0,1],[],[0,1,2,3,4,5,6,7],[0,1,2,3,4,5,6,7,8],[0,1,2,3,4,5,6,7,8,9],[0,1,6],[0,1,2,3,4,5,6,7,8,9,10,11],[0,1,2,3,4,5,6,7,8,9,10,11,12],[0,1,2,3,4,5,6,7,8],[0,1,2,3,4,5,6,7,8,14]]) (lk [[0,47],[0,47],[47],[47],[0,47],[47],[0,47],[0],[],[5],[5],[0,5,47,48,1048],[5],[5],[48],[48]]) (lk [[],[],[],[0],[],[0],[],[47],[48,1048],[],[48],[],[],[48],[],[5]]) (by kernel_rfl) (fun | 43 => some (.gen ⟨[(0, 0)], [], [], psH (ex (p.took p.peek)).2, .d (ex (p.took p.peek)).1.d⟩) | 45 => some (.gen ⟨[(0, 0)], [], [], psH (bl (ex (p.took p.peek)).2).2, .d (bl (ex (p.took p.peek)).2).1.d⟩) | _ => none) (by intro d; first | exact ⟨rfl, fun _ h => h⟩ | (split <;> exact ⟨rfl, fun _ h => h⟩)) ?_
        simp
        refine ⟨⟨⟨by simpa using he, by simpa using hb⟩, by decide⟩, ?_⟩
        refine LWp.seq ?_
        refine LWp.seq ?_
        have ht := take_ok (bl (ex (p.took p.peek)).2).2 sElse
        refine LWp.ro hT hW (fun | 57 => some (.gen ⟨[(0, 0)], [], [], psH ((bl (ex (p.took p.peek)).2).2.took sElse), .d (.bool ((bl (ex (p.took p.peek)).2).2.is sElse))⟩) | _ => none) ?_
        simp [take_else (b := (bl (ex (p.took p.peek)).2).2)]
        refine ⟨fun _ => ht, ?_⟩
        refine LWp.iff ?_
        simp
        refine ⟨fun g3 g4 => ?_, fun g3 => ?_⟩
        · simp only [g3, if_true]
          have gt := good_took (s := sElse) lb.2
          have lt : ((bl (ex (p.took p.peek)).2).2.took sElse).l.length ≤ (bl (ex (p.took p.peek)).2).2.l.length := by rw [took_is g4]; exact skip_len
          have hb2 := hB.ok ((bl (ex (p.took p.peek)).2).2.took sElse) (by omega) gt
          refine LWp.regAny hT hW hMixed (lk [[],[0],[],[2],[0,1],[],[0,1,2,3,4,5],[0,1,2,3,4,5,6],[0,1,2,3,4,5,6,7],[0,1,2,3,4,5,6],[0,1,2,3,4,5,6,9]]) (lk [[0,64],[0,64],[64],[64],[0,64],[0],[],[5],[5],[65],[65]]) (lk [[],[],[],[0],[],[64],[65,48],[],[65],[],[5]]) (by kernel_rfl) (fun | 62 => some (.gen ⟨[(0, 0)], [], [], psH (bl ((bl (ex (p.took p.peek)).2).2.took sElse)).2, .d (bl ((bl (ex (p.took p.peek)).2).2.took sElse)).1.d⟩) | _ => none) (by intro d; first | exact ⟨rfl, fun _ h => h⟩ | (split <;> exact ⟨rfl, fun _ h => h⟩)) ?_
          simp
          refine ⟨by simpa using hb2, ?_⟩
          refine LWp.seq ?_
          refine LWp.rz hT hW ?_
          simp
          refine LWp.ret ?_
          simp
          have e := st_else (ex := ex) (bl := bl) hc5 g3 g4
          refine Weak.closed (x := (stmtB ex bl p).1.d) (by simp [e, g3]) ?_
          simp
          exact Weak.to [0] [(0, 0)] (by decide) (by decide) (by simp [hp]) (by simp) (by simp [e])
        · have eq : (if k = 11 then (bl (ex (p.took p.peek)).2).2.took sElse else (bl (ex (p.took p.peek)).2).2) = (bl (ex (p.took p.peek)).2).2 := by
            split
            · rename_i z
              exact took_not (by simp [g3 z])
            · rfl
          simp only [eq]
          refine LWp.skip ?_
          simp
          refine LWp.seq ?_
          refine LWp.rz hT hW ?_
          simp
          refine LWp.ret ?_
          simp
          have e := st_if (ex := ex) (bl := bl) hc5 g g3
          refine Weak.closed (x := (stmtB ex bl p).1.d) (by simp [e]) ?_
          simp
          exact Weak.to [0] [(0, 0)] (by decide) (by decide) (by simp [hp]) (by simp) (by simp [e])
      · refine LWp.seq ?_
        refine LWp.rz hT hW ?_
        simp
        refine LWp.iff ?_
        simp
        refine ⟨fun h15 => ?_, fun h15 => ?_⟩
        · refine LWp.seq ?_
          have ip := kind_pos (p := p) (by have := hc5; simp only at this; omega)
          have lp := is_len ip
          rw [← took_is ip] at lp
          have gp := good_took (s := p.peek) hg
          refine LWp.ro hT hW (fun | 74 => some (.gen ⟨[(0, 0)], [], [], psH (p.took p.peek), .d (.bool (p.is p.peek))⟩) | _ => none) ?_
          simp
          refine ⟨take_ok p p.peek, ?_⟩
          have kr := kind_range (s := p.peek) (by have := hc5; simp only at this; omega)
          have hcm := command_ok (p.took p.peek) (n + 1) ex k (by have := hc5; simp only at this; omega) hE (by omega) gp
          refine LWp.ro hT hW (fun | 76 => some (.gen ⟨[(0, 0), (5, 1)], [], [], cdH (cmdP ex k (p.took p.peek)).2 (cmdP ex k (p.took p.peek)).1, .tup []⟩) | _ => none) ?_
          simp [cdH]
          refine ⟨by simpa [cdH] using hcm, ?_⟩
          refine cutQ.mk ⟨(cmdP ex k (p.took p.peek)).1, (cmdP ex k (p.took p.peek)).2⟩ (Weak.to [0, 2, 5] [(0, 0), (2, 2), (5, 5)] (by decide) (by decide) (by simp [hp]) (by simp) (by simp)) ?_
          exact st_cmd hc5 h15
        · refine LWp.seq ?_
          have hpf := HasPrefix_ok p.peek [36] (by have := peek_tl hg; omega) (by decide)
          refine LWp.ro hT hW (fun | 79 => some <| .plain ⟨.d (.bool (decide (p.peek.take 1 = [36]))), true⟩ | _ => none) ?_
          simp
          refine ⟨hpf, ?_⟩
          refine LWp.iff ?_
          simp
          refine ⟨fun h18 => ?_, fun h18 => ?_⟩
          · refine LWp.seq ?_
            have hlo := local_ok p hg
            have gl := localP_good hg
            refine LWp.ro hT hW (fun | 81 => some (.gen ⟨[(0, 0)], [], [], psH (localP p).2, .d (.str (localP p).1)⟩) | _ => none) ?_
            simp
            refine ⟨hlo, ?_⟩
            refine LWp.seq ?_
            have hne := need_ok (localP p).2 [61]
            have gn := good_need (s := [61]) gl.2.1
            refine LWp.ro hT hW (fun | 84 => some (.gen ⟨[(0, 0)], [], [], psH ((localP p).2.need [61]), .tup []⟩) | _ => none) ?_
            simp
            refine ⟨hne, ?_⟩
            have hx := hE.ok ((localP p).2.need [61]) (by have := gl.1; omega) gn.2
            refine LWp.ro hT hW (fun | 86 => some (.gen ⟨[(0, 0)], [], [], psH (ex ((localP p).2.need [61])).2, .d (ex ((localP p).2.need [61])).1.d⟩) | _ => none) ?_
            simp
            refine ⟨by simpa using hx, ?_⟩
            refine exWeak (Weak.shutBox 5 [87] (fz := false) (cs := [.d (I64 9), .d (.str (localP p).1), .d (I64 0), .ow 87 0 1]) (ds := [I64 9, .str (localP p).1, I64 0, .sl [(ex ((localP p).2.need [61])).1.d]]) (by simp) (by simp) (by simp) (by simp [LObj.mut])) ?_
            simp
            refine cutQ.mk ⟨.mk 9 (localP p).1 0 [(ex ((localP p).2.need [61])).1], (ex ((localP p).2.need [61])).2⟩ (Weak.to [0, 2, 5] [(0, 0), (2, 2), (5, 5)] (by decide) (by decide) (by simp [hp]) (by simp) (by simp)) ?_
            exact st_local hc5 (by omega) (by omega) h18
          · refine LWp.seq ?_
            have hpl := place_ok p hg
            have gl := placeP_rt (p.l.length + 1) p (Nat.lt_succ_self _) hg
            refine LWp.ro hT hW (fun | 16 => some (.gen ⟨[(0, 0)], [], [], psH (placeP p).2, .d (placeP p).1.d⟩) | _ => none) ?_
            simp
            refine ⟨by simpa using hpl, ?_⟩
            refine LWp.seq ?_
            have hne := need_ok (placeP p).2 [61]
            have gn := good_need (s := [61]) gl.2.1
            refine LWp.ro hT hW (fun | 20 => some (.gen ⟨[(0, 0)], [], [], psH ((placeP p).2.need [61]), .tup []⟩) | _ => none) ?_
            simp
            refine ⟨hne, ?_⟩
            have hx := hE.ok ((placeP p).2.need [61]) (by have := gl.1; omega) gn.2
            refine LWp.regAny hT hW hMixed (lk [[],[0],[],[2],[0,1],[],[0,1,2,3,4,5],[0,1,2,3,4,5,6],[0,1,2,3,4,5,6,7],[0,1,2,3,4,5,6],[0,1,2,3,4,5,6,9]]) (lk [[0,26],[0,26],[26],[26],[0,26],[0],[],[5],[5],[27],[27]]) (lk [[],[],[],[0],[],[26],[27,17],[],[27],[],[5]]) (by kernel_rfl) (fun | 24 => some (.gen ⟨[(0, 0)], [], [], psH (ex ((placeP p).2.need [61])).2, .d (ex ((placeP p).2.need [61])).1.d⟩) | _ => none) (by intro d; first | exact ⟨rfl, fun _ h => h⟩ | (split <;> exact ⟨rfl, fun _ h => h⟩)) ?_
            simp
            refine ⟨by simpa using hx, ?_⟩
            refine exWeak (Weak.shutBox 5 [27] (fz := false) (cs := [.d (I64 10), .d (.str []), .d (I64 0), .ow 27 0 2]) (ds := [I64 10, .str [], I64 0, .sl [(placeP p).1.d, (ex ((placeP p).2.need [61])).1.d]]) (by simp) (by simp) (by simp) (by simp [LObj.mut])) ?_
            simp
            refine cutQ.mk ⟨.mk 10 [] 0 [(placeP p).1, (ex ((placeP p).2.need [61])).1], (ex ((placeP p).2.need [61])).2⟩ (Weak.to [0, 2, 5] [(0, 0), (2, 2), (5, 5)] (by decide) (by decide) (by simp [hp]) (by simp) (by simp)) ?_
            exact st_place hc5 (by omega) (by omega) h18
    · refine LWp.seq ?_
      have hne := need_ok q [59]
      refine LWp.ro hT hW (fun | 90 => some (.gen ⟨[(0, 0)], [], [], psH (q.need [59]), .tup []⟩) | _ => none) ?_
      simp
      refine ⟨hne, ?_⟩
      refine LWp.seq ?_
      refine LWp.rz hT hW ?_
      simp
      refine LWp.ret ?_
      simp
      exact Weak.to [0] [(0, 0)] (by decide) (by decide) (by simp [hp]) (by simp [hc22]) (by simp [hc22])
end
open Go.Proofs
section
attribute [local simp] Res.cond Nd.d_eq nd_t nd_dr nd_td ndsD evalIndex retGC_ret upds_same constL1 one_i one_s one_l all4 Int.add_assoc
def mkH (L : List Int) (i : Nat) : List (Nat × LObj) := [(0, .box false [.d (.sl (L.map I64)), .d (I64 i)])]
def MkL (L : List Int) : Prop := ∀ n ∈ L, -9223372036854775808 ≤ n ∧ n ≤ 9223372036854775807
attribute [local simp] mkH
theorem atL_range (l : List Int) (i m : Int) (h : 0 < m) : 0 ≤ atL l i m ∧ atL l i m < m := by
  unfold atL
  split
  · omega
  · exact around_lt _ _ h
theorem MTake_ok (L : List Int) (i : Nat) (m : Int) (hL : MkL L) (hi : i ≤ 3000000) (hm : m ≠ 0) : OkG Tryz.prog 35 [.bx 0 0, .d (I64 m)] (mkH L i) (mkH L (i + 1)) (.d (I64 (atL L i m))) := by
  unfold mkH
  refine OkG.one Tryz.func35 (by kernel_rfl) (c := _) rfl Tryz.ntmps35 (by simp) Tryz.results35 fun w0 X hp => ?_
  refine LWp.seq ?_
  refine LWp.rz hT hW ?_
  simp
  refine LWp.seq ?_
  refine LWp.rz hT hW ?_
  simp
  refine ⟨by omega, ?_⟩
  refine LWp.seq ?_
  have ha := At_ok L i m hL hm
  have e1 : (i : Int) + 1 - 1 = i := by omega
  refine LWp.regAny hT hW hMixed (lk [[],[0],[0,1],[0,1,2],[],[4],[4,5],[4,5,6],[4,5,6,7],[],[0,1,2,3,4,5,6,7,8,9],[0,1,2,3,4,5,6,7,8,9,10]]) (lk [[],[],[],[],[],[],[],[],[],[],[],[]]) (lk [[],[],[],[],[],[],[],[],[],[],[22],[]]) (by kernel_rfl) (fun | 22 => some <| .plain ⟨.d (I64 (atL L i m)), true⟩ | _ => none) (by intro d; first | exact ⟨rfl, fun _ h => h⟩ | (split <;> exact ⟨rfl, fun _ h => h⟩)) ?_
  simp [e1]
  refine ⟨⟨by omega, ha⟩, ?_⟩
  refine LWp.ret ?_
  simp
  exact Weak.to [4] [(0, 0)] (by decide) (by decide) (by simp [hp]) (by simp) (by simp)
theorem call_at {L : List Int} {i : Nat} : (callL.map DV.str)[(atL L i 8).toNat]?.getD default = .str (callM L i) := by
  have h := atL_range L i 8 (by decide)
  have hk : (atL L i 8).toNat < callL.length := by show _ < 8; omega
  unfold callM
  rw [List.getElem?_map, List.getElem?_eq_getElem hk]
  simp [List.getD_eq_getElem?_getD, hk]
theorem own_at {L : List Int} {i : Nat} : (ownL.map DV.str)[(atL L i 4).toNat]?.getD default = .str (ownM L i) := by
  have h := atL_range L i 4 (by decide)
  have hk : (atL L i 4).toNat < ownL.length := by show _ < 4; omega
  unfold ownM
  rw [List.getElem?_map, List.getElem?_eq_getElem hk]
  simp [List.getD_eq_getElem?_getD, hk]
theorem num_at {L : List Int} {i : Nat} : (numsM.map I64)[(atL L i 6).toNat]?.getD default = I64 (numsM.getD (atL L i 6).toNat 0) := by
  have h := atL_range L i 6 (by decide)
  have hk : (atL L i 6).toNat < numsM.length := by show _ < 6; omega
  rw [List.getElem?_map, List.getElem?_eq_getElem hk]
  simp [List.getD_eq_getElem?_getD, hk]
theorem MCalled_ok (L : List Int) (i : Nat) (hL : MkL L) (hi : i ≤ 3000000) : OkG Tryz.prog 36 [.bx 0 0] (mkH L i) (mkH L (i + 1)) (.d (.str (callM L i))) := by
  unfold mkH
  refine OkG.one Tryz.func36 (by kernel_rfl) (c := _) rfl Tryz.ntmps36 (by simp) Tryz.results36 fun w0 X hp => ?_
  refine LWp.seq ?_
  refine LWp.rz hT hW ?_
  simp
  refine LWp.seq ?_
  have ha := MTake_ok L i 8 hL hi (by decide)
  have hr := atL_range L i 8 (by decide)
  have hc := call_at (L := L) (i := i)
  simp [callL] at hc
  refine LWp.ro hT hW (fun | 5 => some (.gen ⟨[(0, 0)], [], [], mkH L (i + 1), .d (I64 (atL L i 8))⟩) | _ => none) ?_
  simp [hc]
  refine ⟨⟨⟨⟨by decide, by simpa using ha⟩, by omega⟩, by omega⟩, ?_⟩
  refine LWp.ret ?_
  simp
  exact Weak.to [2] [(0, 0)] (by decide) (by decide) (by simp [hp]) (by simp) (by simp)
theorem MOwn_ok (L : List Int) (i : Nat) (hL : MkL L) (hi : i ≤ 3000000) : OkG Tryz.prog 58 [.bx 0 0] (mkH L i) (mkH L (i + 1)) (.d (.str (ownM L i))) := by
  unfold mkH
  refine OkG.one Tryz.func58 (by kernel_rfl) (c := _) rfl Tryz.ntmps58 (by simp) Tryz.results58 fun w0 X hp => ?_
  refine LWp.seq ?_
  refine LWp.rz hT hW ?_
  simp
  refine LWp.seq ?_
  have ha := MTake_ok L i 4 hL hi (by decide)
  have hr := atL_range L i 4 (by decide)
  have hc := own_at (L := L) (i := i)
  simp [ownL] at hc
  refine LWp.ro hT hW (fun | 5 => some (.gen ⟨[(0, 0)], [], [], mkH L (i + 1), .d (I64 (atL L i 4))⟩) | _ => none) ?_
  simp [hc]
  refine ⟨⟨⟨⟨by decide, by simpa using ha⟩, by omega⟩, by omega⟩, ?_⟩
  refine LWp.ret ?_
  simp
  exact Weak.to [2] [(0, 0)] (by decide) (by decide) (by simp [hp]) (by simp) (by simp)
theorem callM_len (L : List Int) (i : Nat) : (callM L i).length ≤ 16 := by
  have h := atL_range L i 8 (by decide)
  unfold callM
  have : ∀ k : Nat, (callL.getD k []).length ≤ 16 := fun k => by
    rw [List.getD_eq_getElem?_getD]
    cases e : callL[k]? with
    | none => simp
    | some w =>
      have := List.mem_of_getElem? e
      exact (by decide : ∀ w ∈ callL, w.length ≤ 16) w this
  exact this _
theorem MAt_ok (L : List Int) (i : Nat) (hL : MkL L) (hi : i ≤ 2000000) : OkG Tryz.prog 59 [.bx 0 0] (mkH L i) (mkH L (placeM L i).2) (.d (placeM L i).1.d) := by
  unfold mkH
  refine OkG.cell hT Tryz.func59 (by kernel_rfl) (c := _) rfl Tryz.ntmps59 (by simp) Tryz.results59 fun w0 X hp => ?_
  refine LWp.seq ?_
  refine LWp.rz hT hW ?_
  simp
  refine LWp.seq ?_
  refine LWp.seq ?_
  have ha := MTake_ok L i 3 hL (by omega) (by decide)
  refine LWp.ro hT hW (fun | 5 => some (.gen ⟨[(0, 0)], [], [], mkH L (i + 1), .d (I64 (atL L i 3))⟩) | _ => none) ?_
  simp
  refine ⟨by simpa using ha, ?_⟩
  refine LWp.iff ?_
  simp
  refine ⟨fun h1 => ?_, fun h1 => ?_⟩
  · refine LWp.seq ?_
    have hc := MCalled_ok L (i + 1) hL (by omega)
    refine LWp.ro hT hW (fun | 8 => some (.gen ⟨[(0, 0)], [], [], mkH L (i + 1 + 1), .d (.str (callM L (i + 1)))⟩) | _ => none) ?_
    simp
    refine ⟨by simpa using hc, ?_⟩
    refine LWp.ret ?_
    simp
    have e : placeM L i = (.mk 34 (callM L (i + 1)) 0 [], i + 2) := by unfold placeM; rw [if_pos h1]
    refine Weak.closed (x := (placeM L i).1.d) (by simp [e]) ?_
    simp
    exact Weak.to [0] [(0, 0)] (by decide) (by decide) (by simp [hp]) (by simp) (by simp [e])
  · refine LWp.skip ?_
    simp
    refine LWp.seq ?_
    have hc := MCalled_ok L (i + 1) hL (by omega)
    refine LWp.ro hT hW (fun | 11 => some (.gen ⟨[(0, 0)], [], [], mkH L (i + 1 + 1), .d (.str (callM L (i + 1)))⟩) | _ => none) ?_
    simp
    refine ⟨by simpa using hc, ?_⟩
    refine LWp.seq ?_
    have hc2 := MCalled_ok L (i + 2) hL (by omega)
    have l1 := callM_len L (i + 1)
    have l2 := callM_len L (i + 2)
    refine LWp.ro hT hW (fun | 15 => some (.gen ⟨[(0, 0)], [], [], mkH L (i + 2 + 1), .d (.str (callM L (i + 2)))⟩) | _ => none) ?_
    simp
    refine ⟨⟨⟨by omega, by simpa using hc2⟩, by omega⟩, ?_⟩
    refine LWp.ret ?_
    simp
    have e : placeM L i = (.mk 35 (callM L (i + 1) ++ 46 :: callM L (i + 2)) 0 [], i + 3) := by unfold placeM; rw [if_neg (by omega)]
    refine Weak.closed (x := (placeM L i).1.d) (by simp [e]) ?_
    simp
    exact Weak.to [0] [(0, 0)] (by decide) (by decide) (by simp [hp]) (by simp) (by simp [e])
end
open Go.Proofs
section
attribute [local simp] Res.cond Nd.d_eq nd_t nd_dr nd_td ndsD evalIndex retGC_ret constL1 Int.add_assoc upds_same one_i one_s one_l all4 mkH
def valK (L : List Int) (d i : Nat) : Int := if d = 0 ∨ L.length < i + 1 then (atL L i 12).tmod 6 else atL L i 12
theorem valK_range (L : List Int) (d i : Nat) : 0 ≤ valK L d i ∧ valK L d i < 12 ∧ (d = 0 → valK L d i < 6) := by
  have h := atL_range L i 12 (by decide)
  unfold valK
  split
  · have : (atL L i 12).tmod 6 = atL L i 12 % 6 := Int.tmod_eq_emod_of_nonneg h.1
    rw [this]
    omega
  · omega
theorem value_num {L : List Int} {d i : Nat} (h : valK L d i = 0 ∨ valK L d i = 1) : valueM L d i = (.mk 32 [] (numsM.getD (atL L (i + 1) 6).toNat 0) [], i + 2) := by
  unfold valK at h
  unfold valueM
  simp only []
  rw [if_pos h]
theorem value_loc {L : List Int} {d i : Nat} (h : valK L d i = 2) : valueM L d i = (.mk 33 (ownM L (i + 1)) 0 [], i + 2) := by
  have h0 : ¬ (valK L d i = 0 ∨ valK L d i = 1) := by omega
  unfold valK at h h0
  unfold valueM
  simp only []
  rw [if_neg h0, if_pos h]
theorem value_place {L : List Int} {d i : Nat} (h : valK L d i = 3 ∨ valK L d i = 4) : valueM L d i = placeM L (i + 1) := by
  have h0 : ¬ (valK L d i = 0 ∨ valK L d i = 1) := by omega
  have h1 : ¬ (valK L d i = 2) := by omega
  unfold valK at h h0 h1
  unfold valueM
  simp only []
  rw [if_neg h0, if_neg h1, if_pos h]
theorem value_kind {L : List Int} {d i : Nat} (h : valK L d i = 5) : valueM L d i = (.mk 36 [] 0 [], i + 1) := by
  have h0 : ¬ (valK L d i = 0 ∨ valK L d i = 1) := by omega
  have h1 : ¬ (valK L d i = 2) := by omega
  have h2 : ¬ (valK L d i = 3 ∨ valK L d i = 4) := by omega
  unfold valK at h h0 h1 h2
  unfold valueM
  simp only []
  rw [if_neg h0, if_neg h1, if_neg h2, if_pos h]
theorem value_bin {L : List Int} {e i : Nat} (h : 6 ≤ valK L (e + 1) i) : valueM L (e + 1) i = (.mk (26 + valK L (e + 1) i - 6) [] 0 [(valueM L e (i + 1)).1, (valueM L e (valueM L e (i + 1)).2).1], (valueM L e (valueM L e (i + 1)).2).2) := by
  have h0 : ¬ (valK L (e + 1) i = 0 ∨ valK L (e + 1) i = 1) := by omega
  have h1 : ¬ (valK L (e + 1) i = 2) := by omega
  have h2 : ¬ (valK L (e + 1) i = 3 ∨ valK L (e + 1) i = 4) := by omega
  have h3 : ¬ (valK L (e + 1) i = 5) := by omega
  rw [valueM]
  have hv : (if e + 1 = 0 ∨ L.length < i + 1 then (atL L i 12).tmod 6 else atL L i 12) = valK L (e + 1) i := rfl
  rw [hv, if_neg h0, if_neg h1, if_neg h2, if_neg h3]
theorem place_to (L : List Int) (i : Nat) : (placeM L i).2 ≤ i + 3 := by unfold placeM; split <;> simp
theorem value_to (L : List Int) : ∀ (d i : Nat), (valueM L d i).2 + 1 ≤ i + 5 * 2 ^ d := fun d => by
  induction d with
  | zero =>
    intro i
    obtain ⟨r0, _, r2⟩ := valK_range L 0 i
    have r2 := r2 rfl
    by_cases h0 : valK L 0 i = 0 ∨ valK L 0 i = 1
    · rw [value_num h0]; simp
    · by_cases h1 : valK L 0 i = 2
      · rw [value_loc h1]; simp
      · by_cases h2 : valK L 0 i = 3 ∨ valK L 0 i = 4
        · rw [value_place h2]; have := place_to L (i + 1); omega
        · rw [value_kind (by omega)]; simp
  | succ e ih =>
    intro i
    have hp : 1 ≤ 2 ^ e := Nat.one_le_two_pow
    have h2 : 2 ^ (e + 1) = 2 * 2 ^ e := by rw [Nat.pow_succ, Nat.mul_comm]
    obtain ⟨r0, _, _⟩ := valK_range L (e + 1) i
    by_cases h0 : valK L (e + 1) i = 0 ∨ valK L (e + 1) i = 1
    · rw [value_num h0]; simp only; omega
    · by_cases h1 : valK L (e + 1) i = 2
      · rw [value_loc h1]; simp only; omega
      · by_cases h3 : valK L (e + 1) i = 3 ∨ valK L (e + 1) i = 4
        · rw [value_place h3]; have := place_to L (i + 1); omega
        · by_cases h4 : valK L (e + 1) i = 5
          · rw [value_kind h4]; simp only; omega
          · rw [value_bin (by omega)]
            have a := ih (i + 1)
            have b := ih (valueM L e (i + 1)).2
            simp only
            omega
theorem MValue_step (L : List Int) (d i : Nat) (hL : MkL L) (hll : L.length ≤ 1000000) (hi : i + 5 * 2 ^ d ≤ 2000000) (ih : ∀ e, d = e + 1 → ∀ j, j + 5 * 2 ^ e ≤ 2000000 → OkG Tryz.prog 56 [.bx 0 0, .d (I64 (e : Nat))] (mkH L j) (mkH L (valueM L e j).2) (.d (valueM L e j).1.d)) : OkG Tryz.prog 56 [.bx 0 0, .d (I64 (d : Nat))] (mkH L i) (mkH L (valueM L d i).2) (.d (valueM L d i).1.d) := by
  have h2d : 1 ≤ 2 ^ d := Nat.one_le_two_pow
  unfold mkH
  refine OkG.cell hT Tryz.func56 (by kernel_rfl) (c := _) rfl Tryz.ntmps56 (by simp) Tryz.results56 fun w0 X hp => ?_
  refine LWp.seq ?_
  refine LWp.rz hT hW ?_
  simp
  refine LWp.seq ?_
  have ha := MTake_ok L i 12 hL (by omega) (by decide)
  refine LWp.ro hT hW (fun | 8 => some (.gen ⟨[(0, 0)], [], [], mkH L (i + 1), .d (I64 (atL L i 12))⟩) | _ => none) ?_
  simp
  refine ⟨by simpa using ha, ?_⟩
  refine LWp.seqCut (ι := KC) (fun ⟨k⟩ => mkEnv [(0, .bx 0 0), (1, .d (I64 (d : Nat))), (4, .bx 4 0), (5, .d (I64 k))]) (fun ⟨k⟩ => mkObs [(0, .box false [.d (.sl (L.map I64)), .d (I64 ((i + 1 : Nat) : Int))]), (4, .box false [.d (I64 0), .d (.str []), .d (I64 0), .nl])]) (fun ⟨k⟩ => valK L d i = k) ?_ fun ⟨k⟩ hc4 => ?_
  · refine LWp.seq ?_
    refine LWp.regAny hT hW hMixed (lk [[],[0],[0,1],[0,1,2],[0,1,2,3],[0,1,2,3,4],[0,1,2,3,4,5],[0,1,2],[0,1,2,7],[0,1,2,7,8],[0,1,2,7,8,9],[0,1,2,7,8,9,10],[0,1,2,3,4,5,6,7,8,9,10,11],[0,1,2,3,4,5,6,7,8,9,10,11,12]]) (lk [[],[],[],[],[],[],[],[],[],[],[],[],[],[]]) (lk [[],[],[],[],[],[],[],[],[],[],[],[],[],[]]) (by kernel_rfl) (fun _ => none) (fun _ => ⟨rfl, fun _ h => h⟩) ?_
    simp
    refine LWp.iff ?_
    simp
    refine ⟨fun h2 => ?_, fun h2 h2b => ?_⟩
    · refine LWp.rz hT hW ?_
      simp
      refine cutQ.mk ⟨(atL L i 12).tmod 6⟩ (Weak.to [0, 1, 4, 5] [(0, 0), (4, 4)] (by decide) (by decide) (by simp [hp]) (by simp) (by simp)) ?_
      unfold valK; rw [if_pos (by omega)]
    · refine LWp.skip ?_
      simp
      refine cutQ.mk ⟨atL L i 12⟩ (Weak.to [0, 1, 4, 5] [(0, 0), (4, 4)] (by decide) (by decide) (by simp [hp]) (by simp) (by simp)) ?_
      unfold valK; rw [if_neg (by omega)]
  · refine LWp.seq ?_
    refine LWp.seq ?_
    refine LWp.rz hT hW ?_
    simp
    refine LWp.block ?_
    refine LWp.seqCut (ι := BC) (fun ⟨b⟩ => mkEnv [(0, .bx 0 0), (1, .d (I64 (d : Nat))), (4, .bx 4 0), (5, .d (I64 k)), (25, .d (I64 (k))), (26, .d (.bool b))]) (fun ⟨b⟩ => mkObs [(0, .box false [.d (.sl (L.map I64)), .d (I64 ((i + 1 : Nat) : Int))]), (4, .box false [.d (I64 0), .d (.str []), .d (I64 0), .nl])]) (fun ⟨b⟩ => b = true ↔ (k = 0 ∨ k = 1)) ?_ fun ⟨b⟩ hc7 => ?_
    · refine LWp.seq ?_
      refine LWp.rz hT hW ?_
      simp
      refine LWp.iff ?_
      simp
      refine ⟨fun h5 => ?_, fun h5 => ?_⟩
      · refine LWp.skip ?_
        simp
        refine cutQ.mk ⟨decide (k = 0)⟩ (Weak.to [0, 1, 4, 5, 25, 26] [(0, 0), (4, 4)] (by decide) (by decide) (by simp [hp]) (by simp) (by simp)) ?_
        simp [h5]
      · refine LWp.rz hT hW ?_
        simp
        refine cutQ.mk ⟨decide (k = 1)⟩ (Weak.to [0, 1, 4, 5, 25, 26] [(0, 0), (4, 4)] (by decide) (by decide) (by simp [hp]) (by simp) (by simp)) ?_
        simp only [decide_eq_true_eq]; omega
    · refine LWp.iff ?_
      simp
      refine ⟨fun h7 => ?_, fun h7 => ?_⟩
      · have q7 := hc7.1 h7
        refine LWp.seq ?_
        have ha := MTake_ok L (i + 1) 6 hL (by omega) (by decide)
        have hr := atL_range L ((i : Int) + 1) 6 (by decide)
        have hc := num_at (L := L) (i := i + 1)
        simp [numsM] at hc
        refine LWp.ro hT hW (fun | 31 => some (.gen ⟨[(0, 0)], [], [], mkH L (i + 1 + 1), .d (I64 (atL L ((i : Int) + 1) 6))⟩) | _ => none) ?_
        simp [hc]
        refine ⟨⟨⟨⟨by decide, by simpa using ha⟩, by omega⟩, by omega⟩, ?_⟩
        refine LWp.ret ?_
        simp
        have e := value_num (L := L) (d := d) (i := i) (by simp only at hc4; omega)
        refine Weak.closed (x := (valueM L d i).1.d) (by simp [e, numsM]) ?_
        simp
        exact Weak.to [0] [(0, 0)] (by decide) (by decide) (by simp [hp]) (by simp) (by simp [e])
      · have q7 : ¬ (k = 0 ∨ k = 1) := fun q => by simp [hc7.2 q] at h7
        refine LWp.seq ?_
        refine LWp.rz hT hW ?_
        simp
        refine LWp.iff ?_
        simp
        refine ⟨fun h8 => ?_, fun h8 => ?_⟩
        · refine LWp.seq ?_
          have hc := MOwn_ok L (i + 1) hL (by omega)
          refine LWp.ro hT hW (fun | 38 => some (.gen ⟨[(0, 0)], [], [], mkH L (i + 1 + 1), .d (.str (ownM L (i + 1)))⟩) | _ => none) ?_
          simp
          refine ⟨by simpa using hc, ?_⟩
          refine LWp.ret ?_
          simp
          have e := value_loc (L := L) (d := d) (i := i) (by simp only at hc4; omega)
          refine Weak.closed (x := (valueM L d i).1.d) (by simp [e]) ?_
          simp
          exact Weak.to [0] [(0, 0)] (by decide) (by decide) (by simp [hp]) (by simp) (by simp [e])
        · refine LWp.seqCut (ι := BC) (fun ⟨b⟩ => mkEnv [(0, .bx 0 0), (1, .d (I64 (d : Nat))), (4, .bx 4 0), (5, .d (I64 k)), (25, .d (I64 (k))), (40, .d (.bool b))]) (fun ⟨b⟩ => mkObs [(0, .box false [.d (.sl (L.map I64)), .d (I64 ((i + 1 : Nat) : Int))]), (4, .box false [.d (I64 0), .d (.str []), .d (I64 0), .nl])]) (fun ⟨b⟩ => b = true ↔ (k = 3 ∨ k = 4)) ?_ fun ⟨b⟩ hc12 => ?_
          · refine LWp.seq ?_
            refine LWp.rz hT hW ?_
            simp
            refine LWp.iff ?_
            simp
            refine ⟨fun h10 => ?_, fun h10 => ?_⟩
            · refine LWp.skip ?_
              simp
              refine cutQ.mk ⟨decide (k = 3)⟩ (Weak.to [0, 1, 4, 5, 25, 40] [(0, 0), (4, 4)] (by decide) (by decide) (by simp [hp]) (by simp) (by simp)) ?_
              simp [h10]
            · refine LWp.rz hT hW ?_
              simp
              refine cutQ.mk ⟨decide (k = 4)⟩ (Weak.to [0, 1, 4, 5, 25, 40] [(0, 0), (4, 4)] (by decide) (by decide) (by simp [hp]) (by simp) (by simp)) ?_
              simp only [decide_eq_true_eq]; omega
          · refine LWp.iff ?_
            simp
            refine ⟨fun h12 => ?_, fun h12 => ?_⟩
            · have q12 := hc12.1 h12
              refine LWp.seq ?_
              have hc := MAt_ok L (i + 1) hL (by omega)
              refine LWp.ro hT hW (fun | 44 => some (.gen ⟨[(0, 0)], [], [], mkH L (placeM L (i + 1)).2, .d (placeM L (i + 1)).1.d⟩) | _ => none) ?_
              simp
              refine ⟨by simpa using hc, ?_⟩
              refine LWp.ret ?_
              simp
              have e := value_place (L := L) (d := d) (i := i) (by simp only at hc4; omega)
              refine Weak.closed (x := (valueM L d i).1.d) (by simp [e]) ?_
              simp
              exact Weak.to [0] [(0, 0)] (by decide) (by decide) (by simp [hp]) (by simp) (by simp [e])
            · have q12 : ¬ (k = 3 ∨ k = 4) := fun q => by simp [hc12.2 q] at h12
              refine LWp.seq ?_
              refine LWp.rz hT hW ?_
              simp
              refine LWp.iff ?_
              simp
              refine ⟨fun h13 => ?_, fun h13 => ?_⟩
              · refine LWp.seq ?_
                refine LWp.rz hT hW ?_
                simp
                refine LWp.ret ?_
                simp
                have e := value_kind (L := L) (d := d) (i := i) (by simp only at hc4; omega)
                refine Weak.closed (x := (valueM L d i).1.d) (by simp [e]) ?_
                simp
                exact Weak.to [0] [(0, 0)] (by decide) (by decide) (by simp [hp]) (by simp) (by simp [e])
              · refine LWp.skip ?_
                simp
                refine LWp.seq ?_
                have hk6 : 6 ≤ k ∧ k < 12 := by have := valK_range L d i; simp only at hc4; omega
                obtain ⟨e, rfl⟩ : ∃ e, d = e + 1 := ⟨d - 1, by have := valK_range L d i; simp only at hc4; omega⟩
                have hp2 : 2 ^ (e + 1) = 2 * 2 ^ e := by rw [Nat.pow_succ, Nat.mul_comm]
                have hpe : 1 ≤ 2 ^ e := Nat.one_le_two_pow
                have hlt : e < 2 ^ e := Nat.lt_two_pow_self
                have c1 := ih e rfl (i + 1) (by omega)
                have t1 := value_to L e (i + 1)
                have c2 := ih e rfl (valueM L e (i + 1)).2 (by omega)
                have ez : ((e : Int) + 1) - 1 = e := by omega
                refine LWp.ro hT hW (fun | 51 => some (.gen ⟨[(0, 0)], [], [], mkH L (valueM L e (i + 1)).2, .d (valueM L e (i + 1)).1.d⟩) | _ => none) ?_
                simp [ez]
                refine ⟨⟨by omega, by simpa using c1⟩, ?_⟩
                refine LWp.seq ?_
                refine LWp.regAny hT hW hMixed (lk [[],[0],[0,1],[],[],[],[5],[4,5,6],[3,4,5,6,7],[0,1,2,3,4,5,6,7,8],[0,1,2,3,4,5,6,7,8,9]]) (lk [[0,60],[0,60],[0,60],[0],[],[],[],[],[],[],[]]) (lk [[],[],[],[],[],[],[],[0],[60],[],[4]]) (by kernel_rfl) (fun | 59 => some (.gen ⟨[(0, 0)], [], [], mkH L (valueM L e (valueM L e (i + 1)).2).2, .d (valueM L e (valueM L e (i + 1)).2).1.d⟩) | _ => none) (by intro d; first | exact ⟨rfl, fun _ h => h⟩ | (split <;> exact ⟨rfl, fun _ h => h⟩)) ?_
                simp [ez]
                refine ⟨⟨⟨⟨⟨by omega, by omega⟩, by omega⟩, by simpa using c2⟩, by decide⟩, ?_⟩
                refine LWp.ret ?_
                simp
                have ev := value_bin (L := L) (e := e) (i := i) (by simp only at hc4; omega)
                rw [show valK L (e + 1) i = k from hc4] at ev
                refine Weak.closed (x := (valueM L (e + 1) i).1.d) (by simp [ev]) ?_
                simp
                exact Weak.to [0] [(0, 0)] (by decide) (by decide) (by simp [hp]) (by simp) (by simp [ev])
theorem MValue_ok (L : List Int) (hL : MkL L) (hll : L.length ≤ 1000000) : ∀ (d i : Nat), i + 5 * 2 ^ d ≤ 2000000 → OkG Tryz.prog 56 [.bx 0 0, .d (I64 (d : Nat))] (mkH L i) (mkH L (valueM L d i).2) (.d (valueM L d i).1.d) := fun d => by
  induction d with
  | zero => exact fun i hi => MValue_step L 0 i hL hll hi fun e he => by omega
  | succ d ihd =>
    intro i hi
    refine MValue_step L (d + 1) i hL hll hi fun e he j hj => ?_
    have : e = d := by omega
    subst this
    exact ihd j hj
end
open Go.Proofs
section
attribute [local simp] Res.cond Nd.d_eq nd_t nd_dr nd_td ndsD evalIndex retGC_ret constL1 Int.add_assoc upds_same one_i one_s one_l all4 mkH
def Makes (L : List Int) (g : FuncId) (d : Nat) (b : Nat) (x : Nat → Nd × Nat) : Prop := ∀ j, j ≤ b → OkG Tryz.prog g [.bx 0 0, .d (I64 (d : Nat))] (mkH L j) (mkH L (x j).2) (.d (x j).1.d)
structure SmS where
  c : Nat
  ks : List Nd
  j : Nat
theorem somes_end {L : List Int} {st : Nat → Nd × Nat} {m : Nat} {ks : List Nd} {j : Nat} (h : m = 0 ∨ L.length ≤ j) : somesM L st m ks j = (ks, j) := by
  cases m with
  | zero => rfl
  | succ m =>
    unfold somesM
    rw [if_pos (by omega)]
theorem somes_go {L : List Int} {st : Nat → Nd × Nat} {m : Nat} {ks : List Nd} {j : Nat} (h0 : 0 < m) (h : j < L.length) : somesM L st m ks j = somesM L st (m - 1) (ks ++ [(st j).1]) (st j).2 := by
  obtain ⟨k, rfl⟩ : ∃ k, m = k + 1 := ⟨m - 1, by omega⟩
  rw [somesM, if_neg (by omega)]
  rfl
theorem MSome_step (L : List Int) (d i : Nat) (st : Nat → Nd × Nat) (hL : MkL L) (hll : L.length ≤ 1000000) (b : Nat) (hi : i ≤ b) (hb : b ≤ 1800000) (hS : Makes L 37 d (b + 40000) st) (hle : ∀ j, (st j).2 ≤ j + 10000) : OkG Tryz.prog 60 [.bx 0 0, .d (I64 (d : Nat))] (mkH L i) (mkH L (someM L st i).2) (.d (someM L st i).1.d) := by
  unfold mkH
  refine OkG.cell hT Tryz.func60 (by kernel_rfl) (c := _) rfl Tryz.ntmps60 (by simp) Tryz.results60 fun w0 X hp => ?_
  refine LWp.seq ?_
  refine LWp.rz hT hW ?_
  simp
  refine LWp.seq ?_
  refine LWp.rz hT hW ?_
  simp
  refine LWp.nlCell (fz := false) (cs := [.d (I64 8), .d (.str []), .d (I64 0), .nl]) 5 3 1034 4 (by decide) ⟨by simp, by simp, by simp, ?_⟩
  simp
  refine LWp.seq ?_
  have ha := MTake_ok L i 4 hL (by omega) (by decide)
  have hr := atL_range L i 4 (by decide)
  obtain ⟨n, hn⟩ : ∃ n : Nat, atL L i 4 = (n : Int) := ⟨(atL L i 4).toNat, by omega⟩
  have hsm : someM L st i = (.mk 8 [] 0 (somesM L st n [] (i + 1)).1, (somesM L st n [] (i + 1)).2) := by unfold someM; simp only []; rw [hn]; rfl
  rw [hn] at ha
  refine LWp.ro hT hW (fun | 10 => some (.gen ⟨[(0, 0)], [], [], mkH L (i + 1), .d (I64 (n : Nat))⟩) | _ => none) ?_
  simp
  refine ⟨by simpa using ha, ?_⟩
  refine LWp.seq ?_
  refine LWp.seq ?_
  refine LWp.rz hT hW ?_
  simp
  refine LWp.block ?_
  refine LWp.loopW (ι := SmS) (fun ⟨c, ks, j⟩ => mkEnv [(0, .bx 0 0), (1, .d (I64 (d : Nat))), (4, .bx 4 0), (5, .bx 5 0), (6, .d (I64 (n : Nat))), (7, .d (I64 (c : Nat)))]) (fun ⟨c, ks, j⟩ => mkObs [(0, .box false [.d (.sl (L.map I64)), .d (I64 (j : Nat))]), (4, .box false [.d (I64 0), .d (.str []), .d (I64 0), .nl]), (5, .box false [.d (I64 8), .d (.str []), .d (I64 0), .ow 1034 0 ks.length]), (1034, .row false 4 (ks.map Nd.d))]) (fun ⟨c, ks, j⟩ => c ≤ n ∧ j ≤ i + 1 + c * 10000 ∧ ks.length ≤ c ∧ somesM L st n [] (i + 1) = somesM L st (n - c) ks j) (fun ⟨c, ks, j⟩ => n - c) ⟨0, [], i + 1⟩ (Weak.to [0, 1, 4, 5, 6, 7] [(0, 0), (4, 4), (5, 5), (1034, 1034)] (by decide) (by decide) (by simp [hp]) (by simp) (by simp)) (⟨Nat.zero_le _, by omega, Nat.le_refl _, rfl⟩) fun ⟨c, ks, j⟩ hi4 => ?_
  refine LWp.seq ?_
  refine LWp.seq ?_
  refine LWp.regAny hT hW hMixed (lk [[],[],[0,1],[0,1,2],[0,1,2,3],[0,1,2,3,4],[0,1,2,3,4,5],[0,1,2,3,4,5,6],[0,1,2,3],[0,1,2,3,8],[0,1,2,3,8,9],[0,1,2,3,8,9,10],[0,1,2,3,8,9,10,11],[0,1,2,3,4,5,6,7,8,9,10,11,12],[0,1,2,3,4,5,6,7,8,9,10,11,12,13]]) (lk [[],[],[],[],[],[],[],[],[],[],[],[],[],[],[]]) (lk [[],[],[],[],[],[],[],[],[],[],[],[],[],[],[]]) (by kernel_rfl) (fun _ => none) (fun _ => ⟨rfl, fun _ h => h⟩) ?_
  simp
  refine LWp.iff ?_
  simp
  refine ⟨fun g1 g2 => ?_, fun g => ?_⟩
  · refine LWp.skip ?_
    simp
    refine LWp.seq ?_
    refine LWp.block ?_
    have hs := hS j (by have := hi4.2.1; omega)
    have hkl := hi4.2.2.1
    refine LWp.regAny hT hW hMixed (lk [[],[0],[],[],[2,3],[2,3,4],[0,1,2,3,4,5],[0,1,2,3,4,5,6],[0,1,2,3,4,5,6,7]]) (lk [[0,33],[0,33],[],[],[],[],[],[],[]]) (lk [[],[],[],[],[0],[33],[34,1034],[],[5]]) (by kernel_rfl) (fun | 32 => some (.gen ⟨[(0, 0)], [], [], mkH L (st j).2, .d (st j).1.d⟩) | _ => none) (by intro d; first | exact ⟨rfl, fun _ h => h⟩ | (split <;> exact ⟨rfl, fun _ h => h⟩)) ?_
    simp
    refine ⟨by (repeat' with_reducible apply And.intro) <;> first | omega | (simpa using hs), ?_⟩
    refine LWp.rz hT hW ?_
    simp
    refine ⟨by omega, ?_⟩
    refine loopQ.mk ⟨c + 1, ks ++ [(st j).1], (st j).2⟩ (Weak.to [0, 1, 4, 5, 6, 7] [(0, 0), (4, 4), (5, 5), (34, 1034)] (by decide) (by decide) (by simp [hp]) (by simp) (by simp)) ?_ ?_
    · refine ⟨(show c + 1 ≤ n by omega), ?_, ?_, ?_⟩
      · have := hle j
        show (st j).2 ≤ i + 1 + (c + 1) * 10000
        omega
      · show (ks ++ [(st j).1]).length ≤ c + 1
        rw [List.length_append, List.length_singleton]
        omega
      · rw [hi4.2.2.2, somes_go (by omega) (by omega)]
        rfl
    · show n - (c + 1) < n - c
      omega
  · refine LWp.exit ?_
    simp
    refine LWp.seq ?_
    refine LWp.rz hT hW ?_
    simp
    refine LWp.ret ?_
    simp
    have e : someM L st i = (.mk 8 [] 0 ks, j) := by rw [hsm, hi4.2.2.2, somes_end (by rcases Nat.lt_or_ge c n with q | q; exact .inr (by have := g (by omega); omega); exact .inl (by omega))]
    refine Weak.closed (x := (someM L st i).1.d) (by simp [e]) ?_
    simp
    exact Weak.to [0] [(0, 0)] (by decide) (by decide) (by simp [hp]) (by simp) (by simp [e])
structure NdN where
  x : Nd
  j : Nat
def oneK (L : List Int) (d i : Nat) : Int := if d = 0 ∧ (9 + atL L i 17 = 11 ∨ 9 + atL L i 17 = 12) then 24 else 9 + atL L i 17
def oneC (L : List Int) (bl : Nat → Nd × Nat) (k : Int) (i : Nat) : Nd × Nat :=
  if k = 9 then (.mk k (ownM L i) 0 [(valueM L 2 (i + 1)).1], (valueM L 2 (i + 1)).2)
  else if k = 10 then (.mk k [] 0 [(placeM L i).1, (valueM L 2 (placeM L i).2).1], (valueM L 2 (placeM L i).2).2)
  else if k = 11 ∨ k = 12 then
    (if k = 11 then (if atL L (bl (valueM L 1 i).2).2 2 = 0 then (.mk k [] 0 [(valueM L 1 i).1, (bl (valueM L 1 i).2).1, (bl ((bl (valueM L 1 i).2).2 + 1)).1], (bl ((bl (valueM L 1 i).2).2 + 1)).2) else (.mk k [] 0 [(valueM L 1 i).1, (bl (valueM L 1 i).2).1], (bl (valueM L 1 i).2).2 + 1))
    else (.mk k [] 0 [(valueM L 1 i).1, (bl (valueM L 1 i).2).1], (bl (valueM L 1 i).2).2))
  else if k = 13 ∨ k = 14 ∨ k = 17 ∨ k = 18 then (.mk k (callM L i) 0 [], i + 1)
  else if k = 15 ∨ k = 22 then (.mk k (callM L i) 0 [(valueM L 1 (i + 1)).1], (valueM L 1 (i + 1)).2)
  else if k = 16 ∨ k = 23 then (.mk k (callM L i) 0 [.mk 33 (ownM L (i + 1)) 0 []], i + 2)
  else if k = 19 then (.mk k (ownM L i) (2 + atL L (i + 1) 5) [], i + 2)
  else if k = 20 then (.mk k (ownM L i) 0 [], i + 1)
  else if k = 21 then (.mk k [] (1 + atL L i 9) [], i + 1)
  else if k = 25 then (.mk k [] (1 + atL L i 99) [], i + 1)
  else (.mk k [] 0 [(valueM L 2 i).1], (valueM L 2 i).2)
theorem oneB_eq {L : List Int} {d i : Nat} {bl : Nat → Nd × Nat} {k : Int} (hk : oneK L d i = k) : oneB L d bl i = oneC L bl k (i + 1) := by subst hk; rfl
theorem oneK_range {L : List Int} {d i : Nat} {k : Int} (hk : oneK L d i = k) : 9 ≤ k ∧ k ≤ 25 ∧ (k = 11 ∨ k = 12 → 0 < d) := by
  subst hk
  have h := atL_range L i 17 (by decide)
  unfold oneK
  split <;> omega
theorem upds_mk {c : Prop} [Decidable c] {f : Nat → LObj} {l : DV} {a b : Int} {x : Nat} (h : f 0 = .box false [.d l, .d (I64 b)]) :
    upds f (if c then [(0, .box false [.d l, .d (I64 a)])] else []) x = if x = 0 then .box false [.d l, .d (I64 (if c then a else b))] else f x := by
  by_cases hc : c
  · simp only [hc, if_true, upds, upd]
  · simp only [hc, if_false, upds]
    split
    · rename_i e; rw [e]; exact h
    · rfl
theorem oneB_to {L : List Int} {d i C : Nat} {bl : Nat → Nd × Nat} (hb : ∀ j, (bl j).2 ≤ j + C) : (oneB L d bl i).2 ≤ i + 40 + 2 * C := by
  rw [oneB_eq rfl]
  have v1 := fun j => value_to L 1 j
  have v2 := fun j => value_to L 2 j
  have pl := place_to L (i + 1)
  unfold oneC
  have a1 := v1 (i + 1)
  have a2 := v1 (i + 2)
  have a3 := v2 (i + 1)
  have a4 := v2 (i + 2)
  have a5 := v2 (placeM L (i + 1)).2
  have b1 := hb (valueM L 1 (i + 1)).2
  have b2 := hb ((bl (valueM L 1 (i + 1)).2).2 + 1)
  simp only [Nat.add_assoc, Nat.reduceAdd, Nat.reducePow, Nat.reduceMul] at *
  split
  · simp only; omega
  · split
    · simp only; omega
    · split
      · split
        · split <;> simp only <;> omega
        · simp only; omega
      · split
        · simp only; omega
        · split
          · simp only; omega
          · split
            · simp only; omega
            · split
              · simp only; omega
              · split
                · simp only; omega
                · split
                  · simp only; omega
                  · split <;> simp only <;> omega
set_option maxHeartbeats 1000000 in
theorem MOne_step (L : List Int) (d i : Nat) (bl : Nat → Nd × Nat) (hL : MkL L) (hll : L.length ≤ 1000000) (m : Nat) (hi : i ≤ m) (hm : m ≤ 1800000) (hd : d ≤ 1000) (hB : ∀ e, d = e + 1 → Makes L 60 e (m + 30000) bl) (hle : ∀ j, (bl j).2 ≤ j + 20000) : OkG Tryz.prog 37 [.bx 0 0, .d (I64 (d : Nat))] (mkH L i) (mkH L (oneB L d bl i).2) (.d (oneB L d bl i).1.d) := by
  unfold mkH
  refine OkG.cell hT Tryz.func37 (by kernel_rfl) (c := _) rfl Tryz.ntmps37 (by simp) Tryz.results37 fun w0 X hp => ?_
  refine LWp.seq ?_
  refine LWp.rz hT hW ?_
  simp
  refine LWp.seq ?_
  have ha := MTake_ok L i 17 hL (by omega) (by decide)
  have hr := atL_range L i 17 (by decide)
  refine LWp.ro hT hW (fun | 8 => some (.gen ⟨[(0, 0)], [], [], mkH L (i + 1), .d (I64 (atL L i 17))⟩) | _ => none) ?_
  simp
  refine ⟨by (repeat' with_reducible apply And.intro) <;> first | omega | (simpa using ha), ?_⟩
  refine LWp.seqCut (ι := KC) (fun ⟨k⟩ => mkEnv [(0, .bx 0 0), (1, .d (I64 (d : Nat))), (4, .bx 4 0), (5, .bx 5 0)]) (fun ⟨k⟩ => mkObs [(0, .box false [.d (.sl (L.map I64)), .d (I64 ((i + 1 : Nat) : Int))]), (4, .box false [.d (I64 0), .d (.str []), .d (I64 0), .nl]), (5, .box false [.d (I64 k), .d (.str []), .d (I64 0), .nl])]) (fun ⟨k⟩ => oneK L d i = k) ?_ fun ⟨k⟩ hc4 => ?_
  · refine LWp.seq ?_
    refine LWp.rz hT hW ?_
    simp
    refine ⟨fun a b => ⟨a, b⟩, ?_⟩
    refine LWp.iff ?_
    simp
    refine ⟨fun g1 g2 => ?_, fun g => ?_⟩
    · refine LWp.rz hT hW ?_
      simp
      refine cutQ.mk ⟨24⟩ (Weak.to [0, 1, 4, 5] [(0, 0), (4, 4), (5, 5)] (by decide) (by decide) (by simp [hp]) (by simp) (by simp)) ?_
      unfold oneK; rw [if_pos ⟨by omega, by omega⟩]
    · refine LWp.skip ?_
      simp
      refine cutQ.mk ⟨9 + atL L i 17⟩ (Weak.to [0, 1, 4, 5] [(0, 0), (4, 4), (5, 5)] (by decide) (by decide) (by simp [hp]) (by simp) (by simp)) ?_
      unfold oneK; rw [if_neg (by omega)]
  · refine LWp.seqCut (ι := NdN) (fun ⟨x, j⟩ => mkEnv [(0, .bx 0 0), (1, .d (I64 (d : Nat))), (4, .bx 4 0), (5, .bx 5 0)]) (fun ⟨x, j⟩ => mkObs [(0, .box false [.d (.sl (L.map I64)), .d (I64 (j : Nat))]), (4, .box false [.d (I64 0), .d (.str []), .d (I64 0), .nl]), (5, .box false [.d (I64 x.kind), .d (.str x.text), .d (I64 x.n), .d (ndsD x.kids)])]) (fun ⟨x, j⟩ => oneB L d bl i = (x, j)) ?_ fun ⟨x, j⟩ hc41 => ?_
    · refine LWp.seq ?_
      refine LWp.rz hT hW ?_
      simp
      refine LWp.block ?_
      refine LWp.seq ?_
      refine LWp.rz hT hW ?_
      simp
      refine LWp.iff ?_
      simp
      refine ⟨fun h5 => ?_, fun h5 => ?_⟩
      · refine LWp.seq ?_
        have hc6 := MOwn_ok L (i + 1) hL (by omega)
        refine LWp.ro hT hW (fun | 29 => some (.gen ⟨[(0, 0)], [], [], mkH L (i + 2), .d (.str (ownM L (i + 1)))⟩) | _ => none) ?_
        simp
        refine ⟨by simpa using hc6, ?_⟩
        have hv := MValue_ok L hL hll 2 (i + 2) (by omega)
        refine LWp.ro hT hW (fun | 32 => some (.gen ⟨[(0, 0)], [], [], mkH L (valueM L 2 (i + 2)).2, .d (valueM L 2 (i + 2)).1.d⟩) | _ => none) ?_
        simp
        refine ⟨by simpa using hv, ?_⟩
        refine exWeak (Weak.shutBox 5 [33] (fz := false) (cs := [.d (I64 k), .d (.str (ownM L (i + 1))), .d (I64 (0)), .ow 33 0 1]) (ds := [I64 k, .str (ownM L (i + 1)), I64 (0), .sl [((valueM L 2 (i + 2)).1).d]]) (by simp) (by simp) (by simp) (by simp [LObj.mut])) ?_
        simp
        refine cutQ.mk ⟨.mk k (ownM L (i + 1)) (0) [(valueM L 2 (i + 2)).1], (valueM L 2 (i + 2)).2⟩ (Weak.to [0, 1, 4, 5] [(0, 0), (4, 4), (5, 5)] (by decide) (by decide) (by simp [hp]) (by simp) (by simp)) ?_
        rw [oneB_eq hc4]
        unfold oneC
        repeat (first | rw [if_pos (by omega)] | rw [if_neg (by omega)])
      · refine LWp.seq ?_
        refine LWp.rz hT hW ?_
        simp
        refine LWp.iff ?_
        simp
        refine ⟨fun h8 => ?_, fun h8 => ?_⟩
        · refine LWp.seq ?_
          have hpl := MAt_ok L (i + 1) hL (by omega)
          have tpl := place_to L (i + 1)
          refine LWp.ro hT hW (fun | 38 => some (.gen ⟨[(0, 0)], [], [], mkH L (placeM L (i + 1)).2, .d (placeM L (i + 1)).1.d⟩) | _ => none) ?_
          simp
          refine ⟨by simpa using hpl, ?_⟩
          have hv := MValue_ok L hL hll 2 (placeM L (i + 1)).2 (by omega)
          refine LWp.regAny hT hW hMixed (lk [[],[],[1],[0,1,2],[0,1,2,3],[0,1,2,3,4]]) (lk [[0],[],[],[],[],[]]) (lk [[],[],[0],[42],[],[5]]) (by kernel_rfl) (fun | 41 => some (.gen ⟨[(0, 0)], [], [], mkH L (valueM L 2 (placeM L (i + 1)).2).2, .d (valueM L 2 (placeM L (i + 1)).2).1.d⟩) | _ => none) (by intro d; first | exact ⟨rfl, fun _ h => h⟩ | (split <;> exact ⟨rfl, fun _ h => h⟩)) ?_
          simp
          refine ⟨⟨by simpa using hv, by decide⟩, ?_⟩
          refine exWeak (Weak.shutBox 5 [42] (fz := false) (cs := [.d (I64 k), .d (.str ([])), .d (I64 (0)), .ow 42 0 2]) (ds := [I64 k, .str ([]), I64 (0), .sl [((placeM L (i + 1)).1).d, ((valueM L 2 (placeM L (i + 1)).2).1).d]]) (by simp) (by simp) (by simp) (by simp [LObj.mut])) ?_
          simp
          refine cutQ.mk ⟨.mk k ([]) (0) [(placeM L (i + 1)).1, (valueM L 2 (placeM L (i + 1)).2).1], (valueM L 2 (placeM L (i + 1)).2).2⟩ (Weak.to [0, 1, 4, 5] [(0, 0), (4, 4), (5, 5)] (by decide) (by decide) (by simp [hp]) (by simp) (by simp)) ?_
          rw [oneB_eq hc4]
          unfold oneC
          repeat (first | rw [if_pos (by omega)] | rw [if_neg (by omega)])
        · refine LWp.seqCut (ι := BC) (fun ⟨b⟩ => mkEnv [(0, .bx 0 0), (1, .d (I64 (d : Nat))), (4, .bx 4 0), (5, .bx 5 0), (25, .d (I64 (k))), (44, .d (.bool b))]) (fun ⟨b⟩ => mkObs [(0, .box false [.d (.sl (L.map I64)), .d (I64 ((i + 1 : Nat) : Int))]), (4, .box false [.d (I64 0), .d (.str []), .d (I64 0), .nl]), (5, .box false [.d (I64 k), .d (.str []), .d (I64 0), .nl])]) (fun ⟨b⟩ => b = true ↔ (k = 11 ∨ k = 12)) ?_ fun ⟨b⟩ hc13 => ?_
          · refine LWp.seq ?_
            refine LWp.rz hT hW ?_
            simp
            refine LWp.iff ?_
            simp
            refine ⟨fun h11 => ?_, fun h11 => ?_⟩
            · refine LWp.skip ?_
              simp
              refine cutQ.mk ⟨decide (k = 11)⟩ (Weak.to [0, 1, 4, 5, 25, 44] [(0, 0), (4, 4), (5, 5)] (by decide) (by decide) (by simp [hp]) (by simp) (by simp)) ?_
              simp [h11]
            · refine LWp.rz hT hW ?_
              simp
              refine cutQ.mk ⟨decide (k = 12)⟩ (Weak.to [0, 1, 4, 5, 25, 44] [(0, 0), (4, 4), (5, 5)] (by decide) (by decide) (by simp [hp]) (by simp) (by simp)) ?_
              simp only [decide_eq_true_eq]; omega
          · refine LWp.iff ?_
            simp
            refine ⟨fun h13 => ?_, fun h13 => ?_⟩
            · have q13 := hc13.1 h13
              refine LWp.seq ?_
              obtain ⟨e, hde⟩ : ∃ e, d = e + 1 := ⟨d - 1, by have := (oneK_range hc4).2.2 q13; omega⟩
              have hBe := hB e hde
              subst hde
              have hv := MValue_ok L hL hll 1 (i + 1) (by omega)
              have tv := value_to L 1 (i + 1)
              obtain ⟨a, ha1⟩ : ∃ a, a = valueM L 1 (i + 1) := ⟨_, rfl⟩
              rw [← ha1] at hv tv
              have hs1 := hBe a.2 (by omega)
              obtain ⟨b, hb1⟩ : ∃ b, b = bl a.2 := ⟨_, rfl⟩
              have tb := hle a.2
              rw [← hb1] at hs1 tb
              have hs2 := hBe (b.2 + 1) (by omega)
              obtain ⟨c, hc1⟩ : ∃ c, c = bl (b.2 + 1) := ⟨_, rfl⟩
              rw [← hc1] at hs2
              have ht2 := MTake_ok L b.2 2 hL (by omega) (by decide)
              have ez : ((e : Int) + 1) - 1 = e := by omega
              refine LWp.ro hT hW (fun | 48 => some (.gen ⟨[(0, 0)], [], [], mkH L a.2, .d a.1.d⟩) | _ => none) ?_
              simp
              refine ⟨by simpa using hv, ?_⟩
              refine LWp.seq ?_
              refine LWp.regAny hT hW hMixed (lk [[],[0],[],[],[3],[2,3,4],[2,3,4,5],[0,1,2,3,4,5,6],[0,1,2,3,4,5,6,7],[0,1,2,3,4,5,6,7,8]]) (lk [[0,57],[0,57],[],[],[],[],[],[],[],[]]) (lk [[],[],[],[],[],[0],[57],[58,49],[],[5]]) (by kernel_rfl) (fun | 56 => some (.gen ⟨[(0, 0)], [], [], mkH L b.2, .d b.1.d⟩) | _ => none) (by intro d; first | exact ⟨rfl, fun _ h => h⟩ | (split <;> exact ⟨rfl, fun _ h => h⟩)) ?_
              simp [ez]
              refine ⟨by (repeat' with_reducible apply And.intro) <;> first | omega | (simpa using hs1) | decide, ?_⟩
              refine LWp.seq ?_
              refine LWp.ro hT hW (fun | 65 => some (.gen ⟨[(0, 0)], [], [], mkH L (b.2 + 1), .d (I64 (atL L b.2 2))⟩) | _ => none) ?_
              simp [upds_mk (b := (b.2 : Int))]
              refine ⟨fun _ => by simpa using ht2, ?_⟩
              refine LWp.iff ?_
              simp
              refine ⟨fun g3 g4 => ?_, fun g3 => ?_⟩
              · simp only [if_pos g3]
                refine LWp.regAny hT hW hMixed (lk [[],[0],[],[],[3],[2,3,4],[2,3,4,5],[0,1,2,3,4,5,6],[0,1,2,3,4,5,6,7],[0,1,2,3,4,5,6,7,8]]) (lk [[0,74],[0,74],[],[],[],[],[],[],[],[]]) (lk [[],[],[],[],[],[0],[74],[75,58],[],[5]]) (by kernel_rfl) (fun | 73 => some (.gen ⟨[(0, 0)], [], [], mkH L c.2, .d c.1.d⟩) | _ => none) (by intro d; first | exact ⟨rfl, fun _ h => h⟩ | (split <;> exact ⟨rfl, fun _ h => h⟩)) ?_
                simp [ez]
                refine ⟨by (repeat' with_reducible apply And.intro) <;> first | omega | (simpa using hs2) | decide, ?_⟩
                refine exWeak (Weak.shutBox 5 [75] (fz := false) (cs := [.d (I64 k), .d (.str ([])), .d (I64 (0)), .ow 75 0 3]) (ds := [I64 k, .str ([]), I64 (0), .sl [(a.1).d, (b.1).d, (c.1).d]]) (by simp) (by simp) (by simp) (by simp [LObj.mut])) ?_
                simp
                refine cutQ.mk ⟨.mk k ([]) (0) [a.1, b.1, c.1], c.2⟩ (Weak.to [0, 1, 4, 5] [(0, 0), (4, 4), (5, 5)] (by decide) (by decide) (by simp [hp]) (by simp) (by simp [g3])) ?_
                rw [oneB_eq hc4]
                unfold oneC
                rw [← ha1, ← hb1, ← hc1, if_neg (by omega), if_neg (by omega), if_pos (by omega), if_pos g3, if_pos g4]
              · refine LWp.skip ?_
                simp
                refine exWeak (Weak.shutBox 5 [58] (fz := false) (cs := [.d (I64 k), .d (.str ([])), .d (I64 (0)), .ow 58 0 2]) (ds := [I64 k, .str ([]), I64 (0), .sl [(a.1).d, (b.1).d]]) (by simp) (by simp) (by simp) (by simp [LObj.mut])) ?_
                simp
                refine cutQ.mk ⟨.mk k ([]) (0) [a.1, b.1], if k = 11 then b.2 + 1 else b.2⟩ (Weak.to [0, 1, 4, 5] [(0, 0), (4, 4), (5, 5)] (by decide) (by decide) (by simp [hp]) (by simp) (by by_cases hk : k = 11 <;> simp [hk])) ?_
                rw [oneB_eq hc4]
                unfold oneC
                rw [← ha1, ← hb1]
                by_cases hk : k = 11
                · rw [if_neg (by omega), if_neg (by omega), if_pos (by omega), if_pos hk, if_neg (g3 hk)]
                  simp [hk]
                · rw [if_neg (by omega), if_neg (by omega), if_pos (by omega), if_neg hk]
                  simp [hk]
            · have q13 : ¬ (k = 11 ∨ k = 12) := fun q => by simp [hc13.2 q] at h13
              refine LWp.seqCut (ι := BC) (fun ⟨b⟩ => mkEnv [(0, .bx 0 0), (1, .d (I64 (d : Nat))), (4, .bx 4 0), (5, .bx 5 0), (25, .d (I64 (k))), (77, .d (.bool b))]) (fun ⟨b⟩ => mkObs [(0, .box false [.d (.sl (L.map I64)), .d (I64 ((i + 1 : Nat) : Int))]), (4, .box false [.d (I64 0), .d (.str []), .d (I64 0), .nl]), (5, .box false [.d (I64 k), .d (.str []), .d (I64 0), .nl])]) (fun ⟨b⟩ => b = true ↔ (k = 13 ∨ k = 14 ∨ k = 17 ∨ k = 18)) ?_ fun ⟨b⟩ hc21 => ?_
              · refine LWp.seq ?_
                refine LWp.rz hT hW ?_
                simp
                refine LWp.iff ?_
                simp
                refine ⟨fun h17 => ?_, fun h17 => ?_⟩
                · refine LWp.skip ?_
                  simp
                  refine cutQ.mk ⟨decide (k = 13)⟩ (Weak.to [0, 1, 4, 5, 25, 77] [(0, 0), (4, 4), (5, 5)] (by decide) (by decide) (by simp [hp]) (by simp) (by simp)) ?_
                  simp [h17]
                · refine LWp.seq ?_
                  refine LWp.rz hT hW ?_
                  simp
                  refine LWp.iff ?_
                  simp
                  refine ⟨fun h18 => ?_, fun h18 => ?_⟩
                  · refine LWp.skip ?_
                    simp
                    refine cutQ.mk ⟨decide (k = 14)⟩ (Weak.to [0, 1, 4, 5, 25, 77] [(0, 0), (4, 4), (5, 5)] (by decide) (by decide) (by simp [hp]) (by simp) (by simp)) ?_
                    simp [h18]
                  · refine LWp.seq ?_
                    refine LWp.rz hT hW ?_
                    simp
                    refine LWp.iff ?_
                    simp
                    refine ⟨fun h19 => ?_, fun h19 => ?_⟩
                    · refine LWp.skip ?_
                      simp
                      refine cutQ.mk ⟨decide (k = 17)⟩ (Weak.to [0, 1, 4, 5, 25, 77] [(0, 0), (4, 4), (5, 5)] (by decide) (by decide) (by simp [hp]) (by simp) (by simp)) ?_
                      simp [h19]
                    · refine LWp.rz hT hW ?_
                      simp
                      refine cutQ.mk ⟨decide (k = 18)⟩ (Weak.to [0, 1, 4, 5, 25, 77] [(0, 0), (4, 4), (5, 5)] (by decide) (by decide) (by simp [hp]) (by simp) (by simp)) ?_
                      simp only [decide_eq_true_eq]; omega
              · refine LWp.iff ?_
                simp
                refine ⟨fun h21 => ?_, fun h21 => ?_⟩
                · have q21 := hc21.1 h21
                  have hc6 := MCalled_ok L (i + 1) hL (by omega)
                  refine LWp.ro hT hW (fun | 83 => some (.gen ⟨[(0, 0)], [], [], mkH L (i + 2), .d (.str (callM L (i + 1)))⟩) | _ => none) ?_
                  simp
                  refine ⟨by simpa using hc6, ?_⟩
                  refine exWeak (Weak.shutBox 5 [] (fz := false) (cs := [.d (I64 k), .d (.str (callM L (i + 1))), .d (I64 (0)), .nl]) (ds := [I64 k, .str (callM L (i + 1)), I64 (0), .sl []]) (by simp) (by simp) (by simp) (by simp [LObj.mut])) ?_
                  simp
                  refine cutQ.mk ⟨.mk k (callM L (i + 1)) (0) [], i + 2⟩ (Weak.to [0, 1, 4, 5] [(0, 0), (4, 4), (5, 5)] (by decide) (by decide) (by simp [hp]) (by simp) (by simp)) ?_
                  rw [oneB_eq hc4]
                  unfold oneC
                  repeat (first | rw [if_pos (by omega)] | rw [if_neg (by omega)])
                · have q21 : ¬ (k = 13 ∨ k = 14 ∨ k = 17 ∨ k = 18) := fun q => by simp [hc21.2 q] at h21
                  refine LWp.seqCut (ι := BC) (fun ⟨b⟩ => mkEnv [(0, .bx 0 0), (1, .d (I64 (d : Nat))), (4, .bx 4 0), (5, .bx 5 0), (25, .d (I64 (k))), (85, .d (.bool b))]) (fun ⟨b⟩ => mkObs [(0, .box false [.d (.sl (L.map I64)), .d (I64 ((i + 1 : Nat) : Int))]), (4, .box false [.d (I64 0), .d (.str []), .d (I64 0), .nl]), (5, .box false [.d (I64 k), .d (.str []), .d (I64 0), .nl])]) (fun ⟨b⟩ => b = true ↔ (k = 15 ∨ k = 22)) ?_ fun ⟨b⟩ hc24 => ?_
                  · refine LWp.seq ?_
                    refine LWp.rz hT hW ?_
                    simp
                    refine LWp.iff ?_
                    simp
                    refine ⟨fun h22 => ?_, fun h22 => ?_⟩
                    · refine LWp.skip ?_
                      simp
                      refine cutQ.mk ⟨decide (k = 15)⟩ (Weak.to [0, 1, 4, 5, 25, 85] [(0, 0), (4, 4), (5, 5)] (by decide) (by decide) (by simp [hp]) (by simp) (by simp)) ?_
                      simp [h22]
                    · refine LWp.rz hT hW ?_
                      simp
                      refine cutQ.mk ⟨decide (k = 22)⟩ (Weak.to [0, 1, 4, 5, 25, 85] [(0, 0), (4, 4), (5, 5)] (by decide) (by decide) (by simp [hp]) (by simp) (by simp)) ?_
                      simp only [decide_eq_true_eq]; omega
                  · refine LWp.iff ?_
                    simp
                    refine ⟨fun h24 => ?_, fun h24 => ?_⟩
                    · have q24 := hc24.1 h24
                      refine LWp.seq ?_
                      have hc6 := MCalled_ok L (i + 1) hL (by omega)
                      refine LWp.ro hT hW (fun | 89 => some (.gen ⟨[(0, 0)], [], [], mkH L (i + 2), .d (.str (callM L (i + 1)))⟩) | _ => none) ?_
                      simp
                      refine ⟨by simpa using hc6, ?_⟩
                      have hv := MValue_ok L hL hll 1 (i + 2) (by omega)
                      refine LWp.ro hT hW (fun | 92 => some (.gen ⟨[(0, 0)], [], [], mkH L (valueM L 1 (i + 2)).2, .d (valueM L 1 (i + 2)).1.d⟩) | _ => none) ?_
                      simp
                      refine ⟨by simpa using hv, ?_⟩
                      refine exWeak (Weak.shutBox 5 [93] (fz := false) (cs := [.d (I64 k), .d (.str (callM L (i + 1))), .d (I64 (0)), .ow 93 0 1]) (ds := [I64 k, .str (callM L (i + 1)), I64 (0), .sl [((valueM L 1 (i + 2)).1).d]]) (by simp) (by simp) (by simp) (by simp [LObj.mut])) ?_
                      simp
                      refine cutQ.mk ⟨.mk k (callM L (i + 1)) (0) [(valueM L 1 (i + 2)).1], (valueM L 1 (i + 2)).2⟩ (Weak.to [0, 1, 4, 5] [(0, 0), (4, 4), (5, 5)] (by decide) (by decide) (by simp [hp]) (by simp) (by simp)) ?_
                      rw [oneB_eq hc4]
                      unfold oneC
                      repeat (first | rw [if_pos (by omega)] | rw [if_neg (by omega)])
                    · have q24 : ¬ (k = 15 ∨ k = 22) := fun q => by simp [hc24.2 q] at h24
                      refine LWp.seqCut (ι := BC) (fun ⟨b⟩ => mkEnv [(0, .bx 0 0), (1, .d (I64 (d : Nat))), (4, .bx 4 0), (5, .bx 5 0), (25, .d (I64 (k))), (95, .d (.bool b))]) (fun ⟨b⟩ => mkObs [(0, .box false [.d (.sl (L.map I64)), .d (I64 ((i + 1 : Nat) : Int))]), (4, .box false [.d (I64 0), .d (.str []), .d (I64 0), .nl]), (5, .box false [.d (I64 k), .d (.str []), .d (I64 0), .nl])]) (fun ⟨b⟩ => b = true ↔ (k = 16 ∨ k = 23)) ?_ fun ⟨b⟩ hc28 => ?_
                      · refine LWp.seq ?_
                        refine LWp.rz hT hW ?_
                        simp
                        refine LWp.iff ?_
                        simp
                        refine ⟨fun h26 => ?_, fun h26 => ?_⟩
                        · refine LWp.skip ?_
                          simp
                          refine cutQ.mk ⟨decide (k = 16)⟩ (Weak.to [0, 1, 4, 5, 25, 95] [(0, 0), (4, 4), (5, 5)] (by decide) (by decide) (by simp [hp]) (by simp) (by simp)) ?_
                          simp [h26]
                        · refine LWp.rz hT hW ?_
                          simp
                          refine cutQ.mk ⟨decide (k = 23)⟩ (Weak.to [0, 1, 4, 5, 25, 95] [(0, 0), (4, 4), (5, 5)] (by decide) (by decide) (by simp [hp]) (by simp) (by simp)) ?_
                          simp only [decide_eq_true_eq]; omega
                      · refine LWp.iff ?_
                        simp
                        refine ⟨fun h28 => ?_, fun h28 => ?_⟩
                        · have q28 := hc28.1 h28
                          refine LWp.seq ?_
                          have hc6 := MCalled_ok L (i + 1) hL (by omega)
                          refine LWp.ro hT hW (fun | 99 => some (.gen ⟨[(0, 0)], [], [], mkH L (i + 2), .d (.str (callM L (i + 1)))⟩) | _ => none) ?_
                          simp
                          refine ⟨by simpa using hc6, ?_⟩
                          have hc7 := MOwn_ok L (i + 2) hL (by omega)
                          refine LWp.ro hT hW (fun | 102 => some (.gen ⟨[(0, 0)], [], [], mkH L (i + 3), .d (.str (ownM L (i + 2)))⟩) | _ => none) ?_
                          simp
                          refine ⟨by simpa using hc7, ?_⟩
                          refine exWeak (Weak.shutBox 5 [104] (fz := false) (cs := [.d (I64 k), .d (.str (callM L (i + 1))), .d (I64 (0)), .ow 104 0 1]) (ds := [I64 k, .str (callM L (i + 1)), I64 (0), .sl [(Nd.mk 33 (ownM L (i + 2)) 0 []).d]]) (by simp) (by simp) (by simp) (by simp [LObj.mut])) ?_
                          simp
                          refine cutQ.mk ⟨.mk k (callM L (i + 1)) (0) [Nd.mk 33 (ownM L (i + 2)) 0 []], i + 3⟩ (Weak.to [0, 1, 4, 5] [(0, 0), (4, 4), (5, 5)] (by decide) (by decide) (by simp [hp]) (by simp) (by simp)) ?_
                          rw [oneB_eq hc4]
                          unfold oneC
                          repeat (first | rw [if_pos (by omega)] | rw [if_neg (by omega)])
                        · have q28 : ¬ (k = 16 ∨ k = 23) := fun q => by simp [hc28.2 q] at h28
                          refine LWp.seq ?_
                          refine LWp.rz hT hW ?_
                          simp
                          refine LWp.iff ?_
                          simp
                          refine ⟨fun h30 => ?_, fun h30 => ?_⟩
                          · refine LWp.seq ?_
                            have hc6 := MOwn_ok L (i + 1) hL (by omega)
                            refine LWp.ro hT hW (fun | 109 => some (.gen ⟨[(0, 0)], [], [], mkH L (i + 2), .d (.str (ownM L (i + 1)))⟩) | _ => none) ?_
                            simp
                            refine ⟨by simpa using hc6, ?_⟩
                            have hc7 := MTake_ok L (i + 2) 5 hL (by omega) (by decide)
                            have hr7 := atL_range L ((i : Int) + 2) 5 (by decide)
                            refine LWp.ro hT hW (fun | 112 => some (.gen ⟨[(0, 0)], [], [], mkH L (i + 3), .d (I64 (atL L ((i : Int) + 2) 5))⟩) | _ => none) ?_
                            simp
                            refine ⟨⟨by simpa using hc7, by omega⟩, ?_⟩
                            refine exWeak (Weak.shutBox 5 [] (fz := false) (cs := [.d (I64 k), .d (.str (ownM L (i + 1))), .d (I64 (2 + atL L ((i : Int) + 2) 5)), .nl]) (ds := [I64 k, .str (ownM L (i + 1)), I64 (2 + atL L ((i : Int) + 2) 5), .sl []]) (by simp) (by simp) (by simp) (by simp [LObj.mut])) ?_
                            simp
                            refine cutQ.mk ⟨.mk k (ownM L (i + 1)) (2 + atL L ((i : Int) + 2) 5) [], i + 3⟩ (Weak.to [0, 1, 4, 5] [(0, 0), (4, 4), (5, 5)] (by decide) (by decide) (by simp [hp]) (by simp) (by simp)) ?_
                            rw [oneB_eq hc4]
                            unfold oneC
                            repeat (first | rw [if_pos (by omega)] | rw [if_neg (by omega)])
                            simp
                          · refine LWp.seq ?_
                            refine LWp.rz hT hW ?_
                            simp
                            refine LWp.iff ?_
                            simp
                            refine ⟨fun h33 => ?_, fun h33 => ?_⟩
                            · have hc6 := MOwn_ok L (i + 1) hL (by omega)
                              refine LWp.ro hT hW (fun | 118 => some (.gen ⟨[(0, 0)], [], [], mkH L (i + 2), .d (.str (ownM L (i + 1)))⟩) | _ => none) ?_
                              simp
                              refine ⟨by simpa using hc6, ?_⟩
                              refine exWeak (Weak.shutBox 5 [] (fz := false) (cs := [.d (I64 k), .d (.str (ownM L (i + 1))), .d (I64 (0)), .nl]) (ds := [I64 k, .str (ownM L (i + 1)), I64 (0), .sl []]) (by simp) (by simp) (by simp) (by simp [LObj.mut])) ?_
                              simp
                              refine cutQ.mk ⟨.mk k (ownM L (i + 1)) (0) [], i + 2⟩ (Weak.to [0, 1, 4, 5] [(0, 0), (4, 4), (5, 5)] (by decide) (by decide) (by simp [hp]) (by simp) (by simp)) ?_
                              rw [oneB_eq hc4]
                              unfold oneC
                              repeat (first | rw [if_pos (by omega)] | rw [if_neg (by omega)])
                            · refine LWp.seq ?_
                              refine LWp.rz hT hW ?_
                              simp
                              refine LWp.iff ?_
                              simp
                              refine ⟨fun h35 => ?_, fun h35 => ?_⟩
                              · have hc7 := MTake_ok L (i + 1) 9 hL (by omega) (by decide)
                                have hr7 := atL_range L ((i : Int) + 1) 9 (by decide)
                                refine LWp.ro hT hW (fun | 123 => some (.gen ⟨[(0, 0)], [], [], mkH L (i + 2), .d (I64 (atL L ((i : Int) + 1) 9))⟩) | _ => none) ?_
                                simp
                                refine ⟨⟨by simpa using hc7, by omega⟩, ?_⟩
                                refine exWeak (Weak.shutBox 5 [] (fz := false) (cs := [.d (I64 k), .d (.str ([])), .d (I64 (1 + atL L ((i : Int) + 1) 9)), .nl]) (ds := [I64 k, .str ([]), I64 (1 + atL L ((i : Int) + 1) 9), .sl []]) (by simp) (by simp) (by simp) (by simp [LObj.mut])) ?_
                                simp
                                refine cutQ.mk ⟨.mk k ([]) (1 + atL L ((i : Int) + 1) 9) [], i + 2⟩ (Weak.to [0, 1, 4, 5] [(0, 0), (4, 4), (5, 5)] (by decide) (by decide) (by simp [hp]) (by simp) (by simp)) ?_
                                rw [oneB_eq hc4]
                                unfold oneC
                                repeat (first | rw [if_pos (by omega)] | rw [if_neg (by omega)])
                                simp
                              · refine LWp.seq ?_
                                refine LWp.rz hT hW ?_
                                simp
                                refine LWp.iff ?_
                                simp
                                refine ⟨fun h37 => ?_, fun h37 => ?_⟩
                                · have hc7 := MTake_ok L (i + 1) 99 hL (by omega) (by decide)
                                  have hr7 := atL_range L ((i : Int) + 1) 99 (by decide)
                                  refine LWp.ro hT hW (fun | 129 => some (.gen ⟨[(0, 0)], [], [], mkH L (i + 2), .d (I64 (atL L ((i : Int) + 1) 99))⟩) | _ => none) ?_
                                  simp
                                  refine ⟨⟨by simpa using hc7, by omega⟩, ?_⟩
                                  refine exWeak (Weak.shutBox 5 [] (fz := false) (cs := [.d (I64 k), .d (.str ([])), .d (I64 (1 + atL L ((i : Int) + 1) 99)), .nl]) (ds := [I64 k, .str ([]), I64 (1 + atL L ((i : Int) + 1) 99), .sl []]) (by simp) (by simp) (by simp) (by simp [LObj.mut])) ?_
                                  simp
                                  refine cutQ.mk ⟨.mk k ([]) (1 + atL L ((i : Int) + 1) 99) [], i + 2⟩ (Weak.to [0, 1, 4, 5] [(0, 0), (4, 4), (5, 5)] (by decide) (by decide) (by simp [hp]) (by simp) (by simp)) ?_
                                  rw [oneB_eq hc4]
                                  unfold oneC
                                  repeat (first | rw [if_pos (by omega)] | rw [if_neg (by omega)])
                                  simp
                                · refine LWp.seq ?_
                                  have hk24 : k = 24 := by have := oneK_range hc4; omega
                                  subst hk24
                                  refine LWp.rz hT hW ?_
                                  simp
                                  refine LWp.iff ?_
                                  simp
                                  have hv := MValue_ok L hL hll 2 (i + 1) (by omega)
                                  refine LWp.ro hT hW (fun | 135 => some (.gen ⟨[(0, 0)], [], [], mkH L (valueM L 2 (i + 1)).2, .d (valueM L 2 (i + 1)).1.d⟩) | _ => none) ?_
                                  simp
                                  refine ⟨by simpa using hv, ?_⟩
                                  refine exWeak (Weak.shutBox 5 [136] (fz := false) (cs := [.d (I64 24), .d (.str ([])), .d (I64 (0)), .ow 136 0 1]) (ds := [I64 24, .str ([]), I64 (0), .sl [((valueM L 2 (i + 1)).1).d]]) (by simp) (by simp) (by simp) (by simp [LObj.mut])) ?_
                                  simp
                                  refine cutQ.mk ⟨.mk 24 ([]) (0) [(valueM L 2 (i + 1)).1], (valueM L 2 (i + 1)).2⟩ (Weak.to [0, 1, 4, 5] [(0, 0), (4, 4), (5, 5)] (by decide) (by decide) (by simp [hp]) (by simp) (by simp)) ?_
                                  rw [oneB_eq hc4]
                                  unfold oneC
                                  repeat (first | rw [if_pos (by omega)] | rw [if_neg (by omega)])
    · refine LWp.seq ?_
      refine LWp.rz hT hW ?_
      simp
      refine LWp.ret ?_
      simp
      refine Weak.closed (x := (oneB L d bl i).1.d) (by simp [hc41]) ?_
      simp
      exact Weak.to [0] [(0, 0)] (by decide) (by decide) (by simp [hp]) (by simp) (by simp [hc41])
theorem somes_to {L : List Int} {st : Nat → Nd × Nat} {C : Nat} (h : ∀ j, (st j).2 ≤ j + C) : ∀ (m : Nat) (ks : List Nd) (j : Nat), (somesM L st m ks j).2 ≤ j + m * C
  | 0, ks, j => by simp [somesM]
  | m + 1, ks, j => by
    unfold somesM
    split
    · simp
    · have a := somes_to (L := L) h m (ks ++ [(st j).1]) (st j).2
      have b := h j
      rw [Nat.succ_mul]
      omega
theorem some_to {L : List Int} {st : Nat → Nd × Nat} {C : Nat} (h : ∀ j, (st j).2 ≤ j + C) (i : Nat) : (someM L st i).2 ≤ i + 1 + 3 * C := by
  have hr := atL_range L i 4 (by decide)
  have a := somes_to (L := L) h (atL L i 4).toNat [] (i + 1)
  have b : (atL L i 4).toNat * C ≤ 3 * C := Nat.mul_le_mul_right C (by omega)
  show (somesM L st (atL L i 4).toNat [] (i + 1)).2 ≤ _
  omega
def oneTo : Nat → Nat
  | 0 => 40
  | d + 1 => 40 + 2 * (1 + 3 * oneTo d)
theorem one_to (L : List Int) : ∀ d i, (oneM L d i).2 ≤ i + oneTo d
  | 0, i => by
    have h : ∀ j : Nat, ((fun _ => default : Nat → Nd × Nat) j).2 ≤ j + 0 := fun j => Nat.zero_le _
    have := oneB_to (L := L) (d := 0) (i := i) h
    rw [oneM]
    simp only [oneTo]
    omega
  | d + 1, i => by
    have h := fun j => some_to (L := L) (one_to L d) j
    have := oneB_to (L := L) (d := d + 1) (i := i) (bl := someM L (oneM L d)) (C := 1 + 3 * oneTo d) fun j => by have := h j; omega
    rw [oneM]
    simp only [oneTo]
    omega
theorem oneTo_le {d : Nat} (h : d ≤ 2) : oneTo d ≤ 2000 := by
  have : ∀ d : Nat, d < 3 → oneTo d ≤ 2000 := by decide
  exact this d (by omega)
theorem MOne_ok (L : List Int) (hL : MkL L) (hll : L.length ≤ 1000000) : ∀ (d : Nat), d ≤ 2 → ∀ b, b + 70000 * d ≤ 1800000 → Makes L 37 d b (oneM L d)
  | 0, _, b, hb => fun j hj => MOne_step L 0 j (fun _ => default) hL hll b hj (by omega) (by omega) (fun e he => by omega) fun j => by show 0 ≤ j + 20000; omega
  | d + 1, hd, b, hb => fun j hj => by
    have hst := oneTo_le (d := d) (by omega)
    have hle := fun j => some_to (L := L) (one_to L d) j
    obtain ⟨c, hc⟩ : ∃ c, c = b + 30000 := ⟨_, rfl⟩
    have h1 := MOne_ok L hL hll d (by omega) (c + 40000) (by omega)
    have h2 : Makes L 60 d c (someM L (oneM L d)) := fun i hi => MSome_step L d i (oneM L d) hL hll c hi (by omega) h1 fun j => by have := one_to L d j; omega
    refine MOne_step L (d + 1) j (someM L (oneM L d)) hL hll b hj (by omega) (by omega) (fun e he => ?_) fun j => ?_
    · have : e = d := by omega
      rw [this, ← hc]
      exact h2
    · have := hle j
      omega
end
open Go.Proofs
section
attribute [local simp] Res.cond Nd.d_eq nd_t nd_dr nd_td ndsD evalIndex retGC_ret constL1 Int.add_assoc upds_same one_i one_s one_l all4 mkH
theorem take_min (l : List Int) : List.take (if (48 : Int) < (l.length : Int) then 48 else (l.length : Int)).toNat (l.map I64) = (l.take 48).map I64 := by
  rw [← List.map_take]
  congr 1
  split
  · rfl
  · rw [show ((l.length : Int)).toNat = l.length from rfl, List.take_length, List.take_of_length_le (by omega)]
theorem kind_at {L : List Int} : (treeKinds.map I64)[(atL L 0 10).toNat]?.getD default = I64 (treeKinds.getD (atL L 0 10).toNat 0) := by
  have h := atL_range L 0 10 (by decide)
  have hk : (atL L 0 10).toNat < treeKinds.length := by show _ < 10; omega
  rw [List.getElem?_map, List.getElem?_eq_getElem hk]
  simp [List.getD_eq_getElem?_getD, hk]
theorem kind_rng {L : List Int} : 0 ≤ treeKinds.getD (atL L 0 10).toNat 0 ∧ treeKinds.getD (atL L 0 10).toNat 0 ≤ 6 := by
  have h := atL_range L 0 10 (by decide)
  have key : ∀ n : Nat, n < 10 → 0 ≤ treeKinds.getD n 0 ∧ treeKinds.getD n 0 ≤ 6 := by decide
  exact key _ (by omega)
theorem place_up (L : List Int) (i : Nat) : i + 2 ≤ (placeM L i).2 := by unfold placeM; split <;> simp
theorem value_up (L : List Int) : ∀ (d i : Nat), i + 1 ≤ (valueM L d i).2 := fun d => by
  induction d with
  | zero =>
    intro i
    obtain ⟨r0, _, r2⟩ := valK_range L 0 i
    have r2 := r2 rfl
    by_cases h0 : valK L 0 i = 0 ∨ valK L 0 i = 1
    · rw [value_num h0]; simp
    · by_cases h1 : valK L 0 i = 2
      · rw [value_loc h1]; simp
      · by_cases h2 : valK L 0 i = 3 ∨ valK L 0 i = 4
        · rw [value_place h2]; have := place_up L (i + 1); omega
        · rw [value_kind (by omega)]; simp
  | succ e ih =>
    intro i
    obtain ⟨r0, _, _⟩ := valK_range L (e + 1) i
    by_cases h0 : valK L (e + 1) i = 0 ∨ valK L (e + 1) i = 1
    · rw [value_num h0]; simp
    · by_cases h1 : valK L (e + 1) i = 2
      · rw [value_loc h1]; simp
      · by_cases h3 : valK L (e + 1) i = 3 ∨ valK L (e + 1) i = 4
        · rw [value_place h3]; have := place_up L (i + 1); omega
        · by_cases h4 : valK L (e + 1) i = 5
          · rw [value_kind h4]; simp
          · rw [value_bin (by omega)]
            have a := ih (i + 1)
            have b := ih (valueM L e (i + 1)).2
            simp only
            omega
theorem oneB_up {L : List Int} {d i : Nat} {bl : Nat → Nd × Nat} (hb : 0 < d → ∀ j, j ≤ (bl j).2) : i + 1 ≤ (oneB L d bl i).2 := by
  rw [oneB_eq rfl]
  have hk := oneK_range (L := L) (d := d) (i := i) rfl
  have pl := place_up L (i + 1)
  have a1 := value_up L 1 (i + 1)
  have a2 := value_up L 1 (i + 2)
  have a3 := value_up L 2 (i + 1)
  have a4 := value_up L 2 (i + 2)
  have a5 := value_up L 2 (placeM L (i + 1)).2
  unfold oneC
  simp only [Nat.add_assoc, Nat.reduceAdd] at *
  split
  · simp only; omega
  · split
    · simp only; omega
    · split
      · rename_i h
        have hb := hb (hk.2.2 h)
        have b1 := hb (valueM L 1 (i + 1)).2
        have b2 := hb ((bl (valueM L 1 (i + 1)).2).2 + 1)
        split
        · split <;> simp only <;> omega
        · simp only; omega
      · repeat (first | (simp only; omega) | split)
theorem somes_up {L : List Int} {st : Nat → Nd × Nat} (h : ∀ j, j ≤ (st j).2) : ∀ (m : Nat) (ks : List Nd) (j : Nat), j ≤ (somesM L st m ks j).2
  | 0, ks, j => Nat.le_refl _
  | m + 1, ks, j => by
    unfold somesM
    split
    · exact Nat.le_refl _
    · have a := somes_up (L := L) h m (ks ++ [(st j).1]) (st j).2
      have b := h j
      omega
theorem one_up (L : List Int) : ∀ d i, i + 1 ≤ (oneM L d i).2
  | 0, i => by rw [oneM]; exact oneB_up fun h => absurd h (Nat.lt_irrefl _)
  | d + 1, i => by
    rw [oneM]
    refine oneB_up fun _ j => ?_
    have := somes_up (L := L) (st := oneM L d) (fun j => by have := one_up L d j; omega) (atL L j 4).toNat [] (j + 1)
    show j ≤ (somesM L (oneM L d) (atL L j 4).toNat [] (j + 1)).2
    omega
theorem body_end {L : List Int} {m : Nat} {ks : List Nd} {j : Nat} (h : L.length ≤ j) : bodyM L m ks j = ks := by
  cases m with
  | zero => rfl
  | succ m => unfold bodyM; rw [if_pos h]
theorem body_go {L : List Int} {m : Nat} {ks : List Nd} {j : Nat} (h0 : 0 < m) (h : j < L.length) : bodyM L m ks j = bodyM L (m - 1) (ks ++ [(oneM L 2 j).1]) (oneM L 2 j).2 := by
  obtain ⟨k, rfl⟩ : ∃ k, m = k + 1 := ⟨m - 1, by omega⟩
  rw [bodyM, if_neg (by omega)]
  rfl
theorem items_count (L : List Int) : ∀ c, (itemsM L c).length = c
  | 0 => rfl
  | c + 1 => by rw [itemsM, List.length_append, items_count L c]; rfl
structure NdC where
  x : Nd
structure CtC where
  c : Nat
section
variable {L : List Int} {k : Int} {t : Str} (hk : treeKinds.getD (atL L 0 10).toNat 0 = k) (ht : callM L 1 = t)
include hk ht
theorem tree_var (h : k = 0) : treeB L = .mk k t (atL L 2 1999 - 999) [] := by subst hk ht; unfold treeB; simp only []; rw [if_pos h]
theorem tree_chan (h : k = 2) : treeB L = .mk k t (atL L 2 4) [] := by subst hk ht; unfold treeB; simp only []; rw [if_neg (by omega), if_pos h]
theorem tree_rec (h : k = 1) : treeB L = .mk k t 0 (itemsM L (atL L 2 4).toNat) := by subst hk ht; unfold treeB; simp only []; rw [if_neg (by omega), if_neg (by omega), if_pos h]
theorem tree_proc (h : k = 5 ∨ k = 6) : treeB L = .mk k t 0 [.mk 8 [] 0 (bodyM L L.length [] 2)] := by subst hk ht; unfold treeB; simp only []; rw [if_neg (by omega), if_neg (by omega), if_neg (by omega), if_pos h]
theorem tree_else (h0 : ¬ k = 0) (h1 : ¬ k = 2) (h2 : ¬ k = 1) (h3 : ¬ (k = 5 ∨ k = 6)) : treeB L = .mk k t 0 [] := by subst hk ht; unfold treeB; simp only []; rw [if_neg h0, if_neg h1, if_neg h2, if_neg h3]
end
set_option maxHeartbeats 1000000 in
theorem MTree_ok (l : List Int) (hl : MkL l) : Ok Tryz.prog 10 [.sl (l.map I64)] ⟨.d (treeS l).d, false⟩ := by
  refine Ok.cell hT Tryz.func10 (by kernel_rfl) (c := _) rfl Tryz.ntmps10 (by simp) Tryz.results10 (by intro _ h; cases h) fun w0 X hp => ?_
  obtain ⟨L, hLl⟩ : ∃ L, L = l.take 48 := ⟨_, rfl⟩
  have hL : MkL L := fun n hn => hl n (by rw [hLl] at hn; exact List.mem_of_mem_take hn)
  have hll : L.length ≤ 48 := by rw [hLl, List.length_take]; omega
  have htr : treeS l = treeB L := by rw [hLl]; rfl
  refine LWp.seq ?_
  refine LWp.rz hT hW ?_
  simp
  refine LWp.seq ?_
  refine LWp.rz hT hW ?_
  simp [take_min, ← hLl]
  refine ⟨by split <;> omega, ?_⟩
  refine LWp.seq ?_
  have ha := MTake_ok L 0 10 hL (by omega) (by decide)
  have hr := atL_range L 0 10 (by decide)
  have hc := MCalled_ok L 1 hL (by omega)
  have hka := kind_at (L := L)
  have hkr := kind_rng (L := L)
  simp [treeKinds] at hka
  obtain ⟨k, hk⟩ : ∃ k, treeKinds.getD (atL L 0 10).toNat 0 = k := ⟨_, rfl⟩
  obtain ⟨t, ht⟩ : ∃ t, callM L 1 = t := ⟨_, rfl⟩
  refine LWp.regAny hT hW hMixed (lk [[],[],[1],[0,1,2],[0,1,2,3],[],[1,2,5],[0,1,2,3,4,5,6],[],[0,1,2,3,4,5,6,7,8]]) (lk [[4,15],[4,16],[4,16],[4,15],[4,15],[4,15,16],[4,16],[4],[15,16],[]]) (lk [[16],[],[15],[],[],[],[15],[],[4],[4]]) (by kernel_rfl) (fun | 18 => some (.gen ⟨[(15, 0)], [], [], mkH L 1, .d (I64 (atL L 0 10))⟩) | 22 => some (.gen ⟨[(15, 0)], [], [], mkH L 2, .d (.str t)⟩) | _ => none) (by intro d; first | exact ⟨rfl, fun _ h => h⟩ | (split <;> exact ⟨rfl, fun _ h => h⟩)) ?_
  simp [hka]
  rw [hk] at hkr
  rw [ht] at hc
  refine ⟨⟨⟨⟨⟨by decide, by simpa using ha⟩, by omega⟩, by omega⟩, by simpa using hc⟩, ?_⟩
  have hk' : [5, 6, 5, 6, 5, 0, 1, 2, 3, 4][(atL L 0 10).toNat]?.getD 0 = k := by rw [← hk]; simp [treeKinds]
  simp only [hk']
  refine LWp.seqCut (ι := NdC) (fun ⟨x⟩ => mkEnv [(2, .bx 2 0), (4, .bx 4 0)]) (fun ⟨x⟩ => mkObs [(2, .box false [.d (I64 0), .d (.str []), .d (I64 0), .nl]), (4, .box false [.d (I64 x.kind), .d (.str x.text), .d (I64 x.n), .d (ndsD x.kids)])]) (fun ⟨x⟩ => treeB L = x) ?_ fun ⟨x⟩ hc21 => ?_
  · refine LWp.seq ?_
    refine LWp.rz hT hW ?_
    simp
    refine LWp.block ?_
    refine LWp.seq ?_
    refine LWp.rz hT hW ?_
    simp
    refine LWp.iff ?_
    simp
    refine ⟨fun h4 => ?_, fun h4 => ?_⟩
    · have h5a := MTake_ok L 2 1999 hL (by omega) (by decide)
      have h5r := atL_range L 2 1999 (by decide)
      refine LWp.ro hT hW (fun | 29 => some (.gen ⟨[(15, 0)], [], [], mkH L 3, .d (I64 (atL L 2 1999))⟩) | _ => none) ?_
      simp
      refine ⟨⟨by simpa using h5a, by omega⟩, ?_⟩
      refine exWeak (Weak.shutBox 4 [] (fz := false) (cs := [.d (I64 k), .d (.str t), .d (I64 (atL L 2 1999 - 999)), .nl]) (ds := [I64 k, .str t, I64 (atL L 2 1999 - 999), .sl []]) (by simp) (by simp) (by simp) (by simp [LObj.mut])) ?_
      simp
      refine cutQ.mk ⟨.mk k t (atL L 2 1999 - 999) []⟩ (Weak.to [2, 4] [(2, 2), (4, 4)] (by decide) (by decide) (by simp [hp]) (by simp) (by simp)) ?_
      exact tree_var hk ht h4
    · refine LWp.seq ?_
      refine LWp.rz hT hW ?_
      simp
      refine LWp.iff ?_
      simp
      refine ⟨fun h6 => ?_, fun h6 => ?_⟩
      · have h5a := MTake_ok L 2 4 hL (by omega) (by decide)
        refine LWp.ro hT hW (fun | 35 => some (.gen ⟨[(15, 0)], [], [], mkH L 3, .d (I64 (atL L 2 4))⟩) | _ => none) ?_
        simp
        refine ⟨by simpa using h5a, ?_⟩
        refine exWeak (Weak.shutBox 4 [] (fz := false) (cs := [.d (I64 k), .d (.str t), .d (I64 (atL L 2 4)), .nl]) (ds := [I64 k, .str t, I64 (atL L 2 4), .sl []]) (by simp) (by simp) (by simp) (by simp [LObj.mut])) ?_
        simp
        refine cutQ.mk ⟨.mk k t (atL L 2 4) []⟩ (Weak.to [2, 4] [(2, 2), (4, 4)] (by decide) (by decide) (by simp [hp]) (by simp) (by simp)) ?_
        exact tree_chan hk ht h6
      · refine LWp.seq ?_
        refine LWp.rz hT hW ?_
        simp
        refine LWp.iff ?_
        simp
        refine ⟨fun h8 => ?_, fun h8 => ?_⟩
        · refine LWp.seq ?_
          have h5a := MTake_ok L 2 4 hL (by omega) (by decide)
          have h5r := atL_range L 2 4 (by decide)
          obtain ⟨m, hm9⟩ : ∃ m : Nat, (atL L 2 4).toNat = m := ⟨_, rfl⟩
          have hm9i : atL L 2 4 = (m : Int) := by omega
          refine LWp.ro hT hW (fun | 40 => some (.gen ⟨[(15, 0)], [], [], mkH L 3, .d (I64 (m : Nat))⟩) | _ => none) ?_
          simp
          refine ⟨by simpa [hm9i] using h5a, ?_⟩
          refine LWp.nlCell (fz := false) (cs := [.d (I64 k), .d (.str t), .d (I64 0), .nl]) 4 3 1056 4 (by decide) ⟨by simp, by simp, by simp, ?_⟩
          simp
          refine LWp.seq ?_
          refine LWp.rz hT hW ?_
          simp
          refine LWp.block ?_
          refine LWp.loopW (ι := CtC) (fun ⟨c⟩ => mkEnv [(2, .bx 2 0), (3, .bx 15 0), (4, .bx 4 0), (5, .d (I64 (m : Nat))), (6, .d (I64 (c : Nat)))]) (fun ⟨c⟩ => mkObs [(2, .box false [.d (I64 0), .d (.str []), .d (I64 0), .nl]), (4, .box false [.d (I64 k), .d (.str t), .d (I64 0), .ow 1056 0 c]), (15, .box false [.d (.sl (L.map I64)), .d (I64 ((3 + 2 * c : Nat) : Int))]), (1056, .row false 4 ((itemsM L c).map Nd.d))]) (fun ⟨c⟩ => c ≤ m) (fun ⟨c⟩ => m - c) ⟨0⟩ (Weak.to [2, 3, 4, 5, 6] [(2, 2), (4, 4), (15, 15), (1056, 1056)] (by decide) (by decide) (by simp [hp]) (by simp) (by simp [itemsM])) (Nat.zero_le _) fun ⟨c⟩ hi11 => ?_
          refine LWp.seq ?_
          refine LWp.seq ?_
          refine LWp.rz hT hW ?_
          simp
          refine LWp.iff ?_
          simp
          refine ⟨fun h11 => ?_, fun h11 => ?_⟩
          · refine LWp.skip ?_
            simp
            refine LWp.seq ?_
            refine LWp.block ?_
            refine LWp.seq ?_
            have h13c := MCalled_ok L (3 + 2 * c) hL (by omega)
            refine LWp.ro hT hW (fun | 47 => some (.gen ⟨[(15, 0)], [], [], mkH L (3 + 2 * c + 1), .d (.str (callM L (3 + 2 * c)))⟩) | _ => none) ?_
            simp
            refine ⟨by simpa using h13c, ?_⟩
            have h14c := MTake_ok L (4 + 2 * c) 1999 hL (by omega) (by decide)
            have h14r := atL_range L (4 + 2 * (c : Int)) 1999 (by decide)
            have hcm : c ≤ m := hi11
            have e14 : (3 : Int) + (2 * (c : Int) + 1) = 4 + 2 * c := by omega
            have e15 : (4 : Int) + (2 * (c : Int) + 1) = 3 + (2 * c + 2) := by omega
            have hic := items_count L c
            refine LWp.regAny hT hW hMixed (lk [[],[0],[],[],[3],[3,4],[2,3,4,5],[2,3,4,5,6],[0,1,2,3,4,5,6,7],[0,1,2,3,4,5,6,7,8],[0,1,2,3,4,5,6,7,8,9]]) (lk [[15,55],[15,55],[15],[],[],[],[],[],[],[],[]]) (lk [[],[],[],[],[15],[],[],[55],[56,1056],[],[4]]) (by kernel_rfl) (fun | 52 => some (.gen ⟨[(15, 0)], [], [], mkH L (4 + 2 * c + 1), .d (I64 (atL L ((4 + 2 * c : Nat) : Int) 1999))⟩) | _ => none) (by intro d; first | exact ⟨rfl, fun _ h => h⟩ | (split <;> exact ⟨rfl, fun _ h => h⟩)) ?_
            simp [e14]
            refine ⟨⟨⟨by simpa using h14c, by omega, by omega⟩, by omega, by omega⟩, ?_⟩
            have hcm2 : c ≤ m := hi11
            refine LWp.rz hT hW ?_
            simp
            refine ⟨by omega, ?_⟩
            refine loopQ.mk ⟨c + 1⟩ (Weak.to [2, 3, 4, 5, 6] [(2, 2), (4, 4), (15, 15), (56, 1056)] (by decide) (by decide) (by simp [hp]) (by simp) (by simp [itemsM, Int.mul_add, items_count, List.take_of_length_le, e15])) ?_ ?_
            · show c + 1 ≤ m
              omega
            · show m - (c + 1) < m - c
              omega
          · refine LWp.exit ?_
            simp
            refine exWeak (Weak.shutBox 4 [1056] (fz := false) (cs := [.d (I64 k), .d (.str t), .d (I64 0), .ow 1056 0 c]) (ds := [I64 k, .str t, I64 0, .sl ((itemsM L c).map Nd.d)]) (by simp) (by simp) (by simp [items_count, List.take_of_length_le]) (by simp [LObj.mut])) ?_
            simp
            refine cutQ.mk ⟨.mk k t 0 (itemsM L c)⟩ (Weak.to [2, 4] [(2, 2), (4, 4)] (by decide) (by decide) (by simp [hp]) (by simp) (by simp)) ?_
            rw [tree_rec hk ht h8, hm9]
            have e11 : c = m := by have := (show c ≤ m from hi11); omega
            rw [e11]
        · refine LWp.seqCut (ι := BC) (fun ⟨b⟩ => mkEnv [(2, .bx 2 0), (3, .bx 15 0), (4, .bx 4 0), (25, .d (I64 (k))), (58, .d (.bool b))]) (fun ⟨b⟩ => mkObs [(2, .box false [.d (I64 0), .d (.str []), .d (I64 0), .nl]), (4, .box false [.d (I64 k), .d (.str t), .d (I64 0), .nl]), (15, .box false [.d (.sl (L.map I64)), .d (I64 2)])]) (fun ⟨b⟩ => b = true ↔ (k = 5 ∨ k = 6)) ?_ fun ⟨b⟩ hc17 => ?_
          · refine LWp.seq ?_
            refine LWp.rz hT hW ?_
            simp
            refine LWp.iff ?_
            simp
            refine ⟨fun h15 => ?_, fun h15 => ?_⟩
            · refine LWp.skip ?_
              simp
              refine cutQ.mk ⟨decide (k = 5)⟩ (Weak.to [2, 3, 4, 25, 58] [(2, 2), (4, 4), (15, 15)] (by decide) (by decide) (by simp [hp]) (by simp) (by simp)) ?_
              simp [h15]
            · refine LWp.rz hT hW ?_
              simp
              refine cutQ.mk ⟨decide (k = 6)⟩ (Weak.to [2, 3, 4, 25, 58] [(2, 2), (4, 4), (15, 15)] (by decide) (by decide) (by simp [hp]) (by simp) (by simp)) ?_
              simp only [decide_eq_true_eq]; omega
          · refine LWp.iff ?_
            simp
            refine ⟨fun h17 => ?_, fun h17 => ?_⟩
            · have q17 := hc17.1 h17
              refine LWp.seq ?_
              refine LWp.rz hT hW ?_
              simp
              refine LWp.nlCell (fz := false) (cs := [.d (I64 8), .d (.str []), .d (I64 0), .nl]) 8 3 1077 4 (by decide) ⟨by simp, by simp, by simp, ?_⟩
              simp
              refine LWp.seq ?_
              refine LWp.block ?_
              refine LWp.loopW (ι := SmS) (fun ⟨m, ks, j⟩ => mkEnv [(2, .bx 2 0), (3, .bx 15 0), (4, .bx 4 0), (8, .bx 8 0)]) (fun ⟨m, ks, j⟩ => mkObs [(2, .box false [.d (I64 0), .d (.str []), .d (I64 0), .nl]), (4, .box false [.d (I64 k), .d (.str t), .d (I64 0), .nl]), (8, .box false [.d (I64 8), .d (.str []), .d (I64 0), .ow 1077 0 ks.length]), (15, .box false [.d (.sl (L.map I64)), .d (I64 (j : Nat))]), (1077, .row false 4 (ks.map Nd.d))]) (fun ⟨m, ks, j⟩ => j ≤ 3000 ∧ L.length ≤ m + j ∧ ks.length ≤ j ∧ bodyM L L.length [] 2 = bodyM L m ks j) (fun ⟨m, ks, j⟩ => L.length - j) ⟨L.length, [], 2⟩ (Weak.to [2, 3, 4, 8] [(2, 2), (4, 4), (8, 8), (15, 15), (1077, 1077)] (by decide) (by decide) (by simp [hp]) (by simp) (by simp)) (⟨by omega, by omega, by simp, rfl⟩) fun ⟨m, ks, j⟩ hi18 => ?_
              refine LWp.seq ?_
              refine LWp.seq ?_
              refine LWp.regAny hT hW hMixed (lk [[],[0],[0,1],[0,1,2],[],[4],[4,5],[4,5,6],[4,5,6,7],[0,1,2,3,4,5,6,7,8]]) (lk [[],[],[],[],[],[],[],[],[],[]]) (lk [[],[],[],[],[],[],[],[],[],[]]) (by kernel_rfl) (fun _ => none) (fun _ => ⟨rfl, fun _ h => h⟩) ?_
              simp
              refine LWp.iff ?_
              simp
              refine ⟨fun h18 => ?_, fun h18 => ?_⟩
              · refine LWp.skip ?_
                simp
                refine LWp.block ?_
                have h19 := MOne_ok L hL (by omega) 2 (by omega) 5000 (by omega) j (by omega)
                have hup := one_up L 2 j
                have hto := one_to L 2 j
                have hto2 := oneTo_le (d := 2) (by omega)
                have hkl := hi18.2.2.1
                refine LWp.regAny hT hW hMixed (lk [[],[0],[],[2],[2,3],[0,1,2,3,4],[0,1,2,3,4,5],[0,1,2,3,4,5,6]]) (lk [[15,76],[15,76],[],[],[],[],[],[]]) (lk [[],[],[],[15],[76],[77,1077],[],[8]]) (by kernel_rfl) (fun | 75 => some (.gen ⟨[(15, 0)], [], [], mkH L (oneM L 2 j).2, .d (oneM L 2 j).1.d⟩) | _ => none) (by intro d; first | exact ⟨rfl, fun _ h => h⟩ | (split <;> exact ⟨rfl, fun _ h => h⟩)) ?_
                simp
                refine ⟨by (repeat' with_reducible apply And.intro) <;> first | omega | (simpa using h19), ?_⟩
                refine loopQ.mk ⟨m - 1, ks ++ [(oneM L 2 j).1], (oneM L 2 j).2⟩ (Weak.to [2, 3, 4, 8] [(2, 2), (4, 4), (8, 8), (15, 15), (77, 1077)] (by decide) (by decide) (by simp [hp]) (by simp) (by simp)) ?_ ?_
                · refine ⟨(show (oneM L 2 j).2 ≤ 3000 by omega), (show L.length ≤ m - 1 + (oneM L 2 j).2 by omega), (by rw [List.length_append, List.length_singleton]; show ks.length + 1 ≤ (oneM L 2 j).2; omega), ?_⟩
                  rw [hi18.2.2.2, body_go (by omega) (by omega)]
                · show L.length - (oneM L 2 j).2 < L.length - j
                  omega
              · refine LWp.exit ?_
                simp
                refine LWp.rz hT hW ?_
                simp
                refine exWeak (Weak.shutBox 4 [80] (fz := false) (cs := [.d (I64 k), .d (.str t), .d (I64 0), .ow 80 0 1]) (ds := [I64 k, .str t, I64 0, .sl [(Nd.mk 8 [] 0 ks).d]]) (by simp) (by simp) (by simp) (by simp [LObj.mut])) ?_
                simp
                refine cutQ.mk ⟨.mk k t 0 [.mk 8 [] 0 ks]⟩ (Weak.to [2, 4] [(2, 2), (4, 4)] (by decide) (by decide) (by simp [hp]) (by simp) (by simp)) ?_
                rw [tree_proc hk ht q17, hi18.2.2.2, body_end (by omega)]
            · have q17 : ¬ (k = 5 ∨ k = 6) := fun q => by simp [hc17.2 q] at h17
              refine LWp.skip ?_
              simp
              refine exWeak (Weak.shutBox 4 [] (fz := false) (cs := [.d (I64 k), .d (.str t), .d (I64 0), .nl]) (ds := [I64 k, .str t, I64 0, .sl []]) (by simp) (by simp) (by simp) (by simp [LObj.mut])) ?_
              simp
              refine cutQ.mk ⟨.mk k t 0 []⟩ (Weak.to [2, 4] [(2, 2), (4, 4)] (by decide) (by decide) (by simp [hp]) (by simp) (by simp)) ?_
              exact tree_else hk ht h4 h6 h8 q17
  · refine LWp.seq ?_
    refine LWp.rz hT hW ?_
    simp
    refine LWp.ret ?_
    have e : treeS l = x := htr.trans hc21
    simp [e]
end
open Go.Proofs
section
attribute [local simp] Res.cond Nd.d_eq nd_t nd_dr nd_td ndsD evalIndex constL1 upds_same one_i one_s one_l all4
def I64r (n : Int) : Prop := -9223372036854775808 ≤ n ∧ n ≤ 9223372036854775807
theorem tdiv_r {a : Int} {m : Nat} (h : I64r a) : I64r (a.tdiv ((m : Int) + 1)) := by
  unfold I64r at *
  have h1 : (a.tdiv ((m : Int) + 1)).natAbs ≤ a.natAbs := by rw [Int.natAbs_tdiv]; exact Nat.div_le_self _ _
  by_cases h0 : 0 ≤ a
  · have := Int.tdiv_nonneg h0 (show (0 : Int) ≤ (m : Int) + 1 by omega)
    omega
  · have h2 : a.tdiv ((m : Int) + 1) ≤ 0 := by
      obtain ⟨b, rfl⟩ : ∃ b, a = -b := ⟨-a, by omega⟩
      rw [Int.neg_tdiv]
      have := Int.tdiv_nonneg (show (0 : Int) ≤ b by omega) (show (0 : Int) ≤ (m : Int) + 1 by omega)
      omega
    omega
theorem spoil_kid {x : Nd} {a how b : Int} {j : Nat} (hj : around a ((x.kids.length : Int) + 1) = (j : Int)) (hlt : j < x.kids.length) : spoilN x a how b = .mk x.kind x.text x.n (x.kids.set j (spoilN x.kids[j] (a.tdiv ((x.kids.length : Int) + 1)) how b)) := by
  obtain ⟨k, t, n, ks⟩ := x
  have hj : around a ((ks.length : Int) + 1) = (j : Int) := hj
  have hlt : j < ks.length := hlt
  have e : ((ks.length + 1 : Nat) : Int) = (ks.length : Int) + 1 := rfl
  rw [spoilN]
  simp only [e]
  rw [hj, if_pos (by omega)]
  congr 1
  exact spoilL_set ks j _ how b hlt
theorem spoil_here {x : Nd} {a how b : Int} (hj : ¬ around a ((x.kids.length : Int) + 1) < x.kids.length) : spoilN x a how b = spoilHere x how b := by
  obtain ⟨k, t, n, ks⟩ := x
  have hj : ¬ around a ((ks.length : Int) + 1) < ks.length := hj
  have e : ((ks.length + 1 : Nat) : Int) = (ks.length : Int) + 1 := rfl
  rw [spoilN]
  simp only [e]
  rw [if_neg hj]
theorem stx_at {b : Int} : (spoilTexts.map DV.str)[(around b 14).toNat]?.getD default = .str (spoilTexts.getD (around b 14).toNat []) := by
  have h := around_lt b 14 (by decide)
  have hk : (around b 14).toNat < spoilTexts.length := by show _ < 14; omega
  rw [List.getElem?_map, List.getElem?_eq_getElem hk]
  simp [List.getD_eq_getElem?_getD, hk]
theorem snm_at {b : Int} : (spoilNums.map I64)[(around b 16).toNat]?.getD default = I64 (spoilNums.getD (around b 16).toNat 0) := by
  have h := around_lt b 16 (by decide)
  have hk : (around b 16).toNat < spoilNums.length := by show _ < 16; omega
  rw [List.getElem?_map, List.getElem?_eq_getElem hk]
  simp [List.getD_eq_getElem?_getD, hk]
theorem MSpoilt_step (x : Nd) (a how b : Int) (ha : I64r a) (hh : I64r how) (hb : I64r b) (hw : x.kids.length ≤ 1000000000) (ih : ∀ y ∈ x.kids, ∀ a : Int, I64r a → Ok Tryz.prog 11 [y.d, I64 a, I64 how, I64 b] ⟨.d (spoilN y a how b).d, false⟩) : Ok Tryz.prog 11 [x.d, I64 a, I64 how, I64 b] ⟨.d (spoilN x a how b).d, false⟩ := by
  refine Ok.cell hT Tryz.func11 (by kernel_rfl) (c := _) rfl Tryz.ntmps11 (by simp) Tryz.results11 (by intro _ h; cases h) fun w0 X hp => ?_
  refine LWp.seq ?_
  refine LWp.rz hT hW ?_
  simp
  refine LWp.seq ?_
  have h1 := Around_ok a ((x.kids.length : Int) + 1) ha.1 ha.2 (by omega)
  have hr := around_lt a ((x.kids.length : Int) + 1) (by omega)
  refine LWp.ro hT hW (fun | 16 => some <| .plain ⟨.d (I64 (around a ((x.kids.length : Int) + 1))), true⟩ | _ => none) ?_
  simp
  refine ⟨⟨by omega, h1⟩, ?_⟩
  obtain ⟨j, hj⟩ : ∃ j : Nat, around a ((x.kids.length : Int) + 1) = (j : Int) := ⟨(around a ((x.kids.length : Int) + 1)).toNat, by omega⟩
  simp only [hj]
  refine LWp.seq ?_
  refine LWp.seq ?_
  refine LWp.rz hT hW ?_
  simp
  refine LWp.iff ?_
  simp
  refine ⟨fun h2 => ?_, fun h2 => ?_⟩
  · refine LWp.seq ?_
    have hlt : j < x.kids.length := by omega
    refine LWp.rz hT hW ?_
    simp
    refine ⟨⟨by omega, by omega⟩, ?_⟩
    refine LWp.seq ?_
    have hk := ih _ (List.getElem_mem hlt) (a.tdiv ((x.kids.length : Int) + 1)) (tdiv_r ha)
    have hdr := tdiv_r (m := x.kids.length) ha
    simp at hk
    unfold I64r at hdr
    refine LWp.regAny hT hW hMixed (lk [[],[],[],[],[2,3],[2,3,4],[],[],[7],[7,8],[7,8,9],[6,7,8,9,10],[],[],[2,3,4,5,6,7,8,9,10,11,12,13],[0,1,2,3,4,5,6,7,8,9,10,11,12,13,14],[0,1,2,3,4,5,6,7,8,9,10,11,12,13,14,15]]) (lk [[],[],[],[],[],[],[],[],[],[],[],[],[],[],[],[],[]]) (lk [[],[],[],[],[],[],[],[],[],[],[],[],[],[],[],[],[25]]) (by kernel_rfl) (fun | 40 => some <| .plain ⟨.d (spoilN x.kids[j] (a.tdiv ((x.kids.length : Int) + 1)) how b).d, false⟩ | _ => none) (by intro d; first | exact ⟨rfl, fun _ h => h⟩ | (split <;> exact ⟨rfl, fun _ h => h⟩)) ?_
    simp [hlt]
    refine ⟨by (repeat' with_reducible apply And.intro) <;> first | omega | exact hk, ?_⟩
    refine LWp.seq ?_
    refine LWp.rz hT hW ?_
    simp
    refine LWp.seq ?_
    refine LWp.rz hT hW ?_
    simp
    refine LWp.ret ?_
    have e := spoil_kid (how := how) (b := b) hj hlt
    simp [e, List.take_of_length_le]
  · refine LWp.skip ?_
    simp
    refine LWp.seqCut (ι := NdC) (fun ⟨y⟩ => mkEnv [(4, .bx 4 0), (8, .bx 8 0)]) (fun ⟨y⟩ => mkObs [(4, .box false [.d (I64 y.kind), .d (.str y.text), .d (I64 y.n), .d (ndsD y.kids)]), (8, .box false [.d (I64 0), .d (.str []), .d (I64 0), .nl])]) (fun ⟨y⟩ => spoilHere x how b = y) ?_ fun ⟨y⟩ hc17 => ?_
    · refine LWp.seq ?_
      have h7 := Around_ok how 5 hh.1 hh.2 (by omega)
      have h7r := around_lt how 5 (by omega)
      obtain ⟨c, hc⟩ : ∃ c, around how 5 = c := ⟨_, rfl⟩
      refine LWp.ro hT hW (fun | 46 => some <| .plain ⟨.d (I64 c), true⟩ | _ => none) ?_
      simp
      refine ⟨by simpa [hc] using h7, ?_⟩
      refine LWp.block ?_
      refine LWp.seq ?_
      refine LWp.rz hT hW ?_
      simp
      refine LWp.iff ?_
      simp
      refine ⟨fun h9 => ?_, fun h9 => ?_⟩
      · have h10a := Around_ok b 40 hb.1 hb.2 (by omega)
        have h10r := around_lt b 40 (by omega)
        refine LWp.ro hT hW (fun | 58 => some <| .plain ⟨.d (I64 (around b 40)), true⟩ | _ => none) ?_
        simp
        refine ⟨⟨h10a, by omega⟩, ?_⟩
        refine cutQ.mk ⟨.mk (around b 40 - 2) x.text x.n x.kids⟩ (Weak.to [4, 8] [(4, 4), (8, 8)] (by decide) (by decide) (by simp [hp]) (by simp) (by simp)) ?_
        unfold spoilHere; simp only []; rw [hc, if_pos h9]
      · refine LWp.seq ?_
        refine LWp.rz hT hW ?_
        simp
        refine LWp.iff ?_
        simp
        refine ⟨fun h11 => ?_, fun h11 => ?_⟩
        · have h12a := Around_ok b 14 hb.1 hb.2 (by omega)
          have h12r := around_lt b 14 (by omega)
          have hc12 := stx_at (b := b)
          simp [spoilTexts] at hc12
          refine LWp.ro hT hW (fun | 65 => some <| .plain ⟨.d (I64 (around b 14)), true⟩ | _ => none) ?_
          simp [hc12]
          refine ⟨by (repeat' with_reducible apply And.intro) <;> first | omega | exact h12a | decide, ?_⟩
          refine cutQ.mk ⟨.mk x.kind (spoilTexts.getD (around b 14).toNat []) x.n x.kids⟩ (Weak.to [4, 8] [(4, 4), (8, 8)] (by decide) (by decide) (by simp [hp]) (by simp) (by simp [spoilTexts])) ?_
          unfold spoilHere; simp only []; rw [hc, if_neg h9, if_pos h11]
        · refine LWp.seq ?_
          refine LWp.rz hT hW ?_
          simp
          refine LWp.iff ?_
          simp
          refine ⟨fun h13 => ?_, fun h13 => ?_⟩
          · have h14a := Around_ok b 16 hb.1 hb.2 (by omega)
            have h14r := around_lt b 16 (by omega)
            have hc14 := snm_at (b := b)
            simp [spoilNums] at hc14
            refine LWp.ro hT hW (fun | 73 => some <| .plain ⟨.d (I64 (around b 16)), true⟩ | _ => none) ?_
            simp [hc14]
            refine ⟨by (repeat' with_reducible apply And.intro) <;> first | omega | exact h14a | decide, ?_⟩
            refine cutQ.mk ⟨.mk x.kind x.text (spoilNums.getD (around b 16).toNat 0) x.kids⟩ (Weak.to [4, 8] [(4, 4), (8, 8)] (by decide) (by decide) (by simp [hp]) (by simp) (by simp [spoilNums])) ?_
            unfold spoilHere; simp only []; rw [hc, if_neg h9, if_neg h11, if_pos h13]
          · refine LWp.seq ?_
            refine LWp.rz hT hW ?_
            simp
            refine LWp.iff ?_
            simp
            refine ⟨fun h15 => ?_, fun h15 => ?_⟩
            · refine LWp.rz hT hW ?_
              simp
              refine ⟨by (repeat' with_reducible apply And.intro) <;> first | omega | decide, ?_⟩
              refine exWeak (Weak.shutBox 4 [85] (fz := false) (cs := [.d (I64 x.kind), .d (.str x.text), .d (I64 x.n), .ow 85 0 (x.kids.length + 1)]) (ds := [I64 x.kind, .str x.text, I64 x.n, .sl ((x.kids ++ [Nd.mk 32 [] 0 []]).map Nd.d)]) (by simp) (by simp) (by simp [List.take_of_length_le]) (by simp [LObj.mut])) ?_
              simp
              refine cutQ.mk ⟨.mk x.kind x.text x.n (x.kids ++ [.mk 32 [] 0 []])⟩ (Weak.to [4, 8] [(4, 4), (8, 8)] (by decide) (by decide) (by simp [hp]) (by simp) (by simp)) ?_
              unfold spoilHere; simp only []; rw [hc, if_neg h9, if_neg h11, if_neg h13, if_pos h15]
            · have e8 : ((x.kids.length : Int)).tdiv 2 = ((x.kids.length / 2 : Nat) : Int) := rfl
              obtain ⟨n2, hn2⟩ : ∃ n2, n2 = x.kids.length / 2 := ⟨_, rfl⟩
              rw [← hn2] at e8
              refine LWp.rz hT hW ?_
              simp [e8]
              refine ⟨by (repeat' with_reducible apply And.intro) <;> first | omega | decide, ?_⟩
              refine cutQ.mk ⟨.mk x.kind x.text x.n (x.kids.take n2)⟩ (Weak.to [4, 8] [(4, 4), (8, 8)] (by decide) (by decide) (by simp [hp]) (by simp) (by simp)) ?_
              unfold spoilHere; simp only []; rw [hc, if_neg h9, if_neg h11, if_neg h13, if_neg h15, hn2]
    · refine LWp.seq ?_
      refine LWp.rz hT hW ?_
      simp
      refine LWp.ret ?_
      simp
      have e : spoilN x a how b = y := (spoil_here (by omega)).trans hc17
      simp [e]
theorem MSpoilt_ok (x : Nd) : weighN x ≤ 1000000000 → ∀ a how b : Int, I64r a → I64r how → I64r b → Ok Tryz.prog 11 [x.d, I64 a, I64 how, I64 b] ⟨.d (spoilN x a how b).d, false⟩ :=
  Nd.ind (p := fun x => weighN x ≤ 1000000000 → ∀ a how b : Int, I64r a → I64r how → I64r b → Ok Tryz.prog 11 [x.d, I64 a, I64 how, I64 b] ⟨.d (spoilN x a how b).d, false⟩)
    (fun k t n ks ih hw a how b ha hh hb => MSpoilt_step _ a how b ha hh hb (by have := kids_weigh (.mk k t n ks); omega) fun y hy a' ha' => ih y hy (by have := weigh_mem (show y ∈ ks from hy); rw [weighN] at hw; omega) a' how b ha' hh hb) x
end
end Go.Eng
