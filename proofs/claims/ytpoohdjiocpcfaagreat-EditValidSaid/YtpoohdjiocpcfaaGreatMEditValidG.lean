/-
  Texts of the proof of EditValid, part 7. No condition.
-/
import Derived.Test.YtpoohdjiocpcfaaGreatMEditValidF
import Derived.OpenShut
set_option linter.unusedVariables false
set_option linter.unusedSimpArgs false
/-
  Chapter 22, plain: lists made of numbers are valid. No condition.
-/
namespace Go.Eng

theorem incr_of_pw {α : Type} {lt : α → α → Bool} {l : List α} (h : l.Pairwise fun a b => lt a b = true) : incr lt l = true :=
  incr_iff.2 fun j hj => List.pairwise_iff_getElem.1 h j (j + 1) (by omega) hj (by omega)
theorem madeNeeds_sub (bits : Int) (ear : List Nm) : ∀ k, (madeNeeds bits ear k).Sublist (ear.take k)
  | 0 => by simp [madeNeeds]
  | k + 1 => by
    rw [madeNeeds, List.take_add_one]
    refine List.Sublist.append (madeNeeds_sub bits ear k) ?_
    split
    · cases ear[k]? <;> simp
    · simp
theorem madeE_name (l : List Int) (out : List Ed) (i : Nat) (hi : i < 6) : (madeE l out i).name.isName = true ∧ ((madeE l out i).name.seq % 6).toNat = i := by
  have h := atL_range l (1 + 3 * i) 4096 (by decide)
  have hd1 : 0 ≤ (atL l (1 + 3 * i) 4096).tdiv 3 := Int.tdiv_nonneg h.1 (by omega)
  have h1 : 0 ≤ ((atL l (1 + 3 * i) 4096).tdiv 3).tmod 8 := Int.tmod_nonneg _ hd1
  have h2 : ((atL l (1 + 3 * i) 4096).tdiv 3).tmod 8 < 8 := Int.tmod_lt_of_pos _ (by omega)
  have h3 : 0 ≤ (atL l (1 + 3 * i) 4096).tmod 3 := Int.tmod_nonneg _ h.1
  have h4 : (atL l (1 + 3 * i) 4096).tmod 3 < 3 := Int.tmod_lt_of_pos _ (by omega)
  refine ⟨?_, ?_⟩
  · simp [madeE, Nm.isName]
    exact ⟨⟨⟨decide_eq_true (by omega), decide_eq_true (by omega)⟩, decide_eq_true (by omega)⟩, decide_eq_true (by omega)⟩
  · simp [madeE]
    omega
theorem madeTo_sub {l : List Int} {e : Ed} {i : Nat} (h : e ∈ madeTo l i) : ∀ d, e ∈ madeTo l (i + d)
  | 0 => h
  | d + 1 => by
    rw [← Nat.add_assoc, madeTo]
    exact List.mem_append.2 (.inl (madeTo_sub h d))
theorem made_nodup (l : List Int) : ∀ c, c ≤ 6 → ((madeTo l c).map Ed.name).Nodup
  | 0, _ => by simp [madeTo]
  | c + 1, hc => by
    rw [madeTo, List.map_append, List.nodup_append]
    refine ⟨made_nodup l c (by omega), by simp, fun a ha b hb e => ?_⟩
    obtain ⟨x, hx, rfl⟩ := List.mem_map.1 ha
    obtain ⟨i, hi, rfl⟩ := madeTo_mem hx
    simp only [List.map_cons, List.map_nil, List.mem_singleton] at hb
    have h1 := (madeE_name l (madeTo l i) i (by omega)).2
    have h2 := (madeE_name l (madeTo l c) c (by omega)).2
    rw [e, hb, h2] at h1
    omega
theorem made_ranks {l : List Int} {c : Nat} (hc : c ≤ 6) {e : Ed} (he : e ∈ madeTo l c) {n : Nm} (hn : n ∈ e.needs) : n ∈ (madeTo l c).map Ed.name ∧ (n.seq % 6).toNat < (e.name.seq % 6).toNat := by
  obtain ⟨i, hi, rfl⟩ := madeTo_mem he
  have h1 := (madeE_name l (madeTo l i) i (by omega)).2
  have h2 : n ∈ sortN ((madeTo l i).map Ed.name) := List.mem_of_mem_take ((madeNeeds_sub _ _ _).subset hn)
  rw [(sortN_spec _).2] at h2
  obtain ⟨x, hx, rfl⟩ := List.mem_map.1 h2
  obtain ⟨j, hj, rfl⟩ := madeTo_mem hx
  have h3 := (madeE_name l (madeTo l j) j (by omega)).2
  refine ⟨List.mem_map_of_mem (by have := madeTo_sub hx (c - i); rwa [show i + (c - i) = c by omega] at this), by omega⟩
/-- What names a made edit puts and takes away, out of what its numbers say. -/
def pickS (b : Bool) (s : Str) : List Str := if b then [s] else []
theorem made_puts (m : Int) (i : Nat) : (madePuts m i 4).map Df.name = pickS (decide ((shr m 0).tmod 4 = 1)) [97] ++ pickS (decide ((shr m 2).tmod 4 = 1)) [98] ++ pickS (decide ((shr m 4).tmod 4 = 1)) [99] ++ pickS (decide ((shr m 6).tmod 4 = 1)) [100] := by
  simp only [madePuts, pickS, List.map_append, List.nil_append, decide_eq_true_eq]
  refine congr (congrArg _ (congr (congrArg _ (congr (congrArg _ ?_) ?_)) ?_)) ?_ <;> (split <;> rfl)
theorem made_drops (m : Int) : madeDrops m 4 = pickS (decide ((shr m 4).tmod 4 = 2)) [99] ++ pickS (decide ((shr m 6).tmod 4 = 2)) [100] := by
  simp [madeDrops, pickS]
  refine congr (congrArg _ ?_) ?_ <;> (split <;> rfl)
theorem made_touch : ∀ a b c d e f : Bool, (c && e) = false → (d && f) = false →
    incr bless (pickS a [97] ++ pickS b [98] ++ pickS c [99] ++ pickS d [100]) = true ∧ incr bless (pickS e [99] ++ pickS f [100]) = true ∧
      okNames ((pickS a [97] ++ pickS b [98] ++ pickS c [99] ++ pickS d [100]) ++ (pickS e [99] ++ pickS f [100])) = true := by decide
theorem made_text (m : Int) (i : Nat) {d : Df} : ∀ {k : Nat}, d ∈ madePuts m i k → ∃ q v, d = defD q v
  | 0, h => by simp [madePuts] at h
  | k + 1, h => by
    rw [madePuts] at h
    rcases List.mem_append.1 h with h | h
    · exact made_text m i h
    · split at h
      · exact ⟨_, _, List.mem_singleton.1 h⟩
      · cases h
theorem made_proper (l : List Int) (i : Nat) (hi : i < 6) : properE (madeE l (madeTo l i) i) = true := by
  have h1 := (madeE_name l (madeTo l i) i hi).1
  obtain ⟨m, hm⟩ : ∃ m, m = atL l (3 + 3 * i) 4096 := ⟨_, rfl⟩
  have e1 : (madeE l (madeTo l i) i).puts = madePuts m i 4 := by rw [hm]; rfl
  have e2 : (madeE l (madeTo l i) i).drops = madeDrops m 4 := by rw [hm]; rfl
  have h2 : incr Nm.less (madeE l (madeTo l i) i).needs = true := incr_of_pw (((sortN_spec _).1.sublist (List.take_sublist _ _)).sublist (madeNeeds_sub _ _ _))
  have h3 : (madeE l (madeTo l i) i).needs.all Nm.isName = true := by
    rw [List.all_eq_true]
    intro n hn
    have h2 : n ∈ sortN ((madeTo l i).map Ed.name) := List.mem_of_mem_take ((madeNeeds_sub _ _ _).subset hn)
    rw [(sortN_spec _).2] at h2
    obtain ⟨x, hx, rfl⟩ := List.mem_map.1 h2
    obtain ⟨j, hj, rfl⟩ := madeTo_mem hx
    exact (madeE_name l (madeTo l j) j (by omega)).1
  have h4 := made_touch (decide ((shr m 0).tmod 4 = 1)) (decide ((shr m 2).tmod 4 = 1)) (decide ((shr m 4).tmod 4 = 1)) (decide ((shr m 6).tmod 4 = 1)) (decide ((shr m 4).tmod 4 = 2)) (decide ((shr m 6).tmod 4 = 2)) (by simp; omega) (by simp; omega)
  rw [← made_puts m i, ← made_drops m, ← e1, ← e2] at h4
  have h5 : (touches (madeE l (madeTo l i) i)).length ≤ 24 := by
    have a := madePuts_len m i 4
    have b := madeDrops_len m 4
    simp [touches, e1, e2]; omega
  have h6 : (madeE l (madeTo l i) i).puts.all (fun d => decide (d.text.length ≤ 1024)) = true := by
    rw [List.all_eq_true, e1]
    intro d hd
    obtain ⟨q, v, rfl⟩ := made_text m i hd
    have := nameS_len q
    simp [defD, digitS]; omega
  simp only [properE, h1, h2, h3, h4.1, h4.2.1, h6, Bool.and_true, Bool.true_and, decide_eq_true h5]
  exact h4.2.2
theorem made_valid (l : List Int) : validV (madeL l) = (((madeL l).length : Int), 0) := by
  have hc : (atL l 0 7).toNat ≤ 6 := by have := (atL_range l 0 7 (by decide)).2; omega
  refine validV_of (fun n => (n.seq % 6).toNat) (by have := madeL_len l; omega) (fun e he => ?_) (made_nodup l _ hc) (fun e he n hn => made_ranks hc he hn)
  obtain ⟨i, hi, rfl⟩ := madeTo_mem he
  exact made_proper l i (by omega)

end Go.Eng

/-
  Chapter 22, plain: turned lists made of numbers are valid. No condition.
-/
namespace Go.Eng

theorem mod_two {x n : Nat} (h : x < 2 * n) : (x < n ∧ x % n = x) ∨ (n ≤ x ∧ x % n = x - n) := by
  by_cases q : x < n
  · exact .inl ⟨q, Nat.mod_eq_of_lt q⟩
  · refine .inr ⟨by omega, ?_⟩
    rw [Nat.mod_eq_sub_mod (by omega), Nat.mod_eq_of_lt (by omega)]
theorem turnAt_inj {n i j : Nat} {b : Int} (hi : i < n) (hj : j < n) (h : turnAt n b i = turnAt n b j) : i = j := by
  have ha := around_lt b n (by omega)
  unfold turnAt at h
  obtain ⟨a, hq⟩ : ∃ a : Nat, a = (around b n).toNat := ⟨_, rfl⟩
  have han : a < n := by omega
  rw [← hq] at h
  have h1 := mod_two (x := i + a) (n := n) (by omega)
  have h2 := mod_two (x := j + a) (n := n) (by omega)
  dsimp only at h
  split at h <;> omega
theorem turnAt_sur {n j : Nat} (b : Int) (hj : j < n) : ∃ i, i < n ∧ turnAt n b i = j := by
  have ha := around_lt b n (by omega)
  unfold turnAt
  obtain ⟨a, hq⟩ : ∃ a : Nat, a = (around b n).toNat := ⟨_, rfl⟩
  have han : a < n := by omega
  rw [← hq]
  dsimp only
  split
  · by_cases q : a ≤ n - 1 - j
    · refine ⟨n - 1 - j - a, by omega, ?_⟩
      have h1 := mod_two (x := n - 1 - j - a + a) (n := n) (by omega)
      omega
    · refine ⟨n - 1 - j + n - a, by omega, ?_⟩
      have h1 := mod_two (x := n - 1 - j + n - a + a) (n := n) (by omega)
      omega
  · by_cases q : a ≤ j
    · refine ⟨j - a, by omega, ?_⟩
      have h1 := mod_two (x := j - a + a) (n := n) (by omega)
      omega
    · refine ⟨j + n - a, by omega, ?_⟩
      have h1 := mod_two (x := j + n - a + a) (n := n) (by omega)
      omega
theorem turned_len (l : List Ed) (b : Int) : (turnedL l b).length = l.length := by simp [turnedL]
theorem turned_mem {l : List Ed} {b : Int} {e : Ed} : e ∈ turnedL l b ↔ e ∈ l := by
  simp only [turnedL, List.mem_map, List.mem_range]
  constructor
  · rintro ⟨i, hi, rfl⟩
    have := turnAt_lt (n := l.length) (i := i) (b := b) (by omega)
    simp only [List.getD_eq_getElem?_getD, List.getElem?_eq_getElem this, Option.getD_some]
    exact List.getElem_mem this
  · intro h
    obtain ⟨j, hj, rfl⟩ := List.getElem_of_mem h
    obtain ⟨i, hi, e⟩ := turnAt_sur b hj
    exact ⟨i, hi, by rw [e]; simp [hj]⟩
theorem turned_nodup {l : List Ed} {b : Int} (h : (l.map Ed.name).Nodup) : ((turnedL l b).map Ed.name).Nodup := by
  refine List.pairwise_iff_getElem.2 fun i j hi hj hij e => ?_
  simp only [List.length_map, turned_len] at hi hj
  rw [List.getElem_map, List.getElem_map, turned_get hi, turned_get hj] at e
  have g1 := turnAt_lt (n := l.length) (i := i) (b := b) (by omega)
  have g2 := turnAt_lt (n := l.length) (i := j) (b := b) (by omega)
  simp only [List.getD_eq_getElem?_getD, List.getElem?_eq_getElem g1, List.getElem?_eq_getElem g2, Option.getD_some] at e
  have hp := List.pairwise_iff_getElem.1 h
  have := fun q => turnAt_inj (b := b) hi hj q
  rcases Nat.lt_trichotomy (turnAt l.length b i) (turnAt l.length b j) with q | q | q
  · exact hp _ _ (by simpa using g1) (by simpa using g2) q (by rw [List.getElem_map, List.getElem_map]; exact e)
  · have := this q; omega
  · exact hp _ _ (by simpa using g2) (by simpa using g1) q (by rw [List.getElem_map, List.getElem_map]; exact e.symm)
theorem turned_valid (l : List Int) (b : Int) : validV (turnedL (madeL l) b) = (((madeL l).length : Int), 0) := by
  have hc : (atL l 0 7).toNat ≤ 6 := by have := (atL_range l 0 7 (by decide)).2; omega
  rw [← turned_len (madeL l) b]
  refine validV_of (fun n => (n.seq % 6).toNat) (by rw [turned_len]; have := madeL_len l; omega) (fun e he => ?_) (turned_nodup (made_nodup l _ hc)) (fun e he n hn => ?_)
  · obtain ⟨i, hi, rfl⟩ := madeTo_mem (turned_mem.1 he)
    exact made_proper l i (by omega)
  · obtain ⟨h1, h2⟩ := made_ranks hc (turned_mem.1 he) hn
    refine ⟨?_, h2⟩
    obtain ⟨x, hx, rfl⟩ := List.mem_map.1 h1
    exact List.mem_map_of_mem (turned_mem.2 hx)
end Go.Eng

/-
  Chapter 22: EditValid. No condition.
-/
namespace Go.Eng
open Go.Proofs
attribute [local simp] runL stepL evalG evalOp opLV constLV putEnv dstOk upd upds Res.plain Res.cond Res.fail evalBin evalUn seqQ blockQ argsEnv lookL lookH RetIs memless freshL evalPick evalMin bval bok evalLen evalIn strip whenC guardOps guardC slotsOf
  runM foldS stepI stepM maskE wrIn lk renO lookN evalCall evalCallee optAll resLV resObj retLV retObj retsLV retsObj evalLoad evalIndexAddr evalField solid cellsD_agg cellsD_int cellsD_bool cellsD_str cellsD_sl cellsD_ro cellsD_fn cellsL_agg cellsL_dagg cellsL_int cellsL_bool cellsL_str cellsL_sl cellsL_fn cellsL_ow cellsL_bx cellsL_lfn cellsL_nl takeL takeD mkAgg allD eqD eqDs kindsAre kindIs LObj.live TK.isNone TK.agg TK.isBool TK.isStr TK.isStruct Op.operands Call.operands
  evalBuildSlice evalAppend elemsOf evalStore evalBuild fillL lookupF putL evalSlice bound evalConv elemsS freezes frozen loadR
  mkEnv_at mkObs_at close_d close_agg close_ow close_bx close_fn close_nl touch_d touch_agg touch_ow touch_bx touch_fn touch_nl ren_d ren_agg ren_bx ren_rp ren_ow ren_fn ren_nl ren_junk retQ_ret retQ2_ret condQ_bool Nm.d Df.d Ed.d nmsD dfsD strsD edsD retC_ret nm_eq df_eq take_map_len take_map_app
  nm_t nm_d nm_td df_t df_d df_td str_t str_d str_td ed_t ed_d ed_td
  evalAppendIn evalCut evalClear evalCopy evalMake evalWrap evalCap evalNil isNilC lenL isInp gorc
  mapOf findD keyEq keyOk evalMakeMap evalRange zeroD zeroDV argsG shutG outN lenv retG0_ret retG0_normal retG1_ret renO close_mp touch_mp ren_mp optAll_d optAll_d' touch_ds cellsL_mp cellsD_mp cellsL_dmp

/-- The five lists of a statement. -/
def five5 (a L1 L2 t : List Ed) : List (List Ed) := [a, L1, L2, t, []]
theorem turned_needs (l : List Int) (b : Int) : (allNeeds (turnedL (madeL l) b)).length ≤ 36 := by
  have h := flat_le (f := Ed.needs) (l := turnedL (madeL l) b) fun x hx => (made_mem (turned_mem.1 hx)).1
  have := madeL_len l
  rw [turned_len] at h
  unfold allNeeds; omega
theorem five_ok {l : List Int} {L1 L2 : List Ed} {b : Int} (h1 : SpB (madeL l) L1) (h2 : SpB L1 L2) {x : List Ed} (hx : x ∈ five5 (madeL l) L1 L2 (turnedL (madeL l) b)) : small x ∧ (allNeeds x).length ≤ 1000 ∧ x.length ≤ 1000 := by
  have q := lists_b h1 h2
  simp only [five5, List.mem_cons, List.not_mem_nil, or_false] at hx
  rcases hx with rfl | rfl | rfl | rfl | rfl
  · exact ⟨made_small l, by have := made_needs l; omega, by have := madeL_len l; omega⟩
  · exact ⟨fun e he => by have := q.part1 e he; omega, by have := q.need1; omega, by have := q.len1; omega⟩
  · exact ⟨fun e he => by have := q.part2 e he; omega, by have := q.need2; omega, by have := q.len2; omega⟩
  · refine ⟨fun e he => by have := made_mem (turned_mem.1 he); omega, by have := turned_needs l b; omega, ?_⟩
    rw [turned_len]
    have := madeL_len l; omega
  · exact ⟨fun e he => (by cases he), by simp [allNeeds], by simp⟩
theorem five_valid {l : List Int} {L1 L2 : List Ed} {b : Int} {i : Nat} (hi : i < 5) (h : i % 3 = 0) : (validV ((five5 (madeL l) L1 L2 (turnedL (madeL l) b))[i]'hi)).2 = 0 := by
  rcases (by omega : i = 0 ∨ i = 3) with rfl | rfl
  · show (validV (madeL l)).2 = 0
    rw [made_valid]
  · show (validV (turnedL (madeL l) b)).2 = 0
    rw [turned_valid]

/-- culprit/culpritlaw22.EditValid -/
theorem EditValid_ok (l : List Int) (how b : Int) (hr : ∀ n ∈ l, -9223372036854775808 ≤ n ∧ n ≤ 9223372036854775807) (q1 : -9223372036854775808 ≤ b) (q2 : b ≤ 9223372036854775807) (q3 : -9223372036854775808 ≤ how) (q4 : how ≤ 9223372036854775807) : Ok Tryz.prog 3 [.sl (l.map I64), I64 how, I64 b] ⟨.d (.bool true), true⟩ := by
  refine Ok.ret Tryz.func3 (by kernel_rfl) (c := _) rfl Tryz.ntmps3 (by simp) Tryz.results3 (by intro _ h; cases h) fun w0 X hp => ?_
  refine LWp.seq ?_
  refine LWp.reg hT hW (fun _ => none) (fun _ => ⟨rfl, fun _ h => h⟩) ?_
  simp
  refine LWp.seq ?_
  refine LWp.regRel hT hW 16 (fun r => (∃ L1 L2 : List Ed, SpB (madeL l) L1 ∧ SpB L1 L2 ∧ r.v = .d (.sl [edsD (madeL l), edsD L1, edsD L2, edsD (turnedL (madeL l) b), .sl []])) ∧ r.fresh = false) false ⟨.d (.sl [edsD (madeL l), edsD (madeL l), edsD (madeL l), edsD (turnedL (madeL l) b), .sl []]), false⟩ ⟨⟨⟨madeL l, madeL l, SpB.refl _, SpB.refl _, rfl⟩, rfl⟩, rfl⟩ (fun | 99 => none | _ => none) (by intro d; first | exact ⟨rfl, fun _ h => h⟩ | (split <;> exact ⟨rfl, fun _ h => h⟩)) (by kernel_rfl) fun r1 hr1 => ?_
  obtain ⟨v1, f1⟩ := r1
  obtain ⟨⟨L1, L2, hL1, hL2, hv⟩, hf⟩ := hr1
  dsimp only at hv hf
  obtain ⟨A, hA⟩ : ∃ A, A = five5 (madeL l) L1 L2 (turnedL (madeL l) b) := ⟨_, rfl⟩
  have hA5 : A.length = 5 := by rw [hA]; rfl
  have hok : ∀ x ∈ A, small x ∧ (allNeeds x).length ≤ 1000 ∧ x.length ≤ 1000 := fun x hx => five_ok hL1 hL2 (hA ▸ hx)
  have hvd : ∀ (i : Nat) (h : i < A.length), i % 3 = 0 → (validV A[i]).2 = 0 := by subst hA; exact fun i h hm => five_valid h hm
  have hAd : [edsD (madeL l), edsD L1, edsD L2, edsD (turnedL (madeL l) b), .sl []] = A.map edsD := by rw [hA]; rfl
  have hlo := lists_ok l how b hr q1 q2 q3 q4
  rw [hAd] at hv
  subst hv; subst hf
  simp
  refine ⟨by simpa using hlo, ?_⟩
  refine LWp.seq ?_
  refine LWp.seq ?_
  refine LWp.reg hT hW (fun _ => none) (fun _ => ⟨rfl, fun _ h => h⟩) ?_
  simp
  refine LWp.block ?_
  refine LWp.loopW (ι := Nat) (fun i => mkEnv [(7, .d (.sl (A.map edsD))), (8, .d (I64 i))]) (fun i => mkObs []) (fun i => i ≤ A.length) (fun i => A.length - i) 0 (Weak.to [7, 8] [] (by decide) (by decide) (by simp [hp]) (by simp) (by simp)) (by simp) fun i hi3 => ?_
  refine LWp.seq ?_
  refine LWp.seq ?_
  refine LWp.reg hT hW (fun _ => none) (fun _ => ⟨rfl, fun _ h => h⟩) ?_
  simp
  refine LWp.iff ?_
  simp
  refine ⟨fun h3 => ?_, fun h3 => ?_⟩
  · refine LWp.skip ?_
    simp
    refine LWp.seq ?_
    refine LWp.block ?_
    refine LWp.seq ?_
    have hxo := hok _ (List.getElem_mem h3)
    have hev := EValid_ok A[i] hxo.1
    have hrv := Valid_ok A[i] hxo.1 (by omega)
    refine LWp.reg hT hW (fun | 28 => some <| .plain ⟨.tup [.d (I64 (validV A[i]).1), .d (I64 (validV A[i]).2)], true⟩ | _ => none) (by intro d; first | exact ⟨rfl, fun _ h => h⟩ | (split <;> exact ⟨rfl, fun _ h => h⟩)) ?_
    simp [evalExtract, h3]
    refine ⟨by simpa using hev, ?_⟩
    refine LWp.seq ?_
    refine LWp.reg hT hW (fun | 36 => some <| .plain ⟨.tup [.d (I64 (validV A[i]).1), .d (I64 (validV A[i]).2)], true⟩ | _ => none) (by intro d; first | exact ⟨rfl, fun _ h => h⟩ | (split <;> exact ⟨rfl, fun _ h => h⟩)) ?_
    simp [evalExtract, h3]
    refine ⟨by simpa using hrv, ?_⟩
    refine LWp.seq ?_
    have hkey : (((i : Int).tmod 3 = 0) ∧ ¬ (validV A[i]).2 = 0) = False := by
      simp only [eq_iff_iff, iff_false, not_and, Decidable.not_not]
      intro ht
      rw [Int.tmod_eq_emod_of_nonneg (by omega)] at ht
      exact hvd i h3 (by omega)
    refine LWp.reg hT hW (fun _ => none) (fun _ => ⟨rfl, fun _ h => h⟩) ?_
    simp
    refine LWp.iff ?_
    simp [hkey]
    intro h7
    refine LWp.skip ?_
    simp
    refine LWp.reg hT hW (fun _ => none) (fun _ => ⟨rfl, fun _ h => h⟩) ?_
    simp
    refine ⟨by omega, ?_⟩
    refine loopQ.mk (i + 1) (Weak.to [7, 8] [] (by decide) (by decide) (by simp [hp]) (by simp) (by simp)) ?_ ?_
    · omega
    · omega
  · refine LWp.exit ?_
    simp
    refine LWp.seq ?_
    refine LWp.reg hT hW (fun | 56 => some <| .plain ⟨.d (.bool true), true⟩ | _ => none) (by intro d; first | exact ⟨rfl, fun _ h => h⟩ | (split <;> exact ⟨rfl, fun _ h => h⟩)) ?_
    simp
    refine ⟨lives_ok, ?_⟩
    refine LWp.ret ?_
    simp

end Go.Eng

/-
  The engine, part AZ: from a contract to the statement's frame. No condition.
-/
namespace Go.Eng
open Go.RowKit

/-- What is known of a slice of integers that came in. -/
def IsRow (k : IntKind) (w : World) (a : Option Addr) (len cap : Nat) (zs : List Int) : Prop :=
  (a = none ∧ len = 0 ∧ cap = 0 ∧ zs = []) ∨
  ∃ x, a = some x ∧ len ≤ cap ∧ cap ≤ maxLen ∧ zs.length = cap ∧ (∀ i, i < zs.length → w.cell? (x.add i) = some (.int k (zs.getD i 0))) ∧ ∀ n ∈ zs, (Lit.int k n).wf = true
theorem int_rng {n : Int} (h : (Lit.int .i64 n).wf = true) : -9223372036854775808 ≤ n ∧ n ≤ 9223372036854775807 := by
  simp only [Lit.wf, Bool.and_eq_true, decide_eq_true_eq, IntKind.min, IntKind.max, IntKind.signed, IntKind.bits] at h
  exact ⟨h.1, h.2⟩
theorem row_rng {w : World} {a : Option Addr} {len cap : Nat} {zs : List Int} (h : IsRow .i64 w a len cap zs) : ∀ n ∈ zs.take len, -9223372036854775808 ≤ n ∧ n ≤ 9223372036854775807 := fun n hn => by
  have hn := List.mem_of_mem_take hn
  rcases h with ⟨_, _, _, rfl⟩ | ⟨x, _, _, _, _, _, h⟩
  · cases hn
  · exact int_rng (h n hn)
theorem row_rd {w : World} {k : IntKind} {a : Option Addr} {len cap : Nat} {zs : List Int} (h : IsRow k w a len cap zs) : RD w (fun _ => False) (.sl ((zs.take len).map (.int k))) (.slice a len cap) := by
  rcases h with ⟨rfl, rfl, rfl, rfl⟩ | ⟨x, rfl, h1, h2, h3, h4, h5⟩
  · exact .sl0 _ 0 (Nat.zero_le _)
  · by_cases h0 : len = 0
    · subst h0
      rw [List.take_zero]
      exact .sl0 _ cap h2
    · obtain ⟨b, o, rfl, hc⟩ := ints_at h4 (by omega)
      have hl : ((zs.take len).map (DV.int k)).length = len := by simp; omega
      have hfl : flatD ((zs.take len).map (DV.int k)) = (zs.take len).map (DV.int k) := by
        unfold flatD
        rw [List.flatMap_map]
        induction zs.take len with
        | nil => rfl
        | cons a l ih => rw [List.flatMap_cons, ih]; rfl
      have := RD.sl (w := w) (E := fun _ => False) ((zs.take len).map (.int k)) b o cap 1 ((zs.take len).map (.int k)) (fun e => by rw [e] at hl; simp at hl; omega) (fun h => h) (fun x hx => by obtain ⟨n, _, rfl⟩ := List.mem_map.1 hx; rfl)
        (by rw [hl]; exact h1) h2 (by simp) (fun u hu => by obtain ⟨n, _, rfl⟩ := List.mem_map.1 hu; rfl) (cell_lt (hc 0 (by omega))) (fun j u hj => by
          have hj' : j < len := by
            have := (List.getElem?_eq_some_iff.1 hj).1
            simp at this; omega
          have hz : j < zs.length := by omega
          have := hc j hz
          rw [this]
          simp [hj', hz] at hj
          simp [hz, hj]) (fun i d v hd hv => by
          rw [hfl] at hd
          simp only [List.getElem?_map] at hd hv
          cases q : (zs.take len)[i]? with
          | none => rw [q] at hd; cases hd
          | some n => rw [q] at hd hv; cases hd; cases hv; exact .int k n)
      rw [hl] at this
      exact this
theorem RDs.nil {w : World} {E : Nat → Prop} : RDs w E [] [] := ⟨rfl, fun i c v h => by simp at h⟩
theorem RDs.cons {w : World} {E : Nat → Prop} {d : DV} {v : Value} {ds : List DV} {vs : List Value} (h : RD w E d v) (hs : RDs w E ds vs) : RDs w E (d :: ds) (v :: vs) :=
  ⟨by simp [hs.1], fun i c u hc hu => by
    cases i with
    | zero => simp at hc hu; subst hc; subst hu; exact h
    | succ i => exact hs.2 i c u (by simpa using hc) (by simpa using hu)⟩
/-- A law whose contract is that true comes back. -/
theorem law_calls {P : Program} {f : FuncId} {args : List DV} {fr : Bool} (h : Ok P f args ⟨.d (.bool true), fr⟩) (w : World) (vs : List Value) (hr : RDs w (fun _ => False) args vs) :
    Calls P f vs.toArray w fun e w' => e = .returned (.bool true) ∧ Below w.heap.size w w' :=
  (h.2 w (fun _ => False) vs (fun _ h => h.elim) hr).mono fun _ _ ⟨v, h1, h2, h3⟩ => by
    obtain ⟨_, h4⟩ := h3
    cases h4
    exact ⟨h1, h2.below⟩
end Go.Eng
