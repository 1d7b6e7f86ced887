/-
  Texts of the proofs of this seat, part 5. No condition.
-/
import Derived.Test.YtpoohdjiocpcfaaGreatMD
set_option linter.unusedVariables false
set_option linter.unusedSimpArgs false
/-
  Chapter 22: edit.Clashes. No condition.
-/
namespace Go.Eng
open Go.Proofs
attribute [local simp] runL stepL evalG evalOp opLV constLV putEnv dstOk upd upds Res.plain Res.cond Res.fail evalBin evalUn seqQ blockQ argsEnv lookL lookH RetIs memless freshL evalPick evalMin bval bok evalLen evalIn strip whenC guardOps guardC slotsOf
  runM foldS stepI stepM maskE wrIn lk renO lookN evalCall evalCallee optAll resLV resObj retLV retObj retsLV retsObj evalLoad evalIndexAddr evalField solid cellsD_agg cellsD_int cellsD_bool cellsD_str cellsD_sl cellsD_ro cellsD_fn cellsL_agg cellsL_dagg cellsL_int cellsL_bool cellsL_str cellsL_sl cellsL_fn cellsL_ow cellsL_bx cellsL_lfn cellsL_nl takeL takeD mkAgg allD eqD eqDs kindsAre kindIs LObj.live TK.isNone TK.agg TK.isBool TK.isStr TK.isStruct Op.operands Call.operands
  evalBuildSlice evalAppend elemsOf evalStore evalBuild fillL lookupF putL evalSlice bound evalConv elemsS freezes frozen loadR
  mkEnv_at mkObs_at close_d close_agg close_ow close_bx close_fn close_nl touch_d touch_agg touch_ow touch_bx touch_fn touch_nl ren_d ren_agg ren_bx ren_rp ren_ow ren_fn ren_nl ren_junk retQ_ret retQ2_ret condQ_bool Nm.d Df.d Ed.d nmsD dfsD strsD edsD retC_ret nm_eq df_eq take_map_len take_map_app
  nm_t nm_d nm_td df_t df_d df_td str_t str_d str_td ed_t ed_d ed_td
  evalAppendIn evalCut evalClear evalCopy evalMake evalWrap evalCap evalNil isNilC lenL isInp gorc
  mapOf findD keyEq keyOk evalMakeMap evalRange zeroD zeroDV argsG shutG outN lenv retG0_ret retG0_normal retG1_ret renO close_mp touch_mp ren_mp optAll_d optAll_d' touch_ds cellsL_mp cellsD_mp cellsL_dmp

def prD (p : Nm × Nm) : DV := .agg [.int .i64 p.1.who, .int .i64 p.1.seq, .int .i64 p.2.who, .int .i64 p.2.seq]
def rowC (f : Nm → Nm → Bool) (all : List Nm) (i : Nat) : List (Nm × Nm) := ((all.drop (i + 1)).filter (f (all.getD i default))).map fun b => (all.getD i default, b)
/-- The pairs of a list, in order, of which something holds. -/
def pairsL (f : Nm → Nm → Bool) (all : List Nm) : Nat → List (Nm × Nm)
  | 0 => []
  | i + 1 => pairsL f all i ++ rowC f all i
def sharesB (l : List Ed) (a b : Nm) : Bool := decide (0 < (sharedL l a b).length)
def clashesL (l : List Ed) : List (Nm × Nm) := if (validV l).2 ≠ 0 then [] else pairsL (sharesB l) (sortN (l.map Ed.name)) (sortN (l.map Ed.name)).length
theorem rowC_len (f : Nm → Nm → Bool) (all : List Nm) (i : Nat) : (rowC f all i).length ≤ all.length := by
  unfold rowC
  rw [List.length_map]
  exact Nat.le_trans (List.length_filter_le _ _) (by simp)
theorem pairsL_len (f : Nm → Nm → Bool) (all : List Nm) : ∀ i, (pairsL f all i).length ≤ i * all.length
  | 0 => by simp [pairsL]
  | i + 1 => by
    have := pairsL_len f all i
    have := rowC_len f all i
    simp only [pairsL, List.length_append, Nat.add_mul]
    omega
theorem names_found {l : List Ed} {n : Nm} (h : n ∈ sortN (l.map Ed.name)) : 0 ≤ findI l n := by
  have h := ((sortN_spec _).2 n).1 h
  obtain ⟨e, he, rfl⟩ := List.mem_map.1 h
  unfold findI
  cases q : find? l e.name with
  | some i => simp
  | none => have := List.findIdx?_eq_none_iff.1 q e he; simp at this

/-- culprit/edit.Clashes -/
theorem EClashes_ok (l : List Ed) (hs : small l) : Ok Tryz.prog 70 [edsD l] ⟨.d (.sl ((clashesL l).map prD)), true⟩ := by
  refine Ok.ret Tryz.func70 (by kernel_rfl) (c := _) rfl Tryz.ntmps70 (by simp) Tryz.results70 (by intro _ h; cases h) fun w0 X hp => ?_
  refine LWp.len (t := 0) rfl fun hlen => ?_
  simp at hlen
  refine LWp.seq ?_
  refine LWp.reg hT hW (fun _ => none) (fun _ => ⟨rfl, fun _ h => h⟩) ?_
  simp
  refine LWp.seq ?_
  refine LWp.seq ?_
  refine LWp.reg hT hW (fun | 15 => some <| .plain ⟨.tup [.d (I64 (validV l).1), .d (I64 (validV l).2)], true⟩ | _ => none) (by intro d; first | exact ⟨rfl, fun _ h => h⟩ | (split <;> exact ⟨rfl, fun _ h => h⟩)) ?_
  simp [evalExtract]
  refine ⟨EValid_ok l hs, ?_⟩
  refine LWp.seq ?_
  refine LWp.reg hT hW (fun _ => none) (fun _ => ⟨rfl, fun _ h => h⟩) ?_
  simp
  refine LWp.iff ?_
  simp
  refine ⟨fun h2 => ?_, fun h2 => ?_⟩
  · refine LWp.seq ?_
    refine LWp.reg hT hW (fun _ => none) (fun _ => ⟨rfl, fun _ h => h⟩) ?_
    simp
    refine LWp.ret ?_
    simp [clashesL, h2]
  · have h64 := (valid_err (by simpa using h2)).1
    refine LWp.skip ?_
    simp
    refine LWp.seq ?_
    refine LWp.reg hT hW (fun _ => none) (fun _ => ⟨rfl, fun _ h => h⟩) ?_
    simp
    refine LWp.seq ?_
    refine LWp.seq ?_
    refine LWp.reg hT hW (fun _ => none) (fun _ => ⟨rfl, fun _ h => h⟩) ?_
    simp
    refine LWp.block ?_
    refine LWp.loopW (ι := Nat × List Nm) (fun ⟨i, acc⟩ => mkEnv [(0, .d (edsD l)), (5, .ow 5 0 acc.length), (20, .d (edsD l)), (21, .d (I64 l.length)), (22, .d (I64 i))]) (fun ⟨i, acc⟩ => mkObs [(5, .row false 2 (acc.map Nm.d))]) (fun ⟨i, acc⟩ => i ≤ l.length ∧ acc.length = i ∧ acc = (l.map Ed.name).take i) (fun ⟨i, acc⟩ => l.length - i) (0, []) (Weak.to [0, 5, 20, 21, 22] [(5, 5)] (by decide) (by decide) (by simp [hp]) (by simp) (by simp)) (by simp) fun ⟨i, acc⟩ hi6 => ?_
    refine LWp.seq ?_
    refine LWp.reg hT hW (fun _ => none) (fun _ => ⟨rfl, fun _ h => h⟩) ?_
    simp
    refine LWp.seq ?_
    refine LWp.iff ?_
    simp
    refine ⟨fun h6 => ?_, fun h6 => ?_⟩
    · refine LWp.skip ?_
      simp
      refine LWp.seq ?_
      refine LWp.block ?_
      refine LWp.seq ?_
      refine LWp.reg hT hW (fun _ => none) (fun _ => ⟨rfl, fun _ h => h⟩) ?_
      simp [h6]
      refine LWp.reg hT hW (fun _ => none) (fun _ => ⟨rfl, fun _ h => h⟩) ?_
      simp [h6]
      refine ⟨by have := hi6.2.1; omega, ?_⟩
      refine LWp.reg hT hW (fun _ => none) (fun _ => ⟨rfl, fun _ h => h⟩) ?_
      simp
      refine ⟨by omega, ?_⟩
      refine loopQ.mk (i + 1, acc ++ [l[i].name]) (Weak.to [0, 5, 20, 21, 22] [(30, 5)] (by decide) (by decide) (by simp [hp]) (by simp) (by simp)) ?_ ?_
      · exact ⟨h6, by simp [hi6.2.1], by rw [map_take_succ h6, ← hi6.2.2]⟩
      · omega
    · refine LWp.exit ?_
      simp
      refine LWp.seq ?_
      have e6 : acc = l.map Ed.name := by rw [hi6.2.2, show i = l.length by omega, List.take_of_length_le (by simp)]
      refine LWp.reg hT hW (fun | 33 => some <| .plain ⟨.own 2 ((sortN acc).map Nm.d), true⟩ | _ => none) (by intro d; first | exact ⟨rfl, fun _ h => h⟩ | (split <;> exact ⟨rfl, fun _ h => h⟩)) ?_
      simp
      refine ⟨ESort_ok acc (by have := hi6.2.1; omega), ?_⟩
      refine LWp.seq ?_
      refine LWp.reg hT hW (fun _ => none) (fun _ => ⟨rfl, fun _ h => h⟩) ?_
      simp
      refine LWp.seq ?_
      refine LWp.seq ?_
      obtain ⟨all, hall⟩ : ∃ all, all = sortN acc := ⟨_, rfl⟩
      have hal : all.length ≤ 64 := by have := sortN_len acc; have := hi6.2.1; rw [hall]; omega
      have hfound : ∀ n ∈ all, 0 ≤ findI l n := fun n hn => names_found (by rw [← e6, ← hall]; exact hn)
      rw [← hall]
      refine LWp.reg hT hW (fun _ => none) (fun _ => ⟨rfl, fun _ h => h⟩) ?_
      simp
      refine LWp.block ?_
      refine LWp.loopW (ι := Nat × List (Nm × Nm)) (fun ⟨j, ps⟩ => mkEnv [(0, .d (edsD l)), (5, .ow 5 0 all.length), (8, .ow 8 0 ps.length), (34, .ow 5 0 all.length), (35, .d (I64 all.length)), (36, .d (I64 j))]) (fun ⟨j, ps⟩ => mkObs [(5, .row false 2 (all.map Nm.d)), (8, .row false 4 (ps.map prD))]) (fun ⟨j, ps⟩ => j ≤ all.length ∧ ps.length ≤ j * all.length ∧ ps = pairsL (sharesB l) all j) (fun ⟨j, ps⟩ => all.length - j) (0, []) (Weak.to [0, 5, 8, 34, 35, 36] [(33, 5), (8, 8)] (by decide) (by decide) (by simp [hp]) (by simp) (by simp)) (by simp [pairsL]) fun ⟨j, ps⟩ hi13 => ?_
      refine LWp.seq ?_
      refine LWp.reg hT hW (fun _ => none) (fun _ => ⟨rfl, fun _ h => h⟩) ?_
      simp
      refine LWp.seq ?_
      refine LWp.iff ?_
      simp
      refine ⟨fun h13 => ?_, fun h13 => ?_⟩
      · refine LWp.skip ?_
        simp
        refine LWp.seq ?_
        refine LWp.block ?_
        refine LWp.seq ?_
        refine LWp.reg hT hW (fun _ => none) (fun _ => ⟨rfl, fun _ h => h⟩) ?_
        simp [h13]
        refine LWp.seq ?_
        refine LWp.reg hT hW (fun _ => none) (fun _ => ⟨rfl, fun _ h => h⟩) ?_
        simp [(show ((all.length : Int) - ((j : Int) + 1)).toNat = all.length - (j + 1) by omega)]
        refine ⟨by omega, ?_⟩
        refine LWp.block ?_
        refine LWp.loopW (ι := Nat × List (Nm × Nm)) (fun ⟨k, qs⟩ => mkEnv [(0, .d (edsD l)), (5, .ow 5 0 all.length), (8, .ow 8 0 qs.length), (10, .bx 10 0), (34, .ow 5 0 all.length), (35, .d (I64 all.length)), (36, .d (I64 j)), (44, .ow 5 (j + 1) (all.length - (j + 1))), (45, .d (I64 (all.length - (j + 1) : Nat))), (46, .d (I64 k))]) (fun ⟨k, qs⟩ => mkObs [(5, .row false 2 (all.map Nm.d)), (8, .row false 4 (qs.map prD)), (10, .box false [.d (I64 all[j].who), .d (I64 all[j].seq)])]) (fun ⟨k, qs⟩ => k ≤ all.length - (j + 1) ∧ qs.length ≤ ps.length + k ∧ qs = pairsL (sharesB l) all j ++ (((all.drop (j + 1)).take k).filter (sharesB l all[j])).map (fun b => (all[j], b))) (fun ⟨k, qs⟩ => all.length - (j + 1) - k) (0, ps) (Weak.to [0, 5, 8, 10, 34, 35, 36, 44, 45, 46] [(5, 5), (8, 8), (10, 10)] (by decide) (by decide) (by simp [hp]) (by simp) (by simp)) (by simp [hi13.2.2]) fun ⟨k, qs⟩ hi16 => ?_
        refine LWp.seq ?_
        refine LWp.reg hT hW (fun _ => none) (fun _ => ⟨rfl, fun _ h => h⟩) ?_
        simp
        refine LWp.seq ?_
        refine LWp.iff ?_
        simp
        refine ⟨fun h16 => ?_, fun h16 => ?_⟩
        · refine LWp.skip ?_
          simp
          refine LWp.seq ?_
          refine LWp.block ?_
          refine LWp.seq ?_
          have h16' : j + 1 + k < all.length := by omega
          refine LWp.reg hT hW (fun _ => none) (fun _ => ⟨rfl, fun _ h => h⟩) ?_
          simp [h16, h16']
          refine LWp.seq ?_
          refine LWp.reg hT hW (fun | 53 => some <| .plain ⟨.d (strsD (sharedL l all[j] all[j + 1 + k])), true⟩ | _ => none) (by intro d; first | exact ⟨rfl, fun _ h => h⟩ | (split <;> exact ⟨rfl, fun _ h => h⟩)) ?_
          simp
          refine ⟨apart_ok l _ _ hs (hfound _ (List.getElem_mem h13)) (hfound _ (List.getElem_mem h16')), ?_⟩
          refine LWp.iff ?_
          simp
          refine ⟨fun h18 => ?_, fun h18 => ?_⟩
          · refine LWp.reg hT hW (fun _ => none) (fun _ => ⟨rfl, fun _ h => h⟩) ?_
            simp
            have hb : qs.length ≤ 5000 := by
              have h1 := hi16.2.1
              have h2 := hi13.2.1
              have h3 : j * all.length ≤ 64 * 64 := Nat.mul_le_mul (by omega) hal
              omega
            refine ⟨by omega, ?_⟩
            refine LWp.reg hT hW (fun _ => none) (fun _ => ⟨rfl, fun _ h => h⟩) ?_
            simp
            refine ⟨by omega, ?_⟩
            refine loopQ.mk (k + 1, qs ++ [(all[j], all[j + 1 + k])]) (Weak.to [0, 5, 8, 10, 34, 35, 36, 44, 45, 46] [(5, 5), (61, 8), (10, 10)] (by decide) (by decide) (by simp [hp]) (by simp) (by simp [prD])) ?_ ?_
            · refine ⟨by omega, by have := hi16.2.1; simp; omega, ?_⟩
              rw [hi16.2.2, List.take_succ_eq_append_getElem (by simp; omega), List.filter_append, List.map_append]
              simp [sharesB, h18]
            · omega
          · refine LWp.skip ?_
            simp
            refine LWp.reg hT hW (fun _ => none) (fun _ => ⟨rfl, fun _ h => h⟩) ?_
            simp
            refine ⟨by omega, ?_⟩
            refine loopQ.mk (k + 1, qs) (Weak.to [0, 5, 8, 10, 34, 35, 36, 44, 45, 46] [(5, 5), (8, 8), (10, 10)] (by decide) (by decide) (by simp [hp]) (by simp) (by simp)) ?_ ?_
            · dsimp only
              refine ⟨by omega, by have := hi16.2.1; omega, ?_⟩
              rw [hi16.2.2, List.take_succ_eq_append_getElem (by simp; omega), List.filter_append, List.map_append]
              simp [sharesB, h18]
            · omega
        · refine LWp.exit ?_
          simp
          refine LWp.reg hT hW (fun _ => none) (fun _ => ⟨rfl, fun _ h => h⟩) ?_
          simp
          refine ⟨by omega, ?_⟩
          refine loopQ.mk (j + 1, qs) (Weak.to [0, 5, 8, 34, 35, 36] [(5, 5), (8, 8)] (by decide) (by decide) (by simp [hp]) (by simp) (by simp)) ?_ ?_
          · refine ⟨h13, ?_, ?_⟩
            · rw [hi16.2.2, List.length_append, Nat.add_mul]
              have h1 := hi13.2.1
              have h2 := hi13.2.2
              rw [← h2]
              have h3 : ((((all.drop (j + 1)).take k).filter (sharesB l all[j])).map (fun b => (all[j], b))).length ≤ all.length := by
                rw [List.length_map]
                exact Nat.le_trans (List.length_filter_le _ _) (by simp; omega)
              omega
            · rw [hi16.2.2, List.take_of_length_le (by simp; omega)]
              simp [pairsL, rowC, h13]
          · omega
      · refine LWp.exit ?_
        simp
        refine LWp.seq ?_
        refine LWp.reg hT hW (fun _ => none) (fun _ => ⟨rfl, fun _ h => h⟩) ?_
        simp
        refine LWp.ret ?_
        have e : ps = clashesL l := by
          have := hi13.2.2
          rw [show j = all.length by omega, hall, e6] at this
          simp [clashesL, h2, this]
        simp [e]
        rintro _ a b _ rfl
        simp [prD]

end Go.Eng

/-
  Chapter 22: edit.Closure. No condition.
-/
namespace Go.Eng
open Go.Proofs
attribute [local simp] runL stepL evalG evalOp opLV constLV putEnv dstOk upd upds Res.plain Res.cond Res.fail evalBin evalUn seqQ blockQ argsEnv lookL lookH RetIs memless freshL evalPick evalMin bval bok evalLen evalIn strip whenC guardOps guardC slotsOf
  runM foldS stepI stepM maskE wrIn lk renO lookN evalCall evalCallee optAll resLV resObj retLV retObj retsLV retsObj evalLoad evalIndexAddr evalField solid cellsD_agg cellsD_int cellsD_bool cellsD_str cellsD_sl cellsD_ro cellsD_fn cellsL_agg cellsL_dagg cellsL_int cellsL_bool cellsL_str cellsL_sl cellsL_fn cellsL_ow cellsL_bx cellsL_lfn cellsL_nl takeL takeD mkAgg allD eqD eqDs kindsAre kindIs LObj.live TK.isNone TK.agg TK.isBool TK.isStr TK.isStruct Op.operands Call.operands
  evalBuildSlice evalAppend elemsOf evalStore evalBuild fillL lookupF putL evalSlice bound evalConv elemsS freezes frozen loadR
  mkEnv_at mkObs_at close_d close_agg close_ow close_bx close_fn close_nl touch_d touch_agg touch_ow touch_bx touch_fn touch_nl ren_d ren_agg ren_bx ren_rp ren_ow ren_fn ren_nl ren_junk retQ_ret retQ2_ret condQ_bool Nm.d Df.d Ed.d nmsD dfsD strsD edsD retC_ret nm_eq df_eq take_map_len take_map_app
  nm_t nm_d nm_td df_t df_d df_td str_t str_d str_td ed_t ed_d ed_td
  evalAppendIn evalCut evalClear evalCopy evalMake evalWrap evalCap evalNil isNilC lenL isInp gorc
  mapOf findD keyEq keyOk evalMakeMap evalRange zeroD zeroDV argsG shutG outN lenv retG0_ret retG0_normal retG1_ret renO close_mp touch_mp ren_mp optAll_d optAll_d' touch_ds cellsL_mp cellsD_mp cellsL_dmp

def entryKey (e : MapEntry) : Nm := match e.key with
  | .agg cs => match cs.toList with
    | [.int _ a, .int _ b] => ⟨a, b⟩
    | _ => default
  | _ => default
theorem rd_nm {w : World} {E : Nat → Prop} {n : Nm} {v : Value} (h : RD w E n.d v) : v = keyV n := (nmAgg n w E v).1 h
theorem row_len {l : List Nm} : (l.map Nm.d).length = l.length := by simp

theorem AppendKeys_ok (l s : List Nm) (ds : List DV) (hN : (l.length + s.length) * 16 ≤ 140737488355328) :
    OkGR Tryz.prog 72 [.ow 0 0 l.length, .d (.fn 129 [.ro [.mp (s.map Nm.d) ds]])] [(0, .row false 2 (l.map Nm.d))]
      (fun fin ret => ∃ p : List Nm, p.Perm s ∧ fin = [(0, .dead), (1, .row false 2 ((l ++ p).map Nm.d))] ∧ ret = .ow 1 0 (l.length + p.length)) := by
  refine ⟨⟨_, Tryz.func72, by kernel_rfl, by rfl⟩, fun w X β vs m hvl hr => ?_⟩
  have hH : mkObs [(0, LObj.row false 2 (l.map Nm.d))] 0 = .row false 2 (l.map Nm.d) := by simp [mkObs, lookH]
  have hH1 : mkObs [(0, LObj.row false 2 (l.map Nm.d))] 1 = .absent := by simp [mkObs, lookH]
  have hfin : ∀ o, mkObs [(0, .dead), (1, o)] = upd (upd (mkObs [(0, LObj.row false 2 (l.map Nm.d))]) 0 .dead) 1 o := fun o => by
    funext j; simp only [mkObs, lookH, upd]; by_cases h0 : j = 0 <;> by_cases h1 : j = 1 <;> simp_all
  generalize hHd : mkObs [(0, LObj.row false 2 (l.map Nm.d))] = H at *
  match vs, hvl with
  | [v0, v1], _ =>
  have r0 := hr 0 _ _ rfl rfl
  have r1 := hr 1 _ _ rfl rfl
  obtain ⟨Bm, ob, b, clock, arr, rfl, hcell, hBm, hblk, hb, hk, hborn, hkey⟩ : ∃ Bm ob b clock arr, v1 = .func (.func 129) #[] #[.pointer (some ⟨Bm, ob, none⟩)] ∧ w.cell? ⟨Bm, ob, none⟩ = some (.map (some b)) ∧ ¬ Ex X β H Bm ∧ w.heap[b]? = some (.map arr clock) ∧ ¬ Ex X β H b ∧
      (s.map Nm.d).length = arr.size ∧ BornOk arr clock ∧ ∀ (i : Nat) (d : DV) (e : MapEntry), (s.map Nm.d)[i]? = some d → arr[i]? = some e → RD w (Ex X β H) d e.key := by
    cases r1 with
    | d _ _ h => cases h with
      | fn _ _ us hl hc =>
        match us, hl with
        | [u], _ =>
        have h0 := hc 0 _ u rfl rfl
        cases h0 with
        | ro _ Bm ob us2 hBm hul _ _ hcell h =>
          match us2, hul with
          | [u2], _ =>
          have h2 := h 0 _ u2 rfl rfl
          have hc2 := hcell 0 u2 rfl
          cases h2 with
          | mp _ _ b clock arr hb _ hblk hk _ hborn hkey _ => exact ⟨Bm, ob, b, clock, arr, rfl, by simpa using hc2, hBm, hblk, hb, hk, hborn, hkey⟩
  rw [row_len] at hk
  have hkeys : ∀ (i : Nat) (h1 : i < s.length) (h2 : i < arr.size), arr[i].key = keyV s[i] := fun i h1 h2 => rd_nm (hkey i _ _ (by simp [h1]) (Array.getElem?_eq_getElem h2))
  have hk2 : ∀ e ∈ arr.toList, e.key = keyV (entryKey e) := fun e he => by
    obtain ⟨i, hi, rfl⟩ := List.getElem_of_mem he
    have hi' : i < arr.size := by simpa using hi
    have := hkeys i (by omega) hi'
    simp only [Array.getElem_toList]
    simp [entryKey, this, keyV]
  have hmap : arr.toList.map entryKey = s := by
    apply List.ext_getElem (by simpa using hk.symm)
    intro i h1 h2
    have := hkeys i h2 (by omega)
    simp [entryKey, this, keyV]
  have hmut : (H 0).mut = true := by rw [hH]; rfl
  have finish : ∀ (b0 : Option Nat), ((b0 = none ∧ l = []) ∨ (∃ g, b0 = some g ∧ β 0 = some g ∧ ∃ cur e, w.heap[g]? = some (.cells cur e (0, 0)) ∧ cur.toList.take (l.length * 2) = l.flatMap Nm.enc)) → RowAt 2 b0 w.heap.size w v0 l.length (l.flatMap Nm.enc) b0 →
      Calls Tryz.prog 72 #[v0, .func (.func 129) #[] #[.pointer (some ⟨Bm, ob, none⟩)]] w fun e w' => ∃ v β' fin ret, (∃ p : List Nm, p.Perm s ∧ fin = [(0, .dead), (1, .row false 2 ((l ++ p).map Nm.d))] ∧ ret = .ow 1 0 (l.length + p.length)) ∧ e = .returned v ∧
        Mem ⟨w, β, H, [(0, LObj.row false 2 (l.map Nm.d))].map (·.1)⟩ X (mkObs fin) β' w' ∧ R w' (Ex X β' (mkObs fin)) β' (mkObs fin) ret v := by
    intro b0 hb0 hrow
    have hE : ∀ x, ¬ Ex X β H x → some x ≠ b0 := fun x hx e => by
      rcases hb0 with ⟨h, _⟩ | ⟨g, h, hg, _⟩
      · rw [h] at e; cases e
      · rw [h] at e; injection e with e; subst e; exact hx (.inr ⟨0, hmut, hg⟩)
    refine (appendSeqNm w v0 l b0 hrow (fun g hg => ?_) hcell (hE _ hBm) hblk (hE _ hb) hborn entryKey hk2 (by rw [← hk]; exact hN)).mono ?_
    · rcases hb0 with ⟨h, _⟩ | ⟨g', h, _, cur, e, hc, _⟩
      · rw [h] at hg; cases hg
      · rw [h] at hg; injection hg with hg; subst hg; exact (Array.getElem?_eq_some_iff.1 hc).1
    · rintro e w' ⟨v, ss, gb, rfl, hp, hr', hst, hhd⟩
      rw [hmap] at hp
      obtain ⟨β', hm, hR⟩ := m.appended nmCells (id := 0) (new := 1) hH hH1 hb0 hr' hst hhd
      exact ⟨v, β', _, _, ⟨ss, hp, rfl, rfl⟩, rfl, by rw [hfin]; exact hm, by rw [hfin]; exact hR⟩
  rcases ow_cases m hH r0 with ⟨g, c, cur, e, rfl, hg, hkn, hn, hc, hblk', hroom, hcap⟩ | ⟨p, rfl, hz, _⟩
  · have hob := m.obj 0
    simp only [ObjR, hH] at hob
    obtain ⟨hpos, hall, hob⟩ := hob
    rcases hob with ⟨hnone, _⟩ | ⟨b', e', cur', hb', hblk2, hlen', hpo⟩
    · rw [hnone] at hg; cases hg
    rw [hg] at hb'; injection hb' with hb'; subst hb'
    rw [hblk'] at hblk2; injection hblk2 with hblk2; injection hblk2 with p1 p2; subst p1; subst p2
    rw [row_len] at hlen'
    have htk := nmCells.holds hlen' (fun i c v hc hv => (hpo i c v hc hv).2)
    refine finish (some g) (.inr ⟨g, rfl, hg, cur, e, hblk', htk⟩) ⟨nmCells.flat_len l, fun u hu => ?_, .inr ⟨g, c, cur, e, rfl, by simp, .inl rfl, hblk', hn, hc, by simpa using hroom, htk⟩⟩
    obtain ⟨x, _, hx⟩ := List.mem_flatMap.1 hu
    exact nmCells.one x u hx
  · have hl0 : l = [] := List.eq_nil_of_length_eq_zero hz
    subst hl0
    exact finish none (.inl ⟨rfl, rfl⟩) ⟨rfl, by simp, .inl ⟨rfl, rfl, p, rfl⟩⟩

/-- maps.Keys[map[culprit/api.Name]bool,culprit/api.Name,bool] -/
theorem KeysNm_ok (ks vs : List DV) : Ok Tryz.prog 73 [.mp ks vs] ⟨.d (.fn 129 [.ro [.mp ks vs]]), false⟩ := by
  refine Ok.ret Tryz.func73 (by kernel_rfl) (c := _) rfl Tryz.ntmps73 (by simp) Tryz.results73 (by intro _ h; cases h) fun w0 X hp => ?_
  refine LWp.seq ?_
  refine LWp.reg hT hW (fun _ => none) (fun _ => ⟨rfl, fun _ h => h⟩) ?_
  simp
  refine LWp.seq ?_
  refine LWp.reg hT hW (fun _ => none) (fun _ => ⟨rfl, fun _ h => h⟩) ?_
  simp
  refine LWp.ret ?_
  simp

theorem nodup_le' {α : Type} [DecidableEq α] : ∀ {l m : List α}, l.Nodup → (∀ x ∈ l, x ∈ m) → l.length ≤ m.length
  | [], _, _, _ => Nat.zero_le _
  | a :: l, m, h, hs => by
    simp only [List.nodup_cons] at h
    have ha : a ∈ m := hs a (List.mem_cons_self ..)
    have := nodup_le' h.2 (m := m.erase a) (fun x hx => (List.mem_erase_of_ne (show x ≠ a from fun e => by subst e; exact h.1 hx)).2 (hs x (List.mem_cons_of_mem _ hx)))
    rw [List.length_erase_of_mem ha] at this
    have := List.length_pos_of_mem ha
    simp only [List.length_cons]; omega
theorem reach_all {l : List Ed} {n m : Nm} (h : Reach l n m) : m ∈ allNeeds l := by
  induction h with
  | one h => exact needs_all h
  | next _ _ ih => exact ih
theorem aboveL_len (l : List Ed) (n : Nm) : (aboveL l n).length ≤ (allNeeds l).length := nodup_le' (aboveL_nodup l n) fun x hx => reach_all (mem_aboveL.1 hx)

/-- culprit/edit.Closure -/
theorem EClosure_ok (l : List Ed) (set : List Nm) (hl : set.length ≤ 1000000) (hn : (allNeeds l).length ≤ 1000000) : Ok Tryz.prog 17 [edsD l, nmsD set] ⟨.tup [.own 2 ((closureV l set).1.map Nm.d), .d (I64 (closureV l set).2)], true⟩ := by
  refine Ok.two Tryz.func17 (by kernel_rfl) (c := _) rfl Tryz.ntmps17 (by simp) Tryz.results17 rfl fun w0 X hp => ?_
  refine LWp.seq ?_
  refine LWp.reg hT hW (fun _ => none) (fun _ => ⟨rfl, fun _ h => h⟩) ?_
  simp
  refine LWp.seq ?_
  refine LWp.reg hT hW (fun | 10 => some <| .plain ⟨.own 2 (set.map Nm.d), true⟩ | _ => none) (by intro d; first | exact ⟨rfl, fun _ h => h⟩ | (split <;> exact ⟨rfl, fun _ h => h⟩)) ?_
  simp
  refine ⟨CloneNm_ok set (by omega), ?_⟩
  refine LWp.seq ?_
  refine LWp.seq ?_
  refine LWp.reg hT hW (fun _ => none) (fun _ => ⟨rfl, fun _ h => h⟩) ?_
  simp
  refine LWp.block ?_
  refine LWp.loopW (ι := Nat × List Nm) (fun ⟨i, out⟩ => mkEnv [(0, .d (edsD l)), (6, .ow 6 0 out.length), (11, .d (nmsD set)), (12, .d (I64 set.length)), (13, .d (I64 i))]) (fun ⟨i, out⟩ => mkObs [(6, .row false 2 (out.map Nm.d))]) (fun ⟨i, out⟩ => i ≤ set.length ∧ out.length ≤ set.length + i * 1000000 ∧ out.Perm (set ++ (set.take i).flatMap (aboveL l))) (fun ⟨i, out⟩ => set.length - i) (0, set) (Weak.to [0, 6, 11, 12, 13] [(10, 6)] (by decide) (by decide) (by simp [hp]) (by simp) (by simp)) (by simp) fun ⟨i, out⟩ hi3 => ?_
  refine LWp.seq ?_
  refine LWp.reg hT hW (fun _ => none) (fun _ => ⟨rfl, fun _ h => h⟩) ?_
  simp
  refine LWp.seq ?_
  refine LWp.iff ?_
  simp
  refine ⟨fun h3 => ?_, fun h3 => ?_⟩
  · refine LWp.skip ?_
    simp
    refine LWp.seq ?_
    refine LWp.block ?_
    refine LWp.seq ?_
    refine LWp.reg hT hW (fun _ => none) (fun _ => ⟨rfl, fun _ h => h⟩) ?_
    simp [h3]
    obtain ⟨q1, q2, q3⟩ := hi3
    have hab := aboveL_len l set[i]
    have hip : i * 1000000 ≤ set.length * 1000000 := Nat.mul_le_mul_right _ q1
    refine LWp.regGenR hT hW 22 [(6, 0)] [(1, 22)] [1] (fun fin ret => ∃ p : List Nm, p.Perm (aboveL l set[i]) ∧ fin = [(0, .dead), (1, .row false 2 ((out ++ p).map Nm.d))] ∧ ret = .ow 1 0 (out.length + p.length)) _ _ ⟨aboveL l set[i], List.Perm.refl _, rfl, rfl⟩ (fun | 20 => some <| .plain ⟨.d (.mp (List.map Nm.d (aboveL l set[i])) (List.map (fun _ => .bool true) (aboveL l set[i]))), false⟩ | 21 => some <| .plain ⟨.d (.fn 129 [.ro [.mp (List.map Nm.d (aboveL l set[i])) (List.map (fun _ => .bool true) (aboveL l set[i]))]]), false⟩ | _ => none) (by intro d; first | exact ⟨rfl, fun _ h => h⟩ | (split <;> exact ⟨rfl, fun _ h => h⟩)) (by kernel_rfl) fun r5 hr5 => ?_
    obtain ⟨fin5, ret5⟩ := r5
    obtain ⟨p, hp5, rfl, rfl⟩ := hr5
    simp
    refine ⟨⟨⟨above_ok l set[i], KeysNm_ok _ _⟩, by simpa using AppendKeys_ok out (aboveL l set[i]) _ (by omega)⟩, ?_⟩
    refine LWp.reg hT hW (fun _ => none) (fun _ => ⟨rfl, fun _ h => h⟩) ?_
    simp
    refine ⟨by omega, ?_⟩
    refine loopQ.mk (i + 1, out ++ p) (Weak.to [0, 6, 11, 12, 13] [(22, 6)] (by decide) (by decide) (by simp [hp]) (by simp) (by simp)) ?_ ?_
    · refine ⟨h3, ?_, ?_⟩
      · have := hp5.length_eq
        simp only [List.length_append, Nat.add_mul]; omega
      · rw [List.take_succ_eq_append_getElem h3, List.flatMap_append]
        simp only [List.flatMap_cons, List.flatMap_nil, List.append_nil]
        rw [← List.append_assoc]
        exact q3.append hp5
    · omega
  · refine LWp.exit ?_
    simp
    refine LWp.seq ?_
    refine LWp.seq ?_
    obtain ⟨q1, q2, q3⟩ := hi3
    have hi' : i = set.length := by omega
    rw [hi', List.take_length] at q3
    have hcv := closureV_perm q3
    have hil : i * 1000000 ≤ 1000000 * 1000000 := Nat.mul_le_mul_right _ (by omega)
    refine LWp.reg hT hW (fun | 26 => some <| .plain ⟨.d (.bool (closedB l out)), true⟩ | _ => none) (by intro d; first | exact ⟨rfl, fun _ h => h⟩ | (split <;> exact ⟨rfl, fun _ h => h⟩)) ?_
    simp
    refine ⟨EClosed_ok l out, ?_⟩
    refine LWp.iff ?_
    simp
    refine ⟨fun h7 => ?_, fun h7 => ?_⟩
    · refine LWp.seq ?_
      refine LWp.reg hT hW (fun _ => none) (fun _ => ⟨rfl, fun _ h => h⟩) ?_
      simp
      refine LWp.ret ?_
      simp [hcv, h7]
    · refine LWp.skip ?_
      simp
      refine LWp.seq ?_
      refine LWp.reg hT hW (fun | 29 => some <| .plain ⟨.own 2 ((sortN out).map Nm.d), true⟩ | _ => none) (by intro d; first | exact ⟨rfl, fun _ h => h⟩ | (split <;> exact ⟨rfl, fun _ h => h⟩)) ?_
      simp
      refine ⟨ESort_ok out (by omega), ?_⟩
      refine LWp.ret ?_
      simp [hcv, h7]

end Go.Eng

/-
  slices.Collect, Sort and Sorted of strings out of maps.Keys. No condition.
-/
namespace Go.Eng
open Go.Proofs Go.Sort Go.Shelf Go.RowKit
attribute [local simp] runL stepL evalG evalOp opLV constLV putEnv dstOk upd upds Res.plain Res.cond Res.fail evalBin evalUn seqQ blockQ argsEnv lookL lookH RetIs memless freshL evalPick evalMin bval bok evalLen evalIn strip whenC guardOps guardC slotsOf
  runM foldS stepI stepM maskE wrIn lk renO lookN evalCall evalCallee optAll resLV resObj retLV retObj retsLV retsObj evalLoad evalIndexAddr evalField solid cellsD_agg cellsD_int cellsD_bool cellsD_str cellsD_sl cellsD_ro cellsD_fn cellsL_agg cellsL_dagg cellsL_int cellsL_bool cellsL_str cellsL_sl cellsL_fn cellsL_ow cellsL_bx cellsL_lfn cellsL_nl takeL takeD mkAgg allD eqD eqDs kindsAre kindIs LObj.live TK.isNone TK.agg TK.isBool TK.isStr TK.isStruct Op.operands Call.operands
  evalBuildSlice evalAppend elemsOf evalStore evalBuild fillL lookupF putL evalSlice bound evalConv elemsS freezes frozen loadR
  mkEnv_at mkObs_at close_d close_agg close_ow close_bx close_fn close_nl touch_d touch_agg touch_ow touch_bx touch_fn touch_nl ren_d ren_agg ren_bx ren_rp ren_ow ren_fn ren_nl ren_junk retQ_ret retQ2_ret condQ_bool Nm.d Df.d Ed.d nmsD dfsD strsD edsD retC_ret nm_eq df_eq take_map_len take_map_app
  nm_t nm_d nm_td df_t df_d df_td str_t str_d str_td ed_t ed_d ed_td
  evalAppendIn evalCut evalClear evalCopy evalMake evalWrap evalCap evalNil isNilC lenL isInp gorc
  mapOf findD keyEq keyOk evalMakeMap evalRange zeroD zeroDV argsG shutG outN lenv retG0_ret retG0_normal retG1_ret renO close_mp touch_mp ren_mp optAll_d optAll_d' touch_ds cellsL_mp cellsD_mp cellsL_dmp

theorem strCells : Cells 1 DV.str Str.enc where
  pos := by decide
  len := fun _ => rfl
  lenD := fun _ => rfl
  one := fun x v hv => by simp [Str.enc] at hv; subst hv; rfl
  cell := fun x i c v hc hv w E u => by
    match i, hc, hv with
    | 0, hc, hv => simp [Str.enc, cellsD] at hc hv; subst hc; subst hv; exact ⟨fun h => by cases h; rfl, fun h => h ▸ .str _⟩
theorem rd_str {w : World} {E : Nat → Prop} {s : Str} {v : Value} (h : RD w E (.str s) v) : v = keyS s := by cases h; rfl
def entryStr (e : MapEntry) : Str := match e.key with
  | .string b => b.data.toList
  | _ => []

theorem AppendStr_ok (s : List Str) (ds : List DV) (hN : s.length * 16 ≤ 140737488355328) :
    OkGR Tryz.prog 183 [.nl, .d (.fn 142 [.ro [.mp (s.map .str) ds]])] []
      (fun fin ret => ∃ p : List Str, p.Perm s ∧ fin = [(0, .dead), (1, .row false 1 (p.map .str))] ∧ ret = .ow 1 0 p.length) := by
  refine ⟨⟨_, Tryz.func183, by kernel_rfl, by rfl⟩, fun w X β vs m0 hvl hr => ?_⟩
  match vs, hvl with
  | [v0, v1], _ =>
  have r0 := hr 0 _ _ rfl rfl
  have r1 := hr 1 _ _ rfl rfl
  obtain ⟨a0, rfl⟩ : ∃ a, v0 = .slice a 0 0 := by cases r0 with | nl a => exact ⟨a, rfl⟩
  obtain ⟨Bm, ob, b, clock, arr, rfl, hcell, hblk, hk, hborn, hkey⟩ : ∃ Bm ob b clock arr, v1 = .func (.func 142) #[] #[.pointer (some ⟨Bm, ob, none⟩)] ∧ w.cell? ⟨Bm, ob, none⟩ = some (.map (some b)) ∧ w.heap[b]? = some (.map arr clock) ∧
      (s.map DV.str).length = arr.size ∧ BornOk arr clock ∧ ∀ (i : Nat) (d : DV) (e : MapEntry), (s.map DV.str)[i]? = some d → arr[i]? = some e → RD w (Ex X β (mkObs [])) d e.key := by
    cases r1 with
    | d _ _ h => cases h with
      | fn _ _ us hl hc =>
        match us, hl with
        | [u], _ =>
        have h0 := hc 0 _ u rfl rfl
        cases h0 with
        | ro _ Bm ob us2 hBm hul _ _ hcell h =>
          match us2, hul with
          | [u2], _ =>
          have h2 := h 0 _ u2 rfl rfl
          have hc2 := hcell 0 u2 rfl
          cases h2 with
          | mp _ _ b clock arr hb _ hblk hk _ hborn hkey _ => exact ⟨Bm, ob, b, clock, arr, rfl, by simpa using hc2, hblk, hk, hborn, hkey⟩
  rw [List.length_map] at hk
  have hkeys : ∀ (i : Nat) (h1 : i < s.length) (h2 : i < arr.size), arr[i].key = keyS s[i] := fun i h1 h2 => rd_str (hkey i _ _ (by simp [h1]) (Array.getElem?_eq_getElem h2))
  have hk2 : ∀ e ∈ arr.toList, e.key = keyS (entryStr e) := fun e he => by
    obtain ⟨i, hi, rfl⟩ := List.getElem_of_mem he
    have hi' : i < arr.size := by simpa using hi
    have := hkeys i (by omega) hi'
    simp only [Array.getElem_toList]
    simp [entryStr, this, keyS]
  have hmap : arr.toList.map entryStr = s := by
    apply List.ext_getElem (by simpa using hk.symm)
    intro i h1 h2
    have := hkeys i h2 (by omega)
    simp [entryStr, this, keyS]
  obtain ⟨m, _⟩ := new_none m0 (d := 0) (by simp [mkObs, lookH]) (s := 1) (by decide)
  refine (appendSeqStr w (.slice a0 0 0) [] none ⟨rfl, by simp, .inl ⟨rfl, rfl, a0, rfl⟩⟩ (fun g hg => by cases hg) hcell (by simp) hblk (by simp) hborn entryStr hk2 (by rw [← hk]; simpa using hN)).mono ?_
  rintro e w' ⟨v, ss, gb, rfl, hp, hr', hst, hhd⟩
  rw [hmap] at hp
  obtain ⟨β', hm, hR⟩ := m.appended strCells (id := 0) (new := 1) (l := []) (by rw [upd_same]; rfl) (by rw [upd_ne _ _ (by decide)]; simp [mkObs, lookH]) (.inl ⟨rfl, rfl⟩) hr' hst hhd
  have hfin : mkObs [(0, .dead), (1, .row false 1 (ss.map .str))] = upd (upd (upd (mkObs []) 0 (.row false 1 [])) 0 .dead) 1 (.row false 1 (ss.map .str)) := by
    funext j; simp only [mkObs, lookH, upd]; by_cases h0 : j = 0 <;> by_cases h1 : j = 1 <;> simp_all
  exact ⟨v, β', _, _, ⟨ss, hp, rfl, rfl⟩, rfl, by rw [hfin]; simpa using hm, by rw [hfin]; simpa using hR⟩

/-- slices.Collect[string] -/
theorem Collect_ok (s : List Str) (ds : List DV) (hN : s.length * 16 ≤ 140737488355328) : OkR Tryz.prog 140 [.fn 142 [.ro [.mp (s.map .str) ds]]] (fun r => (fun v => ∃ p : List Str, p.Perm s ∧ v = .own 1 (p.map .str)) r.v ∧ r.fresh = true) := by
  refine OkR.ret (Rel := fun v => ∃ p : List Str, p.Perm s ∧ v = .own 1 (p.map .str)) Tryz.func140 (by kernel_rfl) (c := _) rfl Tryz.ntmps140 (by simp) Tryz.results140 fun w0 X hp => ?_
  refine LWp.seq ?_
  refine LWp.reg hT hW (fun _ => none) (fun _ => ⟨rfl, fun _ h => h⟩) ?_
  simp
  refine LWp.seq ?_
  refine LWp.regGenR hT hW 4 [] [(1, 4)] [1] (fun fin ret => ∃ p : List Str, p.Perm s ∧ fin = [(0, .dead), (1, .row false 1 (p.map .str))] ∧ ret = .ow 1 0 p.length) _ _ ⟨s, List.Perm.refl _, rfl, rfl⟩ (fun | 99 => none | _ => none) (by intro d; first | exact ⟨rfl, fun _ h => h⟩ | (split <;> exact ⟨rfl, fun _ h => h⟩)) (by kernel_rfl) fun r1 hr1 => ?_
  obtain ⟨fin1, ret1⟩ := r1
  obtain ⟨p, hp1, rfl, rfl⟩ := hr1
  simp
  refine ⟨AppendStr_ok s ds hN, ?_⟩
  refine LWp.ret ?_
  simp only [retR_ret]
  refine ⟨_, ⟨p, hp1, rfl⟩, by simp, ?_⟩
  simp

def ssort (l : List Str) : List Str := l.mergeSort fun x y => decide (x ≤ y)
theorem ssort_len (l : List Str) : (ssort l).length = l.length := List.length_mergeSort _
theorem putCells_str {cur : Array Value} {s : List Str} (h : s.length ≤ cur.size) : putCells encStr 0 s.toArray cur = (putL 0 cur.toList (s.flatMap Str.enc)).toArray := by
  have hsf : (s.flatMap Str.enc).length = s.length := by have := strCells.flat_len s; simpa using this
  apply Array.ext_getElem?
  intro i
  rw [show (putL 0 cur.toList (s.flatMap Str.enc)).toArray[i]? = (putL 0 cur.toList (s.flatMap Str.enc))[i]? from by simp, putL_get (by rw [Nat.zero_add, hsf]; simpa using h)]
  simp only [putCells, Array.getElem?_mapIdx, Nat.not_lt_zero, if_false, Nat.zero_add, List.size_toArray, hsf, Nat.sub_zero, Nat.zero_le, true_and]
  by_cases hi : i < s.length
  · have hic : i < cur.size := by omega
    have hm : s.flatMap Str.enc = s.map keyS := by
      clear h hsf hi
      induction s with
      | nil => rfl
      | cons x t ih => simp [Str.enc, ih]
    simp only [hi, if_true, Array.getElem?_eq_getElem hic, Option.map_some]
    rw [hm]
    simp [hi, getElem!_def, encStr, keyS]
  · simp only [hi, if_false]
    rw [Array.getElem?_toList]
    cases cur[i]? <;> rfl

theorem SortStr_ok (l : List Str) (hl : l.length ≤ 8000000000000) : OkG Tryz.prog 141 [.ow 0 0 l.length] [(0, .row false 1 (l.map .str))] [(0, .row false 1 ((ssort l).map .str))] (.tup []) := by
  refine ⟨⟨_, Tryz.func141, by kernel_rfl, by rfl⟩, fun w X β vs m hvl hr => ?_⟩
  have hH : mkObs [(0, LObj.row false 1 (l.map DV.str))] 0 = .row false 1 (l.map .str) := by simp [mkObs, lookH]
  have hfin : ∀ o, mkObs [(0, o)] = upd (mkObs [(0, LObj.row false 1 (l.map DV.str))]) 0 o := fun o => by
    funext j; simp only [mkObs, lookH, upd]; split <;> rfl
  generalize hHd : mkObs [(0, LObj.row false 1 (l.map DV.str))] = H at *
  match vs, hvl with
  | [v0], _ =>
  have r0 := hr 0 _ _ rfl rfl
  rcases ow_cases m hH r0 with ⟨b, c, cur, e, rfl, hb, hkn, hn, hc, hblk, hroom, hcap⟩ | ⟨p, rfl, hz, _⟩
  · have hob := m.obj 0
    simp only [ObjR, hH] at hob
    obtain ⟨hpos, hall, hob⟩ := hob
    rcases hob with ⟨hnone, _⟩ | ⟨b', e', cur', hb', hblk2, hlen', hpo⟩
    · rw [hnone] at hb; cases hb
    rw [hb] at hb'; injection hb' with hb'; subst hb'
    rw [hblk] at hblk2; injection hblk2 with hblk2; injection hblk2 with p1 p2; subst p1; subst p2
    rw [List.length_map] at hlen'
    have htk := strCells.holds hlen' (fun i c v hc hv => (hpo i c v hc hv).2)
    have hfl : (l.flatMap Str.enc).length = l.length := by have := strCells.flat_len l; simpa using this
    have hmap : ∀ l : List Str, l.flatMap Str.enc = l.map keyS := fun l => by
      induction l with
      | nil => rfl
      | cons x t ih => simp [Str.enc, ih]
    have hlb := (Array.getElem?_eq_some_iff.1 hblk).1
    have hhold : Holds encStr w b 0 l.toArray := by
      intro j hj
      simp only [List.size_toArray] at hj
      have hjc : j < cur.size := by omega
      refine ⟨?_, by simp [World.frozen?, hblk]⟩
      rw [cell_of_row w b _ cur e (0, 0) hblk, Nat.zero_add, Array.getElem?_eq_getElem hjc]
      have h1 : (cur.toList.take (l.length * 1))[j]? = some cur[j] := by rw [List.getElem?_take, if_pos (by omega)]; simp [hjc]
      rw [htk, hmap] at h1
      simp [hj] at h1
      rw [← h1]
      simp [encStr, keyS, hj]
    have hcon := AnyM.slices_Sort_string Tryz.sortStr b 0 c l w hhold hlb (by omega)
    rw [show #[Value.slice (some ⟨b, 0, none⟩) l.length c] = [Value.slice (some ⟨b, 0 * 1, none⟩) l.length c].toArray from rfl] at hcon
    refine hcon.mono ?_
    rintro ee w' ⟨rfl, n, os, rfl⟩
    have hsl := ssort_len l
    change ∃ v β', _ ∧ Mem _ X _ β' (grow (putRow encStr (Sort.ahead w n) b 0 (ssort l).toArray) os) ∧ R (grow (putRow encStr (Sort.ahead w n) b 0 (ssort l).toArray) os) _ _ _ _ v
    generalize ssort l = s at *
    have hsf : (s.flatMap Str.enc).length = s.length := by have := strCells.flat_len s; simpa using this
    have hput : (putRow encStr (Sort.ahead w n) b 0 s.toArray).heap[b]? = some (.cells (putL 0 cur.toList (s.flatMap Str.enc)).toArray e (0, 0)) := by
      rw [← putCells_str (by omega)]
      unfold putRow mapBlock
      simp only [heap_ahead, Array.getElem?_modify, if_pos, hblk, Option.map_some]
      rfl
    have hother : ∀ j, j ≠ b → (putRow encStr (Sort.ahead w n) b 0 s.toArray).heap[j]? = w.heap[j]? := fun j hj => by
      unfold putRow mapBlock
      simp only [heap_ahead, Array.getElem?_modify, Ne.symm hj, if_false]
    have hsize : (putRow encStr (Sort.ahead w n) b 0 s.toArray).heap.size = w.heap.size := by simp
    have hcl : cur.toList.length = cur.size := by simp
    have hpl : (putL 0 cur.toList (s.flatMap Str.enc)).toArray.size = cur.size := by rw [List.size_toArray, putL_len (by rw [Nat.zero_add, hsf, hcl]; omega)]; exact hcl
    have hstk : (putL 0 cur.toList (s.flatMap Str.enc)).toArray.toList.take (s.length * 1) = s.flatMap Str.enc := by
      unfold putL
      simp [hsf]
    obtain ⟨m1, g1⟩ := m.rewriteG (id := 0) (b := b) (o' := .row false 1 (s.map .str)) (w' := putRow encStr (Sort.ahead w n) b 0 s.toArray) (by rw [hH]; rfl) hb rfl rfl rfl (Nat.le_add_right _ _) hsize hother (by
        unfold Passes
        rw [hH, upd_same]
        refine .inr ⟨⟨false, s.map .str, rfl, by simp [hsl]⟩, rfl, fun b' c' t hbb hblk' => ?_⟩
        rw [hb] at hbb; injection hbb with hbb; subst hbb
        rw [hblk] at hblk'; injection hblk' with hblk'; injection hblk' with q1 q2; subst q1; subst q2
        exact ⟨_, e, hput, hpl⟩) (fun _ _ => by
        unfold ObjR
        rw [upd_same]
        obtain ⟨z1, z2⟩ := strCells.reads hstk
        exact ⟨hpos, strCells.all s, .inr ⟨b, e, _, hb, hput, by simpa using z1, z2 _ _⟩⟩)
    obtain ⟨m2, g2⟩ := m1.grow (w' := grow (putRow encStr (Sort.ahead w n) b 0 s.toArray) os) ⟨rfl, rfl, rfl, by simp, fun j hj => heap_grow_old _ _ hj, Nat.le_refl _⟩
    refine ⟨_, β, rfl, ?_, .tup [] [] rfl (by simp)⟩
    rw [hfin]
    exact m2
  · have hl0 : l = [] := List.eq_nil_of_length_eq_zero hz
    subst hl0
    refine (AnyM.slices_Sort_string_none Tryz.sortStr p 0 w).mono ?_
    rintro e w' ⟨rfl, rfl⟩
    refine ⟨_, β, rfl, ?_, .tup [] [] rfl (by simp)⟩
    rw [hfin, show ssort [] = [] from by simp [ssort], upd_id hH]
    exact m

theorem ssort_sorted (l : List Str) : (ssort l).Pairwise fun x y => x ≤ y := by
  have := List.pairwise_mergeSort (le := fun x y : Str => decide (x ≤ y)) (fun a b c h1 h2 => by simp at *; exact List.le_trans h1 h2) (fun a b => by simp; exact List.le_total a b) l
  exact this.imp fun h => by simpa using h
theorem ssort_perm {p s : List Str} (h : p.Perm s) : ssort p = ssort s :=
  List.Perm.eq_of_pairwise (le := fun x y : Str => x ≤ y) (fun a b _ _ h1 h2 => List.le_antisymm h1 h2) (ssort_sorted p) (ssort_sorted s) (((List.mergeSort_perm p _).trans h).trans (List.mergeSort_perm s _).symm)

/-- slices.Sorted[string] -/
theorem Sorted_ok (s : List Str) (ds : List DV) (hN : s.length ≤ 1000000) : Ok Tryz.prog 89 [.fn 142 [.ro [.mp (s.map .str) ds]]] ⟨.own 1 ((ssort s).map .str), true⟩ := by
  refine Ok.ret Tryz.func89 (by kernel_rfl) (c := _) rfl Tryz.ntmps89 (by simp) Tryz.results89 (by intro _ h; cases h) fun w0 X hp => ?_
  refine LWp.seq ?_
  refine LWp.reg hT hW (fun _ => none) (fun _ => ⟨rfl, fun _ h => h⟩) ?_
  simp
  refine LWp.seq ?_
  refine LWp.regRel hT hW 5 (fun r => (∃ p : List Str, p.Perm s ∧ r.v = .own 1 (p.map .str)) ∧ r.fresh = true) true ⟨.own 1 (s.map .str), true⟩ ⟨⟨⟨s, List.Perm.refl _, rfl⟩, rfl⟩, rfl⟩ (fun | 99 => none | _ => none) (by intro d; first | exact ⟨rfl, fun _ h => h⟩ | (split <;> exact ⟨rfl, fun _ h => h⟩)) (by kernel_rfl) fun r1 hr1 => ?_
  obtain ⟨v1, f1⟩ := r1
  obtain ⟨⟨p, hp1, hv⟩, hf⟩ := hr1
  dsimp only at hv hf
  subst hv; subst hf
  have hpl := hp1.length_eq
  simp
  refine ⟨Collect_ok s ds (by omega), ?_⟩
  refine LWp.seq ?_
  refine LWp.reg hT hW (fun | 7 => some (.gen ⟨[(5, 0)], [], [], [(0, .row false 1 ((ssort p).map .str))], .tup []⟩) | _ => none) (by intro d; first | exact ⟨rfl, fun _ h => h⟩ | (split <;> exact ⟨rfl, fun _ h => h⟩)) ?_
  simp
  refine ⟨by simpa using SortStr_ok p (by omega), ?_⟩
  refine LWp.seq ?_
  refine LWp.reg hT hW (fun _ => none) (fun _ => ⟨rfl, fun _ h => h⟩) ?_
  simp
  refine LWp.ret ?_
  rw [← ssort_perm hp1]
  simp [ssort_len]
  rw [List.take_of_length_le (by simp [ssort_len])]

/-- maps.Keys[map[string]culprit/api.Def,string,culprit/api.Def] -/
theorem KeysStr_ok (ks vs : List DV) : Ok Tryz.prog 90 [.mp ks vs] ⟨.d (.fn 142 [.ro [.mp ks vs]]), false⟩ := by
  refine Ok.ret Tryz.func90 (by kernel_rfl) (c := _) rfl Tryz.ntmps90 (by simp) Tryz.results90 (by intro _ h; cases h) fun w0 X hp => ?_
  refine LWp.seq ?_
  refine LWp.reg hT hW (fun _ => none) (fun _ => ⟨rfl, fun _ h => h⟩) ?_
  simp
  refine LWp.seq ?_
  refine LWp.reg hT hW (fun _ => none) (fun _ => ⟨rfl, fun _ h => h⟩) ?_
  simp
  refine LWp.ret ?_
  simp

end Go.Eng

/-
  Chapter 22: the reference model's Above, Before, Closed, Closure. No condition.
-/
namespace Go.Eng
open Go.Proofs
attribute [local simp] runL stepL evalG evalOp opLV constLV putEnv dstOk upd upds Res.plain Res.cond Res.fail evalBin evalUn seqQ blockQ argsEnv lookL lookH RetIs memless freshL evalPick evalMin bval bok evalLen evalIn strip whenC guardOps guardC slotsOf
  runM foldS stepI stepM maskE wrIn lk renO lookN evalCall evalCallee optAll resLV resObj retLV retObj retsLV retsObj evalLoad evalIndexAddr evalField solid cellsD_agg cellsD_int cellsD_bool cellsD_str cellsD_sl cellsD_ro cellsD_fn cellsL_agg cellsL_dagg cellsL_int cellsL_bool cellsL_str cellsL_sl cellsL_fn cellsL_ow cellsL_bx cellsL_lfn cellsL_nl takeL takeD mkAgg allD eqD eqDs kindsAre kindIs LObj.live TK.isNone TK.agg TK.isBool TK.isStr TK.isStruct Op.operands Call.operands
  evalBuildSlice evalAppend elemsOf evalStore evalBuild fillL lookupF putL evalSlice bound evalConv elemsS freezes frozen loadR
  mkEnv_at mkObs_at close_d close_agg close_ow close_bx close_fn close_nl touch_d touch_agg touch_ow touch_bx touch_fn touch_nl ren_d ren_agg ren_bx ren_rp ren_ow ren_fn ren_nl ren_junk retQ_ret retQ2_ret condQ_bool Nm.d Df.d Ed.d nmsD dfsD strsD edsD retC_ret nm_eq df_eq take_map_len take_map_app
  nm_t nm_d nm_td df_t df_d df_td str_t str_d str_td ed_t ed_d ed_td
  evalAppendIn evalCut evalClear evalCopy evalMake evalWrap evalCap evalNil isNilC lenL isInp gorc
  mapOf findD keyEq keyOk evalMakeMap evalRange zeroD zeroDV argsG shutG outN lenv retG0_ret retG0_normal retG1_ret renO close_mp touch_mp ren_mp optAll_d optAll_d' touch_ds cellsL_mp cellsD_mp cellsL_dmp

/-- What is above: the names to which needs lead, perhaps some twice. -/
def IsAbove (l : List Ed) (n : Nm) (o : List Nm) : Prop := (∀ x, x ∈ o ↔ Reach l n x) ∧ o.length ≤ 2 * (allNeeds l).length
theorem flat_mem_len : ∀ {l : List Ed} {e : Ed}, e ∈ l → e.needs.length ≤ (l.flatMap Ed.needs).length
  | a :: l, e, h => by
    simp only [List.flatMap_cons, List.length_append]
    rcases List.mem_cons.1 h with rfl | h
    · omega
    · have := flat_mem_len h; omega
theorem needsOf_len {l : List Ed} {n : Nm} : (needsOf l n).length ≤ (allNeeds l).length := by
  unfold needsOf
  split
  · rename_i i h
    obtain ⟨hi, _, _⟩ := find_at h
    simp only [List.getD_eq_getElem?_getD, List.getElem?_eq_getElem hi, Option.getD_some]
    exact flat_mem_len (List.getElem_mem hi)
  · simp
theorem mu_nil (l : List Ed) (M : List Nm) : mu l M ≤ (allNeeds l).length := List.length_filter_le _ _
/-- Where the search stands: what is known is above; the needs of the first i are known. -/
structure Sofar (l : List Ed) (n : Nm) (out : List Nm) (i : Nat) : Prop where
  reach : ∀ x ∈ out, Reach l n x
  first : ∀ x ∈ needsOf l n, x ∈ out
  done : ∀ (j : Nat) (h : j < out.length), j < i → ∀ x ∈ needsOf l out[j], x ∈ out
  size : mu l out + out.length ≤ 2 * (allNeeds l).length
theorem Sofar.start (l : List Ed) (n : Nm) : Sofar l n (needsOf l n) 0 :=
  ⟨fun x h => .one h, fun x h => h, fun j _ h => absurd h (Nat.not_lt_zero _), by have := mu_nil l (needsOf l n); have := needsOf_len (l := l) (n := n); omega⟩
theorem Sofar.step {l : List Ed} {n : Nm} {out o : List Nm} {i : Nat} (h : Sofar l n out i) (hi : i < out.length) (hp : out <+: o) (hr : ∀ x ∈ o, Reach l n x) (hd : ∀ x ∈ needsOf l out[i], x ∈ o) (hs : mu l o + o.length ≤ mu l out + out.length) : Sofar l n o (i + 1) := by
  have hsub : ∀ x ∈ out, x ∈ o := fun x hx => hp.subset hx
  refine ⟨hr, fun x hx => hsub x (h.first x hx), fun j hj hji x hx => ?_, by have := h.size; omega⟩
  have hjo : j < out.length := by omega
  have e : o[j] = out[j] := (List.IsPrefix.getElem hp hjo).symm
  rw [e] at hx
  by_cases hj2 : j < i
  · exact hsub x (h.done j hjo hj2 x hx)
  · have : j = i := by omega
    subst this
    exact hd x hx
theorem Sofar.above {l : List Ed} {n : Nm} {out : List Nm} {i : Nat} (h : Sofar l n out i) (hi : out.length ≤ i) : IsAbove l n out := by
  refine ⟨fun x => ⟨h.reach x, fun hr => ?_⟩, by have := h.size; omega⟩
  have key : ∀ {m k : Nm}, Reach l m k → (m = n ∨ m ∈ out) → k ∈ out := by
    intro m k hr
    induction hr with
    | one hm =>
      rintro (rfl | hmo)
      · exact h.first _ hm
      · obtain ⟨j, hj, rfl⟩ := List.getElem_of_mem hmo
        exact h.done j hj (by omega) _ hm
    | next hm _ ih =>
      rintro (rfl | hmo)
      · exact ih (.inr (h.first _ hm))
      · obtain ⟨j, hj, rfl⟩ := List.getElem_of_mem hmo
        exact ih (.inr (h.done j hj (by omega) _ hm))
  exact key hr (.inl rfl)

/-- culprit/culpritref22.Above -/
theorem Above_ok (l : List Ed) (n : Nm) (hn : (allNeeds l).length ≤ 1000000) : OkR Tryz.prog 75 [edsD l, n.d] (fun r => (fun v => ∃ o : List Nm, IsAbove l n o ∧ v = .d (nmsD o)) r.v ∧ r.fresh = true) := by
  refine OkR.ret (Rel := fun v => ∃ o : List Nm, IsAbove l n o ∧ v = .d (nmsD o)) Tryz.func75 (by kernel_rfl) (c := _) rfl Tryz.ntmps75 (by simp) Tryz.results75 fun w0 X hp => ?_
  have hnl := needsOf_len (l := l) (n := n)
  refine LWp.seq ?_
  refine LWp.reg hT hW (fun _ => none) (fun _ => ⟨rfl, fun _ h => h⟩) ?_
  simp
  refine LWp.seq ?_
  refine LWp.reg hT hW (fun | 12 => some <| .plain ⟨.d (nmsD (needsOf l n)), false⟩ | _ => none) (by intro d; first | exact ⟨rfl, fun _ h => h⟩ | (split <;> exact ⟨rfl, fun _ h => h⟩)) ?_
  simp
  refine ⟨⟨Needs_ok l n, by omega⟩, ?_⟩
  refine LWp.seq ?_
  refine LWp.seq ?_
  refine LWp.reg hT hW (fun _ => none) (fun _ => ⟨rfl, fun _ h => h⟩) ?_
  simp
  refine LWp.block ?_
  refine LWp.loopW (ι := Nat × List Nm) (fun ⟨i, out⟩ => mkEnv [(0, .d (edsD l)), (5, .ow 5 0 out.length), (6, .d (I64 i))]) (fun ⟨i, out⟩ => mkObs [(5, .row false 2 (out.map Nm.d))]) (fun ⟨i, out⟩ => Sofar l n out i) (fun ⟨i, out⟩ => mu l out + (out.length - i)) (0, needsOf l n) (Weak.to [0, 5, 6] [(13, 5)] (by decide) (by decide) (by simp [hp]) (by simp) (by simp)) (Sofar.start l n) fun ⟨i, out⟩ hi3 => ?_
  refine LWp.seq ?_
  refine LWp.seq ?_
  refine LWp.reg hT hW (fun _ => none) (fun _ => ⟨rfl, fun _ h => h⟩) ?_
  simp
  refine LWp.iff ?_
  simp
  refine ⟨fun h3 => ?_, fun h3 => ?_⟩
  · refine LWp.skip ?_
    simp
    refine LWp.seq ?_
    refine LWp.block ?_
    refine LWp.seq ?_
    refine LWp.reg hT hW (fun | 25 => some <| .plain ⟨.d (nmsD (needsOf l out[i])), false⟩ | _ => none) (by intro d; first | exact ⟨rfl, fun _ h => h⟩ | (split <;> exact ⟨rfl, fun _ h => h⟩)) ?_
    simp [h3]
    refine ⟨Needs_ok l out[i], ?_⟩
    refine LWp.seq ?_
    refine LWp.reg hT hW (fun _ => none) (fun _ => ⟨rfl, fun _ h => h⟩) ?_
    simp
    refine LWp.block ?_
    refine LWp.loopW (ι := Nat × List Nm) (fun ⟨k, o⟩ => mkEnv [(0, .d (edsD l)), (5, .ow 5 0 o.length), (6, .d (I64 i)), (7, .d (nmsD (needsOf l out[i]))), (8, .d (I64 k))]) (fun ⟨k, o⟩ => mkObs [(5, .row false 2 (o.map Nm.d))]) (fun ⟨k, o⟩ => k ≤ (needsOf l out[i]).length ∧ out <+: o ∧ (∀ x ∈ o, Reach l n x) ∧ (∀ (j : Nat) (h : j < (needsOf l out[i]).length), j < k → (needsOf l out[i])[j] ∈ o) ∧ mu l o + o.length ≤ mu l out + out.length) (fun ⟨k, o⟩ => (needsOf l out[i]).length - k) (0, out) (Weak.to [0, 5, 6, 7, 8] [(5, 5)] (by decide) (by decide) (by simp [hp]) (by simp) (by simp)) (⟨Nat.zero_le _, List.prefix_refl _, hi3.reach, fun j _ h => absurd h (Nat.not_lt_zero _), Nat.le_refl _⟩) fun ⟨k, o⟩ hi7 => ?_
    refine LWp.seq ?_
    refine LWp.seq ?_
    refine LWp.reg hT hW (fun _ => none) (fun _ => ⟨rfl, fun _ h => h⟩) ?_
    simp
    refine LWp.iff ?_
    simp
    refine ⟨fun h7 => ?_, fun h7 => ?_⟩
    · refine LWp.skip ?_
      simp
      refine LWp.seq ?_
      refine LWp.block ?_
      refine LWp.seq ?_
      refine LWp.reg hT hW (fun | 37 => some <| .plain ⟨.d (.bool (decide ((needsOf l out[i])[k] ∈ o))), true⟩ | _ => none) (by intro d; first | exact ⟨rfl, fun _ h => h⟩ | (split <;> exact ⟨rfl, fun _ h => h⟩)) ?_
      simp [h7]
      refine ⟨Has_ok o _, ?_⟩
      refine LWp.iff ?_
      simp
      refine ⟨fun h9 => ?_, fun h9 => ?_⟩
      · refine LWp.reg hT hW (fun _ => none) (fun _ => ⟨rfl, fun _ h => h⟩) ?_
        simp [h7]
        have hb1 := hi7.2.2.2.2
        have hb2 := hi3.size
        refine ⟨by omega, ?_⟩
        refine LWp.reg hT hW (fun _ => none) (fun _ => ⟨rfl, fun _ h => h⟩) ?_
        simp
        have hk := needsOf_len (l := l) (n := out[i])
        refine ⟨by omega, ?_⟩
        refine loopQ.mk (k + 1, o ++ [(needsOf l out[i])[k]]) (Weak.to [0, 5, 6, 7, 8] [(45, 5)] (by decide) (by decide) (by simp [hp]) (by simp) (by simp)) ?_ ?_
        · obtain ⟨q1, q2, q3, q4, q5⟩ := hi7
          have hm : (needsOf l out[i])[k] ∈ needsOf l out[i] := List.getElem_mem h7
          refine ⟨h7, q2.trans (List.prefix_append _ _), fun x hx => ?_, fun j hj hjk => ?_, ?_⟩
          · rcases List.mem_append.1 hx with hx | hx
            · exact q3 x hx
            · simp at hx; subst hx; exact (hi3.reach _ (List.getElem_mem h3)).snoc hm
          · by_cases e : j = k
            · subst e; simp
            · exact List.mem_append_left _ (q4 j hj (by omega))
          · have := mu_lt (needs_all hm) h9
            simp only [List.length_append, List.length_singleton]; omega
        · omega
      · refine LWp.skip ?_
        simp
        refine LWp.reg hT hW (fun _ => none) (fun _ => ⟨rfl, fun _ h => h⟩) ?_
        simp
        have hk := needsOf_len (l := l) (n := out[i])
        refine ⟨by omega, ?_⟩
        refine loopQ.mk (k + 1, o) (Weak.to [0, 5, 6, 7, 8] [(5, 5)] (by decide) (by decide) (by simp [hp]) (by simp) (by simp)) ?_ ?_
        · obtain ⟨q1, q2, q3, q4, q5⟩ := hi7
          refine ⟨h7, q2, q3, fun j hj hjk => ?_, q5⟩
          by_cases e : j = k
          · subst e; exact h9
          · exact q4 j hj (by omega)
        · omega
    · refine LWp.exit ?_
      simp
      refine LWp.reg hT hW (fun _ => none) (fun _ => ⟨rfl, fun _ h => h⟩) ?_
      simp
      have hb2 := hi3.size
      refine ⟨by omega, ?_⟩
      refine loopQ.mk (i + 1, o) (Weak.to [0, 5, 6] [(5, 5)] (by decide) (by decide) (by simp [hp]) (by simp) (by simp)) ?_ ?_
      · exact hi3.step h3 hi7.2.1 hi7.2.2.1 (fun x hx => by obtain ⟨j, hj, rfl⟩ := List.getElem_of_mem hx; exact hi7.2.2.2.1 j hj (by omega)) hi7.2.2.2.2
      · have := hi7.2.2.2.2
        have := (hi7.2.1).length_le
        dsimp only
        omega
  · refine LWp.exit ?_
    simp
    refine LWp.seq ?_
    refine LWp.reg hT hW (fun _ => none) (fun _ => ⟨rfl, fun _ h => h⟩) ?_
    simp
    refine LWp.ret ?_
    simp only [retR_ret]
    refine ⟨_, ⟨out, hi3.above (by omega), rfl⟩, by simp, ?_⟩
    simp

/-- culprit/culpritref22.Before -/
theorem Before_ok (l : List Ed) (a b : Nm) (hn : (allNeeds l).length ≤ 1000000) : Ok Tryz.prog 28 [edsD l, a.d, b.d] ⟨.d (.bool (decide (a ∈ aboveL l b))), true⟩ := by
  refine Ok.ret Tryz.func28 (by kernel_rfl) (c := _) rfl Tryz.ntmps28 (by simp) Tryz.results28 (by intro _ h; cases h) fun w0 X hp => ?_
  refine LWp.seq ?_
  refine LWp.reg hT hW (fun _ => none) (fun _ => ⟨rfl, fun _ h => h⟩) ?_
  simp
  refine LWp.seq ?_
  refine LWp.anyRel hT hW hMixed (lk [[], [], [0, 1], [], [0, 1, 2, 3], [0, 1, 2, 3, 4]]) (lk [[], [], [], [9], [], []]) (lk [[], [], [9], [], [11], []]) (by kernel_rfl) 9 (fun r => (∃ o : List Nm, IsAbove l b o ∧ r.v = .d (nmsD o)) ∧ r.fresh = true) true ⟨.d (nmsD (aboveL l b)), true⟩ ⟨⟨⟨aboveL l b, ⟨fun x => mem_aboveL, by have := aboveL_len l b; omega⟩, rfl⟩, rfl⟩, rfl⟩ (fun | 11 => some <| .plain ⟨.d (.bool (decide (a ∈ aboveL l b))), true⟩ | _ => none) (by intro d; first | exact ⟨rfl, fun _ h => h⟩ | (split <;> exact ⟨rfl, fun _ h => h⟩)) (by kernel_rfl) fun r1 hr1 => ?_
  obtain ⟨v1, f1⟩ := r1
  obtain ⟨⟨o, ho, hv⟩, hf⟩ := hr1
  dsimp only at hv hf
  subst hv; subst hf
  have hmo : decide (a ∈ o) = decide (a ∈ aboveL l b) := by rw [decide_eq_decide, ho.1, mem_aboveL]
  simp
  refine ⟨⟨Above_ok l b hn, by rw [← hmo]; exact Has_ok o a⟩, ?_⟩
  refine LWp.ret ?_
  simp

/-- culprit/culpritref22.Closed -/
theorem Closed_ok (l : List Ed) (set : List Nm) (hn : (allNeeds l).length ≤ 1000000) (hs : set.length ≤ 1000000000000) : Ok Tryz.prog 21 [edsD l, nmsD set] ⟨.d (.bool (closedB l set)), true⟩ := by
  refine Ok.ret Tryz.func21 (by kernel_rfl) (c := _) rfl Tryz.ntmps21 (by simp) Tryz.results21 (by intro _ h; cases h) fun w0 X hp => ?_
  refine LWp.seq ?_
  refine LWp.reg hT hW (fun _ => none) (fun _ => ⟨rfl, fun _ h => h⟩) ?_
  simp
  refine LWp.seq ?_
  refine LWp.seq ?_
  refine LWp.reg hT hW (fun _ => none) (fun _ => ⟨rfl, fun _ h => h⟩) ?_
  simp
  refine LWp.block ?_
  refine LWp.loopW (ι := Nat) (fun i => mkEnv [(0, .d (edsD l)), (1, .d (nmsD set)), (5, .d (I64 i))]) (fun i => mkObs []) (fun i => i ≤ set.length ∧ Pre (fun n => !closedAt l set n) set i) (fun i => set.length - i) 0 (Weak.to [0, 1, 5] [] (by decide) (by decide) (by simp [hp]) (by simp) (by simp)) (⟨Nat.zero_le _, Pre.zero⟩) fun i hi2 => ?_
  refine LWp.seq ?_
  refine LWp.seq ?_
  refine LWp.reg hT hW (fun _ => none) (fun _ => ⟨rfl, fun _ h => h⟩) ?_
  simp
  refine LWp.iff ?_
  simp
  refine ⟨fun h2 => ?_, fun h2 => ?_⟩
  · refine LWp.skip ?_
    simp
    refine LWp.seq ?_
    refine LWp.block ?_
    refine LWp.seq ?_
    refine LWp.seq ?_
    refine LWp.reg hT hW (fun | 19 => some <| .plain ⟨.d (I64 (findI l set[i])), true⟩ | _ => none) (by intro d; first | exact ⟨rfl, fun _ h => h⟩ | (split <;> exact ⟨rfl, fun _ h => h⟩)) ?_
    simp [h2]
    refine ⟨Find_ok l _, ?_⟩
    refine LWp.iff ?_
    simp
    refine ⟨fun h4 => ?_, fun h4 => ?_⟩
    · refine LWp.seq ?_
      refine LWp.reg hT hW (fun _ => none) (fun _ => ⟨rfl, fun _ h => h⟩) ?_
      simp
      refine LWp.ret ?_
      simp
      exact closedB_false h2 (by simp [closedAt, h4])
    · refine LWp.skip ?_
      simp
      refine LWp.seq ?_
      refine LWp.reg hT hW (fun | 26 => some <| .plain ⟨.d (nmsD (needsOf l set[i])), false⟩ | _ => none) (by intro d; first | exact ⟨rfl, fun _ h => h⟩ | (split <;> exact ⟨rfl, fun _ h => h⟩)) ?_
      simp [h2]
      refine ⟨Needs_ok l _, ?_⟩
      refine LWp.seq ?_
      refine LWp.reg hT hW (fun _ => none) (fun _ => ⟨rfl, fun _ h => h⟩) ?_
      simp
      refine LWp.block ?_
      refine LWp.loopW (ι := Nat) (fun k => mkEnv [(0, .d (edsD l)), (1, .d (nmsD set)), (5, .d (I64 i)), (6, .d (nmsD (needsOf l set[i]))), (7, .d (I64 k))]) (fun k => mkObs []) (fun k => k ≤ (needsOf l set[i]).length ∧ Pre (fun m => !decide (m ∈ set)) (needsOf l set[i]) k) (fun k => (needsOf l set[i]).length - k) 0 (Weak.to [0, 1, 5, 6, 7] [] (by decide) (by decide) (by simp [hp]) (by simp) (by simp)) (⟨Nat.zero_le _, Pre.zero⟩) fun k hi8 => ?_
      refine LWp.seq ?_
      refine LWp.seq ?_
      refine LWp.reg hT hW (fun _ => none) (fun _ => ⟨rfl, fun _ h => h⟩) ?_
      simp
      refine LWp.iff ?_
      simp
      refine ⟨fun h8 => ?_, fun h8 => ?_⟩
      · refine LWp.skip ?_
        simp
        refine LWp.seq ?_
        refine LWp.block ?_
        refine LWp.seq ?_
        refine LWp.reg hT hW (fun | 38 => some <| .plain ⟨.d (.bool (decide ((needsOf l set[i])[k] ∈ set))), true⟩ | _ => none) (by intro d; first | exact ⟨rfl, fun _ h => h⟩ | (split <;> exact ⟨rfl, fun _ h => h⟩)) ?_
        simp [h8]
        refine ⟨Has_ok set _, ?_⟩
        refine LWp.iff ?_
        simp
        refine ⟨fun h10 => ?_, fun h10 => ?_⟩
        · refine LWp.seq ?_
          refine LWp.reg hT hW (fun _ => none) (fun _ => ⟨rfl, fun _ h => h⟩) ?_
          simp
          refine LWp.ret ?_
          simp
          refine closedB_false h2 ?_
          simp only [closedAt, Bool.and_eq_false_iff]
          refine .inr ?_
          rw [List.all_eq_false]
          exact ⟨_, List.getElem_mem h8, by simpa using h10⟩
        · refine LWp.skip ?_
          simp
          refine LWp.reg hT hW (fun _ => none) (fun _ => ⟨rfl, fun _ h => h⟩) ?_
          simp
          have hk := needsOf_len (l := l) (n := set[i])
          refine ⟨by omega, ?_⟩
          refine loopQ.mk (k + 1) (Weak.to [0, 1, 5, 6, 7] [] (by decide) (by decide) (by simp [hp]) (by simp) (by simp)) ?_ ?_
          · exact ⟨h8, hi8.2.succ h8 (by simpa using h10)⟩
          · omega
      · refine LWp.exit ?_
        simp
        refine LWp.reg hT hW (fun _ => none) (fun _ => ⟨rfl, fun _ h => h⟩) ?_
        simp
        refine ⟨by omega, ?_⟩
        refine loopQ.mk (i + 1) (Weak.to [0, 1, 5] [] (by decide) (by decide) (by simp [hp]) (by simp) (by simp)) ?_ ?_
        · refine ⟨h2, hi2.2.succ h2 ?_⟩
          have hneg : ¬ findI l set[i] < 0 := by omega
          simp [closedAt, hneg]
          intro m hm
          obtain ⟨j, hj, rfl⟩ := List.getElem_of_mem hm
          have := hi8.2 j hj (by omega)
          simpa using this
        · omega
  · refine LWp.exit ?_
    simp
    refine LWp.seq ?_
    refine LWp.reg hT hW (fun _ => none) (fun _ => ⟨rfl, fun _ h => h⟩) ?_
    simp
    refine LWp.ret ?_
    simp
    exact closedB_true hi2.2 h2

/-- culprit/culpritref22.Closure -/
theorem Closure_ok (l : List Ed) (set : List Nm) (hn : (allNeeds l).length ≤ 1000) (hs : set.length ≤ 400) : Ok Tryz.prog 18 [edsD l, nmsD set] ⟨.tup [.d (nmsD (closureV l set).1), .d (I64 (closureV l set).2)], false⟩ := by
  refine Ok.two Tryz.func18 (by kernel_rfl) (c := _) rfl Tryz.ntmps18 (by simp) Tryz.results18 rfl fun w0 X hp => ?_
  refine LWp.seq ?_
  refine LWp.reg hT hW (fun _ => none) (fun _ => ⟨rfl, fun _ h => h⟩) ?_
  simp
  refine LWp.seq ?_
  refine LWp.reg hT hW (fun _ => none) (fun _ => ⟨rfl, fun _ h => h⟩) ?_
  simp
  refine ⟨by omega, ?_⟩
  refine LWp.seq ?_
  refine LWp.seq ?_
  refine LWp.reg hT hW (fun _ => none) (fun _ => ⟨rfl, fun _ h => h⟩) ?_
  simp
  refine LWp.block ?_
  refine LWp.loopW (ι := Nat × List Nm) (fun ⟨i, out⟩ => mkEnv [(0, .d (edsD l)), (1, .d (nmsD set)), (6, .ow 6 0 out.length), (7, .d (I64 i))]) (fun ⟨i, out⟩ => mkObs [(6, .row false 2 (out.map Nm.d))]) (fun ⟨i, out⟩ => i ≤ set.length ∧ out.length ≤ set.length + i * 2000 ∧ ∀ x, x ∈ out ↔ x ∈ set ++ (set.take i).flatMap (aboveL l)) (fun ⟨i, out⟩ => set.length - i) (0, set) (Weak.to [0, 1, 6, 7] [(10, 6)] (by decide) (by decide) (by simp [hp]) (by simp) (by simp)) (by simp) fun ⟨i, out⟩ hi3 => ?_
  refine LWp.seq ?_
  refine LWp.seq ?_
  refine LWp.reg hT hW (fun _ => none) (fun _ => ⟨rfl, fun _ h => h⟩) ?_
  simp
  refine LWp.iff ?_
  simp
  refine ⟨fun h3 => ?_, fun h3 => ?_⟩
  · refine LWp.skip ?_
    simp
    refine LWp.seq ?_
    refine LWp.block ?_
    obtain ⟨q1, q2, q3⟩ := hi3
    have hip : i * 2000 ≤ set.length * 2000 := Nat.mul_le_mul_right _ q1
    have hab := aboveL_len l set[i]
    refine LWp.regRel hT hW 23 (fun r => (∃ o : List Nm, IsAbove l set[i] o ∧ r.v = .d (nmsD o)) ∧ r.fresh = true) true ⟨.d (nmsD (aboveL l set[i])), true⟩ ⟨⟨⟨aboveL l set[i], ⟨fun x => mem_aboveL, by omega⟩, rfl⟩, rfl⟩, rfl⟩ (fun | 99 => none | _ => none) (by intro d; first | exact ⟨rfl, fun _ h => h⟩ | (split <;> exact ⟨rfl, fun _ h => h⟩)) (by kernel_rfl) fun r5 hr5 => ?_
    obtain ⟨v1, f1⟩ := r5
    obtain ⟨⟨o, ho, hv⟩, hf⟩ := hr5
    dsimp only at hv hf
    subst hv; subst hf
    have hol := ho.2
    simp [h3]
    refine ⟨⟨Above_ok l set[i] (by omega), by omega⟩, ?_⟩
    refine LWp.reg hT hW (fun _ => none) (fun _ => ⟨rfl, fun _ h => h⟩) ?_
    simp
    refine ⟨by omega, ?_⟩
    refine loopQ.mk (i + 1, out ++ o) (Weak.to [0, 1, 6, 7] [(24, 6)] (by decide) (by decide) (by simp [hp]) (by simp) (by simp)) ?_ ?_
    · refine ⟨h3, ?_, fun x => ?_⟩
      · have := ho.2
        simp only [List.length_append, Nat.add_mul]; omega
      · have e : set ++ (set.take (i + 1)).flatMap (aboveL l) = (set ++ (set.take i).flatMap (aboveL l)) ++ aboveL l set[i] := by
          rw [List.take_succ_eq_append_getElem h3, List.flatMap_append]; simp
        have h5 : x ∈ out ++ o ↔ x ∈ set ++ (set.take (i + 1)).flatMap (aboveL l) := by
          rw [e, List.mem_append, List.mem_append (s := set ++ _), q3 x, ho.1 x, mem_aboveL]
        simpa using h5
    · omega
  · refine LWp.exit ?_
    simp
    refine LWp.seq ?_
    refine LWp.seq ?_
    obtain ⟨q1, q2, q3⟩ := hi3
    have hi' : i = set.length := by omega
    rw [hi', List.take_length] at q3
    have hcl : closedB l out = closedB l (set ++ set.flatMap (aboveL l)) := closedB_mem q3
    have hso : sortN out = sortN (set ++ set.flatMap (aboveL l)) := sortN_mem q3
    have hil : i * 2000 ≤ 400 * 2000 := Nat.mul_le_mul_right _ (by omega)
    refine LWp.reg hT hW (fun | 27 => some <| .plain ⟨.d (.bool (closedB l out)), true⟩ | _ => none) (by intro d; first | exact ⟨rfl, fun _ h => h⟩ | (split <;> exact ⟨rfl, fun _ h => h⟩)) ?_
    simp
    refine ⟨Closed_ok l out (by omega) (by omega), ?_⟩
    refine LWp.iff ?_
    simp
    refine ⟨fun h6 => ?_, fun h6 => ?_⟩
    · refine LWp.seq ?_
      refine LWp.reg hT hW (fun _ => none) (fun _ => ⟨rfl, fun _ h => h⟩) ?_
      simp
      refine LWp.ret ?_
      have e : closureV l set = ([], 6) := by unfold closureV; rw [← hcl, if_pos (by simpa using h6)]
      simp [e]
    · refine LWp.skip ?_
      simp
      refine LWp.seq ?_
      refine LWp.reg hT hW (fun | 30 => some <| .plain ⟨.d (nmsD (sortN out)), true⟩ | _ => none) (by intro d; first | exact ⟨rfl, fun _ h => h⟩ | (split <;> exact ⟨rfl, fun _ h => h⟩)) ?_
      simp
      refine ⟨Sort_ok out (by omega), ?_⟩
      refine LWp.ret ?_
      have e : closureV l set = (sortN out, 0) := by unfold closureV; rw [← hcl, ← hso, if_neg (by simpa using h6)]
      simp [e]

end Go.Eng

/-
  Chapter 22: edit.Program. No condition.
-/
namespace Go.Eng
open Go.Proofs
attribute [local simp] runL stepL evalG evalOp opLV constLV putEnv dstOk upd upds Res.plain Res.cond Res.fail evalBin evalUn seqQ blockQ argsEnv lookL lookH RetIs memless freshL evalPick evalMin bval bok evalLen evalIn strip whenC guardOps guardC slotsOf
  runM foldS stepI stepM maskE wrIn lk renO lookN evalCall evalCallee optAll resLV resObj retLV retObj retsLV retsObj evalLoad evalIndexAddr evalField solid cellsD_agg cellsD_int cellsD_bool cellsD_str cellsD_sl cellsD_ro cellsD_fn cellsL_agg cellsL_dagg cellsL_int cellsL_bool cellsL_str cellsL_sl cellsL_fn cellsL_ow cellsL_bx cellsL_lfn cellsL_nl takeL takeD mkAgg allD eqD eqDs kindsAre kindIs LObj.live TK.isNone TK.agg TK.isBool TK.isStr TK.isStruct Op.operands Call.operands
  evalBuildSlice evalAppend elemsOf evalStore evalBuild fillL lookupF putL evalSlice bound evalConv elemsS freezes frozen loadR
  mkEnv_at mkObs_at close_d close_agg close_ow close_bx close_fn close_nl touch_d touch_agg touch_ow touch_bx touch_fn touch_nl ren_d ren_agg ren_bx ren_rp ren_ow ren_fn ren_nl ren_junk retQ_ret retQ2_ret condQ_bool Nm.d Df.d Ed.d nmsD dfsD strsD edsD retC_ret nm_eq df_eq take_map_len take_map_app
  nm_t nm_d nm_td df_t df_d df_td str_t str_d str_td ed_t ed_d ed_td
  evalAppendIn evalCut evalClear evalCopy evalMake evalWrap evalCap evalNil isNilC lenL isInp gorc
  mapOf findD keyEq keyOk evalMakeMap evalRange zeroD zeroDV argsG shutG outN lenv retG0_ret retG0_normal retG1_ret renO close_mp touch_mp ren_mp optAll_d optAll_d' touch_ds cellsL_mp cellsD_mp cellsL_dmp

def km (m : List Df) : List DV := m.map fun d => .str d.name
def vm (m : List Df) : List DV := m.map Df.d
theorem findD_str {s : Str} : ∀ {m : List Df} {i : Nat}, findD (.str s) (km m) i = some ((m.findIdx? fun x => decide (s = x.name)).map (· + i))
  | [], i => by simp [findD, km]
  | x :: m, i => by
    have ih := findD_str (s := s) (m := m) (i := i + 1)
    simp only [km, List.map_cons, findD] at *
    have e : keyEq (.str s) (.str x.name) = some (decide (s = x.name)) := by simp only [keyEq, eqD]; congr 1; rw [Bool.eq_iff_iff]; simp
    rw [e, List.findIdx?_cons]
    cases q : decide (s = x.name) with
    | true => simp
    | false =>
      simp only [ih, Bool.false_eq_true, if_false]
      cases (m.findIdx? fun x => decide (s = x.name)) with
      | none => rfl
      | some j => simp; omega
theorem any_name {m : List Df} {s : Str} : (m.any fun x => decide (x.name = s)) = (m.findIdx? fun x => decide (s = x.name)).isSome := by
  rw [Bool.eq_iff_iff, List.any_eq_true, List.findIdx?_isSome, List.any_eq_true]
  constructor
  · rintro ⟨x, hx, e⟩; exact ⟨x, hx, by simpa using (of_decide_eq_true e).symm⟩
  · rintro ⟨x, hx, e⟩; exact ⟨x, hx, by simpa using (of_decide_eq_true e).symm⟩
theorem look_df (m : List Df) {H : Obs} {x : LV} {s : Str} {ok : Bool} (h : mapOf H x = some (km m, vm m)) :
    evalLookup T H 121 x (.d (.str s)) ok = ⟨if ok then .tup [.d (lookD m s).d, .d (.bool (m.any fun x => decide (x.name = s)))] else .d (lookD m s).d, True, []⟩ := by
  unfold evalLookup lookD
  simp only [t121, h, findD_str, any_name]
  cases q : m.findIdx? fun x => decide (s = x.name) with
  | none => cases ok <;> simp [keyOk, kindIs, zeroD, zeroDV, TK.isNone, TK.agg, Df.d]
  | some j =>
    obtain ⟨hj, _⟩ := find_name_some q
    cases ok <;> simp [keyOk, kindIs, vm, hj]
theorem put_df (m : List Df) {H : Obs} {id : Nat} {d : Df} (h : H id = .map false (km m) (vm m)) :
    evalMapUpdate T H 121 (.mp id) (.d (.str d.name)) (.d (.agg [.str d.name, .str d.text])) = ⟨.junk, True, [(id, .map false (km (upsert m d)) (vm (upsert m d)))]⟩ := by
  unfold evalMapUpdate upsert
  simp only [t121, h, findD_str]
  cases q : m.findIdx? fun x => decide (d.name = x.name) with
  | none => simp [keyOk, kindIs, km, vm, Df.d]
  | some j =>
    obtain ⟨hj, hjn⟩ := find_name_some q
    have hk : km m = km (m.set j d) := by
      unfold km
      apply List.ext_getElem?
      intro i
      rw [List.map_set, List.getElem?_set]
      by_cases e : j = i
      · subst e; simp [hj, hjn]
      · simp [e]
    simp [keyOk, kindIs, ← hk]
    simp [vm, List.map_set, Df.d]
theorem del_df (m : List Df) {H : Obs} {id : Nat} {s : Str} (h : H id = .map false (km m) (vm m)) :
    evalDelete T H 121 (.mp id) (.d (.str s)) = ⟨.junk, True, [(id, .map false (km (removeN m s)) (vm (removeN m s)))]⟩ := by
  unfold evalDelete removeN
  simp only [t121, h, findD_str]
  cases q : m.findIdx? fun x => decide (s = x.name) with
  | none => simp [keyOk, kindIs]
  | some j => simp [keyOk, kindIs, km, vm, map_erase]

/-- The definitions to begin with, in order; none: a name is there twice. -/
def baseD : List Df → List Df → Option (List Df)
  | L, [] => some L
  | L, d :: r => if L.any (fun x => decide (x.name = d.name)) = true then none else baseD (putD L d) r
def doneD (defs : List Df) (e : Ed) : List Df := e.drops.foldl dropD (e.puts.foldl putD defs)
/-- Of the names two clash. -/
def clashAny (l : List Ed) (set names : List Nm) : Bool := (List.range names.length).any fun i => (names.take i).any fun a => clashB l set a (names.getD i default)
def programV (base : List Df) (l : List Ed) (set : List Nm) : List Df × Int :=
  if (validV l).2 ≠ 0 then ([], (validV l).2) else match baseD [] base with
    | none => ([], 7)
    | some defs => if closedB l set = false then ([], 10) else if clashAny l set (orderN l set) = true then ([], 14) else ((orderN l set).foldl (fun ds n => doneD ds (edAt l n)) defs, 0)
/-- None of the first j names clashes with one ahead of it. -/
def NoClash (l : List Ed) (set names : List Nm) (j : Nat) : Prop := ∀ i', i' < j → ((names.take i').any fun a => clashB l set a (names.getD i' default)) = false
theorem NoClash.step {l : List Ed} {set names : List Nm} {j : Nat} (h : NoClash l set names j) (hj : j < names.length) (hp : Pre (fun a => clashB l set a names[j]) names j) : NoClash l set names (j + 1) := fun i' hi => by
  by_cases e : i' = j
  · subst e
    rw [List.any_eq_false]
    intro a ha
    obtain ⟨q, hq, rfl⟩ := List.getElem_of_mem ha
    simp at hq
    have := hp q (by omega) (by omega)
    simp only [List.getElem_take, List.getD_eq_getElem?_getD, List.getElem?_eq_getElem hj, Option.getD_some]
    simpa using this
  · exact h i' (by omega)
theorem clashAny_no {l : List Ed} {set names : List Nm} (h : NoClash l set names names.length) : clashAny l set names = false := by
  unfold clashAny
  rw [List.any_eq_false]
  intro i hi
  rw [h i (by simpa using hi)]
  simp
theorem clashAny_yes {l : List Ed} {set names : List Nm} {j k : Nat} (hj : j < names.length) (hk : k < j) (h : clashB l set (names[k]'(by omega)) names[j] = true) : clashAny l set names = true := by
  unfold clashAny
  refine List.any_eq_true.2 ⟨j, by simpa using hj, List.any_eq_true.2 ⟨names[k]'(by omega), ?_, ?_⟩⟩
  · exact List.mem_iff_getElem.2 ⟨k, by simp; omega, by simp⟩
  · simpa [hj] using h
theorem proper_len {e : Ed} (h : properE e = true) : e.puts.length + e.drops.length ≤ 24 := by
  unfold properE at h
  simp only [Bool.and_eq_true, decide_eq_true_eq] at h
  have := h.1.1.1.1.1.1.2
  unfold touches at this
  simpa using this
theorem upsert_len (m : List Df) (d : Df) : (upsert m d).length ≤ m.length + 1 := by
  unfold upsert; split <;> simp
theorem removeN_len (m : List Df) (s : Str) : (removeN m s).length ≤ m.length := by
  unfold removeN; split
  · exact (List.eraseIdx_sublist _ _).length_le
  · exact Nat.le_refl _
theorem km_len (m : List Df) : (km m).length = m.length := by simp [km]
theorem km_names (m : List Df) : km m = (m.map Df.name).map .str := by simp [km]

theorem orderF_sub {l : List Ed} : ∀ (f : Nat) (rest out : List Nm) {x : Nm}, x ∈ orderF l f rest out → x ∈ rest ∨ x ∈ out
  | 0, rest, out, x, h => .inr h
  | f + 1, rest, out, x, h => by
    cases q : rest.findIdx? (readyN l out) with
    | none => simp only [orderF, q] at h; exact .inr h
    | some k =>
      have hk := (List.findIdx?_eq_some_iff_getElem.1 q).1
      rw [orderF_succ q hk] at h
      rcases orderF_sub f _ _ h with h | h
      · exact .inl (List.mem_of_mem_eraseIdx h)
      · rcases List.mem_append.1 h with h | h
        · exact .inr h
        · simp at h; subst h; exact .inl (List.getElem_mem hk)
theorem orderN_sub {l : List Ed} {set names : List Nm} {x : Nm} (h : x ∈ names) (e : names = orderN l set) : x ∈ set := by
  subst e
  rcases orderF_sub _ _ _ h with h | h
  · exact ((sortN_spec set).2 x).1 h
  · cases h
theorem orderF_len {l : List Ed} : ∀ (f : Nat) (rest out : List Nm), (orderF l f rest out).length ≤ out.length + f
  | 0, rest, out => Nat.le_refl _
  | f + 1, rest, out => by
    cases q : rest.findIdx? (readyN l out) with
    | none => simp only [orderF, q]; omega
    | some k =>
      have hk := (List.findIdx?_eq_some_iff_getElem.1 q).1
      rw [orderF_succ q hk]
      have := orderF_len (l := l) f (rest.eraseIdx k) (out ++ [rest[k]])
      simp at this; omega
theorem orderN_len (l : List Ed) (set : List Nm) : (orderN l set).length ≤ set.length := by
  have := orderF_len (l := l) (sortN set).length (sortN set) []
  have := sortN_len set
  unfold orderN
  simp at *; omega

/-- culprit/edit.Program -/
theorem EProgram_ok (base : List Df) (l : List Ed) (set : List Nm) (hs : small l) (hb : base.length ≤ 1000) (hl : set.length ≤ 1000) : Ok Tryz.prog 32 [dfsD base, edsD l, nmsD set] ⟨.tup [.d (dfsD (programV base l set).1), .d (I64 (programV base l set).2)], true⟩ := by
  refine Ok.two Tryz.func32 (by kernel_rfl) (c := _) rfl Tryz.ntmps32 (by simp) Tryz.results32 rfl fun w0 X hp => ?_
  refine LWp.seq ?_
  refine LWp.reg hT hW (fun _ => none) (fun _ => ⟨rfl, fun _ h => h⟩) ?_
  simp
  refine LWp.seq ?_
  refine LWp.seq ?_
  refine LWp.reg hT hW (fun | 32 => some <| .plain ⟨.tup [.d (I64 (validV l).1), .d (I64 (validV l).2)], true⟩ | _ => none) (by intro d; first | exact ⟨rfl, fun _ h => h⟩ | (split <;> exact ⟨rfl, fun _ h => h⟩)) ?_
  simp [evalExtract]
  refine ⟨EValid_ok l hs, ?_⟩
  refine LWp.seq ?_
  refine LWp.reg hT hW (fun _ => none) (fun _ => ⟨rfl, fun _ h => h⟩) ?_
  simp
  refine LWp.iff ?_
  simp
  refine ⟨fun h2 => ?_, fun h2 => ?_⟩
  · refine LWp.seq ?_
    refine LWp.reg hT hW (fun _ => none) (fun _ => ⟨rfl, fun _ h => h⟩) ?_
    simp
    refine LWp.ret ?_
    have e : programV base l set = ([], (validV l).2) := by unfold programV; rw [if_pos h2]
    simp [e]
  · have hv0 : (validV l).2 = 0 := by simpa using h2
    refine LWp.skip ?_
    simp
    refine LWp.seq ?_
    refine LWp.reg hT hW (fun _ => none) (fun _ => ⟨rfl, fun _ h => h⟩) ?_
    simp
    refine LWp.seq ?_
    refine LWp.seq ?_
    refine LWp.reg hT hW (fun _ => none) (fun _ => ⟨rfl, fun _ h => h⟩) ?_
    simp
    refine LWp.block ?_
    refine LWp.loopW (ι := Nat × List Df × List Df) (fun ⟨i, m, L⟩ => mkEnv [(0, .d (dfsD base)), (1, .d (edsD l)), (2, .d (nmsD set)), (10, .mp 10), (39, .d (dfsD base)), (40, .d (I64 base.length)), (41, .d (I64 i))]) (fun ⟨i, m, L⟩ => mkObs [(10, .map false (km m) (vm m))]) (fun ⟨i, m, L⟩ => i ≤ base.length ∧ m.length ≤ i ∧ Rep m L ∧ baseD [] base = baseD L (base.drop i)) (fun ⟨i, m, L⟩ => base.length - i) (0, [], []) (Weak.to [0, 1, 2, 10, 39, 40, 41] [(38, 10)] (by decide) (by decide) (by simp [hp]) (by simp) (by simp [km, vm])) (⟨Nat.zero_le _, Nat.le_refl _, Rep.nil, rfl⟩) fun ⟨i, m, L⟩ hi6 => ?_
    refine LWp.seq ?_
    refine LWp.reg hT hW (fun _ => none) (fun _ => ⟨rfl, fun _ h => h⟩) ?_
    simp
    refine LWp.seq ?_
    refine LWp.iff ?_
    simp
    refine ⟨fun h6 => ?_, fun h6 => ?_⟩
    · refine LWp.skip ?_
      simp
      refine LWp.seq ?_
      refine LWp.block ?_
      refine LWp.seq ?_
      refine LWp.reg hT hW (fun _ => none) (fun _ => ⟨rfl, fun _ h => h⟩) ?_
      simp [h6]
      refine LWp.seq ?_
      refine LWp.seq ?_
      refine LWp.reg hT hW (fun _ => none) (fun _ => ⟨rfl, fun _ h => h⟩) ?_
      simp [look_df m, evalExtract]
      refine LWp.seq ?_
      refine LWp.reg hT hW (fun _ => none) (fun _ => ⟨rfl, fun _ h => h⟩) ?_
      simp
      refine LWp.iff ?_
      simp
      refine ⟨fun x9 hx9 he9 => ?_, fun h9 => ?_⟩
      · refine LWp.seq ?_
        refine LWp.reg hT hW (fun _ => none) (fun _ => ⟨rfl, fun _ h => h⟩) ?_
        simp
        refine LWp.ret ?_
        obtain ⟨q1, q2, q3, q4⟩ := hi6
        have ht : (L.any fun x => decide (x.name = base[i].name)) = true := by
          rw [← q3.has]
          exact List.any_eq_true.2 ⟨x9, hx9, by simpa using he9⟩
        have hbn : baseD [] base = none := by
          rw [q4, List.drop_eq_getElem_cons h6]
          simp [baseD, ht]
        have e : programV base l set = ([], 7) := by unfold programV; rw [if_neg (by simpa using hv0), hbn]
        simp [e]
      · refine LWp.skip ?_
        simp
        refine LWp.reg hT hW (fun _ => none) (fun _ => ⟨rfl, fun _ h => h⟩) ?_
        simp [put_df m]
        refine LWp.reg hT hW (fun _ => none) (fun _ => ⟨rfl, fun _ h => h⟩) ?_
        simp
        refine ⟨by omega, ?_⟩
        refine loopQ.mk (i + 1, upsert m base[i], putD L base[i]) (Weak.to [0, 1, 2, 10, 39, 40, 41] [(10, 10)] (by decide) (by decide) (by simp [hp]) (by simp) (by simp)) ?_ ?_
        · obtain ⟨q1, q2, q3, q4⟩ := hi6
          refine ⟨h6, Nat.le_trans (upsert_len m base[i]) (by omega), q3.put _, ?_⟩
          rw [q4, List.drop_eq_getElem_cons h6]
          have hf : (L.any fun x => decide (x.name = base[i].name)) = false := by
            rw [← q3.has, List.any_eq_false]
            intro x hx
            simpa using h9 x hx
          simp [baseD, hf]
        · omega
    · refine LWp.exit ?_
      simp
      refine LWp.seq ?_
      refine LWp.seq ?_
      obtain ⟨q1, q2, q3, q4⟩ := hi6
      have hbs : baseD [] base = some L := by rw [q4, List.drop_eq_nil_of_le (by omega)]; rfl
      refine LWp.reg hT hW (fun | 60 => some <| .plain ⟨.d (.bool (closedB l set)), true⟩ | _ => none) (by intro d; first | exact ⟨rfl, fun _ h => h⟩ | (split <;> exact ⟨rfl, fun _ h => h⟩)) ?_
      simp
      refine ⟨EClosed_ok l set, ?_⟩
      refine LWp.iff ?_
      simp
      refine ⟨fun h13 => ?_, fun h13 => ?_⟩
      · refine LWp.seq ?_
        refine LWp.reg hT hW (fun _ => none) (fun _ => ⟨rfl, fun _ h => h⟩) ?_
        simp
        refine LWp.ret ?_
        have e : programV base l set = ([], 10) := by unfold programV; rw [if_neg (by simpa using hv0), hbs]; simp [h13]
        simp [e]
      · refine LWp.skip ?_
        simp
        refine LWp.seq ?_
        have hcl : closedB l set = true := by simpa using h13
        obtain ⟨names, hnames⟩ : ∃ names, names = orderN l set := ⟨_, rfl⟩
        have hnl : names.length ≤ 1000 := by rw [hnames]; exact Nat.le_trans (orderN_len l set) hl
        have hfound : ∀ n ∈ names, 0 ≤ findI l n := fun n hn => (closedB_iff.1 hcl n (orderN_sub hn (by rw [← hnames]))).1
        refine LWp.reg hT hW (fun | 64 => some <| .plain ⟨.own 2 (names.map Nm.d), true⟩ | _ => none) (by intro d; first | exact ⟨rfl, fun _ h => h⟩ | (split <;> exact ⟨rfl, fun _ h => h⟩)) ?_
        simp
        refine ⟨by rw [hnames]; exact order_ok l set (by omega) (valid_acyc hv0) hcl, ?_⟩
        refine LWp.seq ?_
        refine LWp.seq ?_
        refine LWp.reg hT hW (fun _ => none) (fun _ => ⟨rfl, fun _ h => h⟩) ?_
        simp
        refine LWp.block ?_
        refine LWp.loopW (ι := Nat) (fun j => mkEnv [(0, .d (dfsD base)), (1, .d (edsD l)), (2, .d (nmsD set)), (10, .mp 10), (15, .ow 15 0 names.length), (65, .ow 15 0 names.length), (66, .d (I64 names.length)), (67, .d (I64 j))]) (fun j => mkObs [(10, .map false (km m) (vm m)), (15, .row false 2 (names.map Nm.d))]) (fun j => j ≤ names.length ∧ NoClash l set names j) (fun j => names.length - j) 0 (Weak.to [0, 1, 2, 10, 15, 65, 66, 67] [(10, 10), (64, 15)] (by decide) (by decide) (by simp [hp]) (by simp) (by simp)) (⟨Nat.zero_le _, fun _ h => absurd h (Nat.not_lt_zero _)⟩) fun j hi17 => ?_
        refine LWp.seq ?_
        refine LWp.reg hT hW (fun _ => none) (fun _ => ⟨rfl, fun _ h => h⟩) ?_
        simp
        refine LWp.seq ?_
        refine LWp.iff ?_
        simp
        refine ⟨fun h17 => ?_, fun h17 => ?_⟩
        · refine LWp.skip ?_
          simp
          refine LWp.seq ?_
          refine LWp.block ?_
          refine LWp.seq ?_
          refine LWp.reg hT hW (fun _ => none) (fun _ => ⟨rfl, fun _ h => h⟩) ?_
          simp [h17]
          refine LWp.seq ?_
          refine LWp.reg hT hW (fun _ => none) (fun _ => ⟨rfl, fun _ h => h⟩) ?_
          simp
          refine ⟨by omega, ?_⟩
          refine LWp.block ?_
          refine LWp.loopW (ι := Nat) (fun k => mkEnv [(0, .d (dfsD base)), (1, .d (edsD l)), (2, .d (nmsD set)), (10, .mp 10), (15, .ow 15 0 names.length), (17, .bx 17 0), (65, .ow 15 0 names.length), (66, .d (I64 names.length)), (67, .d (I64 j)), (74, .ow 15 0 j), (75, .d (I64 j)), (76, .d (I64 k))]) (fun k => mkObs [(10, .map false (km m) (vm m)), (15, .row false 2 (names.map Nm.d)), (17, .box false [.d (I64 names[j].who), .d (I64 names[j].seq)])]) (fun k => k ≤ j ∧ Pre (fun a => clashB l set a names[j]) names k) (fun k => j - k) 0 (Weak.to [0, 1, 2, 10, 15, 17, 65, 66, 67, 74, 75, 76] [(10, 10), (15, 15), (17, 17)] (by decide) (by decide) (by simp [hp]) (by simp) (by simp)) (⟨Nat.zero_le _, Pre.zero⟩) fun k hi20 => ?_
          refine LWp.seq ?_
          refine LWp.reg hT hW (fun _ => none) (fun _ => ⟨rfl, fun _ h => h⟩) ?_
          simp
          refine LWp.seq ?_
          refine LWp.iff ?_
          simp
          refine ⟨fun h20 => ?_, fun h20 => ?_⟩
          · refine LWp.skip ?_
            simp
            refine LWp.seq ?_
            refine LWp.block ?_
            refine LWp.seq ?_
            have hkn : k < names.length := by omega
            refine LWp.reg hT hW (fun _ => none) (fun _ => ⟨rfl, fun _ h => h⟩) ?_
            simp [h20, hkn]
            refine LWp.seq ?_
            refine LWp.reg hT hW (fun | 84 => some <| .plain ⟨.d (.bool (clashB l set names[k] names[j])), true⟩ | _ => none) (by intro d; first | exact ⟨rfl, fun _ h => h⟩ | (split <;> exact ⟨rfl, fun _ h => h⟩)) ?_
            simp
            refine ⟨eclash_ok l set _ _ hs (fun c hc => (closedB_iff.1 hcl c hc).1) (hfound _ (List.getElem_mem hkn)) (hfound _ (List.getElem_mem h17)), ?_⟩
            refine LWp.iff ?_
            simp
            refine ⟨fun h22 => ?_, fun h22 => ?_⟩
            · refine LWp.seq ?_
              refine LWp.reg hT hW (fun _ => none) (fun _ => ⟨rfl, fun _ h => h⟩) ?_
              simp
              refine LWp.ret ?_
              have hc : clashAny l set (orderN l set) = true := by rw [← hnames]; exact clashAny_yes h17 (by omega) h22
              have e : programV base l set = ([], 14) := by unfold programV; rw [if_neg (by simpa using hv0), hbs]; simp [hcl, hc]
              simp [e]
            · refine LWp.skip ?_
              simp
              refine LWp.reg hT hW (fun _ => none) (fun _ => ⟨rfl, fun _ h => h⟩) ?_
              simp
              refine ⟨by omega, ?_⟩
              refine loopQ.mk (k + 1) (Weak.to [0, 1, 2, 10, 15, 17, 65, 66, 67, 74, 75, 76] [(10, 10), (15, 15), (17, 17)] (by decide) (by decide) (by simp [hp]) (by simp) (by simp)) ?_ ?_
              · exact ⟨h20, hi20.2.succ (by omega) (by simpa using h22)⟩
              · omega
          · refine LWp.exit ?_
            simp
            refine LWp.reg hT hW (fun _ => none) (fun _ => ⟨rfl, fun _ h => h⟩) ?_
            simp
            refine ⟨by omega, ?_⟩
            refine loopQ.mk (j + 1) (Weak.to [0, 1, 2, 10, 15, 65, 66, 67] [(10, 10), (15, 15)] (by decide) (by decide) (by simp [hp]) (by simp) (by simp)) ?_ ?_
            · exact ⟨h17, hi17.2.step h17 (fun q hq hqj => hi20.2 q hq (by omega))⟩
            · omega
        · refine LWp.exit ?_
          simp
          refine LWp.seq ?_
          refine LWp.seq ?_
          refine LWp.reg hT hW (fun _ => none) (fun _ => ⟨rfl, fun _ h => h⟩) ?_
          simp
          refine LWp.block ?_
          refine LWp.loopW (ι := Nat × List Df × List Df) (fun ⟨q, m2, L2⟩ => mkEnv [(0, .d (dfsD base)), (1, .d (edsD l)), (10, .mp 10), (87, .ow 15 0 names.length), (88, .d (I64 names.length)), (89, .d (I64 q))]) (fun ⟨q, m2, L2⟩ => mkObs [(10, .map false (km m2) (vm m2)), (15, .row false 2 (names.map Nm.d))]) (fun ⟨q, m2, L2⟩ => q ≤ names.length ∧ m2.length ≤ base.length + q * 24 ∧ Rep m2 L2 ∧ L2 = (names.take q).foldl (fun ds n => doneD ds (edAt l n)) L) (fun ⟨q, m2, L2⟩ => names.length - q) (0, m, L) (Weak.to [0, 1, 10, 87, 88, 89] [(10, 10), (15, 15)] (by decide) (by decide) (by simp [hp]) (by simp) (by simp)) (⟨Nat.zero_le _, by omega, q3, by simp⟩) fun ⟨q, m2, L2⟩ hi27 => ?_
          refine LWp.seq ?_
          refine LWp.reg hT hW (fun _ => none) (fun _ => ⟨rfl, fun _ h => h⟩) ?_
          simp
          refine LWp.seq ?_
          refine LWp.iff ?_
          simp
          refine ⟨fun h27 => ?_, fun h27 => ?_⟩
          · refine LWp.skip ?_
            simp
            refine LWp.seq ?_
            refine LWp.block ?_
            refine LWp.seq ?_
            refine LWp.reg hT hW (fun _ => none) (fun _ => ⟨rfl, fun _ h => h⟩) ?_
            simp [h27]
            refine LWp.seq ?_
            obtain ⟨i0, hi0, hfe, hee⟩ := edAt_of (hfound names[q] (List.getElem_mem h27))
            have hpl := proper_len (errE_zero ((valid_err hv0).2 i0 hi0)).1
            refine LWp.reg hT hW (fun | 96 => some <| .plain ⟨.d (I64 (findI l names[q])), true⟩ | _ => none) (by intro d; first | exact ⟨rfl, fun _ h => h⟩ | (split <;> exact ⟨rfl, fun _ h => h⟩)) ?_
            simp [hfe, hi0]
            refine ⟨by rw [← hfe]; exact EFind_ok l names[q], ?_⟩
            refine LWp.seq ?_
            refine LWp.seq ?_
            refine LWp.reg hT hW (fun _ => none) (fun _ => ⟨rfl, fun _ h => h⟩) ?_
            simp
            refine LWp.block ?_
            refine LWp.loopW (ι := Nat × List Df × List Df) (fun ⟨j, m3, L3⟩ => mkEnv [(0, .d (dfsD base)), (1, .d (edsD l)), (10, .mp 10), (22, .bx 22 0), (87, .ow 15 0 names.length), (88, .d (I64 names.length)), (89, .d (I64 q)), (100, .d (dfsD l[i0].puts)), (101, .d (I64 l[i0].puts.length)), (102, .d (I64 j))]) (fun ⟨j, m3, L3⟩ => mkObs [(10, .map false (km m3) (vm m3)), (15, .row false 2 (names.map Nm.d)), (22, .box false ((cellsD l[i0].d).map .d))]) (fun ⟨j, m3, L3⟩ => j ≤ l[i0].puts.length ∧ m3.length ≤ m2.length + j ∧ Rep m3 L3 ∧ L3 = (l[i0].puts.take j).foldl putD L2) (fun ⟨j, m3, L3⟩ => l[i0].puts.length - j) (0, m2, L2) (Weak.to [0, 1, 10, 22, 87, 88, 89, 100, 101, 102] [(10, 10), (15, 15), (22, 22)] (by decide) (by decide) (by simp [hp]) (by simp) (by simp)) (⟨Nat.zero_le _, Nat.le_refl _, hi27.2.2.1, by simp⟩) fun ⟨j, m3, L3⟩ hi31 => ?_
            refine LWp.seq ?_
            refine LWp.reg hT hW (fun _ => none) (fun _ => ⟨rfl, fun _ h => h⟩) ?_
            simp
            refine LWp.seq ?_
            refine LWp.iff ?_
            simp
            refine ⟨fun h31 => ?_, fun h31 => ?_⟩
            · refine LWp.skip ?_
              simp
              refine LWp.seq ?_
              refine LWp.block ?_
              refine LWp.seq ?_
              refine LWp.reg hT hW (fun _ => none) (fun _ => ⟨rfl, fun _ h => h⟩) ?_
              simp [h31]
              refine LWp.reg hT hW (fun _ => none) (fun _ => ⟨rfl, fun _ h => h⟩) ?_
              simp [put_df m3]
              refine LWp.reg hT hW (fun _ => none) (fun _ => ⟨rfl, fun _ h => h⟩) ?_
              simp
              refine ⟨by omega, ?_⟩
              refine loopQ.mk (j + 1, upsert m3 l[i0].puts[j], putD L3 l[i0].puts[j]) (Weak.to [0, 1, 10, 22, 87, 88, 89, 100, 101, 102] [(10, 10), (15, 15), (22, 22)] (by decide) (by decide) (by simp [hp]) (by simp) (by simp)) ?_ ?_
              · refine ⟨h31, ?_, hi31.2.2.1.put _, ?_⟩
                · have z1 := hi31.2.1
                  have z2 := upsert_len m3 l[i0].puts[j]
                  dsimp only
                  omega
                · rw [List.take_succ_eq_append_getElem h31, List.foldl_append, ← hi31.2.2.2]
                  simp
              · omega
            · refine LWp.exit ?_
              simp
              refine LWp.seq ?_
              refine LWp.reg hT hW (fun _ => none) (fun _ => ⟨rfl, fun _ h => h⟩) ?_
              simp
              refine LWp.block ?_
              refine LWp.loopW (ι := Nat × List Df × List Df) (fun ⟨j', m4, L4⟩ => mkEnv [(0, .d (dfsD base)), (1, .d (edsD l)), (10, .mp 10), (87, .ow 15 0 names.length), (88, .d (I64 names.length)), (89, .d (I64 q)), (112, .d (strsD l[i0].drops)), (113, .d (I64 l[i0].drops.length)), (114, .d (I64 j'))]) (fun ⟨j', m4, L4⟩ => mkObs [(10, .map false (km m4) (vm m4)), (15, .row false 2 (names.map Nm.d))]) (fun ⟨j', m4, L4⟩ => j' ≤ l[i0].drops.length ∧ m4.length ≤ m3.length ∧ Rep m4 L4 ∧ L4 = (l[i0].drops.take j').foldl dropD L3) (fun ⟨j', m4, L4⟩ => l[i0].drops.length - j') (0, m3, L3) (Weak.to [0, 1, 10, 87, 88, 89, 112, 113, 114] [(10, 10), (15, 15)] (by decide) (by decide) (by simp [hp]) (by simp) (by simp)) (⟨Nat.zero_le _, Nat.le_refl _, hi31.2.2.1, by simp⟩) fun ⟨j', m4, L4⟩ hi36 => ?_
              refine LWp.seq ?_
              refine LWp.reg hT hW (fun _ => none) (fun _ => ⟨rfl, fun _ h => h⟩) ?_
              simp
              refine LWp.seq ?_
              refine LWp.iff ?_
              simp
              refine ⟨fun h36 => ?_, fun h36 => ?_⟩
              · refine LWp.skip ?_
                simp
                refine LWp.seq ?_
                refine LWp.block ?_
                refine LWp.seq ?_
                refine LWp.reg hT hW (fun _ => none) (fun _ => ⟨rfl, fun _ h => h⟩) ?_
                simp [h36]
                refine LWp.reg hT hW (fun _ => none) (fun _ => ⟨rfl, fun _ h => h⟩) ?_
                simp [del_df m4]
                refine LWp.reg hT hW (fun _ => none) (fun _ => ⟨rfl, fun _ h => h⟩) ?_
                simp
                refine ⟨by omega, ?_⟩
                refine loopQ.mk (j' + 1, removeN m4 l[i0].drops[j'], dropD L4 l[i0].drops[j']) (Weak.to [0, 1, 10, 87, 88, 89, 112, 113, 114] [(10, 10), (15, 15)] (by decide) (by decide) (by simp [hp]) (by simp) (by simp)) ?_ ?_
                · refine ⟨h36, ?_, hi36.2.2.1.drop _, ?_⟩
                  · have z1 := hi36.2.1
                    have z2 := removeN_len m4 l[i0].drops[j']
                    dsimp only
                    omega
                  · rw [List.take_succ_eq_append_getElem h36, List.foldl_append, ← hi36.2.2.2]
                    simp
                · omega
              · refine LWp.exit ?_
                simp
                refine LWp.reg hT hW (fun _ => none) (fun _ => ⟨rfl, fun _ h => h⟩) ?_
                simp
                refine ⟨by omega, ?_⟩
                refine loopQ.mk (q + 1, m4, L4) (Weak.to [0, 1, 10, 87, 88, 89] [(10, 10), (15, 15)] (by decide) (by decide) (by simp [hp]) (by simp) (by simp)) ?_ ?_
                · refine ⟨h27, ?_, hi36.2.2.1, ?_⟩
                  · have z1 := hi36.2.1
                    have z2 := hi31.2.1
                    have z3 := hi27.2.1
                    have z4 := hi31.1
                    dsimp only
                    omega
                  · rw [List.take_succ_eq_append_getElem h27, List.foldl_append, ← hi27.2.2.2, hi36.2.2.2, hi31.2.2.2, List.take_of_length_le (by omega), List.take_of_length_le (by omega)]
                    simp [doneD, hee]
                · omega
          · refine LWp.exit ?_
            simp
            refine LWp.seq ?_
            refine LWp.reg hT hW (fun _ => none) (fun _ => ⟨rfl, fun _ h => h⟩) ?_
            simp
            refine LWp.seq ?_
            refine LWp.seq ?_
            obtain ⟨ns, hns⟩ : ∃ ns, ns = ssort (m2.map Df.name) := ⟨_, rfl⟩
            have hqn : q = names.length := by have := hi27.1; omega
            have hm2 : m2.length ≤ 100000 := by have z1 := hi27.2.1; have z2 : q * 24 ≤ 1000 * 24 := Nat.mul_le_mul_right _ (by omega); omega
            have hnsl : ns.length = m2.length := by rw [hns, ssort_len]; simp
            refine LWp.reg hT hW (fun | 123 => some <| .plain ⟨.d (.fn 142 [.ro [.mp (km m2) (vm m2)]]), false⟩ | 124 => some <| .plain ⟨.own 1 (ns.map .str), true⟩ | _ => none) (by intro d; first | exact ⟨rfl, fun _ h => h⟩ | (split <;> exact ⟨rfl, fun _ h => h⟩)) ?_
            simp
            refine ⟨⟨KeysStr_ok _ _, by rw [hns, km_names]; exact Sorted_ok (m2.map Df.name) (vm m2) (by simp; omega)⟩, ?_⟩
            refine LWp.block ?_
            refine LWp.loopW (ι := Nat × List Df) (fun ⟨t, out⟩ => mkEnv [(10, .mp 10), (27, .ow 27 0 out.length), (124, .ow 124 0 ns.length), (125, .d (I64 ns.length)), (126, .d (I64 t))]) (fun ⟨t, out⟩ => mkObs [(10, .map true (km m2) (vm m2)), (27, .row false 2 (out.map Df.d)), (124, .row false 1 (ns.map .str))]) (fun ⟨t, out⟩ => t ≤ ns.length ∧ out.length = t ∧ out = (ns.map (lookD m2)).take t) (fun ⟨t, out⟩ => ns.length - t) (0, []) (Weak.to [10, 27, 124, 125, 126] [(10, 10), (27, 27), (124, 124)] (by decide) (by decide) (by simp [hp]) (by simp) (by simp)) (by simp) fun ⟨t, out⟩ hi43 => ?_
            refine LWp.seq ?_
            refine LWp.reg hT hW (fun _ => none) (fun _ => ⟨rfl, fun _ h => h⟩) ?_
            simp
            refine LWp.seq ?_
            refine LWp.iff ?_
            simp
            refine ⟨fun h43 => ?_, fun h43 => ?_⟩
            · refine LWp.skip ?_
              simp
              refine LWp.seq ?_
              refine LWp.block ?_
              refine LWp.seq ?_
              refine LWp.reg hT hW (fun _ => none) (fun _ => ⟨rfl, fun _ h => h⟩) ?_
              simp [h43]
              refine LWp.reg hT hW (fun _ => none) (fun _ => ⟨rfl, fun _ h => h⟩) ?_
              simp [look_df m2]
              have z1 := hi43.2.1
              refine ⟨by omega, ?_⟩
              refine LWp.reg hT hW (fun _ => none) (fun _ => ⟨rfl, fun _ h => h⟩) ?_
              simp
              refine ⟨by omega, ?_⟩
              refine loopQ.mk (t + 1, out ++ [lookD m2 ns[t]]) (Weak.to [10, 27, 124, 125, 126] [(10, 10), (135, 27), (124, 124)] (by decide) (by decide) (by simp [hp]) (by simp) (by simp)) ?_ ?_
              · refine ⟨h43, by simp [hi43.2.1], ?_⟩
                dsimp only
                rw [map_take_succ h43, ← hi43.2.2]
              · omega
            · refine LWp.exit ?_
              simp
              refine LWp.seq ?_
              refine LWp.reg hT hW (fun _ => none) (fun _ => ⟨rfl, fun _ h => h⟩) ?_
              simp
              refine LWp.ret ?_
              have ho : out = L2 := by
                rw [hi43.2.2, List.take_of_length_le (by simp; omega), hns]
                exact hi27.2.2.1.out (List.mergeSort_perm _ _) (ssort_sorted _)
              have hnc : clashAny l set (orderN l set) = false := by rw [← hnames]; exact clashAny_no (by have := hi17.1; rw [show names.length = j by omega]; exact hi17.2)
              have e : programV base l set = (out, 0) := by
                unfold programV
                rw [if_neg (by simpa using hv0), hbs]
                simp only [hcl, hnc, Bool.true_eq_false, Bool.false_eq_true, if_false]
                rw [ho, hi27.2.2.2, hqn, List.take_length, ← hnames]
              simp [e]

end Go.Eng

/-
  Chapter 22: the reference model's Possible and Valid. No condition.
-/
namespace Go.Eng
open Go.Proofs
attribute [local simp] runL stepL evalG evalOp opLV constLV putEnv dstOk upd upds Res.plain Res.cond Res.fail evalBin evalUn seqQ blockQ argsEnv lookL lookH RetIs memless freshL evalPick evalMin bval bok evalLen evalIn strip whenC guardOps guardC slotsOf
  runM foldS stepI stepM maskE wrIn lk renO lookN evalCall evalCallee optAll resLV resObj retLV retObj retsLV retsObj evalLoad evalIndexAddr evalField solid cellsD_agg cellsD_int cellsD_bool cellsD_str cellsD_sl cellsD_ro cellsD_fn cellsL_agg cellsL_dagg cellsL_int cellsL_bool cellsL_str cellsL_sl cellsL_fn cellsL_ow cellsL_bx cellsL_lfn cellsL_nl takeL takeD mkAgg allD eqD eqDs kindsAre kindIs LObj.live TK.isNone TK.agg TK.isBool TK.isStr TK.isStruct Op.operands Call.operands
  evalBuildSlice evalAppend elemsOf evalStore evalBuild fillL lookupF putL evalSlice bound evalConv elemsS freezes frozen loadR
  mkEnv_at mkObs_at close_d close_agg close_ow close_bx close_fn close_nl touch_d touch_agg touch_ow touch_bx touch_fn touch_nl ren_d ren_agg ren_bx ren_rp ren_ow ren_fn ren_nl ren_junk retQ_ret retQ2_ret condQ_bool Nm.d Df.d Ed.d nmsD dfsD strsD edsD retC_ret nm_eq df_eq take_map_len take_map_app
  nm_t nm_d nm_td df_t df_d df_td str_t str_d str_td ed_t ed_d ed_td
  evalAppendIn evalCut evalClear evalCopy evalMake evalWrap evalCap evalNil isNilC lenL isInp gorc
  mapOf findD keyEq keyOk evalMakeMap evalRange zeroD zeroDV argsG shutG outN lenv retG0_ret retG0_normal retG1_ret renO close_mp touch_mp ren_mp optAll_d optAll_d' touch_ds cellsL_mp cellsD_mp cellsL_dmp

theorem IncTo.next {α : Type} {lt : α → α → Bool} {l : List α} {i : Nat} {d : α} (h : IncTo lt l i) (hi : i < l.length) (hp : 0 < i → lt (l.getD (i - 1) d) (l.getD i d) = true) : IncTo lt l (i + 1) := by
  cases i with
  | zero => exact IncTo.start (by omega)
  | succ i =>
    refine h.succ hi ?_
    have := hp (by omega)
    simpa [show i < l.length by omega, hi] using this
theorem incr_no {α : Type} {lt : α → α → Bool} {l : List α} {i : Nat} {d : α} (hi : i < l.length) (h0 : 0 < i) (hp : lt (l.getD (i - 1) d) (l.getD i d) = false) : incr lt l = false := by
  obtain ⟨j, rfl⟩ : ∃ j, i = j + 1 := ⟨i - 1, by omega⟩
  exact incr_false hi (by simpa [show j < l.length by omega, hi] using hp)
theorem max0 (i : Nat) : (if (0 : Int) > (i : Int) - 1 then (0 : Int) else (i : Int) - 1) = ((i - 1 : Nat) : Int) := by split <;> omega


set_option maxRecDepth 20000

/-- culprit/culpritref22.Possible -/
theorem Possible_ok (e : Ed) (b1 : e.puts.length ≤ 1000000) (b2 : e.drops.length ≤ 1000000) (b3 : e.needs.length ≤ 1000000) : Ok Tryz.prog 67 [e.d] ⟨.d (.bool (properE e)), true⟩ := by
  refine Ok.ret Tryz.func67 (by kernel_rfl) (c := _) rfl Tryz.ntmps67 (by simp) Tryz.results67 (by intro _ h; cases h) fun w0 X hp => ?_
  have htl := touches_len b1 b2
  refine LWp.seq ?_
  refine LWp.reg hT hW (fun _ => none) (fun _ => ⟨rfl, fun _ h => h⟩) ?_
  simp
  refine LWp.seq ?_
  refine LWp.reg hT hW (fun | 9 => some <| .plain ⟨.d (strsD (touches e)), true⟩ | _ => none) (by intro d; first | exact ⟨rfl, fun _ h => h⟩ | (split <;> exact ⟨rfl, fun _ h => h⟩)) ?_
  simp
  refine ⟨Touches_ok e b1 b2, ?_⟩
  refine LWp.seq ?_
  refine LWp.seq ?_
  refine LWp.reg hT hW (fun | 12 => some <| .plain ⟨.d (.bool e.name.isName), true⟩ | _ => none) (by intro d; first | exact ⟨rfl, fun _ h => h⟩ | (split <;> exact ⟨rfl, fun _ h => h⟩)) ?_
  simp
  refine ⟨IsName_ok _, ?_⟩
  refine LWp.iff ?_
  simp
  refine ⟨fun h2 => ?_, fun n1 n2 => ?_⟩
  · refine LWp.seq ?_
    refine LWp.reg hT hW (fun _ => none) (fun _ => ⟨rfl, fun _ h => h⟩) ?_
    simp
    refine LWp.ret ?_
    simp
    rcases h2 with h | h
    · simp [properE, h]
    · have h : ¬ (touches e).length ≤ 24 := by omega
      simp [properE, h]
  · refine LWp.skip ?_
    simp
    refine LWp.seq ?_
    refine LWp.seq ?_
    refine LWp.reg hT hW (fun _ => none) (fun _ => ⟨rfl, fun _ h => h⟩) ?_
    simp
    refine LWp.block ?_
    refine LWp.loopW (ι := Nat) (fun i => mkEnv [(1, .bx 1 0), (3, .d (strsD (touches e))), (4, .d (I64 i))]) (fun i => mkObs [(1, .box false ((cellsD e.d).map .d))]) (fun i => i ≤ e.needs.length ∧ Pre (fun n => !Nm.isName n) e.needs i ∧ IncTo Nm.less e.needs i) (fun i => e.needs.length - i) 0 (Weak.to [1, 3, 4] [(1, 1)] (by decide) (by decide) (by simp [hp]) (by simp) (by simp)) (⟨Nat.zero_le _, Pre.zero, IncTo.start (by omega)⟩) fun i hi5 => ?_
    refine LWp.seq ?_
    refine LWp.seq ?_
    refine LWp.reg hT hW (fun _ => none) (fun _ => ⟨rfl, fun _ h => h⟩) ?_
    simp
    refine LWp.iff ?_
    simp
    refine ⟨fun h5 => ?_, fun h5 => ?_⟩
    · refine LWp.skip ?_
      simp
      refine LWp.seq ?_
      refine LWp.block ?_
      refine LWp.seq ?_
      obtain ⟨i1, hi1⟩ : ∃ i1, i1 = i - 1 := ⟨_, rfl⟩
      have hmx : (if (i : Int) - 1 < 0 then (0 : Int) else (i : Int) - 1) = (i1 : Int) := by split <;> omega
      have hil : i1 < e.needs.length := by omega
      refine LWp.regAny hT hW hMixed (lk [[], [0], [], [0, 1, 2], [0, 1, 2, 3], [0, 1, 2, 3, 4], [0, 1, 2, 3, 4, 5], [0, 1, 2, 3, 4, 5, 6], [0, 1, 2, 3, 4, 5, 6, 7], [0, 1, 2, 3, 4, 5, 6, 7, 8], [0, 1, 2, 3, 4, 5, 6, 7, 8, 9], [0, 1, 2, 3, 4, 5, 6, 7, 8, 9, 10], [0, 1, 2, 3, 4, 5, 6, 7, 8, 9, 10, 11], [0, 1, 2, 3, 4, 5, 6, 7, 8, 9, 10], [0, 1, 2, 3, 4, 5, 6, 7, 8, 9, 10, 13], [0, 1, 2, 3, 4, 5, 6, 7, 8, 9, 10, 13, 14], [0, 1, 2, 3, 4, 5, 6, 7, 8, 9, 10, 11, 12, 13, 14, 15], [0, 1, 2, 3, 4, 5, 6, 7, 8, 9, 10, 11, 12, 13, 14, 15, 16], [0, 1, 2, 3, 4, 5, 6, 7, 8, 9, 10], [0, 1, 2, 3, 4, 5, 6, 7, 8, 9, 10, 18], [0, 1, 2, 3, 4, 5, 6, 7, 8, 9, 10], [0, 1, 2, 3, 4, 5, 6, 7, 8, 9, 10, 18, 19, 20], [0, 1, 2, 3, 4, 5, 6, 7, 8, 9, 10, 18, 19, 20, 21], [0, 1, 2, 3, 4, 5, 6, 7, 8, 9, 10, 11, 12, 13, 14, 15, 16, 17, 18, 19, 20, 21, 22], [0, 1, 2, 3, 4, 5, 6, 7, 8, 9, 10, 11, 12, 13, 14, 15, 16, 17, 18, 19, 20, 21, 22, 23], [0, 1, 2, 3, 4, 5, 6, 7, 8, 9, 10, 11, 12, 13, 14, 15, 16, 17, 18, 19, 20, 21, 22, 23, 24], [0, 1, 2, 3, 4, 5, 6, 7, 8, 9, 10, 11, 12, 13, 14, 15, 16, 17, 18, 19, 20, 21, 22, 23, 24, 25]]) (lk [[], [], [], [], [], [], [], [], [], [], [], [], [], [], [], [], [], [], [], [], [], [], [], [], [], [], []]) (lk [[], [], [], [], [], [31], [], [], [], [], [], [], [], [], [], [], [], [], [], [], [], [], [], [49], [], [], []]) (by kernel_rfl) (fun | 31 => some <| .plain ⟨.d (.bool e.needs[i].isName), true⟩ | 49 => some <| .plain ⟨.d (.bool (Nm.less e.needs[i1] e.needs[i])), true⟩ | _ => none) (by intro d; first | exact ⟨rfl, fun _ h => h⟩ | (split <;> exact ⟨rfl, fun _ h => h⟩)) ?_
      simp [h5, hmx, hil]
      refine ⟨⟨⟨⟨IsName_ok _, fun _ _ => by omega⟩, fun _ _ => Less_ok _ _⟩, fun a b => ⟨a, b⟩⟩, ?_⟩
      refine LWp.iff ?_
      simp
      refine ⟨fun h7 => ?_, fun g1 g2 => ?_⟩
      · refine LWp.seq ?_
        refine LWp.reg hT hW (fun _ => none) (fun _ => ⟨rfl, fun _ h => h⟩) ?_
        simp
        refine LWp.ret ?_
        simp
        rcases h7 with h | ⟨h0, h⟩
        · have : e.needs.all Nm.isName = false := by
            rw [List.all_eq_false]
            exact ⟨_, List.getElem_mem h5, by simp [h]⟩
          simp [properE, this]
        · have : incr Nm.less e.needs = false := incr_no (d := default) h5 h0 (by subst hi1; simpa [hil, h5] using h)
          simp [properE, this]
      · refine LWp.skip ?_
        simp
        refine LWp.reg hT hW (fun _ => none) (fun _ => ⟨rfl, fun _ h => h⟩) ?_
        simp
        refine ⟨by omega, ?_⟩
        refine loopQ.mk (i + 1) (Weak.to [1, 3, 4] [(1, 1)] (by decide) (by decide) (by simp [hp]) (by simp) (by simp)) ?_ ?_
        · refine ⟨h5, hi5.2.1.succ h5 (by simpa using g1), hi5.2.2.next (d := default) h5 fun h0 => ?_⟩
          have := g2 h0
          subst hi1
          simpa [hil, h5] using this
        · omega
    · refine LWp.exit ?_
      simp
      refine LWp.seq ?_
      refine LWp.seq ?_
      refine LWp.reg hT hW (fun _ => none) (fun _ => ⟨rfl, fun _ h => h⟩) ?_
      simp
      refine LWp.block ?_
      refine LWp.loopW (ι := Nat) (fun k => mkEnv [(1, .bx 1 0), (3, .d (strsD (touches e))), (5, .d (I64 k))]) (fun k => mkObs [(1, .box false ((cellsD e.d).map .d))]) (fun k => k ≤ (touches e).length ∧ ∀ (j : Nat) (h : j < (touches e).length), j < k → okName (touches e) j h = true) (fun k => (touches e).length - k) 0 (Weak.to [1, 3, 5] [(1, 1)] (by decide) (by decide) (by simp [hp]) (by simp) (by simp)) (⟨Nat.zero_le _, fun j _ h => absurd h (Nat.not_lt_zero _)⟩) fun k hi10 => ?_
      refine LWp.seq ?_
      refine LWp.seq ?_
      refine LWp.reg hT hW (fun _ => none) (fun _ => ⟨rfl, fun _ h => h⟩) ?_
      simp
      refine LWp.iff ?_
      simp
      refine ⟨fun h10 => ?_, fun h10 => ?_⟩
      · refine LWp.skip ?_
        simp
        refine LWp.seq ?_
        refine LWp.block ?_
        refine LWp.seq ?_
        refine LWp.regAny hT hW hMixed (lk [[], [], [0, 1], [0, 1, 2], [0, 1, 2, 3], [0, 1, 2, 3, 4], [0, 1, 2, 3, 4, 5], [0, 1, 2, 3, 4, 5, 6], [0, 1, 2, 3, 4, 5, 6], [0, 1, 2, 3, 4, 5, 6, 7, 8], [0, 1, 2, 3, 4, 5, 6, 7, 8, 9], [0, 1, 2, 3, 4, 5, 6, 7, 8, 9, 10], [0, 1, 2, 3, 4, 5, 6, 7, 8, 9, 10, 11], [0, 1, 2, 3, 4, 5, 6, 7, 8, 9, 10, 11, 12], [0, 1, 2, 3, 4, 5, 6, 7, 8, 9, 10, 11, 12, 13], [0, 1, 2, 3, 4, 5, 6, 7, 8, 9, 10, 11, 12, 13, 14], [0, 1, 2, 3, 4, 5, 6, 7, 8, 9, 10, 11, 12, 13, 14], [0, 1, 2, 3, 4, 5, 6, 7, 8, 9, 10, 11, 12, 13, 14, 15, 16], [0, 1, 2, 3, 4, 5, 6, 7, 8, 9, 10, 11, 12, 13, 14], [0, 1, 2, 3, 4, 5, 6, 7, 8, 9, 10, 11, 12, 13, 14], [0, 1, 2, 3, 4, 5, 6, 7, 8, 9, 10, 11, 12, 13, 14, 18, 19], [0, 1, 2, 3, 4, 5, 6, 7, 8, 9, 10, 11, 12, 13, 14, 18, 19, 20], [0, 1, 2, 3, 4, 5, 6, 7, 8, 9, 10, 11, 12, 13, 14, 15, 16, 17, 18, 19, 20, 21], [0, 1, 2, 3, 4, 5, 6, 7, 8, 9, 10, 11, 12, 13, 14, 15, 16, 17, 18, 19, 20, 21, 22]]) (lk [[], [], [], [], [], [], [], [], [], [], [], [], [], [], [], [], [], [], [], [], [], [], [], []]) (lk [[], [], [], [], [], [], [], [], [], [], [], [], [], [], [], [], [], [], [], [], [], [], [81], []]) (by kernel_rfl) (fun | 81 => some <| .plain ⟨.d (.bool (decide ((touches e)[k] ∈ (touches e).take k))), true⟩ | _ => none) (by intro d; first | exact ⟨rfl, fun _ h => h⟩ | (split <;> exact ⟨rfl, fun _ h => h⟩)) ?_
        simp [h10]
        refine ⟨⟨fun _ _ => by omega, fun _ _ => by simpa [strsD] using In_ok ((touches e).take k) (touches e)[k]⟩, ?_⟩
        refine LWp.iff ?_
        simp
        refine ⟨fun h12 => ?_, fun q1 q2 q3 => ?_⟩
        · refine LWp.seq ?_
          refine LWp.reg hT hW (fun _ => none) (fun _ => ⟨rfl, fun _ h => h⟩) ?_
          simp
          refine LWp.ret ?_
          simp
          have hn : okNames (touches e) = false := by
            cases qn : okNames (touches e) with
            | false => rfl
            | true =>
              have := okNames_iff.1 qn k h10
              simp only [okName, Bool.and_eq_true, decide_eq_true_eq] at this
              obtain ⟨⟨z1, z2⟩, z3⟩ := this
              rcases h12 with (h | h) | h
              · have := List.length_pos_iff.2 z1; omega
              · omega
              · exact absurd h z3
          simp [properE, hn]
        · refine LWp.skip ?_
          simp
          refine LWp.reg hT hW (fun _ => none) (fun _ => ⟨rfl, fun _ h => h⟩) ?_
          simp
          refine ⟨by omega, ?_⟩
          refine loopQ.mk (k + 1) (Weak.to [1, 3, 5] [(1, 1)] (by decide) (by decide) (by simp [hp]) (by simp) (by simp)) ?_ ?_
          · refine ⟨h10, fun j hj hjk => ?_⟩
            by_cases hjk' : j = k
            · subst hjk'
              have z : (touches e)[j] ≠ [] := fun z => by rw [z] at q1; simp at q1
              simp only [okName, Bool.and_eq_true, decide_eq_true_eq]
              exact ⟨⟨z, by omega⟩, q3⟩
            · exact hi10.2 j hj (by omega)
          · omega
      · refine LWp.exit ?_
        simp
        refine LWp.seq ?_
        refine LWp.seq ?_
        refine LWp.reg hT hW (fun _ => none) (fun _ => ⟨rfl, fun _ h => h⟩) ?_
        simp
        refine LWp.block ?_
        refine LWp.loopW (ι := Nat) (fun t => mkEnv [(1, .bx 1 0), (6, .d (I64 t))]) (fun t => mkObs [(1, .box false ((cellsD e.d).map .d))]) (fun t => t ≤ e.puts.length ∧ Pre (fun d => decide (1024 < d.text.length)) e.puts t ∧ IncTo bless (e.puts.map Df.name) t) (fun t => e.puts.length - t) 0 (Weak.to [1, 6] [(1, 1)] (by decide) (by decide) (by simp [hp]) (by simp) (by simp)) (⟨Nat.zero_le _, Pre.zero, IncTo.start (by omega)⟩) fun t hi15 => ?_
        refine LWp.seq ?_
        refine LWp.seq ?_
        refine LWp.reg hT hW (fun _ => none) (fun _ => ⟨rfl, fun _ h => h⟩) ?_
        simp
        refine LWp.iff ?_
        simp
        refine ⟨fun h15 => ?_, fun h15 => ?_⟩
        · refine LWp.skip ?_
          simp
          refine LWp.seq ?_
          refine LWp.block ?_
          refine LWp.seq ?_
          obtain ⟨t1, ht1⟩ : ∃ t1, t1 = t - 1 := ⟨_, rfl⟩
          have hmx : (if (t : Int) - 1 < 0 then (0 : Int) else (t : Int) - 1) = (t1 : Int) := by split <;> omega
          have htl1 : t1 < e.puts.length := by omega
          refine LWp.regAny hT hW hMixed (lk [[], [0], [], [0, 1, 2], [0, 1, 2, 3], [0, 1, 2, 3, 4], [0, 1, 2, 3, 4, 5], [0, 1, 2, 3, 4, 5, 6], [0, 1, 2, 3, 4, 5, 6, 7], [0, 1, 2, 3, 4, 5, 6, 7, 8], [0, 1, 2, 3, 4, 5, 6, 7, 8, 9], [0, 1, 2, 3, 4, 5, 6, 7, 8, 9, 10], [0, 1, 2, 3, 4, 5, 6, 7, 8, 9, 10, 11], [0, 1, 2, 3, 4, 5, 6, 7, 8, 9, 10, 11, 12], [0, 1, 2, 3, 4, 5, 6, 7, 8, 9, 10, 11], [0, 1, 2, 3, 4, 5, 6, 7, 8, 9, 10, 11, 14], [0, 1, 2, 3, 4, 5, 6, 7, 8, 9, 10, 11, 14, 15], [0, 1, 2, 3, 4, 5, 6, 7, 8, 9, 10, 11, 12, 13, 14, 15, 16], [0, 1, 2, 3, 4, 5, 6, 7, 8, 9, 10, 11, 12, 13, 14, 15, 16, 17], [0, 1, 2, 3, 4, 5, 6, 7, 8, 9, 10, 11, 12, 13, 14, 15, 16, 17, 18], [0, 1, 2, 3, 4, 5, 6, 7, 8, 9, 10, 11], [0, 1, 2, 3, 4, 5, 6, 7, 8, 9, 10, 11, 20], [0, 1, 2, 3, 4, 5, 6, 7, 8, 9, 10, 11], [0, 1, 2, 3, 4, 5, 6, 7, 8, 9, 10, 11, 20, 21, 22], [0, 1, 2, 3, 4, 5, 6, 7, 8, 9, 10, 11, 20, 21, 22, 23], [0, 1, 2, 3, 4, 5, 6, 7, 8, 9, 10, 11, 20, 21, 22, 23, 24], [0, 1, 2, 3, 4, 5, 6, 7, 8, 9, 10, 11, 12, 13, 14, 15, 16, 17, 18, 19, 20, 21, 22, 23, 24, 25], [0, 1, 2, 3, 4, 5, 6, 7, 8, 9, 10, 11, 12, 13, 14, 15, 16, 17, 18, 19, 20, 21, 22, 23, 24, 25, 26], [0, 1, 2, 3, 4, 5, 6, 7, 8, 9, 10, 11, 12, 13, 14, 15, 16, 17, 18, 19, 20, 21, 22, 23, 24, 25, 26, 27]]) (lk [[], [], [], [], [], [], [], [], [], [], [], [], [], [], [], [], [], [], [], [], [], [], [], [], [], [], [], [], []]) (lk [[], [], [], [], [], [], [], [], [], [], [], [], [], [], [], [], [], [], [], [], [], [], [], [], [], [], [], [], []]) (by kernel_rfl) (fun _ => none) (fun _ => ⟨rfl, fun _ h => h⟩) ?_
          simp [h15, hmx, htl1]
          refine ⟨⟨fun _ _ => by omega, fun a b => ⟨a, b⟩⟩, ?_⟩
          refine LWp.iff ?_
          simp
          refine ⟨fun h17 => ?_, fun q4 q5 => ?_⟩
          · refine LWp.seq ?_
            refine LWp.reg hT hW (fun _ => none) (fun _ => ⟨rfl, fun _ h => h⟩) ?_
            simp
            refine LWp.ret ?_
            simp
            rcases h17 with h | ⟨h0, h⟩
            · have : (e.puts.all fun d => decide (d.text.length ≤ 1024)) = false := by
                rw [List.all_eq_false]
                exact ⟨_, List.getElem_mem h15, by simp; omega⟩
              simp [properE, this]
            · have : incr bless (e.puts.map Df.name) = false := incr_no (d := default) (by simpa using h15) h0 (by subst ht1; simpa [htl1, h15, bless] using h)
              simp [properE, this]
          · refine LWp.skip ?_
            simp
            refine LWp.reg hT hW (fun _ => none) (fun _ => ⟨rfl, fun _ h => h⟩) ?_
            simp
            refine ⟨by omega, ?_⟩
            refine loopQ.mk (t + 1) (Weak.to [1, 6] [(1, 1)] (by decide) (by decide) (by simp [hp]) (by simp) (by simp)) ?_ ?_
            · refine ⟨h15, hi15.2.1.succ h15 (by simp; omega), hi15.2.2.next (d := default) (by simpa using h15) fun h0 => ?_⟩
              have := q5 h0
              subst ht1
              simpa [htl1, h15, bless] using this
            · omega
        · refine LWp.exit ?_
          simp
          refine LWp.seq ?_
          refine LWp.seq ?_
          refine LWp.reg hT hW (fun _ => none) (fun _ => ⟨rfl, fun _ h => h⟩) ?_
          simp
          refine LWp.block ?_
          refine LWp.loopW (ι := Nat) (fun u => mkEnv [(1, .bx 1 0), (7, .d (I64 u))]) (fun u => mkObs [(1, .box false ((cellsD e.d).map .d))]) (fun u => 1 ≤ u ∧ u ≤ e.drops.length + 1 ∧ IncTo bless e.drops u) (fun u => e.drops.length + 1 - u) 1 (Weak.to [1, 7] [(1, 1)] (by decide) (by decide) (by simp [hp]) (by simp) (by simp)) (⟨Nat.le_refl _, by omega, IncTo.start (Nat.le_refl _)⟩) fun u hi20 => ?_
          refine LWp.seq ?_
          refine LWp.seq ?_
          refine LWp.reg hT hW (fun _ => none) (fun _ => ⟨rfl, fun _ h => h⟩) ?_
          simp
          refine LWp.iff ?_
          simp
          refine ⟨fun h20 => ?_, fun h20 => ?_⟩
          · refine LWp.skip ?_
            simp
            refine LWp.seq ?_
            refine LWp.block ?_
            refine LWp.seq ?_
            obtain ⟨u1, hu1⟩ : ∃ u1, u1 = u - 1 := ⟨_, rfl⟩
            have hu10 : 1 ≤ u := hi20.1
            have hmu : ((u : Int) - 1).toNat = u1 := by omega
            have hul1 : u1 < e.drops.length := by omega
            refine LWp.regAny hT hW hMixed (lk [[], [0], [], [2], [0, 1, 2, 3], [0, 1, 2, 3, 4], [], [6], [], [6, 7, 8], [6, 7, 8, 9], [0, 1, 2, 3, 4, 5, 6, 7, 8, 9, 10]]) (lk [[], [], [], [], [], [], [], [], [], [], [], []]) (lk [[], [], [], [], [], [], [], [], [], [], [], []]) (by kernel_rfl) (fun _ => none) (fun _ => ⟨rfl, fun _ h => h⟩) ?_
            simp [h20, hmu, hul1]
            refine ⟨⟨by omega, by omega, by omega⟩, ?_⟩
            refine LWp.iff ?_
            simp
            refine ⟨fun h22 => ?_, fun h22 => ?_⟩
            · refine LWp.seq ?_
              refine LWp.reg hT hW (fun _ => none) (fun _ => ⟨rfl, fun _ h => h⟩) ?_
              simp
              refine LWp.ret ?_
              simp
              have : incr bless e.drops = false := incr_no (d := default) h20 (by omega) (by subst hu1; simpa [hul1, h20, bless] using h22)
              simp [properE, this]
            · refine LWp.skip ?_
              simp
              refine LWp.reg hT hW (fun _ => none) (fun _ => ⟨rfl, fun _ h => h⟩) ?_
              simp
              refine ⟨by omega, ?_⟩
              refine loopQ.mk (u + 1) (Weak.to [1, 7] [(1, 1)] (by decide) (by decide) (by simp [hp]) (by simp) (by simp)) ?_ ?_
              · refine ⟨by omega, by omega, hi20.2.2.next (d := default) h20 fun h0 => ?_⟩
                subst hu1
                simpa [hul1, h20, bless] using h22
              · omega
          · refine LWp.exit ?_
            simp
            refine LWp.seq ?_
            refine LWp.reg hT hW (fun _ => none) (fun _ => ⟨rfl, fun _ h => h⟩) ?_
            simp
            refine LWp.ret ?_
            simp
            have a1 : (e.needs.all Nm.isName) = true := by
              rw [List.all_eq_true]
              intro x hx
              obtain ⟨j, hj, rfl⟩ := List.getElem_of_mem hx
              have := hi5.2.1 j hj (by omega)
              simpa using this
            have a2 : (e.puts.all fun d => decide (d.text.length ≤ 1024)) = true := by
              rw [List.all_eq_true]
              intro x hx
              obtain ⟨j, hj, rfl⟩ := List.getElem_of_mem hx
              have := hi15.2.1 j hj (by omega)
              simp at this ⊢; omega
            have a3 : okNames (touches e) = true := okNames_iff.2 fun j hj => hi10.2 j hj (by omega)
            have a4 : incr Nm.less e.needs = true := hi5.2.2.done (by omega)
            have a5 : incr bless (e.puts.map Df.name) = true := hi15.2.2.done (by simp; omega)
            have a6 : incr bless e.drops = true := hi20.2.2.done (by omega)
            have a7 : (touches e).length ≤ 24 := by omega
            simp [properE, n1, a1, a2, a3, a4, a5, a6, a7]

end Go.Eng

/-
  Chapter 22: the reference model's Valid. No condition.
-/
namespace Go.Eng
open Go.Proofs
attribute [local simp] runL stepL evalG evalOp opLV constLV putEnv dstOk upd upds Res.plain Res.cond Res.fail evalBin evalUn seqQ blockQ argsEnv lookL lookH RetIs memless freshL evalPick evalMin bval bok evalLen evalIn strip whenC guardOps guardC slotsOf
  runM foldS stepI stepM maskE wrIn lk renO lookN evalCall evalCallee optAll resLV resObj retLV retObj retsLV retsObj evalLoad evalIndexAddr evalField solid cellsD_agg cellsD_int cellsD_bool cellsD_str cellsD_sl cellsD_ro cellsD_fn cellsL_agg cellsL_dagg cellsL_int cellsL_bool cellsL_str cellsL_sl cellsL_fn cellsL_ow cellsL_bx cellsL_lfn cellsL_nl takeL takeD mkAgg allD eqD eqDs kindsAre kindIs LObj.live TK.isNone TK.agg TK.isBool TK.isStr TK.isStruct Op.operands Call.operands
  evalBuildSlice evalAppend elemsOf evalStore evalBuild fillL lookupF putL evalSlice bound evalConv elemsS freezes frozen loadR
  mkEnv_at mkObs_at close_d close_agg close_ow close_bx close_fn close_nl touch_d touch_agg touch_ow touch_bx touch_fn touch_nl ren_d ren_agg ren_bx ren_rp ren_ow ren_fn ren_nl ren_junk retQ_ret retQ2_ret condQ_bool Nm.d Df.d Ed.d nmsD dfsD strsD edsD retC_ret nm_eq df_eq take_map_len take_map_app
  nm_t nm_d nm_td df_t df_d df_td str_t str_d str_td ed_t ed_d ed_td
  evalAppendIn evalCut evalClear evalCopy evalMake evalWrap evalCap evalNil isNilC lenL isInp gorc
  mapOf findD keyEq keyOk evalMakeMap evalRange zeroD zeroDV argsG shutG outN lenv retG0_ret retG0_normal retG1_ret renO close_mp touch_mp ren_mp optAll_d optAll_d' touch_ds cellsL_mp cellsD_mp cellsL_dmp

/-- culprit/culpritref22.Valid -/
theorem Valid_ok (l : List Ed) (hs : small l) (hn : (allNeeds l).length ≤ 1000000) : Ok Tryz.prog 14 [edsD l] ⟨.tup [.d (I64 (validV l).1), .d (I64 (validV l).2)], true⟩ := by
  refine Ok.two Tryz.func14 (by kernel_rfl) (c := _) rfl Tryz.ntmps14 (by simp) Tryz.results14 rfl fun w0 X hp => ?_
  refine LWp.len (t := 0) rfl fun hlen => ?_
  simp at hlen
  refine LWp.seq ?_
  refine LWp.reg hT hW (fun _ => none) (fun _ => ⟨rfl, fun _ h => h⟩) ?_
  simp
  refine LWp.seq ?_
  refine LWp.seq ?_
  refine LWp.reg hT hW (fun _ => none) (fun _ => ⟨rfl, fun _ h => h⟩) ?_
  simp
  refine LWp.iff ?_
  simp
  refine ⟨fun h1 => ?_, fun h1 => ?_⟩
  · refine LWp.seq ?_
    refine LWp.reg hT hW (fun _ => none) (fun _ => ⟨rfl, fun _ h => h⟩) ?_
    simp
    refine LWp.ret ?_
    have : 64 < l.length := by omega
    simp [validV, this]
  · refine LWp.skip ?_
    simp
    refine LWp.seq ?_
    refine LWp.seq ?_
    refine LWp.reg hT hW (fun _ => none) (fun _ => ⟨rfl, fun _ h => h⟩) ?_
    simp
    refine LWp.block ?_
    refine LWp.loopW (ι := Nat) (fun i => mkEnv [(0, .d (edsD l)), (4, .d (I64 i))]) (fun i => mkObs []) (fun i => i ≤ l.length ∧ validFrom l (l.drop i) i = validFrom l l 0) (fun i => l.length - i) 0 (Weak.to [0, 4] [] (by decide) (by decide) (by simp [hp]) (by simp) (by simp)) (by simp) fun i hi4 => ?_
    refine LWp.seq ?_
    refine LWp.seq ?_
    refine LWp.reg hT hW (fun _ => none) (fun _ => ⟨rfl, fun _ h => h⟩) ?_
    simp
    refine LWp.iff ?_
    simp
    refine ⟨fun h4 => ?_, fun h4 => ?_⟩
    · refine LWp.skip ?_
      simp
      refine LWp.seq ?_
      refine LWp.block ?_
      refine LWp.seq ?_
      refine LWp.reg hT hW (fun _ => none) (fun _ => ⟨rfl, fun _ h => h⟩) ?_
      simp [h4]
      refine LWp.seq ?_
      refine LWp.seq ?_
      have hnd := flat_mem_len (List.getElem_mem h4)
      have hnd2 : l[i].needs.length ≤ 1000000 := Nat.le_trans hnd hn
      refine LWp.reg hT hW (fun | 21 => some <| .plain ⟨.d (.bool (properE l[i])), true⟩ | _ => none) (by intro d; first | exact ⟨rfl, fun _ h => h⟩ | (split <;> exact ⟨rfl, fun _ h => h⟩)) ?_
      simp [h4]
      refine ⟨Possible_ok l[i] (hs _ (List.getElem_mem h4)).1 (hs _ (List.getElem_mem h4)).2 hnd2, ?_⟩
      refine LWp.iff ?_
      simp
      refine ⟨fun h7 => ?_, fun h7 => ?_⟩
      · refine LWp.seq ?_
        refine LWp.reg hT hW (fun _ => none) (fun _ => ⟨rfl, fun _ h => h⟩) ?_
        simp
        refine LWp.ret ?_
        have hl : ¬ 64 < l.length := by omega
        have e : errE l i l[i] = 1 := by simp [errE, h7]
        have hv := validFrom_stop h4 (by rw [e]; decide)
        rw [hi4.2, e] at hv
        simp [validV, hl, hv]
      · refine LWp.skip ?_
        simp
        refine LWp.seq ?_
        refine LWp.seq ?_
        refine LWp.reg hT hW (fun | 27 => some <| .plain ⟨.d (I64 (findI l l[i].name)), true⟩ | _ => none) (by intro d; first | exact ⟨rfl, fun _ h => h⟩ | (split <;> exact ⟨rfl, fun _ h => h⟩)) ?_
        simp
        refine ⟨Find_ok l l[i].name, ?_⟩
        refine LWp.iff ?_
        simp
        refine ⟨fun h9 => ?_, fun h9 => ?_⟩
        · refine LWp.seq ?_
          refine LWp.reg hT hW (fun _ => none) (fun _ => ⟨rfl, fun _ h => h⟩) ?_
          simp
          refine LWp.ret ?_
          have hl : ¬ 64 < l.length := by omega
          have e : errE l i l[i] = 7 := by simp [errE, h7, h9]
          have hv := validFrom_stop h4 (by rw [e]; decide)
          rw [hi4.2, e] at hv
          simp [validV, hl, hv]
        · refine LWp.skip ?_
          simp
          refine LWp.seq ?_
          refine LWp.seq ?_
          refine LWp.reg hT hW (fun _ => none) (fun _ => ⟨rfl, fun _ h => h⟩) ?_
          simp
          refine LWp.block ?_
          refine LWp.loopW (ι := Nat) (fun k => mkEnv [(0, .d (edsD l)), (4, .d (I64 i)), (5, .bx 5 0), (6, .d (I64 k))]) (fun k => mkObs [(5, .box false ((cellsD l[i].d).map .d))]) (fun k => k ≤ l[i].needs.length ∧ Pre (fun n => decide (findI l n < 0)) l[i].needs k) (fun k => l[i].needs.length - k) 0 (Weak.to [0, 4, 5, 6] [(5, 5)] (by decide) (by decide) (by simp [hp]) (by simp) (by simp)) (⟨Nat.zero_le _, Pre.zero⟩) fun k hi12 => ?_
          refine LWp.seq ?_
          refine LWp.seq ?_
          refine LWp.reg hT hW (fun _ => none) (fun _ => ⟨rfl, fun _ h => h⟩) ?_
          simp
          refine LWp.iff ?_
          simp
          refine ⟨fun h12 => ?_, fun h12 => ?_⟩
          · refine LWp.skip ?_
            simp
            refine LWp.seq ?_
            refine LWp.block ?_
            refine LWp.seq ?_
            refine LWp.reg hT hW (fun | 44 => some <| .plain ⟨.d (I64 (findI l l[i].needs[k])), true⟩ | _ => none) (by intro d; first | exact ⟨rfl, fun _ h => h⟩ | (split <;> exact ⟨rfl, fun _ h => h⟩)) ?_
            simp [h12]
            refine ⟨Find_ok l _, ?_⟩
            refine LWp.iff ?_
            simp
            refine ⟨fun h14 => ?_, fun h14 => ?_⟩
            · refine LWp.seq ?_
              refine LWp.reg hT hW (fun _ => none) (fun _ => ⟨rfl, fun _ h => h⟩) ?_
              simp
              refine LWp.ret ?_
              have hl : ¬ 64 < l.length := by omega
              have k8 : ¬ findI l l[i].name < i := by omega
              have k10 : l[i].needs.any (fun n => decide (findI l n < 0)) = true := List.any_eq_true.2 ⟨_, List.getElem_mem h12, by simpa using h14⟩
              have e : errE l i l[i] = 6 := by simp [errE, h7, k8, k10]
              have hv := validFrom_stop h4 (by rw [e]; decide)
              rw [hi4.2, e] at hv
              simp [validV, hl, hv]
            · refine LWp.skip ?_
              simp
              refine LWp.reg hT hW (fun _ => none) (fun _ => ⟨rfl, fun _ h => h⟩) ?_
              simp
              refine ⟨by omega, ?_⟩
              refine loopQ.mk (k + 1) (Weak.to [0, 4, 5, 6] [(5, 5)] (by decide) (by decide) (by simp [hp]) (by simp) (by simp)) ?_ ?_
              · exact ⟨h12, hi12.2.succ h12 (by simpa using h14)⟩
              · omega
          · refine LWp.exit ?_
            simp
            refine LWp.seq ?_
            refine LWp.reg hT hW (fun | 52 => some <| .plain ⟨.d (.bool (decide (l[i].name ∈ aboveL l l[i].name))), true⟩ | _ => none) (by intro d; first | exact ⟨rfl, fun _ h => h⟩ | (split <;> exact ⟨rfl, fun _ h => h⟩)) ?_
            simp
            refine ⟨Before_ok l _ _ hn, ?_⟩
            refine LWp.iff ?_
            simp
            refine ⟨fun h16 => ?_, fun h16 => ?_⟩
            · refine LWp.seq ?_
              refine LWp.reg hT hW (fun _ => none) (fun _ => ⟨rfl, fun _ h => h⟩) ?_
              simp
              refine LWp.ret ?_
              have hl : ¬ 64 < l.length := by omega
              have k8 : ¬ findI l l[i].name < i := by omega
              have k10 : l[i].needs.any (fun n => decide (findI l n < 0)) = false := hi12.2.any (by omega)
              have e : errE l i l[i] = 13 := by simp [errE, h7, k8, k10, h16]
              have hv := validFrom_stop h4 (by rw [e]; decide)
              rw [hi4.2, e] at hv
              simp [validV, hl, hv]
            · refine LWp.skip ?_
              simp
              refine LWp.reg hT hW (fun _ => none) (fun _ => ⟨rfl, fun _ h => h⟩) ?_
              simp
              refine ⟨by omega, ?_⟩
              refine loopQ.mk (i + 1) (Weak.to [0, 4] [] (by decide) (by decide) (by simp [hp]) (by simp) (by simp)) ?_ ?_
              · refine ⟨h4, ?_⟩
                rw [← hi4.2, ← validFrom_step h4]
                have k8 : ¬ findI l l[i].name < i := by omega
                have k10 : l[i].needs.any (fun n => decide (findI l n < 0)) = false := hi12.2.any (by omega)
                simp [errE, h7, k8, k10, h16]
              · omega
    · refine LWp.exit ?_
      simp
      refine LWp.seq ?_
      refine LWp.reg hT hW (fun _ => none) (fun _ => ⟨rfl, fun _ h => h⟩) ?_
      simp
      refine LWp.ret ?_
      have hl : ¬ 64 < l.length := by omega
      have hv := validFrom_end (l := l) (i := i) (by omega)
      rw [hi4.2] at hv
      have q : i = l.length := by omega
      simp [validV, hl, hv, q]

end Go.Eng

/-
  Chapter 22: the reference model's generators. No condition.
-/
namespace Go.Eng
open Go.Proofs
attribute [local simp] runL stepL evalG evalOp opLV constLV putEnv dstOk upd upds Res.plain Res.cond Res.fail evalBin evalUn seqQ blockQ argsEnv lookL lookH RetIs memless freshL evalPick evalMin bval bok evalLen evalIn strip whenC guardOps guardC slotsOf
  runM foldS stepI stepM maskE wrIn lk renO lookN evalCall evalCallee optAll resLV resObj retLV retObj retsLV retsObj evalLoad evalIndexAddr evalField solid cellsD_agg cellsD_int cellsD_bool cellsD_str cellsD_sl cellsD_ro cellsD_fn cellsL_agg cellsL_dagg cellsL_int cellsL_bool cellsL_str cellsL_sl cellsL_fn cellsL_ow cellsL_bx cellsL_lfn cellsL_nl takeL takeD mkAgg allD eqD eqDs kindsAre kindIs LObj.live TK.isNone TK.agg TK.isBool TK.isStr TK.isStruct Op.operands Call.operands
  evalBuildSlice evalAppend elemsOf evalStore evalBuild fillL lookupF putL evalSlice bound evalConv elemsS freezes frozen loadR
  mkEnv_at mkObs_at close_d close_agg close_ow close_bx close_fn close_nl touch_d touch_agg touch_ow touch_bx touch_fn touch_nl ren_d ren_agg ren_bx ren_rp ren_ow ren_fn ren_nl ren_junk retQ_ret retQ2_ret condQ_bool Nm.d Df.d Ed.d nmsD dfsD strsD edsD retC_ret nm_eq df_eq take_map_len take_map_app
  nm_t nm_d nm_td df_t df_d df_td str_t str_d str_td ed_t ed_d ed_td
  evalAppendIn evalCut evalClear evalCopy evalMake evalWrap evalCap evalNil isNilC lenL isInp gorc
  mapOf findD keyEq keyOk evalMakeMap evalRange zeroD zeroDV argsG shutG outN lenv retG0_ret retG0_normal retG1_ret renO close_mp touch_mp ren_mp optAll_d optAll_d' touch_ds cellsL_mp cellsD_mp cellsL_dmp

theorem five {k : Nat} (h : k < 5) : [DV.str [97], DV.str [98], DV.str [99], DV.str [100], DV.str [97, 97]][k]?.getD default = .str ((([[97], [98], [99], [100], [97, 97]] : List Str)).getD k []) := by
  match k, h with
  | 0, _ => rfl
  | 1, _ => rfl
  | 2, _ => rfl
  | 3, _ => rfl
  | 4, _ => rfl

/-- culprit/culpritref22.name -/
theorem name_ok (n : Int) (h1 : -9223372036854775808 ≤ n) (h2 : n ≤ 9223372036854775807) : Ok Tryz.prog 95 [I64 n] ⟨.d (.str (nameS n)), true⟩ := by
  refine Ok.ret Tryz.func95 (by kernel_rfl) (c := _) rfl Tryz.ntmps95 (by simp) Tryz.results95 (by intro _ h; cases h) fun w0 X hp => ?_
  have ha := around_lt n 5 (by decide)
  have h5 : [DV.str [97], DV.str [98], DV.str [99], DV.str [100], DV.str [97, 97]][(around n 5).toNat]?.getD default = .str (nameS n) := five (by omega)
  have h0 : [0, 1, 2, 3, 4] = List.range 5 := by decide
  refine LWp.seq ?_
  refine LWp.reg hT hW (fun _ => none) (fun _ => ⟨rfl, fun _ h => h⟩) ?_
  simp
  refine LWp.seq ?_
  refine LWp.reg hT hW (fun | 5 => some <| .plain ⟨.d (I64 (around n 5)), true⟩ | _ => none) (by intro d; first | exact ⟨rfl, fun _ h => h⟩ | (split <;> exact ⟨rfl, fun _ h => h⟩)) ?_
  simp [h5]
  refine ⟨⟨⟨⟨h0, Around_ok n 5 h1 h2 (by decide)⟩, ha⟩, ha.2⟩, ?_⟩
  refine LWp.ret ?_
  simp

theorem digit_byte (n : Int) : byteOf (.int .u8 (IntKind.u8.wrap (48 + around n 10))) = UInt8.ofNat (48 + around n 10).toNat := by
  obtain ⟨ha, hb⟩ := around_lt n 10 (by decide)
  obtain ⟨k, hk⟩ : ∃ k : Nat, around n 10 = k := ⟨(around n 10).toNat, by omega⟩
  rw [hk] at ha hb ⊢
  have hk10 : k < 10 := by omega
  clear hk ha hb
  match k, hk10 with
  | 0, _ => rfl
  | 1, _ => rfl
  | 2, _ => rfl
  | 3, _ => rfl
  | 4, _ => rfl
  | 5, _ => rfl
  | 6, _ => rfl
  | 7, _ => rfl
  | 8, _ => rfl
  | 9, _ => rfl
theorem nameS_len (n : Int) : (nameS n).length ≤ 2 := by
  unfold nameS
  obtain ⟨ha, hb⟩ := around_lt n 5 (by decide)
  obtain ⟨k, hk⟩ : ∃ k : Nat, (around n 5).toNat = k := ⟨_, rfl⟩
  have hk5 : k < 5 := by omega
  rw [hk]
  clear hk ha hb
  match k, hk5 with
  | 0, _ => exact Nat.le_succ 1
  | 1, _ => exact Nat.le_succ 1
  | 2, _ => exact Nat.le_succ 1
  | 3, _ => exact Nat.le_succ 1
  | 4, _ => exact Nat.le_refl 2

/-- culprit/culpritref22.def -/
theorem def_ok (n v : Int) (h1 : -9223372036854775808 ≤ n) (h2 : n ≤ 9223372036854775807) (h3 : -9223372036854775808 ≤ v) (h4 : v ≤ 9223372036854775807) : Ok Tryz.prog 85 [I64 n, I64 v] ⟨.d (defD n v).d, true⟩ := by
  refine Ok.cell hT Tryz.func85 (by kernel_rfl) (c := _) rfl Tryz.ntmps85 (by simp) Tryz.results85 (by intro _ h; cases h) fun w0 X hp => ?_
  have ha := around_lt v 10 (by decide)
  have hl := nameS_len n
  refine LWp.seq ?_
  refine LWp.reg hT hW (fun _ => none) (fun _ => ⟨rfl, fun _ h => h⟩) ?_
  simp
  refine LWp.seq ?_
  refine LWp.reg hT hW (fun | 7 => some <| .plain ⟨.d (I64 (around v 10)), true⟩ | _ => none) (by intro d; first | exact ⟨rfl, fun _ h => h⟩ | (split <;> exact ⟨rfl, fun _ h => h⟩)) ?_
  simp [digit_byte]
  refine ⟨⟨Around_ok v 10 h3 h4 (by decide), by omega, by omega⟩, ?_⟩
  refine LWp.seq ?_
  refine LWp.reg hT hW (fun | 13 => some <| .plain ⟨.d (.str (nameS n)), true⟩ | 15 => some <| .plain ⟨.d (.str (nameS n)), true⟩ | _ => none) (by intro d; first | exact ⟨rfl, fun _ h => h⟩ | (split <;> exact ⟨rfl, fun _ h => h⟩)) ?_
  simp
  refine ⟨⟨⟨⟨⟨name_ok n h1 h2, by omega⟩, by omega⟩, by omega⟩, by omega⟩, ?_⟩
  refine LWp.ret ?_
  simp [defD, digitS]

/-- The place from which the edit at place i comes when a list is turned. -/
def turnAt (n : Nat) (by' : Int) (i : Nat) : Nat :=
  let k := (i + (around by' n).toNat) % n
  if by'.tmod 2 ≠ 0 then n - 1 - k else k
def turnedL (l : List Ed) (by' : Int) : List Ed := (List.range l.length).map fun i => l.getD (turnAt l.length by' i) default
theorem turnAt_lt {n i : Nat} {b : Int} (h : 0 < n) : turnAt n b i < n := by
  unfold turnAt
  have := Nat.mod_lt (i + (around b n).toNat) h
  dsimp only
  split <;> omega
theorem turned_get {l : List Ed} {b : Int} {i : Nat} (h : i < l.length) : (turnedL l b)[i]'(by simpa [turnedL] using h) = l.getD (turnAt l.length b i) default := by simp [turnedL]

/-- culprit/culpritref22.Turned -/
theorem Turned_ok (l : List Ed) (b : Int) (hl : l.length ≤ 1000000) (h1 : -9223372036854775808 ≤ b) (h2 : b ≤ 9223372036854775807) : Ok Tryz.prog 39 [edsD l, I64 b] ⟨.d (edsD (turnedL l b)), false⟩ := by
  refine Ok.ret Tryz.func39 (by kernel_rfl) (c := _) rfl Tryz.ntmps39 (by simp) Tryz.results39 (by intro _ h; cases h) fun w0 X hp => ?_
  refine LWp.seq ?_
  refine LWp.reg hT hW (fun _ => none) (fun _ => ⟨rfl, fun _ h => h⟩) ?_
  simp
  refine LWp.seq ?_
  refine LWp.reg hT hW (fun _ => none) (fun _ => ⟨rfl, fun _ h => h⟩) ?_
  simp
  refine LWp.seq ?_
  refine LWp.seq ?_
  refine LWp.reg hT hW (fun _ => none) (fun _ => ⟨rfl, fun _ h => h⟩) ?_
  simp
  refine LWp.block ?_
  refine LWp.loopW (ι := Nat × List Ed) (fun ⟨i, acc⟩ => mkEnv [(0, .d (edsD l)), (1, .d (I64 b)), (5, .ow 5 0 acc.length), (6, .d (I64 i))]) (fun ⟨i, acc⟩ => mkObs [(5, .row false 5 (acc.map Ed.d))]) (fun ⟨i, acc⟩ => i ≤ l.length ∧ acc.length = i ∧ acc = (turnedL l b).take i) (fun ⟨i, acc⟩ => l.length - i) (0, []) (Weak.to [0, 1, 5, 6] [(5, 5)] (by decide) (by decide) (by simp [hp]) (by simp) (by simp)) (by simp) fun ⟨i, acc⟩ hi3 => ?_
  refine LWp.seq ?_
  refine LWp.seq ?_
  refine LWp.reg hT hW (fun _ => none) (fun _ => ⟨rfl, fun _ h => h⟩) ?_
  simp
  refine LWp.iff ?_
  simp
  refine ⟨fun h3 => ?_, fun h3 => ?_⟩
  · refine LWp.skip ?_
    simp
    refine LWp.seq ?_
    refine LWp.block ?_
    refine LWp.seq ?_
    have hpos : 0 < l.length := by omega
    have hta := turnAt_lt (n := l.length) (i := i) (b := b) hpos
    obtain ⟨ha, hb⟩ := around_lt b l.length (by omega)
    obtain ⟨k0, hk0⟩ : ∃ k0, k0 = (i + (around b l.length).toNat) % l.length := ⟨_, rfl⟩
    have hk0l : k0 < l.length := by rw [hk0]; exact Nat.mod_lt _ hpos
    have hkr : l.length - 1 - k0 < l.length := by omega
    have hacc : acc.length = i := hi3.2.1
    have hkm : ((i : Int) + around b l.length).tmod l.length = (k0 : Int) := by
      rw [hk0, show (i : Int) + around b l.length = ((i + (around b l.length).toNat : Nat) : Int) by omega]
      rfl
    refine LWp.reg hT hW (fun | 18 => some <| .plain ⟨.d (I64 (around b l.length)), true⟩ | _ => none) (by intro d; first | exact ⟨rfl, fun _ h => h⟩ | (split <;> exact ⟨rfl, fun _ h => h⟩)) ?_
    simp [hkm]
    refine ⟨⟨⟨Around_ok b l.length h1 h2 (by omega), by omega⟩, fun e => by subst e; simp at hpos⟩, ?_⟩
    refine LWp.seq ?_
    refine LWp.seq ?_
    refine LWp.reg hT hW (fun _ => none) (fun _ => ⟨rfl, fun _ h => h⟩) ?_
    simp
    refine LWp.iff ?_
    simp
    refine ⟨fun h6 => ?_, fun h6 => ?_⟩
    · refine LWp.reg hT hW (fun _ => none) (fun _ => ⟨rfl, fun _ h => h⟩) ?_
      simp
      refine ⟨⟨by omega, by omega⟩, ?_⟩
      refine LWp.reg hT hW (fun _ => none) (fun _ => ⟨rfl, fun _ h => h⟩) ?_
      simp [hk0l, hkr]
      refine ⟨by omega, ?_⟩
      refine LWp.reg hT hW (fun _ => none) (fun _ => ⟨rfl, fun _ h => h⟩) ?_
      simp
      refine ⟨by omega, ?_⟩
      refine loopQ.mk (i + 1, acc ++ [l[l.length - 1 - k0]]) (Weak.to [0, 1, 5, 6] [(37, 5)] (by decide) (by decide) (by simp [hp]) (by simp) (by simp)) ?_ ?_
      · refine ⟨h3, by simp [hacc], ?_⟩
        have e : turnAt l.length b i = l.length - 1 - k0 := by unfold turnAt; rw [← hk0]; simp only; rw [if_pos h6]
        have := turned_get (b := b) h3
        dsimp only
        rw [List.take_succ_eq_append_getElem (by simpa [turnedL] using h3), ← hi3.2.2, this, e]
        simp [hkr]
      · omega
    · refine LWp.skip ?_
      simp
      refine LWp.reg hT hW (fun _ => none) (fun _ => ⟨rfl, fun _ h => h⟩) ?_
      simp [hk0l, hkr]
      refine ⟨by omega, ?_⟩
      refine LWp.reg hT hW (fun _ => none) (fun _ => ⟨rfl, fun _ h => h⟩) ?_
      simp
      refine ⟨by omega, ?_⟩
      refine loopQ.mk (i + 1, acc ++ [l[k0]]) (Weak.to [0, 1, 5, 6] [(37, 5)] (by decide) (by decide) (by simp [hp]) (by simp) (by simp)) ?_ ?_
      · refine ⟨h3, by simp [hacc], ?_⟩
        have e : turnAt l.length b i = k0 := by unfold turnAt; rw [← hk0]; simp only; rw [if_neg (by simpa using h6)]
        have := turned_get (b := b) h3
        dsimp only
        rw [List.take_succ_eq_append_getElem (by simpa [turnedL] using h3), ← hi3.2.2, this, e]
        simp [hk0l]
      · omega
  · refine LWp.exit ?_
    simp
    refine LWp.seq ?_
    refine LWp.reg hT hW (fun _ => none) (fun _ => ⟨rfl, fun _ h => h⟩) ?_
    simp
    refine LWp.ret ?_
    have e : acc = turnedL l b := by
      rw [hi3.2.2, List.take_of_length_le (by simp [turnedL]; omega)]
    simp [e]

end Go.Eng

/-
  Chapter 22: the reference model's Made. No condition.
-/
namespace Go.Eng
open Go.Proofs
attribute [local simp] runL stepL evalG evalOp opLV constLV putEnv dstOk upd upds Res.plain Res.cond Res.fail evalBin evalUn seqQ blockQ argsEnv lookL lookH RetIs memless freshL evalPick evalMin bval bok evalLen evalIn strip whenC guardOps guardC slotsOf
  runM foldS stepI stepM maskE wrIn lk renO lookN evalCall evalCallee optAll resLV resObj retLV retObj retsLV retsObj evalLoad evalIndexAddr evalField solid cellsD_agg cellsD_int cellsD_bool cellsD_str cellsD_sl cellsD_ro cellsD_fn cellsL_agg cellsL_dagg cellsL_int cellsL_bool cellsL_str cellsL_sl cellsL_fn cellsL_ow cellsL_bx cellsL_lfn cellsL_nl takeL takeD mkAgg allD eqD eqDs kindsAre kindIs LObj.live TK.isNone TK.agg TK.isBool TK.isStr TK.isStruct Op.operands Call.operands
  evalBuildSlice evalAppend elemsOf evalStore evalBuild fillL lookupF putL evalSlice bound evalConv elemsS freezes frozen loadR
  mkEnv_at mkObs_at close_d close_agg close_ow close_bx close_fn close_nl touch_d touch_agg touch_ow touch_bx touch_fn touch_nl ren_d ren_agg ren_bx ren_rp ren_ow ren_fn ren_nl ren_junk retQ_ret retQ2_ret condQ_bool Nm.d Df.d Ed.d nmsD dfsD strsD edsD retC_ret nm_eq df_eq take_map_len take_map_app
  nm_t nm_d nm_td df_t df_d df_td str_t str_d str_td ed_t ed_d ed_td
  evalAppendIn evalCut evalClear evalCopy evalMake evalWrap evalCap evalNil isNilC lenL isInp gorc
  mapOf findD keyEq keyOk evalMakeMap evalRange zeroD zeroDV argsG shutG outN lenv retG0_ret retG0_normal retG1_ret renO close_mp touch_mp ren_mp optAll_d optAll_d' touch_ds cellsL_mp cellsD_mp cellsL_dmp

theorem u64_nat {k : Nat} (h : k < 1000) : IntKind.u64.wrap (k : Int) = k := by
  unfold IntKind.wrap
  simp [IntKind.bits, IntKind.signed]
  omega
def shr (a : Int) (k : Nat) : Int := a.fdiv (2 ^ k)
/-- The edit that is made of three numbers behind some that are there. -/
def madeNeeds (bits : Int) (earlier : List Nm) : Nat → List Nm
  | 0 => []
  | k + 1 => madeNeeds bits earlier k ++ if (shr bits k).tmod 3 = 1 then (match earlier[k]? with | some n => [n] | none => []) else []
def madePuts (m : Int) (i : Nat) : Nat → List Df
  | 0 => []
  | k + 1 => madePuts m i k ++ if (shr m (2 * k)).tmod 4 = 1 then [defD k (m + i)] else []
def madeDrops (m : Int) : Nat → List Str
  | 0 => []
  | k + 1 => madeDrops m k ++ if (shr m (2 * k)).tmod 4 = 2 ∧ 1 < k then [nameS k] else []
def madeE (l : List Int) (out : List Ed) (i : Nat) : Ed :=
  let n := atL l (1 + 3 * i) 4096
  let bits := atL l (2 + 3 * i) 4096
  let m := atL l (3 + 3 * i) 4096
  let earlier := sortN (out.map Ed.name)
  ⟨⟨n.tmod 3, i + 6 * ((n.tdiv 3).tmod 8)⟩, madeNeeds bits earlier earlier.length, madePuts m i 4, madeDrops m 4⟩
def madeTo (l : List Int) : Nat → List Ed
  | 0 => []
  | i + 1 => madeTo l i ++ [madeE l (madeTo l i) i]
def madeL (l : List Int) : List Ed := madeTo l (atL l 0 7).toNat
theorem madeNeeds_len (bits : Int) (ear : List Nm) : ∀ k, (madeNeeds bits ear k).length ≤ k
  | 0 => Nat.le_refl _
  | k + 1 => by
    have := madeNeeds_len bits ear k
    simp only [madeNeeds, List.length_append]
    split
    · split <;> simp <;> omega
    · simp; omega
theorem madePuts_len (m : Int) (i : Nat) : ∀ k, (madePuts m i k).length ≤ k
  | 0 => Nat.le_refl _
  | k + 1 => by
    have := madePuts_len m i k
    simp only [madePuts, List.length_append]
    split <;> simp <;> omega
theorem madeDrops_len (m : Int) : ∀ k, (madeDrops m k).length ≤ k
  | 0 => Nat.le_refl _
  | k + 1 => by
    have := madeDrops_len m k
    simp only [madeDrops, List.length_append]
    split <;> simp <;> omega
theorem madeTo_len (l : List Int) : ∀ i, (madeTo l i).length = i
  | 0 => rfl
  | i + 1 => by simp [madeTo, madeTo_len l i]
theorem atL_range (l : List Int) (i m : Int) (h : 0 < m) : 0 ≤ atL l i m ∧ atL l i m < m := by
  unfold atL
  split
  · omega
  · exact around_lt _ _ h

/-- culprit/culpritref22.Made -/
theorem Made_ok (l : List Int) (hr : ∀ n ∈ l, -9223372036854775808 ≤ n ∧ n ≤ 9223372036854775807) : Ok Tryz.prog 35 [.sl (l.map I64)] ⟨.d (edsD (madeL l)), false⟩ := by
  refine Ok.ret Tryz.func35 (by kernel_rfl) (c := _) rfl Tryz.ntmps35 (by simp) Tryz.results35 (by intro _ h; cases h) fun w0 X hp => ?_
  obtain ⟨c0, hc0⟩ : ∃ c0 : Nat, (c0 : Int) = atL l 0 7 := ⟨(atL l 0 7).toNat, by have := (atL_range l 0 7 (by decide)).1; omega⟩
  have hc7 : c0 < 7 := by have := (atL_range l 0 7 (by decide)).2; omega
  refine LWp.seq ?_
  refine LWp.reg hT hW (fun _ => none) (fun _ => ⟨rfl, fun _ h => h⟩) ?_
  simp
  refine LWp.seq ?_
  refine LWp.reg hT hW (fun _ => none) (fun _ => ⟨rfl, fun _ h => h⟩) ?_
  simp
  refine LWp.seq ?_
  refine LWp.seq ?_
  refine LWp.reg hT hW (fun _ => none) (fun _ => ⟨rfl, fun _ h => h⟩) ?_
  simp
  refine LWp.block ?_
  refine LWp.loopW (ι := Nat) (fun i => mkEnv [(0, .d (.sl (l.map I64))), (3, .ow 3 0 i), (4, .d (I64 i))]) (fun i => mkObs [(3, .row false 5 ((madeTo l i).map Ed.d))]) (fun i => i ≤ c0) (fun i => c0 - i) 0 (Weak.to [0, 3, 4] [(3, 3)] (by decide) (by decide) (by simp [hp]) (by simp) (by simp [madeTo])) (Nat.zero_le _) fun i hi3 => ?_
  refine LWp.seq ?_
  refine LWp.seq ?_
  refine LWp.reg hT hW (fun | 14 => some <| .plain ⟨.d (I64 c0), true⟩ | _ => none) (by intro d; first | exact ⟨rfl, fun _ h => h⟩ | (split <;> exact ⟨rfl, fun _ h => h⟩)) ?_
  simp
  refine ⟨by rw [hc0]; exact At_ok l 0 7 hr (by decide), ?_⟩
  refine LWp.iff ?_
  simp
  refine ⟨fun h3 => ?_, fun h3 => ?_⟩
  · refine LWp.skip ?_
    simp
    refine LWp.seq ?_
    refine LWp.block ?_
    refine LWp.seq ?_
    obtain ⟨an1, an2⟩ := atL_range l (1 + 3 * i) 4096 (by decide)
    obtain ⟨ab1, ab2⟩ := atL_range l (2 + 3 * i) 4096 (by decide)
    obtain ⟨am1, am2⟩ := atL_range l (3 + 3 * i) 4096 (by decide)
    obtain ⟨n, hnn⟩ : ∃ n, n = atL l (1 + 3 * i) 4096 := ⟨_, rfl⟩
    obtain ⟨bits, hbits⟩ : ∃ n, n = atL l (2 + 3 * i) 4096 := ⟨_, rfl⟩
    obtain ⟨m, hm⟩ : ∃ n, n = atL l (3 + 3 * i) 4096 := ⟨_, rfl⟩
    have hml := madeTo_len l i
    have htk : List.take i (List.map Ed.d (madeTo l i)) = List.map Ed.d (madeTo l i) := List.take_of_length_le (by simp [hml])
    refine LWp.reg hT hW (fun | 22 => some <| .plain ⟨.d (I64 n), true⟩ | _ => none) (by intro d; first | exact ⟨rfl, fun _ h => h⟩ | (split <;> exact ⟨rfl, fun _ h => h⟩)) ?_
    simp
    refine ⟨⟨by omega, by rw [hnn]; exact At_ok l _ 4096 hr (by decide)⟩, ?_⟩
    refine LWp.seq ?_
    have hd1 : 0 ≤ n.tdiv 3 := Int.tdiv_nonneg (by omega) (by omega)
    have hd2 : n.tdiv 3 ≤ n := by rw [Int.tdiv_eq_ediv_of_nonneg (by omega)]; omega
    have h81 : 0 ≤ (n.tdiv 3).tmod 8 := Int.tmod_nonneg _ hd1
    have h82 : (n.tdiv 3).tmod 8 < 8 := Int.tmod_lt_of_pos _ (by omega)
    refine LWp.reg hT hW (fun _ => none) (fun _ => ⟨rfl, fun _ h => h⟩) ?_
    simp
    refine ⟨⟨⟨by omega, by omega⟩, by omega⟩, ?_⟩
    refine LWp.nlCell (fz := false) (cs := [.d (I64 (n.tmod 3)), .d (I64 (i + 6 * (n.tdiv 3).tmod 8)), .nl, .nl, .nl]) 6 2 1060 2 (by decide) ⟨by simp, by simp, by simp, ?_⟩
    refine LWp.nlCell (fz := false) (cs := [.d (I64 (n.tmod 3)), .d (I64 (i + 6 * (n.tdiv 3).tmod 8)), .ow 1060 0 0, .nl, .nl]) 6 3 1087 2 (by decide) ⟨by simp, by simp, by simp, ?_⟩
    refine LWp.nlCell (fz := false) (cs := [.d (I64 (n.tmod 3)), .d (I64 (i + 6 * (n.tdiv 3).tmod 8)), .ow 1060 0 0, .ow 1087 0 0, .nl]) 6 4 1098 1 (by decide) ⟨by simp, by simp, by simp, ?_⟩
    simp
    refine LWp.seq ?_
    obtain ⟨nms, hnms⟩ : ∃ nms, nms = (madeTo l i).map Ed.name := ⟨_, rfl⟩
    have hnml : nms.length = i := by rw [hnms]; simp [hml]
    obtain ⟨ear, hear⟩ : ∃ ear, ear = sortN nms := ⟨_, rfl⟩
    have hel : ear.length ≤ i := by rw [hear]; have := sortN_len nms; omega
    refine LWp.reg hT hW (fun | 34 => some <| .plain ⟨.d (nmsD nms), true⟩ | 35 => some <| .plain ⟨.d (nmsD ear), true⟩ | _ => none) (by intro d; first | exact ⟨rfl, fun _ h => h⟩ | (split <;> exact ⟨rfl, fun _ h => h⟩)) ?_
    simp [htk]
    refine ⟨⟨by rw [hnms]; exact Names_ok _ (by omega), by rw [hear]; exact Sort_ok nms (by omega)⟩, ?_⟩
    refine LWp.seq ?_
    refine LWp.reg hT hW (fun | 40 => some <| .plain ⟨.d (I64 bits), true⟩ | _ => none) (by intro d; first | exact ⟨rfl, fun _ h => h⟩ | (split <;> exact ⟨rfl, fun _ h => h⟩)) ?_
    simp
    refine ⟨⟨by omega, by rw [hbits]; exact At_ok l _ 4096 hr (by decide)⟩, ?_⟩
    refine LWp.seq ?_
    refine LWp.seq ?_
    refine LWp.reg hT hW (fun _ => none) (fun _ => ⟨rfl, fun _ h => h⟩) ?_
    simp
    refine LWp.block ?_
    refine LWp.loopW (ι := Nat) (fun k => mkEnv [(0, .d (.sl (l.map I64))), (3, .ow 3 0 i), (4, .d (I64 i)), (6, .bx 6 0), (7, .d (nmsD ear)), (8, .d (I64 bits)), (9, .d (I64 k))]) (fun k => mkObs [(3, .row false 5 ((madeTo l i).map Ed.d)), (6, .box false [.d (I64 (n.tmod 3)), .d (I64 (i + 6 * (n.tdiv 3).tmod 8)), .ow 1060 0 (madeNeeds bits ear k).length, .ow 1087 0 0, .ow 1098 0 0]), (1060, .row false 2 ((madeNeeds bits ear k).map Nm.d)), (1087, .row false 2 []), (1098, .row false 1 [])]) (fun k => k ≤ ear.length) (fun k => ear.length - k) 0 (Weak.to [0, 3, 4, 6, 7, 8, 9] [(3, 3), (6, 6), (1060, 1060), (1087, 1087), (1098, 1098)] (by decide) (by decide) (by simp [hp]) (by simp) (by simp [madeNeeds])) (Nat.zero_le _) fun k hi10 => ?_
    refine LWp.seq ?_
    refine LWp.seq ?_
    refine LWp.reg hT hW (fun _ => none) (fun _ => ⟨rfl, fun _ h => h⟩) ?_
    simp
    refine LWp.iff ?_
    simp
    refine ⟨fun h10 => ?_, fun h10 => ?_⟩
    · refine LWp.skip ?_
      simp
      refine LWp.seq ?_
      refine LWp.block ?_
      refine LWp.seq ?_
      have hkw := u64_nat (k := k) (by omega)
      have hk64 : min k 64 = k := by omega
      refine LWp.reg hT hW (fun _ => none) (fun _ => ⟨rfl, fun _ h => h⟩) ?_
      simp [hkw, IntKind.bits, hk64]
      refine LWp.iff ?_
      simp
      refine ⟨fun h12 => ?_, fun h12 => ?_⟩
      · refine LWp.regAny hT hW hMixed (lk [[], [0], [], [], [2, 3], [2, 3, 4], [2, 3, 4, 5], [0, 1, 2, 3, 4, 5, 6], [0, 1, 2, 3, 4, 5, 6, 7], [0, 1, 2, 3, 4, 5, 6, 7, 8]]) (lk [[59], [59], [], [], [], [], [], [], [], []]) (lk [[], [], [], [], [], [], [59], [54, 60], [], [6]]) (by kernel_rfl) (fun _ => none) (fun _ => ⟨rfl, fun _ h => h⟩) ?_
        simp [h10]
        have z := madeNeeds_len bits ear k
        refine ⟨by omega, ?_⟩
        refine LWp.reg hT hW (fun _ => none) (fun _ => ⟨rfl, fun _ h => h⟩) ?_
        simp
        refine ⟨by omega, ?_⟩
        refine loopQ.mk (k + 1) (Weak.to [0, 3, 4, 6, 7, 8, 9] [(3, 3), (6, 6), (60, 1060), (1087, 1087), (1098, 1098)] (by decide) (by decide) (by simp [hp]) (by simp) (by simp [madeNeeds, shr, h12, h10])) ?_ ?_
        · exact h10
        · omega
      · refine LWp.skip ?_
        simp
        refine LWp.reg hT hW (fun _ => none) (fun _ => ⟨rfl, fun _ h => h⟩) ?_
        simp
        refine ⟨by omega, ?_⟩
        refine loopQ.mk (k + 1) (Weak.to [0, 3, 4, 6, 7, 8, 9] [(3, 3), (6, 6), (1060, 1060), (1087, 1087), (1098, 1098)] (by decide) (by decide) (by simp [hp]) (by simp) (by simp [madeNeeds, shr, h12])) ?_ ?_
        · exact h10
        · omega
    · refine LWp.exit ?_
      simp
      refine LWp.seq ?_
      have hke : k = ear.length := by omega
      refine LWp.reg hT hW (fun | 66 => some <| .plain ⟨.d (I64 m), true⟩ | _ => none) (by intro d; first | exact ⟨rfl, fun _ h => h⟩ | (split <;> exact ⟨rfl, fun _ h => h⟩)) ?_
      simp
      refine ⟨⟨by omega, by rw [hm]; exact At_ok l _ 4096 hr (by decide)⟩, ?_⟩
      refine LWp.seq ?_
      refine LWp.seq ?_
      refine LWp.reg hT hW (fun _ => none) (fun _ => ⟨rfl, fun _ h => h⟩) ?_
      simp
      refine LWp.block ?_
      refine LWp.loopW (ι := Nat) (fun q => mkEnv [(0, .d (.sl (l.map I64))), (3, .ow 3 0 i), (4, .d (I64 i)), (6, .bx 6 0), (10, .d (I64 m)), (11, .d (I64 q))]) (fun q => mkObs [(3, .row false 5 ((madeTo l i).map Ed.d)), (6, .box false [.d (I64 (n.tmod 3)), .d (I64 (i + 6 * (n.tdiv 3).tmod 8)), .ow 1060 0 (madeNeeds bits ear ear.length).length, .ow 1087 0 (madePuts m i q).length, .ow 1098 0 (madeDrops m q).length]), (1060, .row false 2 ((madeNeeds bits ear ear.length).map Nm.d)), (1087, .row false 2 ((madePuts m i q).map Df.d)), (1098, .row false 1 ((madeDrops m q).map .str))]) (fun q => q ≤ 4) (fun q => 4 - q) 0 (Weak.to [0, 3, 4, 6, 10, 11] [(3, 3), (6, 6), (1060, 1060), (1087, 1087), (1098, 1098)] (by decide) (by decide) (by simp [hp]) (by simp) (by simp [madePuts, madeDrops, hke])) (Nat.zero_le _) fun q hi16 => ?_
      refine LWp.seq ?_
      refine LWp.seq ?_
      refine LWp.reg hT hW (fun _ => none) (fun _ => ⟨rfl, fun _ h => h⟩) ?_
      simp
      refine LWp.iff ?_
      simp
      refine ⟨fun h16 => ?_, fun h16 => ?_⟩
      · refine LWp.skip ?_
        simp
        refine LWp.seq ?_
        refine LWp.block ?_
        refine LWp.seq ?_
        have hkw : IntKind.u64.wrap (2 * (q : Int)) = ((2 * q : Nat) : Int) := by rw [← u64_nat (k := 2 * q) (by omega)]; congr 1
        have hk64 : min (2 * q) 64 = 2 * q := by omega
        have h2t : (2 * (q : Int)).toNat = 2 * q := by omega
        have z1 := madePuts_len m i q
        have z2 := madeDrops_len m q
        refine LWp.reg hT hW (fun _ => none) (fun _ => ⟨rfl, fun _ h => h⟩) ?_
        simp [hkw, IntKind.bits, hk64, h2t]
        refine ⟨⟨by omega, by omega⟩, ?_⟩
        refine LWp.block ?_
        refine LWp.seq ?_
        refine LWp.reg hT hW (fun _ => none) (fun _ => ⟨rfl, fun _ h => h⟩) ?_
        simp
        refine LWp.iff ?_
        simp
        refine ⟨fun h19 => ?_, fun h19 => ?_⟩
        · refine LWp.regAny hT hW hMixed (lk [[], [0], [], [], [], [3, 4], [2, 3, 4, 5], [2, 3, 4, 5, 6], [0, 1, 2, 3, 4, 5, 6, 7], [0, 1, 2, 3, 4, 5, 6, 7, 8], [0, 1, 2, 3, 4, 5, 6, 7, 8, 9]]) (lk [[85, 86], [85, 86], [], [], [], [], [], [], [], [], []]) (lk [[], [], [], [], [], [], [85], [86], [80, 87], [], [6]]) (by kernel_rfl) (fun | 85 => some <| .plain ⟨.d (defD q (m + i)).d, true⟩ | _ => none) (by intro d; first | exact ⟨rfl, fun _ h => h⟩ | (split <;> exact ⟨rfl, fun _ h => h⟩)) ?_
          simp
          refine ⟨⟨⟨by omega, def_ok q (m + i) (by omega) (by omega) (by omega) (by omega)⟩, by omega⟩, ?_⟩
          refine LWp.reg hT hW (fun _ => none) (fun _ => ⟨rfl, fun _ h => h⟩) ?_
          simp
          refine ⟨by omega, ?_⟩
          refine loopQ.mk (q + 1) (Weak.to [0, 3, 4, 6, 10, 11] [(3, 3), (6, 6), (1060, 1060), (87, 1087), (1098, 1098)] (by decide) (by decide) (by simp [hp]) (by simp) (by simp [madePuts, madeDrops, shr, h19])) ?_ ?_
          · omega
          · omega
        · refine LWp.seq ?_
          refine LWp.reg hT hW (fun _ => none) (fun _ => ⟨rfl, fun _ h => h⟩) ?_
          simp
          refine LWp.iff ?_
          simp
          refine ⟨fun h21 => ?_, fun h21 => ?_⟩
          · refine LWp.seq ?_
            refine LWp.reg hT hW (fun _ => none) (fun _ => ⟨rfl, fun _ h => h⟩) ?_
            simp
            refine LWp.iff ?_
            simp
            refine ⟨fun h22 => ?_, fun h22 => ?_⟩
            · refine LWp.regAny hT hW hMixed (lk [[], [0], [], [2], [2, 3], [0, 1, 2, 3, 4], [0, 1, 2, 3, 4, 5], [0, 1, 2, 3, 4, 5, 6]]) (lk [[96, 97], [96, 97], [], [], [], [], [], []]) (lk [[], [], [], [96], [97], [94, 98], [], [6]]) (by kernel_rfl) (fun | 96 => some <| .plain ⟨.d (.str (nameS q)), true⟩ | _ => none) (by intro d; first | exact ⟨rfl, fun _ h => h⟩ | (split <;> exact ⟨rfl, fun _ h => h⟩)) ?_
              simp
              refine ⟨⟨name_ok q (by omega) (by omega), by omega⟩, ?_⟩
              refine LWp.reg hT hW (fun _ => none) (fun _ => ⟨rfl, fun _ h => h⟩) ?_
              simp
              refine ⟨by omega, ?_⟩
              refine loopQ.mk (q + 1) (Weak.to [0, 3, 4, 6, 10, 11] [(3, 3), (6, 6), (1060, 1060), (1087, 1087), (98, 1098)] (by decide) (by decide) (by simp [hp]) (by simp) (by simp [madePuts, madeDrops, shr, h21, show 1 < q by omega])) ?_ ?_
              · omega
              · omega
            · refine LWp.skip ?_
              simp
              refine LWp.reg hT hW (fun _ => none) (fun _ => ⟨rfl, fun _ h => h⟩) ?_
              simp
              refine ⟨by omega, ?_⟩
              refine loopQ.mk (q + 1) (Weak.to [0, 3, 4, 6, 10, 11] [(3, 3), (6, 6), (1060, 1060), (1087, 1087), (1098, 1098)] (by decide) (by decide) (by simp [hp]) (by simp) (by simp [madePuts, madeDrops, shr, h21, show ¬ 1 < q by omega])) ?_ ?_
              · omega
              · omega
          · refine LWp.skip ?_
            simp
            refine LWp.reg hT hW (fun _ => none) (fun _ => ⟨rfl, fun _ h => h⟩) ?_
            simp
            refine ⟨by omega, ?_⟩
            refine loopQ.mk (q + 1) (Weak.to [0, 3, 4, 6, 10, 11] [(3, 3), (6, 6), (1060, 1060), (1087, 1087), (1098, 1098)] (by decide) (by decide) (by simp [hp]) (by simp) (by simp [madePuts, madeDrops, shr, h19, h21])) ?_ ?_
            · omega
            · omega
      · refine LWp.exit ?_
        simp
        refine LWp.reg hT hW (fun _ => none) (fun _ => ⟨rfl, fun _ h => h⟩) ?_
        simp
        refine ⟨by omega, ?_⟩
        refine LWp.reg hT hW (fun _ => none) (fun _ => ⟨rfl, fun _ h => h⟩) ?_
        simp
        refine ⟨by omega, ?_⟩
        refine loopQ.mk (i + 1) (Weak.to [0, 3, 4] [(103, 3)] (by decide) (by decide) (by simp [hp]) (by simp) (by simp [htk, madeTo, madeE, ← hnn, ← hbits, ← hm, ← hnms, ← hear, show q = 4 by omega])) ?_ ?_
        · exact h3
        · omega
  · refine LWp.exit ?_
    simp
    refine LWp.seq ?_
    refine LWp.reg hT hW (fun _ => none) (fun _ => ⟨rfl, fun _ h => h⟩) ?_
    simp
    refine LWp.ret ?_
    have e : madeL l = madeTo l i := by
      unfold madeL
      rw [show (atL l 0 7).toNat = i by omega]
    rw [e]
    simp [madeTo_len]
    rw [List.take_of_length_le (by simp [madeTo_len])]

end Go.Eng

/-
  Chapter 22: the reference model's Spoilt: how far it may go. No condition.
-/
namespace Go.Eng
open Go.Proofs
attribute [local simp] runL stepL evalG evalOp opLV constLV putEnv dstOk upd upds Res.plain Res.cond Res.fail evalBin evalUn seqQ blockQ argsEnv lookL lookH RetIs memless freshL evalPick evalMin bval bok evalLen evalIn strip whenC guardOps guardC slotsOf
  runM foldS stepI stepM maskE wrIn lk renO lookN evalCall evalCallee optAll resLV resObj retLV retObj retsLV retsObj evalLoad evalIndexAddr evalField solid cellsD_agg cellsD_int cellsD_bool cellsD_str cellsD_sl cellsD_ro cellsD_fn cellsL_agg cellsL_dagg cellsL_int cellsL_bool cellsL_str cellsL_sl cellsL_fn cellsL_ow cellsL_bx cellsL_lfn cellsL_nl takeL takeD mkAgg allD eqD eqDs kindsAre kindIs LObj.live TK.isNone TK.agg TK.isBool TK.isStr TK.isStruct Op.operands Call.operands
  evalBuildSlice evalAppend elemsOf evalStore evalBuild fillL lookupF putL evalSlice bound evalConv elemsS freezes frozen loadR
  mkEnv_at mkObs_at close_d close_agg close_ow close_bx close_fn close_nl touch_d touch_agg touch_ow touch_bx touch_fn touch_nl ren_d ren_agg ren_bx ren_rp ren_ow ren_fn ren_nl ren_junk retQ_ret retQ2_ret condQ_bool Nm.d Df.d Ed.d nmsD dfsD strsD edsD retC_ret nm_eq df_eq take_map_len take_map_app
  nm_t nm_d nm_td df_t df_d df_td str_t str_d str_td ed_t ed_d ed_td
  evalAppendIn evalCut evalClear evalCopy evalMake evalWrap evalCap evalNil isNilC lenL isInp gorc
  mapOf findD keyEq keyOk evalMakeMap evalRange zeroD zeroDV argsG shutG outN lenv retG0_ret retG0_normal retG1_ret renO close_mp touch_mp ren_mp optAll_d optAll_d' touch_ds cellsL_mp cellsD_mp cellsL_dmp

/-- A list with one thing changed is not much longer. -/
structure SpB (l L : List Ed) : Prop where
  len : L.length ≤ l.length + 67
  needs : (allNeeds L).length ≤ (allNeeds l).length + 1
  parts : ∀ P, (∀ e ∈ l, e.puts.length ≤ P ∧ e.drops.length ≤ P) → ∀ e ∈ L, e.puts.length ≤ P + 27 ∧ e.drops.length ≤ P + 27
theorem allNeeds_set : ∀ {l : List Ed} {k : Nat} (hk : k < l.length) (e : Ed), (allNeeds (l.set k e)).length + l[k].needs.length = (allNeeds l).length + e.needs.length
  | a :: l, 0, _, e => by simp [allNeeds]; omega
  | a :: l, k + 1, hk, e => by
    have := allNeeds_set (l := l) (k := k) (by simpa using hk) e
    simp only [allNeeds, List.set_cons_succ, List.flatMap_cons, List.length_append, List.getElem_cons_succ] at *
    omega
theorem SpB.set {l : List Ed} {k : Nat} (hk : k < l.length) {e : Ed} (h1 : e.needs.length ≤ l[k].needs.length + 1) (h2 : e.puts.length ≤ l[k].puts.length + 27) (h3 : e.drops.length ≤ l[k].drops.length + 1) : SpB l (l.set k e) := by
  refine ⟨by simp, by have := allNeeds_set hk e; omega, fun P hP x hx => ?_⟩
  rcases List.mem_or_eq_of_mem_set hx with hx | rfl
  · have := hP x hx; omega
  · have := hP _ (List.getElem_mem hk); omega
theorem needs_le : ∀ {l : List Ed} {k : Nat} (hk : k < l.length), l[k].needs.length ≤ (allNeeds l).length
  | a :: l, 0, _ => by simp [allNeeds]
  | a :: l, k + 1, hk => by
    have := needs_le (l := l) (k := k) (by simpa using hk)
    simp only [allNeeds, List.flatMap_cons, List.length_append, List.getElem_cons_succ] at *
    omega

theorem allNeeds_erase : ∀ (l : List Ed) (k : Nat), (allNeeds (l.eraseIdx k)).length ≤ (allNeeds l).length
  | [], _ => by simp
  | a :: l, 0 => by simp [allNeeds]
  | a :: l, k + 1 => by
    have := allNeeds_erase l k
    simp only [allNeeds, List.eraseIdx_cons_succ, List.flatMap_cons, List.length_append] at *
    omega
theorem SpB.erase (l : List Ed) (k : Nat) : SpB l (l.eraseIdx k) := by
  refine ⟨by have := List.length_eraseIdx_le l k; omega, by have := allNeeds_erase l k; omega, fun P hP e he => ?_⟩
  have := hP e (List.mem_of_mem_eraseIdx he); omega
theorem SpB.refl (l : List Ed) : SpB l l := ⟨by omega, by omega, fun P hP e he => by have := hP e he; omega⟩
theorem SpB.push {l m : List Ed} (h : SpB l m) (hl : m.length ≤ 66) (n : Nm) : SpB l (m ++ [⟨n, [], [], []⟩]) := by
  refine ⟨by simp; omega, by have := h.needs; simp [allNeeds] at *; omega, fun P hP e he => ?_⟩
  rcases List.mem_append.1 he with he | he
  · exact h.parts P hP e he
  · simp at he; subst he; simp

theorem erase_row {l : List Ed} {k : Nat} (hk : k < l.length) (Z : List DV) : List.take (l.length - 1) (List.take k (l.map Ed.d) ++ (List.take (l.length - (k + 1)) (List.drop (k + 1) (l.map Ed.d)) ++ Z)) = (l.eraseIdx k).map Ed.d := by
  have h1 : (List.take (l.length - (k + 1)) (List.drop (k + 1) (l.map Ed.d))) = List.drop (k + 1) (l.map Ed.d) := List.take_of_length_le (by simp)
  rw [h1, ← map_erase, List.eraseIdx_eq_take_drop_succ, ← List.append_assoc, List.take_append_of_le_length (by simp; omega), List.take_of_length_le (by simp; omega)]

/-- culprit/culpritref22.Spoilt -/
theorem Spoilt_ok (l : List Ed) (how b : Int) (hl : l.length ≤ 1000) (hs : small l) (hn : (allNeeds l).length ≤ 1000) (h1 : -9223372036854775808 ≤ b) (h2 : b ≤ 9223372036854775807) (h3 : -9223372036854775808 ≤ how) (h4 : how ≤ 9223372036854775807) : OkR Tryz.prog 45 [edsD l, I64 how, I64 b] (fun r => (fun v => ∃ L : List Ed, SpB l L ∧ v = .d (edsD L)) r.v ∧ r.fresh = false) := by
  refine OkR.ret (Rel := fun v => ∃ L : List Ed, SpB l L ∧ v = .d (edsD L)) Tryz.func45 (by kernel_rfl) (c := _) rfl Tryz.ntmps45 (by simp) Tryz.results45 fun w0 X hp => ?_
  refine LWp.seq ?_
  refine LWp.reg hT hW (fun _ => none) (fun _ => ⟨rfl, fun _ h => h⟩) ?_
  simp
  refine LWp.seq ?_
  refine LWp.reg hT hW (fun _ => none) (fun _ => ⟨rfl, fun _ h => h⟩) ?_
  simp
  refine ⟨by omega, ?_⟩
  refine LWp.seq ?_
  refine LWp.seq ?_
  refine LWp.reg hT hW (fun _ => none) (fun _ => ⟨rfl, fun _ h => h⟩) ?_
  simp
  refine LWp.iff ?_
  simp
  refine ⟨fun h2' => ?_, fun h2' => ?_⟩
  · refine LWp.seq ?_
    refine LWp.reg hT hW (fun _ => none) (fun _ => ⟨rfl, fun _ h => h⟩) ?_
    simp
    refine LWp.ret ?_
    refine retR_ret.2 ⟨_, ⟨[⟨⟨b, how⟩, [], [], []⟩], ⟨by simp, by simp [allNeeds], fun P _ e he => by simp at he; subst he; simp⟩, rfl⟩, by simp, ?_⟩
    simp
  · refine LWp.skip ?_
    simp
    refine LWp.seq ?_
    have hpos : 0 < l.length := by have := List.length_pos_iff.2 (show l ≠ [] from h2'); omega
    obtain ⟨ha1, ha2⟩ := around_lt b l.length (by omega)
    obtain ⟨k, hk⟩ : ∃ k : Nat, (k : Int) = around b l.length := ⟨(around b l.length).toNat, by omega⟩
    have hkl : k < l.length := by omega
    refine LWp.reg hT hW (fun | 27 => some <| .plain ⟨.d (I64 k), true⟩ | _ => none) (by intro d; first | exact ⟨rfl, fun _ h => h⟩ | (split <;> exact ⟨rfl, fun _ h => h⟩)) ?_
    simp
    refine ⟨by rw [hk]; exact Around_ok b l.length h1 h2 (by omega), ?_⟩
    refine LWp.seq ?_
    obtain ⟨hj1, hj2⟩ := around_lt (b.tdiv 7) l.length (by omega)
    obtain ⟨j, hj⟩ : ∃ j : Nat, (j : Int) = around (b.tdiv 7) l.length := ⟨(around (b.tdiv 7) l.length).toNat, by omega⟩
    have hjl : j < l.length := by omega
    have hd7 : -9223372036854775808 ≤ b.tdiv 7 ∧ b.tdiv 7 ≤ 9223372036854775807 := by
      rcases Int.le_total 0 b with hb | hb
      · rw [Int.tdiv_eq_ediv_of_nonneg hb]; omega
      · have : b.tdiv 7 = -((-b) / 7) := by rw [show b = -(-b) by omega, Int.neg_tdiv, Int.tdiv_eq_ediv_of_nonneg (by omega)]; simp
        omega
    refine LWp.reg hT hW (fun | 32 => some <| .plain ⟨.d (I64 j), true⟩ | _ => none) (by intro d; first | exact ⟨rfl, fun _ h => h⟩ | (split <;> exact ⟨rfl, fun _ h => h⟩)) ?_
    simp
    refine ⟨⟨hd7, by rw [hj]; exact Around_ok _ l.length hd7.1 hd7.2 (by omega)⟩, ?_⟩
    refine LWp.seq ?_
    refine LWp.reg hT hW (fun _ => none) (fun _ => ⟨rfl, fun _ h => h⟩) ?_
    simp [hkl]
    refine LWp.seq ?_
    refine LWp.seq ?_
    obtain ⟨hc1, hc2⟩ := around_lt how 12 (by decide)
    obtain ⟨c, hc⟩ : ∃ c : Nat, (c : Int) = around how 12 := ⟨(around how 12).toNat, by omega⟩
    refine LWp.reg hT hW (fun | 38 => some <| .plain ⟨.d (I64 c), true⟩ | _ => none) (by intro d; first | exact ⟨rfl, fun _ h => h⟩ | (split <;> exact ⟨rfl, fun _ h => h⟩)) ?_
    simp
    refine ⟨by rw [hc]; exact Around_ok how 12 h3 h4 (by decide), ?_⟩
    refine LWp.block ?_
    refine LWp.seq ?_
    refine LWp.reg hT hW (fun _ => none) (fun _ => ⟨rfl, fun _ h => h⟩) ?_
    simp
    refine LWp.iff ?_
    simp
    refine ⟨fun h9 => ?_, fun h9 => ?_⟩
    · obtain ⟨z1, z2⟩ := around_lt b 6 (by decide)
      refine LWp.reg hT hW (fun | 52 => some <| .plain ⟨.d (I64 (around b 6)), true⟩ | _ => none) (by intro d; first | exact ⟨rfl, fun _ h => h⟩ | (split <;> exact ⟨rfl, fun _ h => h⟩)) ?_
      simp
      refine ⟨⟨Around_ok b 6 h1 h2 (by decide), by omega⟩, ?_⟩
      refine LWp.seq ?_
      refine LWp.reg hT hW (fun _ => none) (fun _ => ⟨rfl, fun _ h => h⟩) ?_
      simp
      refine ⟨by omega, ?_⟩
      refine LWp.seq ?_
      refine LWp.reg hT hW (fun _ => none) (fun _ => ⟨rfl, fun _ h => h⟩) ?_
      simp
      refine LWp.ret ?_
      refine retR_ret.2 ⟨_, ⟨l.set k { l[k] with name := ⟨around b 6 - 1, l[k].name.seq⟩ }, SpB.set hkl (by simp) (by simp) (by simp), rfl⟩, by simp, ?_⟩
      simp [List.map_set]
      rw [List.take_of_length_le (by simp)]
    · refine LWp.seq ?_
      refine LWp.reg hT hW (fun _ => none) (fun _ => ⟨rfl, fun _ h => h⟩) ?_
      simp
      refine LWp.iff ?_
      simp
      refine ⟨fun h11 => ?_, fun h11 => ?_⟩
      · obtain ⟨z1, z2⟩ := around_lt b 4 (by decide)
        obtain ⟨z, hz⟩ : ∃ z : Nat, (z : Int) = around b 4 := ⟨(around b 4).toNat, by omega⟩
        have hzl : z < 4 := by omega
        obtain ⟨q, hq⟩ : ∃ q : Int, [DV.int IntKind.i64 (-1), DV.int IntKind.i64 63, DV.int IntKind.i64 64, I64 b][z]? = some (I64 q) := by
          rcases (by omega : z = 0 ∨ z = 1 ∨ z = 2 ∨ z = 3) with rfl | rfl | rfl | rfl <;> exact ⟨_, rfl⟩
        have hr4 : [0, 1, 2, 3] = List.range 4 := by decide
        refine LWp.reg hT hW (fun | 61 => some <| .plain ⟨.d (I64 z), true⟩ | _ => none) (by intro d; first | exact ⟨rfl, fun _ h => h⟩ | (split <;> exact ⟨rfl, fun _ h => h⟩)) ?_
        simp [hq, hr4]
        refine ⟨⟨⟨by rw [hz]; exact Around_ok b 4 h1 h2 (by decide), by omega⟩, by omega⟩, ?_⟩
        refine LWp.seq ?_
        refine LWp.reg hT hW (fun _ => none) (fun _ => ⟨rfl, fun _ h => h⟩) ?_
        simp
        refine ⟨by omega, ?_⟩
        refine LWp.seq ?_
        refine LWp.reg hT hW (fun _ => none) (fun _ => ⟨rfl, fun _ h => h⟩) ?_
        simp
        refine LWp.ret ?_
        refine retR_ret.2 ⟨_, ⟨l.set k { l[k] with name := ⟨l[k].name.who, q⟩ }, SpB.set hkl (by simp) (by simp) (by simp), rfl⟩, by simp, ?_⟩
        simp [List.map_set]
        rw [List.take_of_length_le (by simp)]
      · refine LWp.seq ?_
        refine LWp.reg hT hW (fun _ => none) (fun _ => ⟨rfl, fun _ h => h⟩) ?_
        simp
        refine LWp.iff ?_
        simp
        refine ⟨fun h13 => ?_, fun h13 => ?_⟩
        · refine LWp.reg hT hW (fun _ => none) (fun _ => ⟨rfl, fun _ h => h⟩) ?_
          simp [hjl]
          refine LWp.seq ?_
          refine LWp.reg hT hW (fun _ => none) (fun _ => ⟨rfl, fun _ h => h⟩) ?_
          simp
          refine ⟨by omega, ?_⟩
          refine LWp.seq ?_
          refine LWp.reg hT hW (fun _ => none) (fun _ => ⟨rfl, fun _ h => h⟩) ?_
          simp
          refine LWp.ret ?_
          refine retR_ret.2 ⟨_, ⟨l.set k { l[k] with name := l[j].name }, SpB.set hkl (by simp) (by simp) (by simp), rfl⟩, by simp, ?_⟩
          simp [List.map_set]
          rw [List.take_of_length_le (by simp)]
        · refine LWp.seq ?_
          refine LWp.reg hT hW (fun _ => none) (fun _ => ⟨rfl, fun _ h => h⟩) ?_
          simp
          refine LWp.iff ?_
          simp
          refine ⟨fun h15 => ?_, fun h15 => ?_⟩
          · have hnk := needs_le hkl
            refine LWp.regAny hT hW hMixed (lk [[], [], [1], [0, 1, 2], [], [], [4, 5], [4, 5, 6], [4, 5, 6, 7], [4, 5, 6, 7, 8], [0, 1, 2, 3, 4, 5, 6, 7, 8, 9], [0, 1, 2, 3, 4, 5, 6, 7, 8, 9, 10], [0, 1, 2, 3, 4, 5, 6, 7, 8, 9, 10, 11], [0, 1, 2, 3, 4, 5, 6, 7, 8, 9, 10, 11, 12]]) (lk [[85], [76, 85], [76, 85], [85], [76, 79], [76, 79], [76, 79], [76, 79], [76, 79], [76, 79], [], [], [], []]) (lk [[76], [], [], [76, 79], [], [], [], [], [], [85], [79, 86], [87], [], [10]]) (by kernel_rfl) (fun | 87 => some <| .plain ⟨.d (nmsD (sortN (l[k].needs ++ [l[j].name]))), true⟩ | _ => none) (by intro d; first | exact ⟨rfl, fun _ h => h⟩ | (split <;> exact ⟨rfl, fun _ h => h⟩)) ?_
            simp [hjl]
            refine ⟨⟨by omega, by rw [List.take_of_length_le (by simp)]; simpa [nmsD, Nm.d] using Sort_ok (l[k].needs ++ [l[j].name]) (by simp; omega)⟩, ?_⟩
            refine LWp.seq ?_
            refine LWp.reg hT hW (fun _ => none) (fun _ => ⟨rfl, fun _ h => h⟩) ?_
            simp
            refine ⟨by omega, ?_⟩
            refine LWp.seq ?_
            refine LWp.reg hT hW (fun _ => none) (fun _ => ⟨rfl, fun _ h => h⟩) ?_
            simp
            refine LWp.ret ?_
            refine retR_ret.2 ⟨_, ⟨l.set k { l[k] with needs := sortN (l[k].needs ++ [l[j].name]) }, SpB.set hkl (by have := sortN_len (l[k].needs ++ [l[j].name]); simp at this; simp; omega) (by simp) (by simp), rfl⟩, by simp, ?_⟩
            simp [List.map_set]
            rw [List.take_of_length_le (by simp)]
          · refine LWp.seq ?_
            refine LWp.reg hT hW (fun _ => none) (fun _ => ⟨rfl, fun _ h => h⟩) ?_
            simp
            refine LWp.iff ?_
            simp
            refine ⟨fun h17 => ?_, fun h17 => ?_⟩
            · have hnk := needs_le hkl
              obtain ⟨z1, z2⟩ := around_lt b 5 (by decide)
              refine LWp.reg hT hW (fun | 96 => some <| .plain ⟨.d (I64 (around b 5)), true⟩ | _ => none) (by intro d; first | exact ⟨rfl, fun _ h => h⟩ | (split <;> exact ⟨rfl, fun _ h => h⟩)) ?_
              simp
              refine ⟨⟨⟨⟨by omega, Around_ok b 5 h1 h2 (by decide)⟩, by omega⟩, by omega⟩, ?_⟩
              refine LWp.seq ?_
              refine LWp.reg hT hW (fun _ => none) (fun _ => ⟨rfl, fun _ h => h⟩) ?_
              simp
              refine ⟨by omega, ?_⟩
              refine LWp.seq ?_
              refine LWp.reg hT hW (fun _ => none) (fun _ => ⟨rfl, fun _ h => h⟩) ?_
              simp
              refine LWp.ret ?_
              refine retR_ret.2 ⟨_, ⟨l.set k { l[k] with needs := l[k].needs ++ [⟨around b 5 - 1, 5⟩] }, SpB.set hkl (by simp) (by simp) (by simp), rfl⟩, by simp, ?_⟩
              simp [List.map_set, Nm.d]
              rw [List.take_of_length_le (by simp), List.take_of_length_le (by simp)]
            · refine LWp.seq ?_
              refine LWp.reg hT hW (fun _ => none) (fun _ => ⟨rfl, fun _ h => h⟩) ?_
              simp
              refine LWp.iff ?_
              simp
              refine ⟨fun h19 => ?_, fun h19 => ?_⟩
              · have hsk := hs _ (List.getElem_mem hkl)
                refine LWp.reg hT hW (fun | 110 => some <| .plain ⟨.d (defD b how).d, true⟩ | _ => none) (by intro d; first | exact ⟨rfl, fun _ h => h⟩ | (split <;> exact ⟨rfl, fun _ h => h⟩)) ?_
                simp
                refine ⟨⟨⟨by omega, by simpa [Df.d] using def_ok b how h1 h2 h3 h4⟩, by omega⟩, ?_⟩
                refine LWp.seq ?_
                refine LWp.reg hT hW (fun _ => none) (fun _ => ⟨rfl, fun _ h => h⟩) ?_
                simp
                refine ⟨by omega, ?_⟩
                refine LWp.seq ?_
                refine LWp.reg hT hW (fun _ => none) (fun _ => ⟨rfl, fun _ h => h⟩) ?_
                simp
                refine LWp.ret ?_
                refine retR_ret.2 ⟨_, ⟨l.set k { l[k] with puts := l[k].puts ++ [defD b how] }, SpB.set hkl (by simp) (by simp) (by simp), rfl⟩, by simp, ?_⟩
                simp [List.map_set, Df.d]
                rw [List.take_of_length_le (by simp), List.take_of_length_le (by simp)]
              · refine LWp.seq ?_
                refine LWp.reg hT hW (fun _ => none) (fun _ => ⟨rfl, fun _ h => h⟩) ?_
                simp
                refine LWp.iff ?_
                simp
                refine ⟨fun h21 => ?_, fun h21 => ?_⟩
                · have hsk := hs _ (List.getElem_mem hkl)
                  obtain ⟨z1, z2⟩ := around_lt b 6 (by decide)
                  obtain ⟨z, hz⟩ : ∃ z : Nat, (z : Int) = around b 6 := ⟨(around b 6).toNat, by omega⟩
                  have hzl : z < 6 := by omega
                  have hr6 : [0, 1, 2, 3, 4, 5] = List.range 6 := by decide
                  obtain ⟨q, hq⟩ : ∃ q : Str, [DV.str [], DV.str [97], DV.str [100], DV.str [122, 111, 111],
                      DV.str [97, 98, 99, 100, 101, 102, 103, 104, 105, 106, 107, 108, 109, 110, 111, 112],
                      DV.str [97, 98, 99, 100, 101, 102, 103, 104, 105, 106, 107, 108, 109, 110, 111, 112, 113]][z]? = some (.str q) := by
                    rcases (by omega : z = 0 ∨ z = 1 ∨ z = 2 ∨ z = 3 ∨ z = 4 ∨ z = 5) with rfl | rfl | rfl | rfl | rfl | rfl <;> exact ⟨_, rfl⟩
                  refine LWp.reg hT hW (fun | 122 => some <| .plain ⟨.d (I64 z), true⟩ | _ => none) (by intro d; first | exact ⟨rfl, fun _ h => h⟩ | (split <;> exact ⟨rfl, fun _ h => h⟩)) ?_
                  simp [hq, hr6]
                  refine ⟨⟨⟨⟨⟨by omega, by rw [hz]; exact Around_ok b 6 h1 h2 (by decide)⟩, by omega⟩, by omega⟩, by omega⟩, ?_⟩
                  refine LWp.seq ?_
                  refine LWp.reg hT hW (fun _ => none) (fun _ => ⟨rfl, fun _ h => h⟩) ?_
                  simp
                  refine ⟨by omega, ?_⟩
                  refine LWp.seq ?_
                  refine LWp.reg hT hW (fun _ => none) (fun _ => ⟨rfl, fun _ h => h⟩) ?_
                  simp
                  refine LWp.ret ?_
                  refine retR_ret.2 ⟨_, ⟨l.set k { l[k] with drops := l[k].drops ++ [q] }, SpB.set hkl (by simp) (by simp) (by simp), rfl⟩, by simp, ?_⟩
                  simp [List.map_set]
                  rw [List.take_of_length_le (by simp), List.take_of_length_le (by simp)]
                · refine LWp.seq ?_
                  refine LWp.reg hT hW (fun _ => none) (fun _ => ⟨rfl, fun _ h => h⟩) ?_
                  simp
                  refine LWp.iff ?_
                  simp
                  refine ⟨fun h23 => ?_, fun h23 => ?_⟩
                  · refine LWp.seq ?_
                    obtain ⟨z1, z2⟩ := around_lt b 4 (by decide)
                    obtain ⟨z, hz⟩ : ∃ z : Nat, (z : Int) = around b 4 := ⟨(around b 4).toNat, by omega⟩
                    refine LWp.reg hT hW (fun | 131 => some <| .plain ⟨.d (I64 z), true⟩ | _ => none) (by intro d; first | exact ⟨rfl, fun _ h => h⟩ | (split <;> exact ⟨rfl, fun _ h => h⟩)) ?_
                    simp
                    refine ⟨⟨⟨by rw [hz]; exact Around_ok b 4 h1 h2 (by decide), by omega⟩, by omega⟩, ?_⟩
                    refine LWp.reg hT hW (fun _ => none) (fun _ => ⟨rfl, fun _ h => h⟩) ?_
                    simp
                    refine LWp.seq ?_
                    refine LWp.reg hT hW (fun _ => none) (fun _ => ⟨rfl, fun _ h => h⟩) ?_
                    simp
                    refine ⟨by omega, ?_⟩
                    refine LWp.seq ?_
                    refine LWp.reg hT hW (fun _ => none) (fun _ => ⟨rfl, fun _ h => h⟩) ?_
                    simp
                    refine LWp.ret ?_
                    refine retR_ret.2 ⟨_, ⟨l.set k { l[k] with puts := [⟨[97], List.replicate (1023 + (z : Int)).toNat 0⟩] }, SpB.set hkl (by simp) (by simp) (by simp), rfl⟩, by simp, ?_⟩
                    simp [List.map_set, Df.d, byteOf]
                    rw [List.take_of_length_le (by simp)]
                  · refine LWp.seq ?_
                    refine LWp.reg hT hW (fun _ => none) (fun _ => ⟨rfl, fun _ h => h⟩) ?_
                    simp
                    refine LWp.iff ?_
                    simp
                    refine ⟨fun h26 => ?_, fun h26 => ?_⟩
                    · refine LWp.seq ?_
                      refine LWp.regAny hT hW hMixed (lk [[], [], [0, 1], [], [], [4], [3, 4, 5], [0, 1, 2, 3, 4, 5, 6], [0, 1, 2, 3, 4, 5, 6, 7]]) (lk [[], [], [], [], [], [], [], [], []]) (lk [[], [], [], [], [], [], [], [15], [6]]) (by kernel_rfl) (fun | 148 => some .inp | _ => none) (by intro d; first | exact ⟨rfl, fun _ h => h⟩ | (split <;> exact ⟨rfl, fun _ h => h⟩)) ?_
                      simp [(show ((l.length : Int) - ((k : Int) + 1)).toNat = l.length - (k + 1) by omega), (show k + (l.length - (k + 1)) = l.length - 1 by omega)]
                      refine ⟨by omega, ?_⟩
                      refine LWp.ret ?_
                      refine retR_ret.2 ⟨_, ⟨l.eraseIdx k, SpB.erase l k, rfl⟩, by simp, ?_⟩
                      simp [erase_row hkl]
                    · refine LWp.seq ?_
                      refine LWp.reg hT hW (fun _ => none) (fun _ => ⟨rfl, fun _ h => h⟩) ?_
                      simp
                      refine LWp.iff ?_
                      simp
                      refine ⟨fun h28 => ?_, fun h28 => ?_⟩
                      · refine LWp.seq ?_
                        refine LWp.block ?_
                        refine LWp.loopW (ι := List Ed) (fun m => mkEnv [(2, .d (I64 b)), (7, .ow 15 0 m.length)]) (fun m => mkObs [(15, .row false 5 (m.map Ed.d))]) (fun m => SpB l m) (fun m => 70 - m.length) l (Weak.to [2, 7] [(15, 15)] (by decide) (by decide) (by simp [hp]) (by simp) (by simp)) (SpB.refl l) fun m hi29 => ?_
                        refine LWp.seq ?_
                        refine LWp.seq ?_
                        obtain ⟨z1, z2⟩ := around_lt b 4 (by decide)
                        obtain ⟨z, hz⟩ : ∃ z : Nat, (z : Int) = around b 4 := ⟨(around b 4).toNat, by omega⟩
                        refine LWp.reg hT hW (fun | 154 => some <| .plain ⟨.d (I64 z), true⟩ | _ => none) (by intro d; first | exact ⟨rfl, fun _ h => h⟩ | (split <;> exact ⟨rfl, fun _ h => h⟩)) ?_
                        simp
                        refine ⟨⟨by rw [hz]; exact Around_ok b 4 h1 h2 (by decide), by omega⟩, ?_⟩
                        refine LWp.iff ?_
                        simp
                        refine ⟨fun h29 => ?_, fun h29 => ?_⟩
                        · refine LWp.skip ?_
                          simp
                          refine LWp.block ?_
                          refine LWp.reg hT hW (fun _ => none) (fun _ => ⟨rfl, fun _ h => h⟩) ?_
                          simp
                          refine ⟨by omega, ?_⟩
                          refine loopQ.mk (m ++ [⟨⟨3, ((m.length : Int)).tmod 64⟩, [], [], []⟩]) (Weak.to [2, 7] [(164, 15)] (by decide) (by decide) (by simp [hp]) (by simp) (by simp)) ?_ ?_
                          · exact hi29.push (by omega) _
                          · simp; omega
                        · refine LWp.exit ?_
                          simp
                          refine LWp.seq ?_
                          refine LWp.reg hT hW (fun _ => none) (fun _ => ⟨rfl, fun _ h => h⟩) ?_
                          simp
                          refine LWp.ret ?_
                          refine retR_ret.2 ⟨_, ⟨m, hi29, rfl⟩, by simp, ?_⟩
                          simp
                      · refine LWp.seq ?_
                        refine LWp.reg hT hW (fun _ => none) (fun _ => ⟨rfl, fun _ h => h⟩) ?_
                        simp
                        refine LWp.iff ?_
                        simp
                        refine ⟨fun h32 => ?_, fun h32 => ?_⟩
                        · refine LWp.seq ?_
                          refine LWp.reg hT hW (fun _ => none) (fun _ => ⟨rfl, fun _ h => h⟩) ?_
                          simp
                          refine LWp.nlCell (fz := false) (cs := [.d (I64 l[k].name.who), .d (I64 l[k].name.seq), .d (nmsD l[k].needs), .nl, .d (.sl (l[k].drops.map .str))]) 10 3 1190 2 (by decide) ⟨by simp, by simp, by simp, ?_⟩
                          simp
                          refine LWp.seq ?_
                          refine LWp.reg hT hW (fun _ => none) (fun _ => ⟨rfl, fun _ h => h⟩) ?_
                          simp
                          refine LWp.block ?_
                          refine LWp.loopW (ι := List Df) (fun ps => mkEnv [(2, .d (I64 b)), (7, .ow 15 0 l.length), (8, .d (I64 k)), (10, .bx 10 0), (12, .d (I64 ps.length))]) (fun ps => mkObs [(15, .row false 5 (l.map Ed.d)), (10, .box false [.d (I64 l[k].name.who), .d (I64 l[k].name.seq), .d (nmsD l[k].needs), .ow 1190 0 ps.length, .d (.sl (l[k].drops.map .str))]), (1190, .row false 2 (ps.map Df.d))]) (fun ps => ps.length ≤ 26) (fun ps => 30 - ps.length) [] (Weak.to [2, 7, 8, 10, 12] [(15, 15), (10, 10), (1190, 1190)] (by decide) (by decide) (by simp [hp]) (by simp) (by simp)) (Nat.zero_le _) fun ps hi35 => ?_
                          refine LWp.seq ?_
                          refine LWp.seq ?_
                          obtain ⟨z1, z2⟩ := around_lt b 4 (by decide)
                          obtain ⟨z, hz⟩ : ∃ z : Nat, (z : Int) = around b 4 := ⟨(around b 4).toNat, by omega⟩
                          refine LWp.reg hT hW (fun | 171 => some <| .plain ⟨.d (I64 z), true⟩ | _ => none) (by intro d; first | exact ⟨rfl, fun _ h => h⟩ | (split <;> exact ⟨rfl, fun _ h => h⟩)) ?_
                          simp
                          refine ⟨⟨by rw [hz]; exact Around_ok b 4 h1 h2 (by decide), by omega⟩, ?_⟩
                          refine LWp.iff ?_
                          simp
                          refine ⟨fun h35 => ?_, fun h35 => ?_⟩
                          · refine LWp.skip ?_
                            simp
                            refine LWp.seq ?_
                            refine LWp.block ?_
                            have ht1 : 0 ≤ ((ps.length : Int)).tmod 26 := Int.tmod_nonneg _ (by omega)
                            have ht2 : ((ps.length : Int)).tmod 26 < 26 := Int.tmod_lt_of_pos _ (by omega)
                            refine LWp.reg hT hW (fun _ => none) (fun _ => ⟨rfl, fun _ h => h⟩) ?_
                            simp
                            refine ⟨⟨⟨⟨⟨by omega, by omega⟩, by omega⟩, by decide⟩, by omega⟩, ?_⟩
                            refine LWp.reg hT hW (fun _ => none) (fun _ => ⟨rfl, fun _ h => h⟩) ?_
                            simp
                            refine ⟨by omega, ?_⟩
                            refine loopQ.mk (ps ++ [⟨[byteOf (.int .u8 120), byteOf (.int .u8 (IntKind.u8.wrap (97 + ((ps.length : Int)).tmod 26))), byteOf (.int .u8 (IntKind.u8.wrap (97 + (ps.length : Int) / 26)))], []⟩]) (Weak.to [2, 7, 8, 10, 12] [(15, 15), (10, 10), (190, 1190)] (by decide) (by decide) (by simp [hp]) (by simp) (by simp)) ?_ ?_
                            · simp; omega
                            · simp; omega
                          · refine LWp.exit ?_
                            simp
                            refine LWp.seq ?_
                            refine LWp.reg hT hW (fun _ => none) (fun _ => ⟨rfl, fun _ h => h⟩) ?_
                            simp
                            refine ⟨by omega, ?_⟩
                            refine LWp.seq ?_
                            refine LWp.reg hT hW (fun _ => none) (fun _ => ⟨rfl, fun _ h => h⟩) ?_
                            simp
                            refine LWp.ret ?_
                            refine retR_ret.2 ⟨_, ⟨l.set k { l[k] with puts := ps }, SpB.set hkl (by simp) (by simp; omega) (by simp), rfl⟩, by simp, ?_⟩
                            simp [List.map_set]
                            rw [List.take_of_length_le (by simp)]
                        · have hnk := needs_le hkl
                          refine LWp.regAny hT hW hMixed (lk [[], [], [0, 1], [0, 1, 2], [0, 1, 2, 3], [0, 1, 2, 3, 4], [], [6], [0, 1, 2, 3, 4, 5, 6, 7], [0, 1, 2, 3, 4, 5, 6, 7, 8], [0, 1, 2, 3, 4, 5, 6, 7, 8, 9]]) (lk [[], [], [], [], [], [], [44], [44], [], [], []]) (lk [[], [], [], [], [], [44], [], [], [44, 47], [], [10]]) (by kernel_rfl) (fun _ => none) (fun _ => ⟨rfl, fun _ h => h⟩) ?_
                          simp [hjl]
                          refine ⟨by omega, ?_⟩
                          refine LWp.seq ?_
                          refine LWp.reg hT hW (fun _ => none) (fun _ => ⟨rfl, fun _ h => h⟩) ?_
                          simp
                          refine ⟨by omega, ?_⟩
                          refine LWp.seq ?_
                          refine LWp.reg hT hW (fun _ => none) (fun _ => ⟨rfl, fun _ h => h⟩) ?_
                          simp
                          refine LWp.ret ?_
                          refine retR_ret.2 ⟨_, ⟨l.set k { l[k] with needs := l[j].name :: l[k].needs }, SpB.set hkl (by simp) (by simp) (by simp), rfl⟩, by simp, ?_⟩
                          simp [List.map_set]
                          rw [List.take_of_length_le (by simp), List.take_of_length_le (by simp; omega)]

end Go.Eng

/-
  Chapter 22: the statements' lists. No condition.
-/
namespace Go.Eng
open Go.Proofs
attribute [local simp] runL stepL evalG evalOp opLV constLV putEnv dstOk upd upds Res.plain Res.cond Res.fail evalBin evalUn seqQ blockQ argsEnv lookL lookH RetIs memless freshL evalPick evalMin bval bok evalLen evalIn strip whenC guardOps guardC slotsOf
  runM foldS stepI stepM maskE wrIn lk renO lookN evalCall evalCallee optAll resLV resObj retLV retObj retsLV retsObj evalLoad evalIndexAddr evalField solid cellsD_agg cellsD_int cellsD_bool cellsD_str cellsD_sl cellsD_ro cellsD_fn cellsL_agg cellsL_dagg cellsL_int cellsL_bool cellsL_str cellsL_sl cellsL_fn cellsL_ow cellsL_bx cellsL_lfn cellsL_nl takeL takeD mkAgg allD eqD eqDs kindsAre kindIs LObj.live TK.isNone TK.agg TK.isBool TK.isStr TK.isStruct Op.operands Call.operands
  evalBuildSlice evalAppend elemsOf evalStore evalBuild fillL lookupF putL evalSlice bound evalConv elemsS freezes frozen loadR
  mkEnv_at mkObs_at close_d close_agg close_ow close_bx close_fn close_nl touch_d touch_agg touch_ow touch_bx touch_fn touch_nl ren_d ren_agg ren_bx ren_rp ren_ow ren_fn ren_nl ren_junk retQ_ret retQ2_ret condQ_bool Nm.d Df.d Ed.d nmsD dfsD strsD edsD retC_ret nm_eq df_eq take_map_len take_map_app
  nm_t nm_d nm_td df_t df_d df_td str_t str_d str_td ed_t ed_d ed_td
  evalAppendIn evalCut evalClear evalCopy evalMake evalWrap evalCap evalNil isNilC lenL isInp gorc
  mapOf findD keyEq keyOk evalMakeMap evalRange zeroD zeroDV argsG shutG outN lenv retG0_ret retG0_normal retG1_ret renO close_mp touch_mp ren_mp optAll_d optAll_d' touch_ds cellsL_mp cellsD_mp cellsL_dmp

theorem madeL_len (l : List Int) : (madeL l).length ≤ 6 := by
  have := (atL_range l 0 7 (by decide)).2
  rw [madeL, madeTo_len]; omega
theorem madeTo_mem {l : List Int} {e : Ed} : ∀ {c : Nat}, e ∈ madeTo l c → ∃ i, i < c ∧ e = madeE l (madeTo l i) i
  | 0, h => by simp [madeTo] at h
  | c + 1, h => by
    simp only [madeTo, List.mem_append, List.mem_singleton] at h
    rcases h with h | h
    · obtain ⟨i, hi, he⟩ := madeTo_mem h
      exact ⟨i, by omega, he⟩
    · exact ⟨c, by omega, h⟩
theorem madeE_needs (l : List Int) (out : List Ed) (i : Nat) : (madeE l out i).needs.length ≤ out.length := by
  have h := madeNeeds_len (atL l (2 + 3 * i) 4096) (sortN (out.map Ed.name)) (sortN (out.map Ed.name)).length
  have := sortN_len (out.map Ed.name)
  simp [madeE] at *; omega
theorem made_mem {l : List Int} {e : Ed} (h : e ∈ madeL l) : e.needs.length ≤ 6 ∧ e.puts.length ≤ 4 ∧ e.drops.length ≤ 4 := by
  obtain ⟨i, hi, rfl⟩ := madeTo_mem h
  have := (atL_range l 0 7 (by decide)).2
  have h1 := madeE_needs l (madeTo l i) i
  rw [madeTo_len] at h1
  exact ⟨by omega, madePuts_len _ _ 4, madeDrops_len _ 4⟩
theorem flat_le {α β : Type} {f : α → List β} {m : Nat} : ∀ {l : List α}, (∀ x ∈ l, (f x).length ≤ m) → (l.flatMap f).length ≤ l.length * m
  | [], _ => by simp
  | a :: l, h => by
    have h1 := h a (by simp)
    have h2 := flat_le (l := l) fun x hx => h x (by simp [hx])
    simp only [List.flatMap_cons, List.length_append, List.length_cons, Nat.add_mul]
    omega
theorem made_needs (l : List Int) : (allNeeds (madeL l)).length ≤ 36 := by
  have h := flat_le (f := Ed.needs) (l := madeL l) fun x hx => (made_mem hx).1
  have := madeL_len l
  unfold allNeeds; omega
theorem made_small (l : List Int) : small (madeL l) := fun e he => by have := made_mem he; omega
/-- The lists that a statement is about. -/
structure ListsB (a L1 L2 : List Ed) : Prop where
  len1 : L1.length ≤ 73
  len2 : L2.length ≤ 140
  need1 : (allNeeds L1).length ≤ 37
  need2 : (allNeeds L2).length ≤ 38
  part1 : ∀ e ∈ L1, e.puts.length ≤ 31 ∧ e.drops.length ≤ 31
  part2 : ∀ e ∈ L2, e.puts.length ≤ 58 ∧ e.drops.length ≤ 58
theorem lists_b {l : List Int} {L1 L2 : List Ed} (h1 : SpB (madeL l) L1) (h2 : SpB L1 L2) : ListsB (madeL l) L1 L2 := by
  have a := madeL_len l
  have b := made_needs l
  have p := h1.parts 4 fun e he => (made_mem he).2
  have q := h2.parts 31 p
  refine ⟨by have := h1.len; omega, by have := h1.len; have := h2.len; omega, by have := h1.needs; omega, by have := h1.needs; have := h2.needs; omega, p, q⟩

/-- culprit/culpritlaw22.lists -/
theorem lists_ok (l : List Int) (how b : Int) (hr : ∀ n ∈ l, -9223372036854775808 ≤ n ∧ n ≤ 9223372036854775807) (h1 : -9223372036854775808 ≤ b) (h2 : b ≤ 9223372036854775807) (h3 : -9223372036854775808 ≤ how) (h4 : how ≤ 9223372036854775807) : OkR Tryz.prog 12 [.sl (l.map I64), I64 how, I64 b] (fun r => (fun v => ∃ L1 L2 : List Ed, SpB (madeL l) L1 ∧ SpB L1 L2 ∧ v = .d (.sl [edsD (madeL l), edsD L1, edsD L2, edsD (turnedL (madeL l) b), .sl []])) r.v ∧ r.fresh = false) := by
  refine OkR.ret (Rel := fun v => ∃ L1 L2 : List Ed, SpB (madeL l) L1 ∧ SpB L1 L2 ∧ v = .d (.sl [edsD (madeL l), edsD L1, edsD L2, edsD (turnedL (madeL l) b), .sl []])) Tryz.func12 (by kernel_rfl) (c := _) rfl Tryz.ntmps12 (by simp) Tryz.results12 fun w0 X hp => ?_
  refine LWp.seq ?_
  refine LWp.reg hT hW (fun _ => none) (fun _ => ⟨rfl, fun _ h => h⟩) ?_
  simp
  refine LWp.seq ?_
  have hal := madeL_len l
  have han := made_needs l
  have has := made_small l
  have hok := Made_ok l hr
  obtain ⟨a, haa⟩ : ∃ a, a = madeL l := ⟨_, rfl⟩
  rw [← haa] at hal han has hok
  refine LWp.reg hT hW (fun | 10 => some <| .plain ⟨.d (edsD a), false⟩ | _ => none) (by intro d; first | exact ⟨rfl, fun _ h => h⟩ | (split <;> exact ⟨rfl, fun _ h => h⟩)) ?_
  simp
  refine ⟨hok, ?_⟩
  refine LWp.seq ?_
  refine LWp.regRel hT hW 14 (fun r => (∃ L : List Ed, SpB a L ∧ r.v = .d (edsD L)) ∧ r.fresh = false) false ⟨.d (edsD a), false⟩ ⟨⟨⟨a, SpB.refl a, rfl⟩, rfl⟩, rfl⟩ (fun | 99 => none | _ => none) (by intro d; first | exact ⟨rfl, fun _ h => h⟩ | (split <;> exact ⟨rfl, fun _ h => h⟩)) (by kernel_rfl) fun r2 hr2 => ?_
  obtain ⟨v2, f2⟩ := r2
  obtain ⟨⟨L1, hL1, hv⟩, hf⟩ := hr2
  dsimp only at hv hf
  subst hv; subst hf
  obtain ⟨b1, b2, b3, b4⟩ : L1.length ≤ 73 ∧ (allNeeds L1).length ≤ 37 ∧ small L1 ∧ True := by
    have q := hL1.parts 4 fun e he => (made_mem (l := l) (haa ▸ he)).2
    exact ⟨by have := hL1.len; omega, by have := hL1.needs; omega, fun e he => by have := q e he; omega, trivial⟩
  simp
  refine ⟨Spoilt_ok a how b (by omega) has (by omega) h1 h2 h3 h4, ?_⟩
  refine LWp.seq ?_
  refine LWp.regRel hT hW 20 (fun r => (∃ L : List Ed, SpB L1 L ∧ r.v = .d (edsD L)) ∧ r.fresh = false) false ⟨.d (edsD L1), false⟩ ⟨⟨⟨L1, SpB.refl L1, rfl⟩, rfl⟩, rfl⟩ (fun | 23 => some <| .plain ⟨.d (edsD (turnedL a b)), false⟩ | _ => none) (by intro d; first | exact ⟨rfl, fun _ h => h⟩ | (split <;> exact ⟨rfl, fun _ h => h⟩)) (by kernel_rfl) fun r3 hr3 => ?_
  obtain ⟨v3, f3⟩ := r3
  obtain ⟨⟨L2, hL2, hv⟩, hf⟩ := hr3
  dsimp only at hv hf
  subst hv; subst hf
  simp
  refine ⟨⟨⟨Spoilt_ok L1 b how (by omega) b3 (by omega) h3 h4 h1 h2, Turned_ok a b (by omega) h1 h2⟩, by decide⟩, ?_⟩
  refine LWp.ret ?_
  refine retR_ret.2 ⟨_, ⟨L1, haa ▸ hL1, L2, hL2, rfl⟩, by simp, ?_⟩
  simp [haa]

end Go.Eng

/-
  Chapter 22: the statements' example. No condition.
-/
namespace Go.Eng
open Go.Proofs
attribute [local simp] runL stepL evalG evalOp opLV constLV putEnv dstOk upd upds Res.plain Res.cond Res.fail evalBin evalUn seqQ blockQ argsEnv lookL lookH RetIs memless freshL evalPick evalMin bval bok evalLen evalIn strip whenC guardOps guardC slotsOf
  runM foldS stepI stepM maskE wrIn lk renO lookN evalCall evalCallee optAll resLV resObj retLV retObj retsLV retsObj evalLoad evalIndexAddr evalField solid cellsD_agg cellsD_int cellsD_bool cellsD_str cellsD_sl cellsD_ro cellsD_fn cellsL_agg cellsL_dagg cellsL_int cellsL_bool cellsL_str cellsL_sl cellsL_fn cellsL_ow cellsL_bx cellsL_lfn cellsL_nl takeL takeD mkAgg allD eqD eqDs kindsAre kindIs LObj.live TK.isNone TK.agg TK.isBool TK.isStr TK.isStruct Op.operands Call.operands
  evalBuildSlice evalAppend elemsOf evalStore evalBuild fillL lookupF putL evalSlice bound evalConv elemsS freezes frozen loadR
  mkEnv_at mkObs_at close_d close_agg close_ow close_bx close_fn close_nl touch_d touch_agg touch_ow touch_bx touch_fn touch_nl ren_d ren_agg ren_bx ren_rp ren_ow ren_fn ren_nl ren_junk retQ_ret retQ2_ret condQ_bool Nm.d Df.d Ed.d nmsD dfsD strsD edsD retC_ret nm_eq df_eq take_map_len take_map_app
  nm_t nm_d nm_td df_t df_d df_td str_t str_d str_td ed_t ed_d ed_td
  evalAppendIn evalCut evalClear evalCopy evalMake evalWrap evalCap evalNil isNilC lenL isInp gorc
  mapOf findD keyEq keyOk evalMakeMap evalRange zeroD zeroDV argsG shutG outN lenv retG0_ret retG0_normal retG1_ret renO close_mp touch_mp ren_mp optAll_d optAll_d' touch_ds cellsL_mp cellsD_mp cellsL_dmp

/-- The example of the section: its program and its edits. -/
def exB : List Df := [⟨[97], [118, 97, 114, 32, 97, 32, 61, 32, 49, 59]⟩, ⟨[98], [108, 111, 99, 107, 32, 98, 59]⟩]
def exL : List Ed :=
  [⟨⟨0, 1⟩, [], [⟨[97], [118, 97, 114, 32, 97, 32, 61, 32, 50, 59]⟩], []⟩,
   ⟨⟨1, 0⟩, [⟨0, 1⟩], [], [[98]]⟩,
   ⟨⟨1, 1⟩, [], [⟨[97], [118, 97, 114, 32, 97, 32, 61, 32, 51, 59]⟩], []⟩,
   ⟨⟨2, 0⟩, [⟨0, 1⟩, ⟨1, 1⟩], [⟨[97], [118, 97, 114, 32, 97, 32, 61, 32, 53, 59]⟩], []⟩]

/-- culprit/culpritlaw22.example -/
theorem example_ok  : Ok Tryz.prog 68 [] ⟨.tup [.d (.sl (exB.map Df.d)), .d (edsD exL)], false⟩ := by
  refine Ok.twod Tryz.func68 (by kernel_rfl) (c := _) rfl Tryz.ntmps68 (by simp) Tryz.results68  fun w0 X hp => ?_
  refine LWp.seq ?_
  refine LWp.reg hT hW (fun _ => none) (fun _ => ⟨rfl, fun _ h => h⟩) ?_
  simp
  refine LWp.seq ?_
  refine LWp.reg hT hW (fun _ => none) (fun _ => ⟨rfl, fun _ h => h⟩) ?_
  simp [(show [0, 1] = List.range 2 from rfl)]
  refine LWp.seq ?_
  refine LWp.reg hT hW (fun _ => none) (fun _ => ⟨rfl, fun _ h => h⟩) ?_
  simp
  refine LWp.seq ?_
  refine LWp.reg hT hW (fun _ => none) (fun _ => ⟨rfl, fun _ h => h⟩) ?_
  simp
  refine LWp.seq ?_
  refine LWp.regAny hT hW hMixed (lk [[], [], [], [2], [1, 2, 3], [], [], [6], [], [5, 6, 7, 8], [], [], [11], [10, 11, 12], [], [], [], [15, 16], [], [18], [14, 15, 16, 17, 18, 19], [1, 2, 3, 4, 5, 6, 7, 8, 9, 10, 11, 12, 13, 14, 15, 16, 17, 18, 19, 20], [0], [0, 1, 2, 3, 4, 5, 6, 7, 8, 9, 10, 11, 12, 13, 14, 15, 16, 17, 18, 19, 20, 21, 22]]) (lk [[13, 17, 18, 22, 27, 29, 31], [0, 13, 17, 18, 22, 27, 29], [0, 17, 18, 22, 27, 29], [0, 17, 18, 22, 27, 29], [0, 17, 18, 22, 27, 29], [0, 13, 17, 18, 22, 27, 29], [0, 13, 18, 22, 27, 29], [0, 13, 18, 22, 27, 29], [0, 13, 17, 22, 27, 29], [0, 13, 22, 27, 29], [0, 13, 17, 18, 22, 27, 29], [0, 13, 17, 18, 27, 29], [0, 13, 17, 18, 27, 29], [0, 13, 17, 18, 27, 29], [0, 13, 17, 18, 22, 27, 29], [0, 13, 17, 18, 22, 29], [0, 13, 17, 18, 22, 29], [0, 13, 17, 18, 22, 29], [0, 13, 17, 18, 22, 27], [0, 13, 17, 18, 22, 27], [0, 13, 17, 18, 22], [0], [13, 17, 18, 22, 27, 29, 31], []]) (lk [[], [], [], [13], [], [], [], [17], [18], [], [], [], [22], [], [], [], [], [27], [], [29], [], [31, 13, 17, 18, 22, 27, 29], [0], [1]]) (by kernel_rfl) (fun _ => none) (fun _ => ⟨rfl, fun _ h => h⟩) ?_
  simp [(show [0, 1] = List.range 2 from rfl), (show [0, 1, 2, 3] = List.range 4 from rfl)]
  refine LWp.ret ?_
  simp [exB, exL, Ed.d, Df.d, Nm.d]

end Go.Eng

/-
  Chapter 22: the statements' example holds. No condition.
-/
namespace Go.Eng
open Go.Proofs
attribute [local simp] runL stepL evalG evalOp opLV constLV putEnv dstOk upd upds Res.plain Res.cond Res.fail evalBin evalUn seqQ blockQ argsEnv lookL lookH RetIs memless freshL evalPick evalMin bval bok evalLen evalIn strip whenC guardOps guardC slotsOf
  runM foldS stepI stepM maskE wrIn lk renO lookN evalCall evalCallee optAll resLV resObj retLV retObj retsLV retsObj evalLoad evalIndexAddr evalField solid cellsD_agg cellsD_int cellsD_bool cellsD_str cellsD_sl cellsD_ro cellsD_fn cellsL_agg cellsL_dagg cellsL_int cellsL_bool cellsL_str cellsL_sl cellsL_fn cellsL_ow cellsL_bx cellsL_lfn cellsL_nl takeL takeD mkAgg allD eqD eqDs kindsAre kindIs LObj.live TK.isNone TK.agg TK.isBool TK.isStr TK.isStruct Op.operands Call.operands
  evalBuildSlice evalAppend elemsOf evalStore evalBuild fillL lookupF putL evalSlice bound evalConv elemsS freezes frozen loadR
  mkEnv_at mkObs_at close_d close_agg close_ow close_bx close_fn close_nl touch_d touch_agg touch_ow touch_bx touch_fn touch_nl ren_d ren_agg ren_bx ren_rp ren_ow ren_fn ren_nl ren_junk retQ_ret retQ2_ret condQ_bool Nm.d Df.d Ed.d nmsD dfsD strsD edsD retC_ret nm_eq df_eq take_map_len take_map_app
  nm_t nm_d nm_td df_t df_d df_td str_t str_d str_td ed_t ed_d ed_td
  evalAppendIn evalCut evalClear evalCopy evalMake evalWrap evalCap evalNil isNilC lenL isInp gorc
  mapOf findD keyEq keyOk evalMakeMap evalRange zeroD zeroDV argsG shutG outN lenv retG0_ret retG0_normal retG1_ret renO close_mp touch_mp ren_mp optAll_d optAll_d' touch_ds cellsL_mp cellsD_mp cellsL_dmp

def exN : List Nm := [⟨0, 1⟩, ⟨1, 0⟩, ⟨1, 1⟩, ⟨2, 0⟩]
def exP : List Df := [⟨[97], [118, 97, 114, 32, 97, 32, 61, 32, 50, 59]⟩]
def exA : List Df := [⟨[97], [118, 97, 114, 32, 97, 32, 61, 32, 53, 59]⟩, ⟨[98], [108, 111, 99, 107, 32, 98, 59]⟩]
theorem exL_small : small exL := by unfold small; decide
set_option maxRecDepth 100000 in
theorem ex_valid : validV exL = (4, 0) := by decide
set_option maxRecDepth 100000 in
theorem ex_closure : closureV exL [⟨1, 0⟩] = ([⟨0, 1⟩, ⟨1, 0⟩], 0) := by decide
set_option maxRecDepth 100000 in
theorem ex_closed : closedB exL [⟨1, 0⟩] = false := by decide
set_option maxRecDepth 100000 in
theorem ex_order : orderV exL exN = (exN, 0) := by decide
set_option maxRecDepth 100000 in
theorem ex_one : programV exB exL [⟨0, 1⟩, ⟨1, 0⟩] = (exP, 0) := by decide
set_option maxRecDepth 100000 in
theorem ex_clash : programV exB exL [⟨0, 1⟩, ⟨1, 1⟩] = ([], 14) := by decide
set_option maxRecDepth 100000 in
theorem ex_all : programV exB exL [⟨2, 0⟩, ⟨0, 1⟩, ⟨1, 1⟩] = (exA, 0) := by decide
set_option maxRecDepth 100000 in
theorem ex_clashes : clashesL exL = [(⟨0, 1⟩, ⟨1, 1⟩)] := by decide

set_option maxHeartbeats 2000000
set_option maxRecDepth 10000

/-- culprit/culpritlaw22.lives -/
theorem lives_ok  : Ok Tryz.prog 15 [] ⟨.d (.bool true), true⟩ := by
  refine Ok.ret Tryz.func15 (by kernel_rfl) (c := _) rfl Tryz.ntmps15 (by simp) Tryz.results15 (by intro _ h; cases h) fun w0 X hp => ?_
  have k1 := EValid_ok exL exL_small
  have k2 := EClosure_ok exL [⟨1, 0⟩] (by decide) (by decide)
  have k3 := EOrder_ok exL exN exL_small (by decide)
  have k4 := EProgram_ok exB exL [⟨0, 1⟩, ⟨1, 0⟩] exL_small (by decide) (by decide)
  have k5 := EProgram_ok exB exL [⟨0, 1⟩, ⟨1, 1⟩] exL_small (by decide) (by decide)
  have k6 := EProgram_ok exB exL [⟨2, 0⟩, ⟨0, 1⟩, ⟨1, 1⟩] exL_small (by decide) (by decide)
  have k7 := EClosed_ok exL [⟨1, 0⟩]
  have k8 := EClashes_ok exL exL_small
  have k9 := SameNames_ok [⟨0, 1⟩, ⟨1, 0⟩] [⟨0, 1⟩, ⟨1, 0⟩]
  have k10 := SameNames_ok exN exN
  rw [decide_eq_true rfl] at k9 k10
  rw [ex_valid] at k1
  rw [ex_closure] at k2
  rw [ex_order] at k3
  rw [ex_one] at k4
  rw [ex_clash] at k5
  rw [ex_all] at k6
  rw [ex_closed] at k7
  rw [ex_clashes] at k8
  refine LWp.seq ?_
  refine LWp.reg hT hW (fun _ => none) (fun _ => ⟨rfl, fun _ h => h⟩) ?_
  simp
  refine LWp.seq ?_
  refine LWp.reg hT hW (fun | 17 => some <| .plain ⟨.tup [.d (.sl (exB.map Df.d)), .d (edsD exL)], false⟩ | _ => none) (by intro d; first | exact ⟨rfl, fun _ h => h⟩ | (split <;> exact ⟨rfl, fun _ h => h⟩)) ?_
  simp [evalExtract]
  refine ⟨example_ok, ?_⟩
  refine LWp.seq ?_
  refine LWp.reg hT hW (fun | 21 => some <| .plain ⟨.d (nmsD exN), true⟩ | _ => none) (by intro d; first | exact ⟨rfl, fun _ h => h⟩ | (split <;> exact ⟨rfl, fun _ h => h⟩)) ?_
  simp
  refine ⟨Names_ok exL (by decide), ?_⟩
  refine LWp.seq ?_
  refine LWp.reg hT hW (fun | 24 => some <| .plain ⟨.tup [.d (I64 4), .d (I64 0)], true⟩ | _ => none) (by intro d; first | exact ⟨rfl, fun _ h => h⟩ | (split <;> exact ⟨rfl, fun _ h => h⟩)) ?_
  simp [evalExtract]
  refine ⟨k1, ?_⟩
  refine LWp.seq ?_
  refine LWp.reg hT hW (fun | 31 => some <| .plain ⟨.tup [.own 2 ([⟨0, 1⟩, ⟨1, 0⟩].map Nm.d), .d (I64 0)], true⟩ | _ => none) (by intro d; first | exact ⟨rfl, fun _ h => h⟩ | (split <;> exact ⟨rfl, fun _ h => h⟩)) ?_
  simp [evalExtract]
  refine ⟨⟨by decide, k2⟩, ?_⟩
  refine LWp.seq ?_
  refine LWp.reg hT hW (fun | 37 => some <| .plain ⟨.tup [.own 2 (exN.map Nm.d), .d (I64 0)], true⟩ | _ => none) (by intro d; first | exact ⟨rfl, fun _ h => h⟩ | (split <;> exact ⟨rfl, fun _ h => h⟩)) ?_
  simp [evalExtract]
  refine ⟨k3, ?_⟩
  refine LWp.seq ?_
  refine LWp.reg hT hW (fun | 45 => some <| .plain ⟨.tup [.d (dfsD exP), .d (I64 0)], true⟩ | _ => none) (by intro d; first | exact ⟨rfl, fun _ h => h⟩ | (split <;> exact ⟨rfl, fun _ h => h⟩)) ?_
  simp [evalExtract]
  refine ⟨⟨by decide, k4⟩, ?_⟩
  refine LWp.seq ?_
  refine LWp.regAny hT hW hMixed (lk [[], [], [], [2], [2, 3], [], [5], [5, 6], [2, 3, 4, 5, 6, 7], [0, 1, 2, 3, 4, 5, 6, 7, 8], [0, 1, 2, 3, 4, 5, 6, 7, 8, 9], [0, 1, 2, 3, 4, 5, 6, 7, 8, 9, 10], [0, 1, 2, 3, 4, 5, 6, 7, 8, 9, 10], [0, 1, 2, 3, 4, 5, 6, 7, 8, 9, 10, 11], [0, 1, 2, 3, 4, 5, 6, 7, 8, 9, 10, 11, 12, 13]]) (lk [[57], [57], [], [], [], [], [], [], [], [], [], [], [], [], []]) (lk [[], [], [], [], [], [], [], [], [57], [58], [], [], [], [], []]) (by kernel_rfl) (fun | 58 => some <| .plain ⟨.tup [.d (dfsD []), .d (I64 14)], true⟩ | _ => none) (by intro d; first | exact ⟨rfl, fun _ h => h⟩ | (split <;> exact ⟨rfl, fun _ h => h⟩)) ?_
  simp [evalExtract]
  refine ⟨⟨by decide, k5⟩, ?_⟩
  refine LWp.seq ?_
  refine LWp.regAny hT hW hMixed (lk [[], [], [], [2], [2, 3], [], [5], [5, 6], [], [8], [8, 9], [2, 3, 4, 5, 6, 7, 8, 9, 10], [0, 1, 2, 3, 4, 5, 6, 7, 8, 9, 10, 11], [0, 1, 2, 3, 4, 5, 6, 7, 8, 9, 10, 11, 12], [0, 1, 2, 3, 4, 5, 6, 7, 8, 9, 10, 11, 12, 13], [0, 1, 2, 3, 4, 5, 6, 7, 8, 9, 10, 11, 12, 13], [0, 1, 2, 3, 4, 5, 6, 7, 8, 9, 10, 11, 12, 13, 14], [0, 1, 2, 3, 4, 5, 6, 7, 8, 9, 10, 11, 12, 13, 14, 15, 16]]) (lk [[73], [73], [], [], [], [], [], [], [], [], [], [], [], [], [], [], [], []]) (lk [[], [], [], [], [], [], [], [], [], [], [], [73], [74], [], [], [], [], []]) (by kernel_rfl) (fun | 74 => some <| .plain ⟨.tup [.d (dfsD exA), .d (I64 0)], true⟩ | _ => none) (by intro d; first | exact ⟨rfl, fun _ h => h⟩ | (split <;> exact ⟨rfl, fun _ h => h⟩)) ?_
  simp [evalExtract]
  refine ⟨⟨by decide, k6⟩, ?_⟩
  refine LWp.seq ?_
  refine LWp.seq ?_
  refine LWp.reg hT hW (fun | 107 => some <| .plain ⟨.d (.bool false), true⟩ | _ => none) (by intro d; first | exact ⟨rfl, fun _ h => h⟩ | (split <;> exact ⟨rfl, fun _ h => h⟩)) ?_
  simp
  refine ⟨⟨by decide, k7⟩, ?_⟩
  refine LWp.iff ?_
  simp
  refine LWp.skip ?_
  simp
  refine LWp.seq ?_
  refine LWp.seq ?_
  refine LWp.reg hT hW (fun | 112 => some <| .plain ⟨.d (.bool true), true⟩ | 117 => some <| .plain ⟨.d (.bool true), true⟩ | 132 => some <| .plain ⟨.d (.sl ([(⟨0, 1⟩, ⟨1, 1⟩)].map prD)), true⟩ | _ => none) (by intro d; first | exact ⟨rfl, fun _ h => h⟩ | (split <;> exact ⟨rfl, fun _ h => h⟩)) ?_
  simp [(show exP.length = 1 from rfl), (show exA.length = 2 from rfl)]
  refine ⟨⟨⟨⟨by decide, k9⟩, k10⟩, k8⟩, ?_⟩
  refine LWp.iff ?_
  simp
  refine LWp.skip ?_
  simp
  refine LWp.seq ?_
  refine LWp.regAny hT hW hMixed (lk [[], [0], [0, 1], [0, 1, 2], [0, 1, 2, 3], [0, 1, 2, 3, 4], [0, 1, 2, 3, 4, 5], [0, 1, 2, 3, 4, 5, 6], [0, 1, 2, 3, 4, 5, 6, 7], [0, 1, 2, 3, 4, 5, 6, 7, 8], [0, 1, 2, 3, 4, 5, 6, 7, 8, 9], [0, 1, 2, 3, 4, 5, 6, 7, 8, 9, 10], [0, 1, 2, 3, 4, 5, 6, 7, 8, 9, 10, 11], [0, 1, 2, 3, 4, 5, 6, 7, 8, 9, 10, 11, 12], [0, 1, 2, 3, 4, 5, 6, 7, 8, 9, 10, 11, 12, 13], [0, 1, 2, 3, 4, 5, 6, 7, 8, 9, 10, 11, 12, 13, 14], [0, 1, 2, 3, 4, 5, 6, 7, 8, 9, 10, 11, 12, 13, 14, 15], [0, 1, 2, 3, 4, 5, 6, 7, 8, 9, 10, 11, 12, 13, 14, 15, 16], [0, 1, 2, 3, 4, 5, 6, 7, 8, 9, 10, 11, 12, 13, 14, 15, 16, 17], [0, 1, 2, 3, 4, 5, 6, 7, 8, 9, 10, 11, 12, 13, 14, 15, 16, 17, 18], [0, 1, 2, 3, 4, 5, 6, 7, 8, 9, 10, 11, 12, 13, 14, 15, 16, 17, 18, 19], [0, 1, 2, 3, 4, 5, 6, 7, 8, 9, 10, 11, 12, 13, 14, 15, 16, 17, 18, 19, 20], [0, 1, 2, 3, 4, 5, 6, 7, 8, 9, 10, 11, 12, 13, 14, 15, 16, 17, 18, 19, 20, 21], [0, 1, 2, 3, 4, 5, 6, 7, 8, 9, 10, 11, 12, 13, 14, 15, 16, 17, 18, 19, 20, 21, 22], [0, 1, 2, 3, 4, 5, 6, 7, 8, 9, 10, 11, 12, 13, 14, 15, 16, 17, 18, 19], [0, 1, 2, 3, 4, 5, 6, 7, 8, 9, 10, 11, 12, 13, 14, 15, 16, 17, 18, 19, 24], [0, 1, 2, 3, 4, 5, 6, 7, 8, 9, 10, 11, 12, 13, 14, 15, 16, 17, 18, 19, 24, 25], [0, 1, 2, 3, 4, 5, 6, 7, 8, 9, 10, 11, 12, 13, 14, 15, 16, 17, 18, 19], [0, 1, 2, 3, 4, 5, 6, 7, 8, 9, 10, 11, 12, 13, 14, 15, 16, 17, 18, 19, 27], [0, 1, 2, 3, 4, 5, 6, 7, 8, 9, 10, 11, 12, 13, 14, 15, 16, 17, 18, 19, 27, 28], [0, 1, 2, 3, 4, 5, 6, 7, 8, 9, 10, 11, 12, 13, 14, 15, 16, 17, 18, 19, 24, 25, 26, 27, 28, 29], [0, 1, 2, 3, 4, 5, 6, 7, 8, 9, 10, 11, 12, 13, 14, 15, 16, 17, 18, 19, 20, 21, 22, 23, 24, 25, 26, 27, 28, 29, 30], [0, 1, 2, 3, 4, 5, 6, 7, 8, 9, 10, 11, 12, 13, 14, 15, 16, 17, 18, 19, 20, 21, 22, 23, 24, 25, 26, 27, 28, 29, 30, 31], [0, 1, 2, 3, 4, 5, 6, 7, 8, 9, 10, 11, 12, 13, 14, 15, 16, 17, 18, 19, 20, 21, 22, 23, 24, 25, 26, 27, 28, 29, 30, 31, 32]]) (lk [[], [], [], [], [], [], [], [], [], [], [], [], [], [], [], [], [], [], [], [], [], [], [], [], [157], [157], [157], [157], [157], [157], [157], [], [], []]) (lk [[], [], [], [], [], [], [], [], [], [], [], [], [], [], [], [], [], [], [], [], [], [157], [], [], [], [], [], [], [], [], [], [], [], []]) (by kernel_rfl) (fun | 157 => some <| .plain ⟨.d (.sl ([(⟨0, 1⟩, ⟨1, 1⟩)].map prD)), true⟩ | _ => none) (by intro d; first | exact ⟨rfl, fun _ h => h⟩ | (split <;> exact ⟨rfl, fun _ h => h⟩)) ?_
  simp [exP, exA, exN, prD, Df.d, Nm.d]
  refine ⟨k8, ?_⟩
  refine LWp.ret ?_
  simp

end Go.Eng

/-
  Chapter 22, plain: when a list is valid; lists made of numbers are. No condition.
-/
namespace Go.Eng

theorem find_of {l : List Ed} {n : Nm} {i : Nat} (h : find? l n = some i) : ∃ h : i < l.length, l[i].name = n := by
  obtain ⟨h1, h2, _⟩ := List.findIdx?_eq_some_iff_getElem.1 h
  exact ⟨h1, by simpa using h2⟩
theorem find_mem {l : List Ed} {n : Nm} (h : n ∈ l.map Ed.name) : ∃ i, find? l n = some i := by
  cases q : find? l n with
  | some i => exact ⟨i, rfl⟩
  | none =>
    obtain ⟨e, he, rfl⟩ := List.mem_map.1 h
    have := List.findIdx?_eq_none_iff.1 q e he
    simp at this
theorem needsOf_mem {l : List Ed} {n m : Nm} (h : m ∈ needsOf l n) : ∃ e ∈ l, e.name = n ∧ m ∈ e.needs := by
  unfold needsOf at h
  split at h
  · rename_i i hi
    obtain ⟨h1, h2⟩ := find_of hi
    simp only [List.getD_eq_getElem?_getD, List.getElem?_eq_getElem h1, Option.getD_some] at h
    exact ⟨l[i], List.getElem_mem h1, h2, h⟩
  · cases h
theorem reach_rank {l : List Ed} {rank : Nm → Nat} (h : ∀ e ∈ l, ∀ n ∈ e.needs, rank n < rank e.name) {a b : Nm} (r : Reach l a b) : rank b < rank a := by
  induction r with
  | one h1 => obtain ⟨e, he, rfl, hm⟩ := needsOf_mem h1; exact h e he _ hm
  | next h1 _ ih => obtain ⟨e, he, rfl, hm⟩ := needsOf_mem h1; have := h e he _ hm; omega
/-- A list is valid if each edit is possible, no name is there twice, and each edit needs ones of the list that come earlier in some order. -/
theorem validV_of {l : List Ed} (rank : Nm → Nat) (h1 : l.length ≤ 64) (h2 : ∀ e ∈ l, properE e = true) (h3 : (l.map Ed.name).Nodup) (h4 : ∀ e ∈ l, ∀ n ∈ e.needs, n ∈ l.map Ed.name ∧ rank n < rank e.name) : validV l = ((l.length : Int), 0) := by
  have key : ∀ k i, i + k = l.length → validFrom l (l.drop i) i = ((l.length : Int), 0) := by
    intro k
    induction k with
    | zero => intro i hi; rw [validFrom_end (by omega)]; simp at hi; rw [hi]
    | succ k ih =>
      intro i hi
      have hil : i < l.length := by omega
      rw [validFrom_step hil ?_]
      · exact ih (i + 1) (by omega)
      · have hm := List.getElem_mem hil
        have e1 := h2 _ hm
        have e2 : ¬ findI l l[i].name < i := by
          obtain ⟨j, hj⟩ := find_mem (List.mem_map_of_mem (f := Ed.name) hm)
          obtain ⟨g1, g2⟩ := find_of hj
          have hji : j = i := by
            have hp := List.pairwise_iff_getElem.1 h3
            rcases Nat.lt_trichotomy j i with q | q | q
            · exact absurd (by rw [List.getElem_map, List.getElem_map]; exact g2) (hp j i (by simpa using g1) (by simpa using hil) q)
            · exact q
            · exact absurd (by rw [List.getElem_map, List.getElem_map]; exact g2.symm) (hp i j (by simpa using hil) (by simpa using g1) q)
          simp [findI, hj, hji]
        have e3 : l[i].needs.any (fun n => decide (findI l n < 0)) = false := by
          rw [List.any_eq_false]
          intro n hn
          obtain ⟨j, hj⟩ := find_mem (h4 _ hm n hn).1
          simp [findI, hj]
        have e4 : l[i].name ∉ aboveL l l[i].name := fun hx => by
          have := reach_rank (fun e he n hn => (h4 e he n hn).2) (mem_aboveL.1 hx)
          omega
        simp only [errE, e1, e3, if_neg e2, if_neg e4]
        simp
  unfold validV
  rw [if_neg (by omega)]
  simpa using key l.length 0 (by omega)
end Go.Eng

/-
  Chapter 22, plain: lists made of numbers are valid. No condition.
-/
namespace Go.Eng

theorem incr_of_pw {α : Type} {lt : α → α → Bool} {l : List α} (h : l.Pairwise fun a b => lt a b = true) : incr lt l = true :=
  incr_iff.2 fun j hj => List.pairwise_iff_getElem.1 h j (j + 1) (by omega) hj (by omega)
theorem madeNeeds_sub (bits : Int) (ear : List Nm) : ∀ k, (madeNeeds bits ear k).Sublist (ear.take k)
  | 0 => by simp [madeNeeds]
  | k + 1 => by
    rw [madeNeeds, List.take_add_one]
    refine List.Sublist.append (madeNeeds_sub bits ear k) ?_
    split
    · cases ear[k]? <;> simp
    · simp
theorem madeE_name (l : List Int) (out : List Ed) (i : Nat) (hi : i < 6) : (madeE l out i).name.isName = true ∧ ((madeE l out i).name.seq % 6).toNat = i := by
  have h := atL_range l (1 + 3 * i) 4096 (by decide)
  have hd1 : 0 ≤ (atL l (1 + 3 * i) 4096).tdiv 3 := Int.tdiv_nonneg h.1 (by omega)
  have h1 : 0 ≤ ((atL l (1 + 3 * i) 4096).tdiv 3).tmod 8 := Int.tmod_nonneg _ hd1
  have h2 : ((atL l (1 + 3 * i) 4096).tdiv 3).tmod 8 < 8 := Int.tmod_lt_of_pos _ (by omega)
  have h3 : 0 ≤ (atL l (1 + 3 * i) 4096).tmod 3 := Int.tmod_nonneg _ h.1
  have h4 : (atL l (1 + 3 * i) 4096).tmod 3 < 3 := Int.tmod_lt_of_pos _ (by omega)
  refine ⟨?_, ?_⟩
  · simp [madeE, Nm.isName]
    exact ⟨⟨⟨decide_eq_true (by omega), decide_eq_true (by omega)⟩, decide_eq_true (by omega)⟩, decide_eq_true (by omega)⟩
  · simp [madeE]
    omega
theorem madeTo_sub {l : List Int} {e : Ed} {i : Nat} (h : e ∈ madeTo l i) : ∀ d, e ∈ madeTo l (i + d)
  | 0 => h
  | d + 1 => by
    rw [← Nat.add_assoc, madeTo]
    exact List.mem_append.2 (.inl (madeTo_sub h d))
theorem made_nodup (l : List Int) : ∀ c, c ≤ 6 → ((madeTo l c).map Ed.name).Nodup
  | 0, _ => by simp [madeTo]
  | c + 1, hc => by
    rw [madeTo, List.map_append, List.nodup_append]
    refine ⟨made_nodup l c (by omega), by simp, fun a ha b hb e => ?_⟩
    obtain ⟨x, hx, rfl⟩ := List.mem_map.1 ha
    obtain ⟨i, hi, rfl⟩ := madeTo_mem hx
    simp only [List.map_cons, List.map_nil, List.mem_singleton] at hb
    have h1 := (madeE_name l (madeTo l i) i (by omega)).2
    have h2 := (madeE_name l (madeTo l c) c (by omega)).2
    rw [e, hb, h2] at h1
    omega
theorem made_ranks {l : List Int} {c : Nat} (hc : c ≤ 6) {e : Ed} (he : e ∈ madeTo l c) {n : Nm} (hn : n ∈ e.needs) : n ∈ (madeTo l c).map Ed.name ∧ (n.seq % 6).toNat < (e.name.seq % 6).toNat := by
  obtain ⟨i, hi, rfl⟩ := madeTo_mem he
  have h1 := (madeE_name l (madeTo l i) i (by omega)).2
  have h2 : n ∈ sortN ((madeTo l i).map Ed.name) := List.mem_of_mem_take ((madeNeeds_sub _ _ _).subset hn)
  rw [(sortN_spec _).2] at h2
  obtain ⟨x, hx, rfl⟩ := List.mem_map.1 h2
  obtain ⟨j, hj, rfl⟩ := madeTo_mem hx
  have h3 := (madeE_name l (madeTo l j) j (by omega)).2
  refine ⟨List.mem_map_of_mem (by have := madeTo_sub hx (c - i); rwa [show i + (c - i) = c by omega] at this), by omega⟩
/-- What names a made edit puts and takes away, out of what its numbers say. -/
def pickS (b : Bool) (s : Str) : List Str := if b then [s] else []
theorem made_puts (m : Int) (i : Nat) : (madePuts m i 4).map Df.name = pickS (decide ((shr m 0).tmod 4 = 1)) [97] ++ pickS (decide ((shr m 2).tmod 4 = 1)) [98] ++ pickS (decide ((shr m 4).tmod 4 = 1)) [99] ++ pickS (decide ((shr m 6).tmod 4 = 1)) [100] := by
  simp only [madePuts, pickS, List.map_append, List.nil_append, decide_eq_true_eq]
  refine congr (congrArg _ (congr (congrArg _ (congr (congrArg _ ?_) ?_)) ?_)) ?_ <;> (split <;> rfl)
theorem made_drops (m : Int) : madeDrops m 4 = pickS (decide ((shr m 4).tmod 4 = 2)) [99] ++ pickS (decide ((shr m 6).tmod 4 = 2)) [100] := by
  simp [madeDrops, pickS]
  refine congr (congrArg _ ?_) ?_ <;> (split <;> rfl)
theorem made_touch : ∀ a b c d e f : Bool, (c && e) = false → (d && f) = false →
    incr bless (pickS a [97] ++ pickS b [98] ++ pickS c [99] ++ pickS d [100]) = true ∧ incr bless (pickS e [99] ++ pickS f [100]) = true ∧
      okNames ((pickS a [97] ++ pickS b [98] ++ pickS c [99] ++ pickS d [100]) ++ (pickS e [99] ++ pickS f [100])) = true := by decide
theorem made_text (m : Int) (i : Nat) {d : Df} : ∀ {k : Nat}, d ∈ madePuts m i k → ∃ q v, d = defD q v
  | 0, h => by simp [madePuts] at h
  | k + 1, h => by
    rw [madePuts] at h
    rcases List.mem_append.1 h with h | h
    · exact made_text m i h
    · split at h
      · exact ⟨_, _, List.mem_singleton.1 h⟩
      · cases h
theorem made_proper (l : List Int) (i : Nat) (hi : i < 6) : properE (madeE l (madeTo l i) i) = true := by
  have h1 := (madeE_name l (madeTo l i) i hi).1
  obtain ⟨m, hm⟩ : ∃ m, m = atL l (3 + 3 * i) 4096 := ⟨_, rfl⟩
  have e1 : (madeE l (madeTo l i) i).puts = madePuts m i 4 := by rw [hm]; rfl
  have e2 : (madeE l (madeTo l i) i).drops = madeDrops m 4 := by rw [hm]; rfl
  have h2 : incr Nm.less (madeE l (madeTo l i) i).needs = true := incr_of_pw (((sortN_spec _).1.sublist (List.take_sublist _ _)).sublist (madeNeeds_sub _ _ _))
  have h3 : (madeE l (madeTo l i) i).needs.all Nm.isName = true := by
    rw [List.all_eq_true]
    intro n hn
    have h2 : n ∈ sortN ((madeTo l i).map Ed.name) := List.mem_of_mem_take ((madeNeeds_sub _ _ _).subset hn)
    rw [(sortN_spec _).2] at h2
    obtain ⟨x, hx, rfl⟩ := List.mem_map.1 h2
    obtain ⟨j, hj, rfl⟩ := madeTo_mem hx
    exact (madeE_name l (madeTo l j) j (by omega)).1
  have h4 := made_touch (decide ((shr m 0).tmod 4 = 1)) (decide ((shr m 2).tmod 4 = 1)) (decide ((shr m 4).tmod 4 = 1)) (decide ((shr m 6).tmod 4 = 1)) (decide ((shr m 4).tmod 4 = 2)) (decide ((shr m 6).tmod 4 = 2)) (by simp; omega) (by simp; omega)
  rw [← made_puts m i, ← made_drops m, ← e1, ← e2] at h4
  have h5 : (touches (madeE l (madeTo l i) i)).length ≤ 24 := by
    have a := madePuts_len m i 4
    have b := madeDrops_len m 4
    simp [touches, e1, e2]; omega
  have h6 : (madeE l (madeTo l i) i).puts.all (fun d => decide (d.text.length ≤ 1024)) = true := by
    rw [List.all_eq_true, e1]
    intro d hd
    obtain ⟨q, v, rfl⟩ := made_text m i hd
    have := nameS_len q
    simp [defD, digitS]; omega
  simp only [properE, h1, h2, h3, h4.1, h4.2.1, h6, Bool.and_true, Bool.true_and, decide_eq_true h5]
  exact h4.2.2
theorem made_valid (l : List Int) : validV (madeL l) = (((madeL l).length : Int), 0) := by
  have hc : (atL l 0 7).toNat ≤ 6 := by have := (atL_range l 0 7 (by decide)).2; omega
  refine validV_of (fun n => (n.seq % 6).toNat) (by have := madeL_len l; omega) (fun e he => ?_) (made_nodup l _ hc) (fun e he n hn => made_ranks hc he hn)
  obtain ⟨i, hi, rfl⟩ := madeTo_mem he
  exact made_proper l i (by omega)

end Go.Eng

/-
  Chapter 22, plain: turned lists made of numbers are valid. No condition.
-/
namespace Go.Eng

theorem mod_two {x n : Nat} (h : x < 2 * n) : (x < n ∧ x % n = x) ∨ (n ≤ x ∧ x % n = x - n) := by
  by_cases q : x < n
  · exact .inl ⟨q, Nat.mod_eq_of_lt q⟩
  · refine .inr ⟨by omega, ?_⟩
    rw [Nat.mod_eq_sub_mod (by omega), Nat.mod_eq_of_lt (by omega)]
theorem turnAt_inj {n i j : Nat} {b : Int} (hi : i < n) (hj : j < n) (h : turnAt n b i = turnAt n b j) : i = j := by
  have ha := around_lt b n (by omega)
  unfold turnAt at h
  obtain ⟨a, hq⟩ : ∃ a : Nat, a = (around b n).toNat := ⟨_, rfl⟩
  have han : a < n := by omega
  rw [← hq] at h
  have h1 := mod_two (x := i + a) (n := n) (by omega)
  have h2 := mod_two (x := j + a) (n := n) (by omega)
  dsimp only at h
  split at h <;> omega
theorem turnAt_sur {n j : Nat} (b : Int) (hj : j < n) : ∃ i, i < n ∧ turnAt n b i = j := by
  have ha := around_lt b n (by omega)
  unfold turnAt
  obtain ⟨a, hq⟩ : ∃ a : Nat, a = (around b n).toNat := ⟨_, rfl⟩
  have han : a < n := by omega
  rw [← hq]
  dsimp only
  split
  · by_cases q : a ≤ n - 1 - j
    · refine ⟨n - 1 - j - a, by omega, ?_⟩
      have h1 := mod_two (x := n - 1 - j - a + a) (n := n) (by omega)
      omega
    · refine ⟨n - 1 - j + n - a, by omega, ?_⟩
      have h1 := mod_two (x := n - 1 - j + n - a + a) (n := n) (by omega)
      omega
  · by_cases q : a ≤ j
    · refine ⟨j - a, by omega, ?_⟩
      have h1 := mod_two (x := j - a + a) (n := n) (by omega)
      omega
    · refine ⟨j + n - a, by omega, ?_⟩
      have h1 := mod_two (x := j + n - a + a) (n := n) (by omega)
      omega
theorem turned_len (l : List Ed) (b : Int) : (turnedL l b).length = l.length := by simp [turnedL]
theorem turned_mem {l : List Ed} {b : Int} {e : Ed} : e ∈ turnedL l b ↔ e ∈ l := by
  simp only [turnedL, List.mem_map, List.mem_range]
  constructor
  · rintro ⟨i, hi, rfl⟩
    have := turnAt_lt (n := l.length) (i := i) (b := b) (by omega)
    simp only [List.getD_eq_getElem?_getD, List.getElem?_eq_getElem this, Option.getD_some]
    exact List.getElem_mem this
  · intro h
    obtain ⟨j, hj, rfl⟩ := List.getElem_of_mem h
    obtain ⟨i, hi, e⟩ := turnAt_sur b hj
    exact ⟨i, hi, by rw [e]; simp [hj]⟩
theorem turned_nodup {l : List Ed} {b : Int} (h : (l.map Ed.name).Nodup) : ((turnedL l b).map Ed.name).Nodup := by
  refine List.pairwise_iff_getElem.2 fun i j hi hj hij e => ?_
  simp only [List.length_map, turned_len] at hi hj
  rw [List.getElem_map, List.getElem_map, turned_get hi, turned_get hj] at e
  have g1 := turnAt_lt (n := l.length) (i := i) (b := b) (by omega)
  have g2 := turnAt_lt (n := l.length) (i := j) (b := b) (by omega)
  simp only [List.getD_eq_getElem?_getD, List.getElem?_eq_getElem g1, List.getElem?_eq_getElem g2, Option.getD_some] at e
  have hp := List.pairwise_iff_getElem.1 h
  have := fun q => turnAt_inj (b := b) hi hj q
  rcases Nat.lt_trichotomy (turnAt l.length b i) (turnAt l.length b j) with q | q | q
  · exact hp _ _ (by simpa using g1) (by simpa using g2) q (by rw [List.getElem_map, List.getElem_map]; exact e)
  · have := this q; omega
  · exact hp _ _ (by simpa using g2) (by simpa using g1) q (by rw [List.getElem_map, List.getElem_map]; exact e.symm)
theorem turned_valid (l : List Int) (b : Int) : validV (turnedL (madeL l) b) = (((madeL l).length : Int), 0) := by
  have hc : (atL l 0 7).toNat ≤ 6 := by have := (atL_range l 0 7 (by decide)).2; omega
  rw [← turned_len (madeL l) b]
  refine validV_of (fun n => (n.seq % 6).toNat) (by rw [turned_len]; have := madeL_len l; omega) (fun e he => ?_) (turned_nodup (made_nodup l _ hc)) (fun e he n hn => ?_)
  · obtain ⟨i, hi, rfl⟩ := madeTo_mem (turned_mem.1 he)
    exact made_proper l i (by omega)
  · obtain ⟨h1, h2⟩ := made_ranks hc (turned_mem.1 he) hn
    refine ⟨?_, h2⟩
    obtain ⟨x, hx, rfl⟩ := List.mem_map.1 h1
    exact List.mem_map_of_mem (turned_mem.2 hx)
end Go.Eng

/-
  Chapter 22, plain: the order as the reference looks for it; clashes from both sides. No condition.
-/
namespace Go.Eng

/-- What is left of a list. -/
def leftN (all out : List Nm) : List Nm := all.filter fun n => decide (n ∉ out)
theorem mem_left {all out : List Nm} {x : Nm} : x ∈ leftN all out ↔ x ∈ all ∧ x ∉ out := by simp [leftN]
theorem left_app {a b out : List Nm} : leftN (a ++ b) out = leftN a out ++ leftN b out := by simp [leftN]
theorem left_snoc {a out : List Nm} {x : Nm} (h : x ∉ a) : leftN a (out ++ [x]) = leftN a out := by
  unfold leftN
  apply List.filter_congr
  intro y hy
  have : y ≠ x := fun e => h (e ▸ hy)
  simp [this]
theorem left_cons {b out : List Nm} {x : Nm} (h : x ∉ out) : leftN (x :: b) out = x :: leftN b out := by simp [leftN, h]
theorem left_cons_in {b out : List Nm} {x : Nm} (h : x ∈ out) : leftN (x :: b) out = leftN b out := by simp [leftN, h]
theorem left_first {l : List Ed} {all out : List Nm} (hnd : all.Nodup) {i : Nat} (hi : i < all.length) (h1 : all[i] ∉ out) (h2 : readyN l out all[i] = true)
    (h3 : ∀ (j : Nat) (h : j < all.length), j < i → all[j] ∈ out ∨ readyN l out all[j] = false) :
    ∃ k, (leftN all out).findIdx? (readyN l out) = some k ∧ ∃ hk : k < (leftN all out).length, (leftN all out)[k] = all[i] ∧ (leftN all out).eraseIdx k = leftN all (out ++ [all[i]]) := by
  have hs : all = all.take i ++ all[i] :: all.drop (i + 1) := by rw [List.getElem_cons_drop, List.take_append_drop]
  obtain ⟨A, hA⟩ : ∃ A, A = all.take i := ⟨_, rfl⟩
  obtain ⟨B, hB⟩ : ∃ B, B = all.drop (i + 1) := ⟨_, rfl⟩
  obtain ⟨x, hx⟩ : ∃ x, x = all[i] := ⟨_, rfl⟩
  have hAn : ∀ y ∈ A, y ∈ out ∨ readyN l out y = false := fun y hy => by
    rw [hA] at hy
    obtain ⟨j, hj, rfl⟩ := List.getElem_of_mem hy
    simp at hj
    simp only [List.getElem_take]
    exact h3 j (by omega) (by omega)
  rw [← hx] at h1 h2 ⊢
  rw [← hA, ← hB, ← hx] at hs
  clear h3 hA hB hx
  have hnd' : (A ++ x :: B).Nodup := hs ▸ hnd
  have hxA : x ∉ A := fun h => (List.nodup_append.1 hnd').2.2 x h x (by simp) rfl
  have hxB : x ∉ B := (List.nodup_cons.1 (List.nodup_append.1 hnd').2.1).1
  have e1 : leftN all out = leftN A out ++ x :: leftN B out := by rw [hs, left_app, left_cons h1]
  have e2 : leftN all (out ++ [x]) = leftN A out ++ leftN B out := by rw [hs, left_app, left_cons_in (by simp), left_snoc hxA, left_snoc hxB]
  have hn : (leftN A out).findIdx? (readyN l out) = none := by
    rw [List.findIdx?_eq_none_iff]
    intro y hy
    simp only [leftN, List.mem_filter, decide_eq_true_eq] at hy
    exact (hAn y hy.1).resolve_left hy.2
  refine ⟨(leftN A out).length, ?_, ?_, ?_, ?_⟩
  · rw [e1, List.findIdx?_append, hn, List.findIdx?_cons, h2]; simp
  · rw [e1]; simp
  · simp [e1]
  · rw [e1, e2, List.eraseIdx_append_of_length_le (Nat.le_refl _)]; simp

/-- Where the search for the order stands. -/
structure OrdI (l : List Ed) (set out : List Nm) : Prop where
  go : orderF l (leftN (sortN set) out).length (leftN (sortN set) out) out = orderN l set
  cl : ∀ n ∈ leftN (sortN set) out, ∀ m ∈ needsOf l n, m ∈ leftN (sortN set) out ∨ m ∈ out
  len : out.length + (leftN (sortN set) out).length = (sortN set).length
theorem sortN_nodup (set : List Nm) : (sortN set).Nodup := (sortN_spec set).1.imp fun {a b} h e => by subst e; rw [Nm.sto.irrefl] at h; cases h
theorem OrdI.start {l : List Ed} {set : List Nm} (hc : closedB l set = true) : OrdI l set [] := by
  have e : leftN (sortN set) [] = sortN set := by simp [leftN]
  refine ⟨by rw [e]; rfl, fun n hn m hm => ?_, by rw [e]; simp⟩
  rw [e] at hn ⊢
  exact .inl (((sortN_spec set).2 m).2 ((closedB_iff.1 hc n (((sortN_spec set).2 n).1 hn)).2 m hm))
theorem OrdI.step {l : List Ed} {set out : List Nm} (h : OrdI l set out) {i : Nat} (hi : i < (sortN set).length) (h1 : (sortN set)[i] ∉ out) (h2 : readyN l out (sortN set)[i] = true)
    (h3 : ∀ (j : Nat) (h : j < (sortN set).length), j < i → (sortN set)[j] ∈ out ∨ readyN l out (sortN set)[j] = false) : OrdI l set (out ++ [(sortN set)[i]]) := by
  obtain ⟨k, hk, hkl, hke, hkr⟩ := left_first (sortN_nodup set) hi h1 h2 h3
  have hlen : (leftN (sortN set) (out ++ [(sortN set)[i]])).length + 1 = (leftN (sortN set) out).length := by
    rw [← hkr, List.length_eraseIdx, if_pos hkl]; omega
  have hgo := h.go
  rw [← hlen, orderF_succ hk hkl, hke, hkr] at hgo
  refine ⟨hgo, ?_, by have := h.len; rw [List.length_append, List.length_singleton]; omega⟩
  have := closed_step h.cl hkl
  rw [hkr, hke] at this
  exact this
theorem OrdI.done {l : List Ed} {set out : List Nm} (h : OrdI l set out) (hl : (sortN set).length ≤ out.length) : out = orderN l set := by
  have h1 := h.len
  have h2 : leftN (sortN set) out = [] := List.eq_nil_of_length_eq_zero (by omega)
  have := h.go
  rw [h2] at this
  exact this
theorem OrdI.found {l : List Ed} {set out : List Nm} (h : OrdI l set out) (ha : Acyc l) (hl : out.length < (sortN set).length) (h3 : ∀ (j : Nat) (h : j < (sortN set).length), (sortN set)[j] ∈ out ∨ readyN l out (sortN set)[j] = false) : False := by
  have h1 := h.len
  obtain ⟨k, hk, hkl⟩ := ready_at ha h.cl (by omega)
  obtain ⟨_, hr, _⟩ := List.findIdx?_eq_some_iff_getElem.1 hk
  have hm : (leftN (sortN set) out)[k] ∈ leftN (sortN set) out := List.getElem_mem hkl
  have hm2 := mem_left.1 hm
  obtain ⟨j, hj, hje⟩ := List.getElem_of_mem hm2.1
  rcases h3 j hj with q | q
  · rw [hje] at q; exact hm2.2 q
  · rw [hje] at q; rw [hr] at q; cases q

theorem mem_sharedL {l : List Ed} {a b : Nm} {s : Str} : s ∈ sharedL l a b ↔ ¬ (findI l a < 0 ∨ findI l b < 0 ∨ a = b ∨ a ∈ aboveL l b ∨ b ∈ aboveL l a) ∧ s ∈ touches (edAt l a) ∧ s ∈ touches (edAt l b) := by
  unfold sharedL
  split
  · rename_i h; simp [h]
  · rename_i h; simp [h]
theorem clashB_iff {l : List Ed} {set : List Nm} {a b : Nm} : clashB l set a b = true ↔ ∃ s, s ∈ sharedL l a b ∧ ∀ c ∈ set, resolvedB l s a b c = false := by
  unfold clashB
  simp [List.any_eq_true]
theorem clashB_comm (l : List Ed) (set : List Nm) (a b : Nm) : clashB l set a b = clashB l set b a := by
  have key : ∀ a b, clashB l set a b = true → clashB l set b a = true := by
    intro a b h
    obtain ⟨s, hs, hr⟩ := clashB_iff.1 h
    refine clashB_iff.2 ⟨s, ?_, fun c hc => ?_⟩
    · rw [mem_sharedL] at hs ⊢
      obtain ⟨h1, h2, h3⟩ := hs
      refine ⟨fun q => h1 ?_, h3, h2⟩
      rcases q with q | q | q | q | q
      · exact .inr (.inl q)
      · exact .inl q
      · exact .inr (.inr (.inl q.symm))
      · exact .inr (.inr (.inr (.inr q)))
      · exact .inr (.inr (.inr (.inl q)))
    · have := hr c hc
      unfold resolvedB at *
      rw [Bool.and_assoc, Bool.and_comm (decide (b ∈ _)), ← Bool.and_assoc]
      exact this
  rw [Bool.eq_iff_iff]
  exact ⟨key a b, key b a⟩
theorem dropD_same {L : List Df} {s : Str} : (dropD L s).length = L.length ↔ (L.any fun x => decide (x.name = s)) = false := by
  rw [List.any_eq_false]
  unfold dropD
  rw [List.length_filter_eq_length_iff]
  simp
end Go.Eng
