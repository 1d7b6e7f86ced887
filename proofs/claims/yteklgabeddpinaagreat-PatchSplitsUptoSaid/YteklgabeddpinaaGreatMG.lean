/-
  Texts of the proofs of this seat, part 7. No condition.
-/
import Derived.Test.YteklgabeddpinaaGreatMF
set_option linter.unusedVariables false
set_option linter.unusedSimpArgs false
namespace Go.Eng
open Go.RowKit Go.Maps Go.Sort Go.Shelf Go.Proofs
open Go.ChangeMaps (setBlock)
set_option maxRecDepth 100000 in
set_option maxHeartbeats 2000000 in
theorem keysChg_gives (F : Fence) (n : Nat) (hf : F.fn 103) (hro : F.round = none) (hn : 1 ≤ n) {Bm ob b clock : Nat} {es : Array MapEntry} (W : World) (hm' : W.cell? ⟨Bm, ob, none⟩ = some (.map (some b)))
    (hb' : W.heap[b]? = some (.map es clock)) (hborn : BornOk es clock) (key : MapEntry → Str) (hkey : ∀ e ∈ es.toList, e.key = keyS (key e)) (l : Nat) (J : List Str → World → Prop) (hJ : AbW W.heap.size J)
    (hY : ∀ pre x W1, J pre W1 → pre.length < es.size → YieldAt F (n - 1) Tryz.prog l #[keyS x] W1 fun e W' => e = .returned (.bool true) ∧ J (pre ++ [x]) W' ∧ KeepsWalks W1 W') (h0 : J [] W) :
    CallsIn F n Tryz.prog 103 #[.func (.yield l) #[] #[], .pointer (some ⟨Bm, ob, none⟩)] W fun e W' => (∃ v, e = .returned v) ∧ ∃ ss : List Str, ss.Perm (es.toList.map key) ∧ J ss W' := by
  have hbW : b < W.heap.size := (Array.getElem?_eq_some_iff.1 hb').1
  refine callsIn_of_wp Tryz.func103 rfl hf ?_ hro
  simp only [Tryz.ntmps103, List.size_toArray, List.length_cons, List.length_nil, Nat.reduceAdd, Nat.reduceSub, Array.replicate_succ, Array.replicate_zero, List.push_toArray, List.append_toArray, List.nil_append, List.cons_append]
  gi_wp2_with (first
    | (gi_at_range; refine wpListIn_range_map _ rfl _ _ rfl _ _ Tryz.underlying86 rfl hb' ?_)
    | gi_in)
  have hg0 : W.grownBy (W.alloc (.mapIter (some b) clock #[] clock)) none := World.grownBy_alloc W _ none
  have hr0 : (W.alloc (.mapIter (some b) clock #[] clock)).heap[W.heap.size]? = some (.mapIter (some b) clock #[] clock) := heap_alloc_new W _
  have hb0 : (W.alloc (.mapIter (some b) clock #[] clock)).heap[b]? = some (.map es clock) := (hg0.block b hbW (by simp)).trans hb'
  have hJ0 := hJ [] W _ none h0 hg0 (Nat.le_refl _) (fun r e => by cases e)
  generalize W.alloc (.mapIter (some b) clock #[] clock) = w0 at *
  try go_frame
  gi_loopw [3] (fun _ wr => ∃ (vs : List MapEntry) (seen : Array Nat) (c0 : Nat), wr.heap[W.heap.size]? = some (.mapIter (some b) clock seen c0) ∧ wr.heap[b]? = some (.map es clock) ∧ clock ≤ c0 ∧ Came es vs seen ∧ J (vs.map key) wr)
    (fun _ wr => toCome es.size W.heap.size wr)
  case atStart =>
    exact ⟨[], #[], clock, hr0, hb0, Nat.le_refl _, ⟨by simp, by simp, by simp⟩, hJ0⟩
  case round =>
    obtain ⟨vs, seen, c0, hr, hbr, hcc, hC, hJs⟩ := hrel
    gi_wp2_with (first
      | (gi_at_next; refine wpListIn_next_map _ rfl _ rfl (Nat.ne_of_gt hbW) rfl hr hbr hborn hcc (Nat.le_refl _) hC ?_ ?_)
      | gi_in)
    · intro hp
      gi_wp2
      go_end0
      exact ⟨⟨_, rfl⟩, vs.map key, hp.map key, hJs⟩
    · intro e w2 he hC2 hr2 hg2 hd2 hen
      have hJ2 : J (vs.map key) w2 := hJ _ wr w2 (some W.heap.size) hJs hg2 hd2 (fun r e => by cases e; exact ⟨Nat.le_refl _, _, hr, rfl⟩)
      have hb2 : w2.heap[b]? = some (.map es clock) := (hg2.block b (Array.getElem?_eq_some_iff.1 hbr).1 (fun e => by injection e with e; omega)).trans hbr
      have hsz := hC2.size hborn
      have hvs : seen.size = vs.length := by have := congrArg List.length hC.seen; simpa using this
      obtain ⟨fn, tmps, assign, body, hy, hR⟩ := hY (vs.map key) (key e) _ hJ2 (by simp at hsz ⊢; omega)
      rw [hkey e (by simpa using he)] at hen ⊢
      unfold keyS at hen hy ⊢
      gi_wp2
      refine hR.mono ?_
      rintro e' W3 ⟨rfl, hJ3, hk3⟩
      gi_wp2
      have hr4 := hk3.same _ _ hr2 rfl
      have hb4 := hk3.same _ _ hb2 rfl
      go_roundw
      case rel => exact ⟨vs ++ [e], seen.push e.born, clock, hr4, hb4, Nat.le_refl _, hC2, by simpa using hJ3⟩
      case measure => rw [toCome_eq hr4, toCome_eq hr]; simp at hsz ⊢; omega
set_option maxRecDepth 100000 in
set_option maxHeartbeats 4000000 in
theorem appendSeqChg (W0 : World) (v0 : Value) (l : List Str) (b0 : Option Nat) (hrow : RowAt 1 b0 W0.heap.size W0 v0 l.length (l.flatMap Str.enc) b0) (hb0 : ∀ b, b0 = some b → b < W0.heap.size) {Bm ob b clock : Nat} {es : Array MapEntry} (hm : W0.cell? ⟨Bm, ob, none⟩ = some (.map (some b))) (hBm : some Bm ≠ b0)
    (hb : W0.heap[b]? = some (.map es clock)) (hbb : some b ≠ b0) (hborn : BornOk es clock) (key : MapEntry → Str) (hkey : ∀ e ∈ es.toList, e.key = keyS (key e)) (hN : (l.length + es.size) * 16 ≤ 140737488355328) :
    Calls Tryz.prog 137 #[v0, .func (.func 103) #[] #[.pointer (some ⟨Bm, ob, none⟩)]] W0 fun e W' =>
      ∃ v ss gb, e = .returned v ∧ List.Perm ss (es.toList.map key) ∧ RowAt 1 b0 W0.heap.size W' v (l.length + ss.length) ((l ++ ss).flatMap Str.enc) gb ∧ Still b0 W0 W' ∧ Head0 (l.length * 1) b0 W0 W' := by
  refine (callsIn_wide (n := 6)).1 ?_
  obtain ⟨ba, bn, bc, hv0⟩ : ∃ ba bn bc, v0 = .slice ba bn bc := by
    rcases hrow.lies with ⟨_, _, a, rfl⟩ | ⟨g, cap, cur, e, _, rfl, _⟩
    · exact ⟨_, _, _, rfl⟩
    · exact ⟨_, _, _, rfl⟩
  subst hv0
  have hBml : Bm < W0.heap.size := World.block_lt_of_cell? W0 _ hm
  have hbl : b < W0.heap.size := (Array.getElem?_eq_some_iff.1 hb).1
  refine callsIn_of_wp_marks Tryz.func137 rfl trivial ?_ rfl
  simp only [Tryz.ntmps137, List.size_toArray, List.length_cons, List.length_nil, Nat.reduceAdd, Nat.reduceSub, Array.replicate_succ, Array.replicate_zero, List.push_toArray, List.append_toArray, List.nil_append, List.cons_append]
  gi_wp2
  obtain ⟨W1, hW1⟩ : ∃ W1, W0.alloc (.cells #[.slice ba bn bc] 27) = W1 := ⟨_, rfl⟩
  have hs1 : W1.heap.size = W0.heap.size + 1 := by rw [← hW1]; simp
  have hg1 : W0.grownBy W1 none := by rw [← hW1]; exact World.grownBy_alloc W0 _ none
  have hd1 : W0.drawn ≤ W1.drawn := by rw [← hW1]; exact Nat.le_refl _
  have hv1 : W1.heap[W0.heap.size]? = some (.cells #[.slice ba bn bc] 27 (0, 0)) := by rw [← hW1]; exact heap_alloc_new W0 _
  rw [hW1]
  clear hW1
  refine wpIn_rangeFunc_gives (enc := keyS) (N := es.size) (S := fun ss => List.Perm ss (es.toList.map key)) rfl (by omega) rfl trivial (enters_of Tryz.func103 (by kernel_rfl) rfl) (AppS b0 W0 l) (by rw [hs1]; exact appS_abW b0 W0 l hb0)
    ⟨.slice ba bn bc, b0, hv1, by simpa using hrow.kept hg1 (by cases b0 <;> simp), fun e => by have := hb0 _ e; omega, (Still.refl b0 W0).step hg1 hd1 (fun r e => by cases e), (Head0.refl _ b0 W0).step hg1 (by cases b0 <;> simp)⟩ ?_
    (fun x a' W => a' = ⟨#[.slice ba bn bc, .func (.func 103) #[] #[.pointer (some ⟨Bm, ob, none⟩)], .pointer (some ⟨W0.heap.size, 0, none⟩), undef, .slice none 0 0, .string ⟨x.toArray⟩, .func (.func 103) #[] #[.pointer (some ⟨Bm, ob, none⟩)], keyS x, undef, undef, undef, undef, undef], []⟩) ?_ ?_ ?_ ?_
  · intro l' J W2 hI hsz hJ hY hJ0
    obtain ⟨v, gb, q1, q2, q3, q4, q6⟩ := hI
    exact keysChg_gives _ 5 trivial rfl (by omega) W2 ((World.cell?_of_block (q4.block Bm hBml hBm)).trans hm) ((q4.block b hbl hbb).trans hb) hborn key hkey l' J hJ hY hJ0
  · exact fun x a' s W W' row h _ _ _ => h
  · intro l' pre x W K hI hK
    change Code.wpIn (Fence.wide.inRound l') (6 - 1 - 1) Tryz.prog _ _ ⟨#[.slice ba bn bc, .func (.func 103) #[] #[.pointer (some ⟨Bm, ob, none⟩)], .pointer (some ⟨W0.heap.size, 0, none⟩), undef, .slice none 0 0, undef, .func (.func 103) #[] #[.pointer (some ⟨Bm, ob, none⟩)], keyS x, undef, undef, undef, undef, undef], []⟩ W
    have hK' := hK _ W ⟨rfl, rfl, rfl, Nat.le_refl _, fun _ _ _ => rfl⟩ (Nat.le_refl _) rfl
    clear hK
    unfold keyS at hK' ⊢
    gi_wp2_with gi_round_op_a
    exact hK'
  · rintro l' pre x a' W ⟨v, gb, q1, q2, q3, q4, q6⟩ rfl hlen
    obtain ⟨hc1, hf1⟩ := cell_of_box_a q1
    obtain ⟨inf, d, z, i1, i2, i3, i4, i5, i6, i7⟩ := hT.parts (t := 9) (by simp [TK.isNone])
    simp at i4 i5 i7
    obtain ⟨va, vn, vc, hv⟩ : ∃ va vn vc, v = .slice va vn vc := by
      rcases q2.lies with ⟨_, _, a, rfl⟩ | ⟨g, cap, cur, e, _, rfl, _⟩
      · exact ⟨_, _, _, rfl⟩
      · exact ⟨_, _, _, rfl⟩
    subst hv
    have hWs : W0.heap.size < W.heap.size := (Array.getElem?_eq_some_iff.1 q1).1
    have q5 : RowAt 1 b0 W0.heap.size (W.alloc (.cells #[.string ⟨x.toArray⟩] 9)) (.slice va vn vc) (l.length + pre.length) ((l ++ pre).flatMap Str.enc) gb := q2.kept (World.grownBy_alloc W _ none) (by cases gb <;> simp)
    have hnew : ∀ (j : Nat) (u : Value), [Value.string ⟨x.toArray⟩][j]? = some u → (W.alloc (.cells #[.string ⟨x.toArray⟩] 9)).cell? ⟨W.heap.size, j, none⟩ = some u := fun j u hj => by
      have := heap_alloc_new W (.cells #[.string ⟨x.toArray⟩] 9)
      simp only [World.cell?, this]
      simpa using hj
    gi_wp2_with (first
      | (gi_at_builtin; refine wpListIn_append_row _ rfl _ _ 27 rfl Tryz.underlying27 i1 i6 i4 (by rw [← Array.length_toList, i7]; rfl) (by decide) rfl q5 (by simp; omega) rfl (news := [.string ⟨x.toArray⟩]) rfl (by simp [Value.oneCell']) hnew (by rw [i5]; omega) (by omega) ?_; intro v' W3 g' r1 r2 r3 r4 r5
         have hv3 : W3.heap[W0.heap.size]? = some (.cells #[.slice va vn vc] 27 (0, 0)) := (r2.block _ (by simp; omega) (fun e => q3 e.symm)).trans ((heap_alloc_old W _ hWs).trans q1)
         obtain ⟨hc3, hf3⟩ := cell_of_box_a hv3
         obtain ⟨cap', cur', e', rfl, s2, s3, s4, s5, s6, s7⟩ : ∃ cap' cur' e', v' = .slice (some ⟨g', 0, none⟩) (l.length + pre.length + 1) cap' ∧ (b0 = some g' ∨ W0.heap.size ≤ g') ∧ W3.heap[g']? = some (.cells cur' e' (0, 0)) ∧ l.length + pre.length + 1 ≤ cap' ∧ cap' ≤ maxLen ∧ cap' * 1 = cur'.size ∧ cur'.toList.take ((l.length + pre.length + 1) * 1) = (l ++ pre).flatMap Str.enc ++ [.string ⟨x.toArray⟩] := by
           rcases r1.lies with ⟨h, _⟩ | ⟨g, cap, cur, e, h, h1, h2, h3, h4, h5, h6, h7⟩
           · cases h
           · injection h with h; subst h; exact ⟨cap, cur, e, h1, h2, h3, h4, h5, h6, h7⟩
         go_frame)
      | gi_round_op_a)
    have hg0 : W.grownBy (W.alloc (.cells #[.string ⟨x.toArray⟩] 9)) none := World.grownBy_alloc W _ none
    have hd0 : W.drawn ≤ (W.alloc (.cells #[.string ⟨x.toArray⟩] 9)).drawn := Nat.le_refl _
    have hgb : ∀ r, gb = some r → (b0 = some r ∨ W0.heap.size ≤ r) ∧ ∃ cur e, W.heap[r]? = some (.cells cur e (0, 0)) := fun r e => by
      rcases q2.lies with ⟨h, _⟩ | ⟨g, cap, cur, e', h, _, h2, h3, _⟩
      · rw [h] at e; cases e
      · rw [h] at e; injection e with e; subst e; exact ⟨h2, cur, e', h3⟩
    have hgne : g' ≠ W0.heap.size := by
      rcases r4 with h | h
      · exact fun e => q3 (by rw [h, e])
      · rw [h]; simp; omega
    generalize W.alloc (.cells #[.string ⟨x.toArray⟩] 9) = W2 at *
    have hg4 : W3.grownBy (W3.setCell ⟨W0.heap.size, 0, none⟩ (.slice (some ⟨g', 0, none⟩) (l.length + pre.length + 1) cap')) (some W0.heap.size) := grownBy_setCell0_a _ _ _
    refine ⟨⟨Nat.le_trans hg0.size (Nat.le_trans r2.size hg4.size), fun k o hk ho hcell => ?_⟩, ((KeepsWalks.of_grownBy hg0 (fun j o e => by cases e)).trans (KeepsWalks.of_grownBy r2 (fun j o e ho => ?_))).trans (KeepsWalks.setCell _ _ _),
      .slice (some ⟨g', 0, none⟩) (l.length + pre.length + 1) cap', some g', heap_setCell_box_a _ hv3, ?_, fun e => hgne (by injection e), ((q4.step hg0 hd0 (fun r e => by cases e)).step r2 r3 (fun r e => (hgb r e).1)).step hg4 (Nat.le_refl _) (fun r e => .inr (by injection e with e; omega)), ((q6.step hg0 (by cases b0 <;> simp)).write (by rw [Nat.add_mul]; omega) r2 r5).step hg4 ?_⟩
    · have h2 := (hg0.block k (Array.getElem?_eq_some_iff.1 ho).1 (by simp)).trans ho
      have h3 := (r2.block k (Array.getElem?_eq_some_iff.1 h2).1 (fun e => by
        obtain ⟨_, cur, e', h⟩ := hgb k e.symm
        rw [ho] at h; cases h; cases hcell)).trans h2
      exact (hg4.block k (Array.getElem?_eq_some_iff.1 h3).1 (fun e => by injection e with e; omega)).trans h3
    · obtain ⟨_, cur, e', h⟩ := hgb j e
      have h2 := (hg0.block j (Array.getElem?_eq_some_iff.1 h).1 (by simp)).trans h
      rw [ho] at h2; cases h2; rfl
    · have := r1.kept hg4 (.inr (fun e => hgne (by injection e)))
      simpa [Str.enc, keyS, Nat.add_assoc] using this
    · cases hb : b0 with
      | none => exact .inl rfl
      | some g => exact .inr fun e => by injection e with e; have := hb0 g hb; omega
  · rintro D xs W hD hS ⟨v, gb, q1, q2, q3, q4, q6⟩ hdef
    obtain ⟨hc1, hf1⟩ := cell_of_box_a q1
    gi_wp2
    refine ⟨by simp, .inl ⟨_, _, rfl, run_takeDeferred hdef, ?_⟩⟩
    refine ⟨_, results_tmp rfl _ _ _, v, xs, gb, rfl, hS, q2.kept (grownBy_putObj_a _ _ _) ?_, q4.step (grownBy_putObj_a _ _ _) (Nat.le_refl _) (fun r e => .inr (by injection e with e; omega)), q6.step (grownBy_putObj_a _ _ _) ?_⟩
    rcases q2.lies with ⟨h, _⟩ | ⟨g, cap, cur, e', h, _, h2, h3, _⟩
    · exact .inl h
    · refine .inr fun e => ?_
      rw [h] at e; injection e with e; subst e
      rw [hdef] at h3; cases h3
    · cases hb : b0 with
      | none => exact .inl rfl
      | some g => exact .inr fun e => by injection e with e; have := hb0 g hb; omega
end Go.Eng
namespace Go.Eng
open Go.Proofs Go.Sort Go.Shelf Go.RowKit
attribute [local simp] runL stepL evalG evalOp opLV constLV putEnv dstOk upd upds Res.plain Res.cond Res.fail evalBin evalUn seqQ blockQ argsEnv lookL lookH RetIs memless freshL evalPick evalMin bval bok evalLen evalIn strip whenC guardOps guardC slotsOf
  runM foldS stepI stepM maskE wrIn lk renO lookN evalCall evalCallee optAll resLV resObj retLV retObj retsLV retsObj evalLoad evalIndexAddr evalField solid cellsD_agg cellsD_int cellsD_bool cellsD_str cellsD_sl cellsD_ro cellsD_fn cellsL_agg cellsL_dagg cellsL_int cellsL_bool cellsL_str cellsL_sl cellsL_fn cellsL_ow cellsL_bx cellsL_lfn cellsL_nl takeL takeD mkAgg allD eqD eqDs kindsAre kindIs LObj.live TK.isNone TK.agg TK.isBool TK.isStr TK.isStruct Op.operands Call.operands
  evalBuildSlice evalAppend elemsOf evalStore evalBuild fillL lookupF putL evalSlice bound evalConv elemsS freezes frozen loadR
  mkEnv_at mkObs_at close_d close_agg close_ow close_bx close_fn close_nl touch_d touch_agg touch_ow touch_bx touch_fn touch_nl ren_d ren_agg ren_bx ren_rp ren_ow ren_fn ren_nl ren_junk retQ_ret retQ2_ret condQ_bool Nm.d Df.d Ed.d nmsD dfsD strsD edsD retC_ret nm_eq df_eq take_map_len take_map_app
  nm_t nm_d nm_td df_t df_d df_td str_t str_d str_td ed_t ed_d ed_td
  evalAppendIn evalCut evalClear evalCopy evalMake evalWrap evalCap evalNil isNilC lenL isInp gorc
  mapOf findD keyEq keyOk evalMakeMap evalRange zeroD zeroDV argsG shutG outN lenv retG0_ret retG0_normal retG1_ret renO close_mp touch_mp ren_mp optAll_d optAll_d' touch_ds cellsL_mp cellsD_mp cellsL_dmp
  evalMapSet evalPtr TK.isPtr evalToArr firstL retN_ret retsQ rvarL close_bm touch_bm ren_bm cellsD_bm cellsL_bm cellsL_lbm
attribute [local simp] cutQ_normal cutQ_ret cutQ_exit
theorem AppendChg_ok (s : List Str) (ds : List DV) (hN : s.length * 16 ≤ 140737488355328) :
    OkGR Tryz.prog 137 [.nl, .d (.fn 103 [.ro [.mp (s.map .str) ds]])] []
      (fun fin ret => ∃ p : List Str, p.Perm s ∧ fin = [(0, .dead), (1, .row false 1 (p.map .str))] ∧ ret = .ow 1 0 p.length) := by
  refine ⟨⟨_, Tryz.func137, by kernel_rfl, by rfl⟩, fun w X β vs m0 hvl hr => ?_⟩
  match vs, hvl with
  | [v0, v1], _ =>
  have r0 := hr 0 _ _ rfl rfl
  have r1 := hr 1 _ _ rfl rfl
  obtain ⟨a0, rfl⟩ : ∃ a, v0 = .slice a 0 0 := by cases r0 with | nl a => exact ⟨a, rfl⟩
  obtain ⟨Bm, ob, b, clock, arr, rfl, hcell, hblk, hk, hborn, hkey⟩ : ∃ Bm ob b clock arr, v1 = .func (.func 103) #[] #[.pointer (some ⟨Bm, ob, none⟩)] ∧ w.cell? ⟨Bm, ob, none⟩ = some (.map (some b)) ∧ w.heap[b]? = some (.map arr clock) ∧
      (s.map DV.str).length = arr.size ∧ BornOk arr clock ∧ ∀ (i : Nat) (d : DV) (e : MapEntry), (s.map DV.str)[i]? = some d → arr[i]? = some e → RD w (Ex X β (mkObs [])) d e.key := by
    cases r1 with
    | d _ _ h => cases h with
      | fn _ _ us hl hc =>
        match us, hl with
        | [u], _ =>
        have h0 := hc 0 _ u rfl rfl
        cases h0 with
        | ro _ Bm ob us2 hBm hul _ _ hcell h =>
          match us2, hul with
          | [u2], _ =>
          have h2 := h 0 _ u2 rfl rfl
          have hc2 := hcell 0 u2 rfl
          cases h2 with
          | mp _ _ b clock arr hb _ hblk hk _ hborn hkey _ => exact ⟨Bm, ob, b, clock, arr, rfl, by simpa using hc2, hblk, hk, hborn, hkey⟩
  rw [List.length_map] at hk
  have hkeys : ∀ (i : Nat) (h1 : i < s.length) (h2 : i < arr.size), arr[i].key = keyS s[i] := fun i h1 h2 => rd_str (hkey i _ _ (by simp [h1]) (Array.getElem?_eq_getElem h2))
  have hk2 : ∀ e ∈ arr.toList, e.key = keyS (entryStr e) := fun e he => by
    obtain ⟨i, hi, rfl⟩ := List.getElem_of_mem he
    have hi' : i < arr.size := by simpa using hi
    have := hkeys i (by omega) hi'
    simp only [Array.getElem_toList]
    simp [entryStr, this, keyS]
  have hmap : arr.toList.map entryStr = s := by
    apply List.ext_getElem (by simpa using hk.symm)
    intro i h1 h2
    have := hkeys i h2 (by omega)
    simp [entryStr, this, keyS]
  obtain ⟨m, _⟩ := new_none m0 (d := 0) (by simp [mkObs, lookH]) (s := 1) (by decide)
  refine (appendSeqChg w (.slice a0 0 0) [] none ⟨rfl, by simp, .inl ⟨rfl, rfl, a0, rfl⟩⟩ (fun g hg => by cases hg) hcell (by simp) hblk (by simp) hborn entryStr hk2 (by rw [← hk]; simpa using hN)).mono ?_
  rintro e w' ⟨v, ss, gb, rfl, hp, hr', hst, hhd⟩
  rw [hmap] at hp
  obtain ⟨β', hm, hR⟩ := m.appended strCells (id := 0) (new := 1) (l := []) (by rw [upd_same]; rfl) (by rw [upd_ne _ _ (by decide)]; simp [mkObs, lookH]) (.inl ⟨rfl, rfl⟩) hr' hst hhd
  have hfin : mkObs [(0, .dead), (1, .row false 1 (ss.map .str))] = upd (upd (upd (mkObs []) 0 (.row false 1 [])) 0 .dead) 1 (.row false 1 (ss.map .str)) := by
    funext j; simp only [mkObs, lookH, upd]; by_cases h0 : j = 0 <;> by_cases h1 : j = 1 <;> simp_all
  exact ⟨v, β', _, _, ⟨ss, hp, rfl, rfl⟩, rfl, by rw [hfin]; simpa using hm, by rw [hfin]; simpa using hR⟩
theorem CollectChg_ok (s : List Str) (ds : List DV) (hN : s.length * 16 ≤ 140737488355328) : OkR Tryz.prog 101 [.fn 103 [.ro [.mp (s.map .str) ds]]] (fun r => (fun v => ∃ p : List Str, p.Perm s ∧ v = .own 1 (p.map .str)) r.v ∧ r.fresh = true) := by
  refine OkR.ret (Rel := fun v => ∃ p : List Str, p.Perm s ∧ v = .own 1 (p.map .str)) Tryz.func101 (by kernel_rfl) (c := _) rfl Tryz.ntmps101 (by simp) Tryz.results101 fun w0 X hp => ?_
  refine LWp.seq ?_
  refine LWp.reg hT hW (fun _ => none) (fun _ => ⟨rfl, fun _ h => h⟩) ?_
  simp
  refine LWp.seq ?_
  refine LWp.regGenR hT hW 4 [] [(1, 4)] [1] (fun fin ret => ∃ p : List Str, p.Perm s ∧ fin = [(0, .dead), (1, .row false 1 (p.map .str))] ∧ ret = .ow 1 0 p.length) _ _ ⟨s, List.Perm.refl _, rfl, rfl⟩ (fun | 99 => none | _ => none) (by intro d; first | exact ⟨rfl, fun _ h => h⟩ | (split <;> exact ⟨rfl, fun _ h => h⟩)) (by kernel_rfl) fun r1 hr1 => ?_
  obtain ⟨fin1, ret1⟩ := r1
  obtain ⟨p, hp1, rfl, rfl⟩ := hr1
  simp
  refine ⟨AppendChg_ok s ds hN, ?_⟩
  refine LWp.ret ?_
  simp only [retR_ret]
  refine ⟨_, ⟨p, hp1, rfl⟩, by simp, ?_⟩
  simp
theorem SortedChg_ok (s : List Str) (ds : List DV) (hN : s.length ≤ 4400000) : Ok Tryz.prog 49 [.fn 103 [.ro [.mp (s.map .str) ds]]] ⟨.own 1 ((ssort s).map .str), true⟩ := by
  refine Ok.ret Tryz.func49 (by kernel_rfl) (c := _) rfl Tryz.ntmps49 (by simp) Tryz.results49 (by intro _ h; cases h) fun w0 X hp => ?_
  refine LWp.seq ?_
  refine LWp.reg hT hW (fun _ => none) (fun _ => ⟨rfl, fun _ h => h⟩) ?_
  simp
  refine LWp.seq ?_
  refine LWp.regRel hT hW 5 (fun r => (∃ p : List Str, p.Perm s ∧ r.v = .own 1 (p.map .str)) ∧ r.fresh = true) true ⟨.own 1 (s.map .str), true⟩ ⟨⟨⟨s, List.Perm.refl _, rfl⟩, rfl⟩, rfl⟩ (fun | 99 => none | _ => none) (by intro d; first | exact ⟨rfl, fun _ h => h⟩ | (split <;> exact ⟨rfl, fun _ h => h⟩)) (by kernel_rfl) fun r1 hr1 => ?_
  obtain ⟨v1, f1⟩ := r1
  obtain ⟨⟨p, hp1, hv⟩, hf⟩ := hr1
  dsimp only at hv hf
  subst hv; subst hf
  have hpl := hp1.length_eq
  simp
  refine ⟨CollectChg_ok s ds (by omega), ?_⟩
  refine LWp.seq ?_
  refine LWp.reg hT hW (fun | 7 => some (.gen ⟨[(5, 0)], [], [], [(0, .row false 1 ((ssort p).map .str))], .tup []⟩) | _ => none) (by intro d; first | exact ⟨rfl, fun _ h => h⟩ | (split <;> exact ⟨rfl, fun _ h => h⟩)) ?_
  simp
  refine ⟨by simpa using SortStr_ok p (by omega), ?_⟩
  refine LWp.seq ?_
  refine LWp.reg hT hW (fun _ => none) (fun _ => ⟨rfl, fun _ h => h⟩) ?_
  simp
  refine LWp.ret ?_
  rw [← ssort_perm hp1]
  simp [ssort_len]
  rw [List.take_of_length_le (by simp [ssort_len])]
theorem KeysChg_ok (ks vs : List DV) : Ok Tryz.prog 50 [.mp ks vs] ⟨.d (.fn 103 [.ro [.mp ks vs]]), false⟩ := by
  refine Ok.ret Tryz.func50 (by kernel_rfl) (c := _) rfl Tryz.ntmps50 (by simp) Tryz.results50 (by intro _ h; cases h) fun w0 X hp => ?_
  refine LWp.seq ?_
  refine LWp.reg hT hW (fun _ => none) (fun _ => ⟨rfl, fun _ h => h⟩) ?_
  simp
  refine LWp.seq ?_
  refine LWp.reg hT hW (fun _ => none) (fun _ => ⟨rfl, fun _ h => h⟩) ?_
  simp
  refine LWp.ret ?_
  simp
open Go.Proofs
def optD : Option Str → DV
  | none => .val (.pointer none)
  | some t => .ro [.str t]
def ck (c : Chg) : List DV := c.map fun p => .str p.1
def cv (c : Chg) : List DV := c.map fun p => optD p.2
theorem ck_names (c : Chg) : ck c = (c.map Prod.fst).map .str := by simp [ck]
theorem findD_chg {s : Str} : ∀ {m : Chg} {i : Nat}, findD (.str s) (ck m) i = some ((m.findIdx? fun x => decide (s = x.1)).map (· + i))
  | [], i => by simp [findD, ck]
  | x :: m, i => by
    have ih := findD_chg (s := s) (m := m) (i := i + 1)
    simp only [ck, List.map_cons, findD] at *
    have e : keyEq (.str s) (.str x.1) = some (decide (s = x.1)) := by simp only [keyEq, eqD]; congr 1; rw [Bool.eq_iff_iff]; simp
    rw [e, List.findIdx?_cons]
    cases q : decide (s = x.1) with
    | true => simp
    | false =>
      simp only [ih, Bool.false_eq_true, if_false]
      cases (m.findIdx? fun x => decide (s = x.1)) with
      | none => rfl
      | some j => simp; omega
theorem put_chg (m : Chg) {H : Obs} {id : Nat} {s : Str} (v : Option Str) (h : H id = .map false (ck m) (cv m)) :
    evalMapUpdate T H 86 (.mp id) (.d (.str s)) (.d (optD v)) = ⟨.junk, True, [(id, .map false (ck (upC m s v)) (cv (upC m s v)))]⟩ := by
  unfold evalMapUpdate upC
  simp only [t86, h, findD_chg]
  cases q : m.findIdx? fun x => decide (s = x.1) with
  | none => simp [keyOk, kindIs, ck, cv]
  | some j =>
    obtain ⟨hj, hjn⟩ := findC_some q
    have hk : ck m = ck (m.set j (s, v)) := by
      unfold ck
      apply List.ext_getElem?
      intro i
      rw [List.map_set, List.getElem?_set]
      by_cases e : j = i
      · subst e; simp [hj, hjn]
      · simp [e]
    simp [keyOk, kindIs, ← hk]
    simp [cv, List.map_set]
theorem put_some (m : Chg) {H : Obs} {id : Nat} {s t : Str} (h : H id = .map false (ck m) (cv m)) :
    evalMapUpdate T H 86 (.mp id) (.d (.str s)) (.d (.ro [.str t])) = ⟨.junk, True, [(id, .map false (ck (upC m s (some t))) (cv (upC m s (some t))))]⟩ := put_chg m (some t) h
theorem put_none (m : Chg) {H : Obs} {id : Nat} {s : Str} (h : H id = .map false (ck m) (cv m)) :
    evalMapUpdate T H 86 (.mp id) (.d (.str s)) (.d (.val (.pointer none))) = ⟨.junk, True, [(id, .map false (ck (upC m s none)) (cv (upC m s none)))]⟩ := put_chg m none h
theorem look_chg (m : Chg) {H : Obs} {x : LV} {s : Str} {ok : Bool} (h : mapOf H x = some (ck m, cv m)) :
    evalLookup T H 86 x (.d (.str s)) ok = ⟨if ok then .tup [.d (optD ((lookC m s).getD none)), .d (.bool (lookC m s).isSome)] else .d (optD ((lookC m s).getD none)), True, []⟩ := by
  unfold evalLookup lookC
  simp only [t86, h, findD_chg]
  cases q : m.findIdx? fun x => decide (s = x.1) with
  | none => cases ok <;> simp [keyOk, kindIs, zeroD, zeroDV, TK.isNone, TK.agg, optD]
  | some j =>
    obtain ⟨hj, _⟩ := findC_some q
    cases ok <;> simp [keyOk, kindIs, cv, hj]
theorem look_chgD (m : Chg) {H : Obs} {s : Str} {ok : Bool} :
    evalLookup T H 86 (.d (.mp (ck m) (cv m))) (.d (.str s)) ok = ⟨if ok then .tup [.d (optD ((lookC m s).getD none)), .d (.bool (lookC m s).isSome)] else .d (optD ((lookC m s).getD none)), True, []⟩ := look_chg m rfl
theorem look_chgO (m : Chg) {H : Obs} {id : Nat} {fz : Bool} {s : Str} {ok : Bool} (h : H id = .map fz (ck m) (cv m)) :
    evalLookup T H 86 (.mp id) (.d (.str s)) ok = ⟨if ok then .tup [.d (optD ((lookC m s).getD none)), .d (.bool (lookC m s).isSome)] else .d (optD ((lookC m s).getD none)), True, []⟩ := look_chg m (by simp [mapOf, h])
def aloneV (e : Ed) : Int := if properE e then 0 else 1
def bareE (e : Ed) : Ed := { e with needs := [] }
theorem proper_bare {e : Ed} : properE e = true ↔ (incr Nm.less e.needs = true ∧ e.needs.all Nm.isName = true) ∧ properE (bareE e) = true := by
  rw [proper_parts, proper_parts]
  simp [bareE, incr, touches]
  constructor
  · rintro ⟨h1, h2, h3, h4, h5, h6, h7, h8⟩; exact ⟨⟨h3, h6⟩, h1, h2, h4, h5, h7, h8⟩
  · rintro ⟨⟨h3, h6⟩, h1, h2, h4, h5, h7, h8⟩; exact ⟨h1, h2, h3, h4, h5, h6, h7, h8⟩
theorem valid_bare (e : Ed) : (validV [bareE e]).2 = if properE (bareE e) then 0 else 1 := by
  have hf : findI [bareE e] (bareE e).name = 0 := by simp [findI, find?]
  have ha : (bareE e).name ∉ aboveL [bareE e] (bareE e).name := by
    rw [mem_aboveL]
    intro h
    have hn : ∀ n, needsOf [bareE e] n = [] := fun n => by
      unfold needsOf
      cases q : find? [bareE e] n with
      | none => rfl
      | some i =>
        obtain ⟨hi, _, _⟩ := find_at q
        have : i = 0 := by simpa using hi
        subst this; rfl
    cases h with
    | one h => rw [hn] at h; cases h
    | next h _ => rw [hn] at h; cases h
  unfold validV validFrom errE
  by_cases hp : properE (bareE e) = true
  · have : (bareE e).needs = [] := rfl
    simp [hp, hf, this, ha, validFrom]
  · simp [hp]
theorem apply_ok (c : Chg) (e : Ed) (hs : e.small) : OkG Tryz.prog 48 [.mp 0, .d e.d] [(0, .map false (ck c) (cv c))] [(0, .map false (ck (applyC c e)) (cv (applyC c e)))] (.tup []) := by
  have hs1 := hs.1
  have hs2 := hs.2
  refine OkG.unit Tryz.func48 (by kernel_rfl) (c := _) rfl Tryz.ntmps48 (by simp) Tryz.results48 fun w0 X hp => ?_
  refine LWp.seq ?_
  refine LWp.reg hT hW (fun _ => none) (fun _ => ⟨rfl, fun _ h => h⟩) ?_
  simp
  refine LWp.seq ?_
  refine LWp.seq ?_
  refine LWp.reg hT hW (fun _ => none) (fun _ => ⟨rfl, fun _ h => h⟩) ?_
  simp
  refine LWp.block ?_
  refine LWp.loopW (ι := Nat × Chg) (fun ⟨i, m⟩ => mkEnv [(0, .mp 0), (3, .bx 3 0), (9, .d (dfsD e.puts)), (10, .d (I64 e.puts.length)), (11, .d (I64 i))]) (fun ⟨i, m⟩ => mkObs [(0, .map false (ck m) (cv m)), (3, .box false ((cellsD e.d).map .d))]) (fun ⟨i, m⟩ => i ≤ e.puts.length ∧ m = (e.puts.take i).foldl (fun c d => upC c d.name (some d.text)) c) (fun ⟨i, m⟩ => e.puts.length - i) (0, c) (Weak.to [0, 3, 9, 10, 11] [(0, 0), (3, 3)] (by decide) (by decide) (by simp [hp]) (by simp) (by simp)) (by simp) fun ⟨i, m⟩ hi2 => ?_
  refine LWp.seq ?_
  refine LWp.reg hT hW (fun _ => none) (fun _ => ⟨rfl, fun _ h => h⟩) ?_
  simp
  refine LWp.seq ?_
  refine LWp.iff ?_
  simp
  refine ⟨fun h2 => ?_, fun h2 => ?_⟩
  · refine LWp.skip ?_
    simp
    refine LWp.seq ?_
    refine LWp.block ?_
    refine LWp.seq ?_
    refine LWp.reg hT hW (fun _ => none) (fun _ => ⟨rfl, fun _ h => h⟩) ?_
    simp [h2]
    refine LWp.reg hT hW (fun _ => none) (fun _ => ⟨rfl, fun _ h => h⟩) ?_
    simp [put_some m]
    refine LWp.reg hT hW (fun _ => none) (fun _ => ⟨rfl, fun _ h => h⟩) ?_
    simp
    refine ⟨by omega, ?_⟩
    refine loopQ.mk (i + 1, upC m e.puts[i].name (some e.puts[i].text)) (Weak.to [0, 3, 9, 10, 11] [(0, 0), (3, 3)] (by decide) (by decide) (by simp [hp]) (by simp) (by simp)) ?_ ?_
    · exact ⟨h2, by dsimp only; rw [List.take_succ_eq_append_getElem h2, List.foldl_append, ← hi2.2]; rfl⟩
    · omega
  · refine LWp.exit ?_
    simp
    refine LWp.seq ?_
    refine LWp.reg hT hW (fun _ => none) (fun _ => ⟨rfl, fun _ h => h⟩) ?_
    simp
    refine LWp.block ?_
    refine LWp.loopW (ι := Nat × Chg) (fun ⟨j, m2⟩ => mkEnv [(0, .mp 0), (3, .bx 3 0), (21, .d (strsD e.drops)), (22, .d (I64 e.drops.length)), (23, .d (I64 j))]) (fun ⟨j, m2⟩ => mkObs [(0, .map false (ck m2) (cv m2)), (3, .box false ((cellsD e.d).map .d))]) (fun ⟨j, m2⟩ => j ≤ e.drops.length ∧ m2 = (e.drops.take j).foldl (fun c s => upC c s none) m) (fun ⟨j, m2⟩ => e.drops.length - j) (0, m) (Weak.to [0, 3, 21, 22, 23] [(0, 0), (3, 3)] (by decide) (by decide) (by simp [hp]) (by simp) (by simp)) (by simp) fun ⟨j, m2⟩ hi7 => ?_
    refine LWp.seq ?_
    refine LWp.reg hT hW (fun _ => none) (fun _ => ⟨rfl, fun _ h => h⟩) ?_
    simp
    refine LWp.seq ?_
    refine LWp.iff ?_
    simp
    refine ⟨fun h7 => ?_, fun h7 => ?_⟩
    · refine LWp.skip ?_
      simp
      refine LWp.seq ?_
      refine LWp.block ?_
      refine LWp.seq ?_
      refine LWp.reg hT hW (fun _ => none) (fun _ => ⟨rfl, fun _ h => h⟩) ?_
      simp [h7]
      refine LWp.reg hT hW (fun _ => none) (fun _ => ⟨rfl, fun _ h => h⟩) ?_
      simp [put_none m2]
      refine LWp.reg hT hW (fun _ => none) (fun _ => ⟨rfl, fun _ h => h⟩) ?_
      simp
      refine ⟨by omega, ?_⟩
      refine loopQ.mk (j + 1, upC m2 e.drops[j] none) (Weak.to [0, 3, 21, 22, 23] [(0, 0), (3, 3)] (by decide) (by decide) (by simp [hp]) (by simp) (by simp)) ?_ ?_
      · exact ⟨h7, by dsimp only; rw [List.take_succ_eq_append_getElem h7, List.foldl_append, ← hi7.2]; rfl⟩
      · omega
    · refine LWp.exit ?_
      simp
      have e2 : m2 = applyC c e := by
        rw [hi7.2, List.take_of_length_le (by omega), hi2.2, List.take_of_length_le (by omega)]
        rfl
      refine Weak.to [] [(0, 0)] (by decide) (by decide) (by simp [hp]) ?_ ?_
      · simp
      · simp [e2]
theorem applyC_len (c : Chg) (e : Ed) : (applyC c e).length ≤ c.length + e.puts.length + e.drops.length := by
  have up : ∀ (c : Chg) (s : Str) (v : Option Str), (upC c s v).length ≤ c.length + 1 := fun c s v => by unfold upC; split <;> simp
  have k1 : ∀ (ps : List Df) (c : Chg), (ps.foldl (fun c d => upC c d.name (some d.text)) c).length ≤ c.length + ps.length := by
    intro ps
    induction ps with
    | nil => intro c; simp
    | cons d ps ih => intro c; have := ih (upC c d.name (some d.text)); have := up c d.name (some d.text); simp only [List.foldl_cons, List.length_cons]; omega
  have k2 : ∀ (ds : List Str) (c : Chg), (ds.foldl (fun c s => upC c s none) c).length ≤ c.length + ds.length := by
    intro ds
    induction ds with
    | nil => intro c; simp
    | cons d ds ih => intro c; have := ih (upC c d none); have := up c d none; simp only [List.foldl_cons, List.length_cons]; omega
  have h1 := k1 e.puts c
  have h2 := k2 e.drops (e.puts.foldl (fun c d => upC c d.name (some d.text)) c)
  unfold applyC; omega
theorem ssort_set {l : List Str} (h : l.Nodup) : ssort l = setS l := by
  refine rising_eq bless_sto ?_ (setS_spec l).1 fun x => ?_
  · have h1 := ssort_sorted l
    have h2 : (ssort l).Nodup := (List.mergeSort_perm l _).nodup_iff.2 h
    unfold Rising
    refine (h1.and h2).imp ?_
    rintro a b ⟨h3, h4⟩
    exact bless_iff.2 (Std.lt_of_le_of_ne h3 h4)
  · rw [(setS_spec l).2 x]
    exact (List.mergeSort_perm l _).mem_iff
theorem applyC_nodup (e : Ed) : ((applyC [] e).map Prod.fst).Nodup := (applyC_keys (by simp) e).1
theorem applyC_set (e : Ed) : setS ((applyC [] e).map Prod.fst) = tchN e := setS_mem fun x => by simpa using (applyC_keys (c := []) (by simp) e).2 x
theorem PTouches_own (e : Ed) (hs : e.small) : Ok Tryz.prog 11 [e.d] ⟨.own 1 ((tchN e).map .str), true⟩ := by
  have hal := applyC_len [] e
  have hs1 := hs.1
  have hs2 := hs.2
  refine Ok.ret Tryz.func11 (by kernel_rfl) (c := _) rfl Tryz.ntmps11 (by simp) Tryz.results11 (by intro _ h; cases h) fun w0 X hp => ?_
  refine LWp.seq ?_
  refine LWp.reg hT hW (fun _ => none) (fun _ => ⟨rfl, fun _ h => h⟩) ?_
  simp
  refine LWp.seq ?_
  refine LWp.reg hT hW (fun _ => none) (fun _ => ⟨rfl, fun _ h => h⟩) ?_
  simp
  refine LWp.seq ?_
  refine LWp.reg hT hW (fun | 7 => some (.gen ⟨[(4, 0)], [], [], [(0, .map false (ck (applyC [] e)) (cv (applyC [] e)))], .tup []⟩) | _ => none) (by intro d; first | exact ⟨rfl, fun _ h => h⟩ | (split <;> exact ⟨rfl, fun _ h => h⟩)) ?_
  simp
  refine ⟨by simpa [ck, cv] using apply_ok [] e hs, ?_⟩
  refine LWp.seq ?_
  obtain ⟨m, hm⟩ : ∃ m, m = applyC [] e := ⟨_, rfl⟩
  have hmt : ssort (m.map Prod.fst) = tchN e := by rw [hm, ssort_set (applyC_nodup e), applyC_set]
  rw [← hm] at hal ⊢
  simp at hal
  refine LWp.reg hT hW (fun | 9 => some <| .plain ⟨.d (.fn 103 [.ro [.mp (ck m) (cv m)]]), false⟩ | 10 => some <| .plain ⟨.own 1 ((tchN e).map .str), true⟩ | _ => none) (by intro d; first | exact ⟨rfl, fun _ h => h⟩ | (split <;> exact ⟨rfl, fun _ h => h⟩)) ?_
  simp
  refine ⟨⟨KeysChg_ok _ _, by rw [← hmt, ck_names]; exact SortedChg_ok (m.map Prod.fst) (cv m) (by simp; omega)⟩, ?_⟩
  refine LWp.ret ?_
  simp
theorem PTouches_ok (e : Ed) (hs : e.small) : Ok Tryz.prog 11 [e.d] ⟨.d (strsD (tchN e)), true⟩ := (PTouches_own e hs).own_d
theorem meet1_ok (l : List Str) (s : Str) : Ok Tryz.prog 109 [.str s, .ro [strsD l]] ⟨.d (.bool (decide (s ∈ l))), true⟩ := by
  refine Ok.ret Tryz.func109 (by kernel_rfl) (c := _) rfl Tryz.ntmps109 (by simp) Tryz.results109 (by intro _ h; cases h) fun w0 X hp => ?_
  refine LWp.seq ?_
  refine LWp.reg hT hW (fun _ => none) (fun _ => ⟨rfl, fun _ h => h⟩) ?_
  simp
  refine LWp.seq ?_
  refine LWp.reg hT hW (fun | 6 => some <| .plain ⟨.d (.bool (decide (s ∈ l))), true⟩ | _ => none) (by intro d; first | exact ⟨rfl, fun _ h => h⟩ | (split <;> exact ⟨rfl, fun _ h => h⟩)) ?_
  simp
  refine ⟨InStr_ok l s, ?_⟩
  refine LWp.ret ?_
  simp
theorem meet_ok (a b : Ed) (ha : a.small) (hb : b.small) : Ok Tryz.prog 53 [a.d, b.d] ⟨.d (.bool (meetB a b)), true⟩ := by
  refine Ok.ret Tryz.func53 (by kernel_rfl) (c := _) rfl Tryz.ntmps53 (by simp) Tryz.results53 (by intro _ h; cases h) fun w0 X hp => ?_
  refine LWp.seq ?_
  refine LWp.reg hT hW (fun _ => none) (fun _ => ⟨rfl, fun _ h => h⟩) ?_
  simp
  refine LWp.seq ?_
  refine LWp.reg hT hW (fun | 7 => some <| .plain ⟨.d (strsD (tchN b)), true⟩ | _ => none) (by intro d; first | exact ⟨rfl, fun _ h => h⟩ | (split <;> exact ⟨rfl, fun _ h => h⟩)) ?_
  simp
  refine ⟨PTouches_ok b hb, ?_⟩
  refine LWp.seq ?_
  refine LWp.reg hT hW (fun | 9 => some <| .plain ⟨.d (strsD (tchN a)), true⟩ | 11 => some <| .plain ⟨.d (.bool (meetB a b)), true⟩ | _ => none) (by intro d; first | exact ⟨rfl, fun _ h => h⟩ | (split <;> exact ⟨rfl, fun _ h => h⟩)) ?_
  simp
  refine ⟨⟨PTouches_ok a ha, by simpa [meetB] using AnyStr_ok (tchN a) (fun s => decide (s ∈ tchN b)) _ _ fun s _ => meet1_ok (tchN b) s⟩, ?_⟩
  refine LWp.ret ?_
  simp
theorem ptouching_ok (l : List Ed) (set : List Nm) (e : Ed) (hs : small l) (he : e.small) (hl : set.length ≤ 1100000) : Ok Tryz.prog 67 [edsD l, nmsD set, e.d] ⟨.own 2 ((touchingL l set e).map Nm.d), true⟩ := by
  refine Ok.ret Tryz.func67 (by kernel_rfl) (c := _) rfl Tryz.ntmps67 (by simp) Tryz.results67 (by intro _ h; cases h) fun w0 X hp => ?_
  refine LWp.seq ?_
  refine LWp.reg hT hW (fun _ => none) (fun _ => ⟨rfl, fun _ h => h⟩) ?_
  simp
  refine LWp.seq ?_
  refine LWp.reg hT hW (fun _ => none) (fun _ => ⟨rfl, fun _ h => h⟩) ?_
  simp
  refine LWp.seq ?_
  refine LWp.seq ?_
  refine LWp.reg hT hW (fun _ => none) (fun _ => ⟨rfl, fun _ h => h⟩) ?_
  simp
  refine LWp.block ?_
  refine LWp.loopW (ι := Nat × List Nm) (fun ⟨i, acc⟩ => mkEnv [(0, .d (edsD l)), (5, .bx 5 0), (7, .ow 7 0 acc.length), (11, .d (nmsD set)), (12, .d (I64 set.length)), (13, .d (I64 i))]) (fun ⟨i, acc⟩ => mkObs [(5, .box false ((cellsD e.d).map .d)), (7, .row false 2 (acc.map Nm.d))]) (fun ⟨i, acc⟩ => i ≤ set.length ∧ acc.length ≤ i ∧ acc = touchingL l (set.take i) e) (fun ⟨i, acc⟩ => set.length - i) (0, []) (Weak.to [0, 5, 7, 11, 12, 13] [(5, 5), (7, 7)] (by decide) (by decide) (by simp [hp]) (by simp) (by simp)) (by simp [touchingL]) fun ⟨i, acc⟩ hi3 => ?_
  refine LWp.seq ?_
  refine LWp.reg hT hW (fun _ => none) (fun _ => ⟨rfl, fun _ h => h⟩) ?_
  simp
  refine LWp.seq ?_
  refine LWp.iff ?_
  simp
  refine ⟨fun h3 => ?_, fun h3 => ?_⟩
  · refine LWp.skip ?_
    simp
    refine LWp.seq ?_
    refine LWp.block ?_
    refine LWp.seq ?_
    refine LWp.reg hT hW (fun _ => none) (fun _ => ⟨rfl, fun _ h => h⟩) ?_
    simp [h3]
    refine LWp.seq ?_
    refine LWp.reg hT hW (fun | 19 => some <| .plain ⟨.d (I64 (findI l set[i])), true⟩ | _ => none) (by intro d; first | exact ⟨rfl, fun _ h => h⟩ | (split <;> exact ⟨rfl, fun _ h => h⟩)) ?_
    simp
    refine ⟨EFind_ok l _, ?_⟩
    refine LWp.seq ?_
    rcases (by omega : findI l set[i] < 0 ∨ 0 ≤ findI l set[i]) with q6 | q6
    · refine LWp.regAny hT hW hMixed (lk [[],[0],[0,1],[0,1,2],[0,1,2],[0,1,2,3,4],[0,1,2,3,4,5],[0,1,2],[0,1,2,3,4,5,6,7],[0,1,2,3,4,5,6,7,8]]) (lk [[],[],[],[],[],[],[],[],[],[]]) (lk [[],[],[],[],[],[],[],[],[28],[]]) (by kernel_rfl) (fun _ => none) (by intro d; first | exact ⟨rfl, fun _ h => h⟩ | (split <;> exact ⟨rfl, fun _ h => h⟩)) ?_
      simp [(show ¬ 0 ≤ findI l set[i] by omega)]
      refine LWp.iff ?_
      simp [(show ¬ 0 ≤ findI l set[i] by omega)]
      refine LWp.skip ?_
      simp
      refine LWp.reg hT hW (fun _ => none) (fun _ => ⟨rfl, fun _ h => h⟩) ?_
      simp
      refine ⟨by omega, ?_⟩
      refine loopQ.mk (i + 1, acc) (Weak.to [0, 5, 7, 11, 12, 13] [(5, 5), (7, 7)] (by decide) (by decide) (by simp [hp]) (by simp) (by simp)) ?_ ?_
      · refine ⟨h3, by have := hi3.2.1; dsimp only; omega, ?_⟩
        dsimp only [touchingL] at *
        rw [filter_take_succ h3, ← hi3.2.2]; simp [show ¬ 0 ≤ findI l set[i] by omega]
      · omega
    · obtain ⟨i0, hi0, fc, ec⟩ := edAt_of q6
      refine LWp.regAny hT hW hMixed (lk [[],[0],[0,1],[0,1,2],[0,1,2],[0,1,2,3,4],[0,1,2,3,4,5],[0,1,2],[0,1,2,3,4,5,6,7],[0,1,2,3,4,5,6,7,8]]) (lk [[],[],[],[],[],[],[],[],[],[]]) (lk [[],[],[],[],[],[],[],[],[28],[]]) (by kernel_rfl) (fun | 28 => some <| .plain ⟨.d (.bool (meetB l[i0] e)), true⟩ | _ => none) (by intro d; first | exact ⟨rfl, fun _ h => h⟩ | (split <;> exact ⟨rfl, fun _ h => h⟩)) ?_
      simp [fc, hi0]
      refine ⟨meet_ok _ _ (hs _ (List.getElem_mem hi0)) he, ?_⟩
      refine LWp.iff ?_
      simp
      refine ⟨fun h6 => ?_, fun h6 => ?_⟩
      · refine LWp.reg hT hW (fun _ => none) (fun _ => ⟨rfl, fun _ h => h⟩) ?_
        simp
        refine ⟨by have := hi3.2.1; omega, ?_⟩
        refine LWp.reg hT hW (fun _ => none) (fun _ => ⟨rfl, fun _ h => h⟩) ?_
        simp
        refine ⟨by omega, ?_⟩
        refine loopQ.mk (i + 1, acc ++ [set[i]]) (Weak.to [0, 5, 7, 11, 12, 13] [(5, 5), (33, 7)] (by decide) (by decide) (by simp [hp]) (by simp) (by simp)) ?_ ?_
        · refine ⟨h3, by have := hi3.2.1; simp; omega, ?_⟩
          dsimp only [touchingL] at *
          rw [filter_take_succ h3, ← hi3.2.2]; simp [q6, ec, h6]
        · omega
      · refine LWp.skip ?_
        simp
        refine LWp.reg hT hW (fun _ => none) (fun _ => ⟨rfl, fun _ h => h⟩) ?_
        simp
        refine ⟨by omega, ?_⟩
        refine loopQ.mk (i + 1, acc) (Weak.to [0, 5, 7, 11, 12, 13] [(5, 5), (7, 7)] (by decide) (by decide) (by simp [hp]) (by simp) (by simp)) ?_ ?_
        · refine ⟨h3, by have := hi3.2.1; dsimp only; omega, ?_⟩
          dsimp only [touchingL] at *
          rw [filter_take_succ h3, ← hi3.2.2]; simp [q6, ec, h6]
        · omega
  · refine LWp.exit ?_
    simp
    refine LWp.seq ?_
    refine LWp.reg hT hW (fun _ => none) (fun _ => ⟨rfl, fun _ h => h⟩) ?_
    simp
    refine LWp.ret ?_
    have e2 : acc = touchingL l set e := by rw [hi3.2.2, List.take_of_length_le (by omega)]
    simp [← e2]
open Go.Proofs
def sayF (c : Chg) (s : Str) : Option Df := match lookC c s with | some (some t) => some ⟨s, t⟩ | _ => none
def dropF (c : Chg) (s : Str) : Bool := match lookC c s with | some (some _) => false | _ => true
def psL (c : Chg) (w : Str → Bool) (l : List Str) : List Df := (l.filter w).filterMap (sayF c)
def dsL (c : Chg) (w : Str → Bool) (l : List Str) : List Str := (l.filter w).filter (dropF c)
theorem editC_is (c : Chg) (n : Nm) (needs : List Nm) (w : Str → Bool) : editC c n needs w = ⟨n, needs, psL c w (setS (c.map Prod.fst)), dsL c w (setS (c.map Prod.fst))⟩ := rfl
theorem say_none {c : Chg} {s : Str} (h : (lookC c s).getD none = none) : sayF c s = none ∧ dropF c s = true := by
  unfold sayF dropF
  cases q : lookC c s with
  | none => simp
  | some v => rw [q] at h; simp at h; subst h; simp
theorem say_some {c : Chg} {s t : Str} (h : (lookC c s).getD none = some t) : sayF c s = some ⟨s, t⟩ ∧ dropF c s = false := by
  unfold sayF dropF
  cases q : lookC c s with
  | none => rw [q] at h; simp at h
  | some v => rw [q] at h; simp at h; subst h; simp
theorem fm_snoc {α β : Type} {f : α → Option β} {l : List α} {x : α} : (l ++ [x]).filterMap f = l.filterMap f ++ (match f x with | some y => [y] | none => []) := by
  rw [List.filterMap_append]
  congr 1
  cases q : f x <;> simp [q]
theorem sel_no {c : Chg} {w : Str → Bool} {ns : List Str} {t : Nat} (h : t < ns.length) (h7 : w ns[t] = false) : psL c w (ns.take (t + 1)) = psL c w (ns.take t) ∧ dsL c w (ns.take (t + 1)) = dsL c w (ns.take t) := by
  have hnw : ((ns.take (t + 1)).filter w) = (ns.take t).filter w := by rw [filter_take_succ h]; simp [h7]
  unfold psL dsL
  rw [hnw]; exact ⟨rfl, rfl⟩
theorem sel_nil {c : Chg} {w : Str → Bool} {ns : List Str} {t : Nat} (h : t < ns.length) (h7 : w ns[t] = true) (hv : (lookC c ns[t]).getD none = none) : psL c w (ns.take (t + 1)) = psL c w (ns.take t) ∧ dsL c w (ns.take (t + 1)) = dsL c w (ns.take t) ++ [ns[t]] := by
  have hnw : ((ns.take (t + 1)).filter w) = (ns.take t).filter w ++ [ns[t]] := by rw [filter_take_succ h]; simp [h7]
  unfold psL dsL
  rw [hnw, fm_snoc, List.filter_append, (say_none hv).1]
  exact ⟨by simp, by simp [(say_none hv).2]⟩
theorem sel_put {c : Chg} {w : Str → Bool} {ns : List Str} {t : Nat} {tx : Str} (h : t < ns.length) (h7 : w ns[t] = true) (hv : (lookC c ns[t]).getD none = some tx) : psL c w (ns.take (t + 1)) = psL c w (ns.take t) ++ [⟨ns[t], tx⟩] ∧ dsL c w (ns.take (t + 1)) = dsL c w (ns.take t) := by
  have hnw : ((ns.take (t + 1)).filter w) = (ns.take t).filter w ++ [ns[t]] := by rw [filter_take_succ h]; simp [h7]
  unfold psL dsL
  rw [hnw, fm_snoc, List.filter_append, (say_some hv).1]
  exact ⟨rfl, by simp [(say_some hv).2]⟩
theorem anyName_ok (s : Str) : Ok Tryz.prog 69 [.str s] ⟨.d (.bool true), true⟩ := by
  refine Ok.ret Tryz.func69 (by kernel_rfl) (c := _) rfl Tryz.ntmps69 (by simp) Tryz.results69 (by intro _ h; cases h) fun w0 X hp => ?_
  refine LWp.seq ?_
  refine LWp.reg hT hW (fun _ => none) (fun _ => ⟨rfl, fun _ h => h⟩) ?_
  simp
  refine LWp.seq ?_
  refine LWp.reg hT hW (fun _ => none) (fun _ => ⟨rfl, fun _ h => h⟩) ?_
  simp
  refine LWp.ret ?_
  simp
theorem Split1_ok (first : List Str) (k : Int) (s : Str) : Ok Tryz.prog 84 [.str s, .ro [strsD first], .ro [I64 k]] ⟨.d (.bool (decide (s ∈ first) == decide (k = 0))), true⟩ := by
  refine Ok.ret Tryz.func84 (by kernel_rfl) (c := _) rfl Tryz.ntmps84 (by simp) Tryz.results84 (by intro _ h; cases h) fun w0 X hp => ?_
  refine LWp.seq ?_
  refine LWp.reg hT hW (fun _ => none) (fun _ => ⟨rfl, fun _ h => h⟩) ?_
  simp
  refine LWp.seq ?_
  refine LWp.regAny hT hW hMixed (lk [[],[],[0,1],[],[3],[0,1,2,3,4],[0,1,2,3,4,5]]) (lk [[],[],[],[7],[7],[],[]]) (lk [[],[],[7],[],[],[],[]]) (by kernel_rfl) (fun | 7 => some <| .plain ⟨.d (.bool (decide (s ∈ first))), true⟩ | _ => none) (by intro d; first | exact ⟨rfl, fun _ h => h⟩ | (split <;> exact ⟨rfl, fun _ h => h⟩)) ?_
  simp
  refine ⟨InStr_ok first s, ?_⟩
  refine LWp.ret ?_
  simp
theorem Revert1_ok (m n : Nm) : Ok Tryz.prog 65 [m.d, .ro [I64 n.who, I64 n.seq]] ⟨.d (.bool (decide (m = n))), true⟩ := by
  refine Ok.ret Tryz.func65 (by kernel_rfl) (c := _) rfl Tryz.ntmps65 (by simp) Tryz.results65 (by intro _ h; cases h) fun w0 X hp => ?_
  refine LWp.seq ?_
  refine LWp.reg hT hW (fun _ => none) (fun _ => ⟨rfl, fun _ h => h⟩) ?_
  simp
  refine LWp.seq ?_
  refine LWp.reg hT hW (fun _ => none) (fun _ => ⟨rfl, fun _ h => h⟩) ?_
  simp
  refine LWp.ret ?_
  simp
theorem Squash1_ok (l : List Ed) (n : Nm) : Ok Tryz.prog 93 [n.d, .ro [edsD l]] ⟨.d (.bool (decide (findI l n < 0))), true⟩ := by
  refine Ok.ret Tryz.func93 (by kernel_rfl) (c := _) rfl Tryz.ntmps93 (by simp) Tryz.results93 (by intro _ h; cases h) fun w0 X hp => ?_
  refine LWp.seq ?_
  refine LWp.reg hT hW (fun _ => none) (fun _ => ⟨rfl, fun _ h => h⟩) ?_
  simp
  refine LWp.seq ?_
  refine LWp.reg hT hW (fun | 6 => some <| .plain ⟨.d (I64 (findI l n)), true⟩ | _ => none) (by intro d; first | exact ⟨rfl, fun _ h => h⟩ | (split <;> exact ⟨rfl, fun _ h => h⟩)) ?_
  simp
  refine ⟨EFind_ok l n, ?_⟩
  refine LWp.ret ?_
  simp
theorem convex1_ok (l : List Ed) (e : Ed) (n : Nm) : Ok Tryz.prog 132 [n.d, .ro [edsD l], .ro (cellsD e.d)] ⟨.d (.bool (decide (n ∈ aboveL l e.name))), true⟩ := by
  refine Ok.ret Tryz.func132 (by kernel_rfl) (c := _) rfl Tryz.ntmps132 (by simp) Tryz.results132 (by intro _ h; cases h) fun w0 X hp => ?_
  refine LWp.seq ?_
  refine LWp.reg hT hW (fun _ => none) (fun _ => ⟨rfl, fun _ h => h⟩) ?_
  simp
  refine LWp.seq ?_
  refine LWp.reg hT hW (fun | 9 => some <| .plain ⟨.d (.bool (decide (n ∈ aboveL l e.name))), true⟩ | _ => none) (by intro d; first | exact ⟨rfl, fun _ h => h⟩ | (split <;> exact ⟨rfl, fun _ h => h⟩)) ?_
  simp
  refine ⟨EBefore_ok l n e.name, ?_⟩
  refine LWp.ret ?_
  simp
theorem convex2_ok (l : List Ed) (e : Ed) (n : Nm) : Ok Tryz.prog 133 [n.d, .ro [edsD l], .ro (cellsD e.d)] ⟨.d (.bool (decide (e.name ∈ aboveL l n))), true⟩ := by
  refine Ok.ret Tryz.func133 (by kernel_rfl) (c := _) rfl Tryz.ntmps133 (by simp) Tryz.results133 (by intro _ h; cases h) fun w0 X hp => ?_
  refine LWp.seq ?_
  refine LWp.reg hT hW (fun _ => none) (fun _ => ⟨rfl, fun _ h => h⟩) ?_
  simp
  refine LWp.seq ?_
  refine LWp.reg hT hW (fun | 9 => some <| .plain ⟨.d (.bool (decide (e.name ∈ aboveL l n))), true⟩ | _ => none) (by intro d; first | exact ⟨rfl, fun _ h => h⟩ | (split <;> exact ⟨rfl, fun _ h => h⟩)) ?_
  simp
  refine ⟨EBefore_ok l e.name n, ?_⟩
  refine LWp.ret ?_
  simp
theorem cedit_ok (c : Chg) (n : Nm) (needs : List Nm) (w : Str → Bool) (g : FuncId) (cs : List DV) (hw : ∀ s, Ok Tryz.prog g (.str s :: cs) ⟨.d (.bool (w s)), true⟩) (hc : (c.map Prod.fst).Nodup) (hcl : c.length ≤ 4400000) (hn : needs.length ≤ 1100000) : Ok Tryz.prog 66 [.mp (ck c) (cv c), n.d, nmsD needs, .fn g cs] ⟨.d (editC c n needs w).d, false⟩ := by
  obtain ⟨ns, hns⟩ : ∃ ns, ns = setS (c.map Prod.fst) := ⟨_, rfl⟩
  have hmt : ssort (c.map Prod.fst) = ns := by rw [hns, ssort_set hc]
  have hnl : ns.length ≤ 4400000 := by rw [← hmt, ssort_len]; simpa using hcl
  rw [editC_is, ← hns]
  refine Ok.cell hT Tryz.func66 (by kernel_rfl) (c := _) rfl Tryz.ntmps66 (by simp) Tryz.results66 (by intro _ h; cases h) fun w0 X hp => ?_
  refine LWp.seq ?_
  refine LWp.reg hT hW (fun _ => none) (fun _ => ⟨rfl, fun _ h => h⟩) ?_
  simp
  refine LWp.seq ?_
  refine LWp.regAny hT hW hMixed (lk [[],[],[1],[0,1,2],[],[0,1,2,3,4]]) (lk [[15,9],[9],[9],[9],[15],[]]) (lk [[],[],[15],[],[9],[9]]) (by kernel_rfl) (fun | 15 => some <| .plain ⟨.own 2 (needs.map Nm.d), true⟩ | _ => none) (by intro d; first | exact ⟨rfl, fun _ h => h⟩ | (split <;> exact ⟨rfl, fun _ h => h⟩)) ?_
  simp
  refine ⟨CloneNm_ok needs (by omega), ?_⟩
  refine LWp.nlCell (fz := false) (cs := [.d (I64 n.who), .d (I64 n.seq), .ow 15 0 needs.length, .nl, .nl]) 9 3 1036 2 (by decide) ⟨by simp, by simp, by simp, ?_⟩
  refine LWp.nlCell (fz := false) (cs := [.d (I64 n.who), .d (I64 n.seq), .ow 15 0 needs.length, .ow 1036 0 0, .nl]) 9 4 1050 1 (by decide) ⟨by simp, by simp, by simp, ?_⟩
  simp
  refine LWp.seq ?_
  refine LWp.seq ?_
  refine LWp.reg hT hW (fun | 18 => some <| .plain ⟨.d (.fn 103 [.ro [.mp (ck c) (cv c)]]), false⟩ | 19 => some <| .plain ⟨.own 1 (ns.map .str), true⟩ | _ => none) (by intro d; first | exact ⟨rfl, fun _ h => h⟩ | (split <;> exact ⟨rfl, fun _ h => h⟩)) ?_
  simp
  refine ⟨⟨KeysChg_ok _ _, by rw [← hmt, ck_names]; exact SortedChg_ok (c.map Prod.fst) (cv c) (by simpa using hcl)⟩, ?_⟩
  refine LWp.block ?_
  refine LWp.loopW (ι := Nat × List Df × List Str) (fun ⟨t, ps, ds⟩ => mkEnv [(0, .d (.mp (ck c) (cv c))), (3, .d (.fn g cs)), (8, .bx 8 0), (9, .bx 9 0), (19, .ow 19 0 ns.length), (20, .d (I64 ns.length)), (21, .d (I64 t))]) (fun ⟨t, ps, ds⟩ => mkObs [(8, .box false [.d (I64 0), .d (I64 0), .nl, .nl, .nl]), (9, .box false [.d (I64 n.who), .d (I64 n.seq), .ow 15 0 needs.length, .ow 1036 0 ps.length, .ow 1050 0 ds.length]), (15, .row false 2 (needs.map Nm.d)), (19, .row false 1 (ns.map .str)), (1036, .row false 2 (ps.map Df.d)), (1050, .row false 1 (ds.map .str))]) (fun ⟨t, ps, ds⟩ => t ≤ ns.length ∧ (ps.length ≤ t ∧ ds.length ≤ t) ∧ ps = psL c w (ns.take t) ∧ ds = dsL c w (ns.take t)) (fun ⟨t, ps, ds⟩ => ns.length - t) (0, [], []) (Weak.to [0, 3, 8, 9, 19, 20, 21] [(8, 8), (9, 9), (15, 15), (19, 19), (1036, 1036), (1050, 1050)] (by decide) (by decide) (by simp [hp]) (by simp) (by simp)) (⟨Nat.zero_le _, by simp, rfl, rfl⟩) fun ⟨t, ps, ds⟩ hi3 => ?_
  refine LWp.seq ?_
  refine LWp.reg hT hW (fun _ => none) (fun _ => ⟨rfl, fun _ h => h⟩) ?_
  simp
  refine LWp.seq ?_
  refine LWp.iff ?_
  simp
  refine ⟨fun h3 => ?_, fun h3 => ?_⟩
  · refine LWp.skip ?_
    simp
    refine LWp.seq ?_
    refine LWp.block ?_
    refine LWp.seq ?_
    refine LWp.reg hT hW (fun _ => none) (fun _ => ⟨rfl, fun _ h => h⟩) ?_
    simp [h3]
    refine LWp.seq ?_
    refine LWp.reg hT hW (fun _ => none) (fun _ => ⟨rfl, fun _ h => h⟩) ?_
    simp [look_chgD c]
    refine LWp.block ?_
    refine LWp.seq ?_
    refine LWp.reg hT hW (fun | 41 => some <| .plain ⟨.d (.bool (w ns[t])), true⟩ | _ => none) (by intro d; first | exact ⟨rfl, fun _ h => h⟩ | (split <;> exact ⟨rfl, fun _ h => h⟩)) ?_
    simp
    refine ⟨hw _, ?_⟩
    refine LWp.iff ?_
    simp
    refine ⟨fun h7 => ?_, fun h7 => ?_⟩
    · refine LWp.skip ?_
      simp
      refine LWp.reg hT hW (fun _ => none) (fun _ => ⟨rfl, fun _ h => h⟩) ?_
      simp
      refine ⟨by omega, ?_⟩
      refine loopQ.mk (t + 1, ps, ds) (Weak.to [0, 3, 8, 9, 19, 20, 21] [(8, 8), (9, 9), (15, 15), (19, 19), (1036, 1036), (1050, 1050)] (by decide) (by decide) (by simp [hp]) (by simp) (by simp)) ?_ ?_
      · dsimp only
        obtain ⟨e1, e2⟩ := sel_no (c := c) h3 h7
        rw [e1, e2]
        exact ⟨h3, by omega, hi3.2.2.1, hi3.2.2.2⟩
      · omega
    · refine LWp.seq ?_
      rcases hv : (lookC c ns[t]).getD none with _ | tx
      · refine LWp.reg hT hW (fun _ => none) (fun _ => ⟨rfl, fun _ h => h⟩) ?_
        simp [hv, optD]
        refine LWp.iff ?_
        simp [hv, optD]
        refine LWp.reg hT hW (fun _ => none) (fun _ => ⟨rfl, fun _ h => h⟩) ?_
        simp
        refine ⟨by omega, ?_⟩
        refine LWp.reg hT hW (fun _ => none) (fun _ => ⟨rfl, fun _ h => h⟩) ?_
        simp
        refine ⟨by omega, ?_⟩
        refine loopQ.mk (t + 1, ps, ds ++ [ns[t]]) (Weak.to [0, 3, 8, 9, 19, 20, 21] [(8, 8), (9, 9), (15, 15), (19, 19), (1036, 1036), (50, 1050)] (by decide) (by decide) (by simp [hp]) (by simp) (by simp)) ?_ ?_
        · dsimp only
          obtain ⟨e1, e2⟩ := sel_nil h3 h7 hv
          rw [e1, e2, ← hi3.2.2.1, ← hi3.2.2.2]
          exact ⟨h3, by simp; omega, rfl, rfl⟩
        · omega
      · refine LWp.reg hT hW (fun _ => none) (fun _ => ⟨rfl, fun _ h => h⟩) ?_
        simp [hv, optD]
        refine LWp.iff ?_
        simp
        refine LWp.regAny hT hW hMixed (lk [[],[0],[],[],[3],[3,4],[2,3,4,5],[2,3,4,5,6],[0,1,2,3,4,5,6,7],[0,1,2,3,4,5,6,7,8],[0,1,2,3,4,5,6,7,8,9]]) (lk [[35],[35],[],[],[],[],[],[],[],[],[]]) (lk [[],[],[],[],[],[],[],[35],[29,36],[],[9]]) (by kernel_rfl) (fun _ => none) (fun _ => ⟨rfl, fun _ h => h⟩) ?_
        simp
        refine ⟨by omega, ?_⟩
        refine LWp.reg hT hW (fun _ => none) (fun _ => ⟨rfl, fun _ h => h⟩) ?_
        simp
        refine ⟨by omega, ?_⟩
        refine loopQ.mk (t + 1, ps ++ [⟨ns[t], tx⟩], ds) (Weak.to [0, 3, 8, 9, 19, 20, 21] [(8, 8), (9, 9), (15, 15), (19, 19), (36, 1036), (1050, 1050)] (by decide) (by decide) (by simp [hp]) (by simp) (by simp)) ?_ ?_
        · dsimp only
          obtain ⟨e1, e2⟩ := sel_put h3 h7 hv
          rw [e1, e2, ← hi3.2.2.1, ← hi3.2.2.2]
          exact ⟨h3, by simp; omega, rfl, rfl⟩
        · omega
  · refine LWp.exit ?_
    simp
    refine LWp.seq ?_
    refine LWp.reg hT hW (fun _ => none) (fun _ => ⟨rfl, fun _ h => h⟩) ?_
    simp
    refine LWp.ret ?_
    have e1 := hi3.2.2.1
    have e2 := hi3.2.2.2
    rw [List.take_of_length_le (by omega)] at e1 e2
    simp only [← e1, ← e2]
    simp
open Go.Proofs
theorem alone_ok (e : Ed) (hs : e.small) : Ok Tryz.prog 70 [e.d] ⟨.d (I64 (aloneV e)), true⟩ := by
  refine Ok.ret Tryz.func70 (by kernel_rfl) (c := _) rfl Tryz.ntmps70 (by simp) Tryz.results70 (by intro _ h; cases h) fun w0 X hp => ?_
  refine LWp.seq ?_
  refine LWp.reg hT hW (fun _ => none) (fun _ => ⟨rfl, fun _ h => h⟩) ?_
  simp
  refine LWp.seq ?_
  refine LWp.seq ?_
  refine LWp.reg hT hW (fun _ => none) (fun _ => ⟨rfl, fun _ h => h⟩) ?_
  simp
  refine LWp.len (t := 8) (xs := e.needs.map Nm.d) (by simp) fun hlen => ?_
  simp at hlen
  refine LWp.block ?_
  refine LWp.loopW (ι := Nat) (fun i => mkEnv [(1, .bx 1 0), (2, .d (I64 0)), (8, .d (nmsD e.needs)), (9, .d (I64 e.needs.length)), (10, .d (I64 i))]) (fun i => mkObs [(1, .box false ((cellsD e.d).map .d))]) (fun i => i ≤ e.needs.length ∧ IncTo Nm.less e.needs i ∧ Pre (fun n => !n.isName) e.needs i) (fun i => e.needs.length - i) 0 (Weak.to [1, 2, 8, 9, 10] [(1, 1)] (by decide) (by decide) (by simp [hp]) (by simp) (by simp)) (⟨Nat.zero_le _, IncTo.start (by omega), Pre.zero⟩) fun i hi2 => ?_
  refine LWp.seq ?_
  refine LWp.reg hT hW (fun _ => none) (fun _ => ⟨rfl, fun _ h => h⟩) ?_
  simp
  refine LWp.seq ?_
  refine LWp.iff ?_
  simp
  refine ⟨fun h2 => ?_, fun h2 => ?_⟩
  · refine LWp.skip ?_
    simp
    refine LWp.seq ?_
    refine LWp.block ?_
    refine LWp.seq ?_
    refine LWp.reg hT hW (fun _ => none) (fun _ => ⟨rfl, fun _ h => h⟩) ?_
    simp [h2]
    refine LWp.seq ?_
    refine LWp.regAny hT hW hMixed (lk [[],[0],[0,1],[0,1,2],[0,1,2,3],[0,1,2,3,4],[0,1,2,3,4,5],[0,1,2,3,4,5,6],[0,1,2,3,4,5,6,7],[0,1,2,3,4,5,6],[0,1,2,3,4,5,6,9],[0,1,2,3,4,5,6,7,8,9,10],[0,1,2,3,4,5,6,7,8,9,10,11],[0,1,2,3,4,5,6],[0,1,2,3,4,5,6,7,8,9,10,11,12,13],[0,1,2,3,4,5,6,7,8,9,10,11,12,13,14],[0,1,2,3,4,5,6,7,8,9,10,11,12,13,14,15],[0,1,2,3,4,5,6,7,8,9,10,11,12,13,14,15,16]]) (lk [[],[],[],[],[],[],[],[],[],[],[],[],[],[],[],[],[],[]]) (lk [[],[16],[],[],[],[],[],[],[],[],[],[],[],[],[29],[],[],[]]) (by kernel_rfl) (fun | 16 => some <| .plain ⟨.d (.bool e.needs[i].isName), true⟩ | 29 => some <| .plain ⟨.d (I64 (cmpN (e.needs[i - 1]'(by omega)) e.needs[i])), true⟩ | _ => none) (by intro d; first | exact ⟨rfl, fun _ h => h⟩ | (split <;> exact ⟨rfl, fun _ h => h⟩)) ?_
    simp [h2, (show ((i : Int) - 1).toNat = i - 1 by omega), (show i - 1 < e.needs.length by omega)]
    refine ⟨⟨⟨⟨⟨ppossible_ok _, by intros; omega⟩, by intros; omega⟩, by intros; exact nsOrder_ok (.sl []) _ _⟩, by intros; constructor <;> assumption⟩, ?_⟩
    refine LWp.iff ?_
    simp
    refine ⟨fun h4 => ?_, fun h4 g4 => ?_⟩
    · refine LWp.seq ?_
      refine LWp.reg hT hW (fun _ => none) (fun _ => ⟨rfl, fun _ h => h⟩) ?_
      simp
      refine LWp.ret ?_
      have hn : properE e ≠ true := fun hp => by
        obtain ⟨⟨h5, h6⟩, _⟩ := proper_bare.1 hp
        rcases h4 with h4 | ⟨h0, h4⟩
        · have := List.all_eq_true.1 h6 _ (List.getElem_mem h2)
          simp_all
        · obtain ⟨i, rfl⟩ : ∃ j, i = j + 1 := ⟨i - 1, by omega⟩
          have := incr_iff.1 h5 i h2
          rw [cmpN_ge'] at h4
          simp_all
      simp [aloneV, hn]
    · refine LWp.skip ?_
      simp
      refine LWp.reg hT hW (fun _ => none) (fun _ => ⟨rfl, fun _ h => h⟩) ?_
      simp
      refine ⟨by omega, ?_⟩
      refine loopQ.mk (i + 1) (Weak.to [1, 2, 8, 9, 10] [(1, 1)] (by decide) (by decide) (by simp [hp]) (by simp) (by simp)) ?_ ?_
      · refine ⟨h2, ?_, hi2.2.2.succ h2 (by simpa using h4)⟩
        rcases i with _ | i
        · exact IncTo.start (by omega)
        · exact hi2.2.1.succ h2 (by have := g4 (by omega); simpa [cmpN_lt] using this)
      · omega
  · refine LWp.exit ?_
    simp
    refine LWp.seq ?_
    refine LWp.reg hT hW (fun _ => none) (fun _ => ⟨rfl, fun _ h => h⟩) ?_
    simp
    refine LWp.seq ?_
    refine LWp.reg hT hW (fun | 38 => some <| .plain ⟨.tup [.d (I64 (validV [bareE e]).1), .d (I64 (validV [bareE e]).2)], true⟩ | _ => none) (by intro d; first | exact ⟨rfl, fun _ h => h⟩ | (split <;> exact ⟨rfl, fun _ h => h⟩)) ?_
    simp [evalExtract]
    refine ⟨?_, ?_⟩
    · have := EValid_ok [bareE e] (fun x hx => by simp at hx; subst hx; exact hs)
      simpa [bareE] using this
    refine LWp.seq ?_
    refine LWp.reg hT hW (fun _ => none) (fun _ => ⟨rfl, fun _ h => h⟩) ?_
    simp
    refine LWp.ret ?_
    simp
    have h1 := hi2.2.1.done h2
    have h2 := hi2.2.2.any h2
    have h3 : e.needs.all Nm.isName = true := by
      rw [List.all_eq_true]
      intro x hx
      have := List.any_eq_false.1 h2 x hx
      simpa using this
    rw [valid_bare]
    unfold aloneV
    by_cases q : properE (bareE e) = true
    · rw [if_pos q, if_pos (proper_bare.2 ⟨⟨h1, h3⟩, q⟩)]
    · rw [if_neg q, if_neg (fun h => q (proper_bare.1 h).2)]
set_option maxRecDepth 10000
theorem findI_name {l : List Ed} {n : Nm} {i : Nat} (hi : i < l.length) (h : findI l n = (i : Int)) : l[i].name = n := by
  unfold findI at h
  cases q : find? l n with
  | none => rw [q] at h; simp at h
  | some j =>
    rw [q] at h
    have h' : (j : Int) = i := by simpa using h
    have : j = i := by omega
    subst this
    exact (find_at q).2.1
theorem PApart_ok (l : List Ed) (a b : Nm) (hs : small l) : Ok Tryz.prog 14 [edsD l, a.d, b.d] ⟨.tup [.d (.bool (apartV l a b).1), .d (I64 (apartV l a b).2)], true⟩ := by
  refine Ok.two Tryz.func14 (by kernel_rfl) (c := _) rfl Tryz.ntmps14 (by simp) Tryz.results14 rfl fun w0 X hp => ?_
  refine LWp.seq ?_
  refine LWp.reg hT hW (fun _ => none) (fun _ => ⟨rfl, fun _ h => h⟩) ?_
  simp
  refine LWp.seq ?_
  refine LWp.seq ?_
  refine LWp.reg hT hW (fun | 14 => some <| .plain ⟨.tup [.d (I64 (validV l).1), .d (I64 (validV l).2)], true⟩ | _ => none) (by intro d; first | exact ⟨rfl, fun _ h => h⟩ | (split <;> exact ⟨rfl, fun _ h => h⟩)) ?_
  simp [evalExtract]
  refine ⟨EValid_ok l hs, ?_⟩
  refine LWp.seq ?_
  refine LWp.reg hT hW (fun _ => none) (fun _ => ⟨rfl, fun _ h => h⟩) ?_
  simp
  refine LWp.iff ?_
  simp
  refine ⟨fun h2 => ?_, fun h2 => ?_⟩
  · refine LWp.seq ?_
    refine LWp.reg hT hW (fun _ => none) (fun _ => ⟨rfl, fun _ h => h⟩) ?_
    simp
    refine LWp.ret ?_
    simp [apartV, h2]
  · refine LWp.skip ?_
    simp
    refine LWp.seq ?_
    refine LWp.regAny hT hW hMixed (lk [[],[],[0,1],[],[],[0,1,2,3,4],[0,1,2,3,4,5],[0,1,2,3,4,5,6]]) (lk [[],[],[],[22],[22],[],[],[]]) (lk [[],[],[22],[],[],[25],[],[]]) (by kernel_rfl) (fun | 22 => some <| .plain ⟨.d (I64 (findI l a)), true⟩ | 25 => some <| .plain ⟨.d (I64 (findI l b)), true⟩ | _ => none) (by intro d; first | exact ⟨rfl, fun _ h => h⟩ | (split <;> exact ⟨rfl, fun _ h => h⟩)) ?_
    simp
    refine ⟨⟨EFind_ok l a, EFind_ok l b⟩, ?_⟩
    refine LWp.seq ?_
    refine LWp.seq ?_
    refine LWp.reg hT hW (fun _ => none) (fun _ => ⟨rfl, fun _ h => h⟩) ?_
    simp
    refine LWp.iff ?_
    simp
    refine ⟨fun h5 => ?_, fun h5 h5b => ?_⟩
    · refine LWp.seq ?_
      refine LWp.reg hT hW (fun _ => none) (fun _ => ⟨rfl, fun _ h => h⟩) ?_
      simp
      refine LWp.ret ?_
      simp [apartV, h2, h5]
    · refine LWp.skip ?_
      simp
      refine LWp.seq ?_
      obtain ⟨i, hi, fa, ea⟩ := edAt_of (show 0 ≤ findI l a by omega)
      obtain ⟨j, hj, fb, eb⟩ := edAt_of (show 0 ≤ findI l b by omega)
      refine LWp.regAny hT hW hMixed (lk [[],[],[0,1],[0,1,2],[0,1,2,3],[0,1,2,3],[0,1,2,3,4,5],[0,1,2,3,4,5,6],[0,1,2,3],[0,1,2,3],[0,1,2,3,8,9],[0,1,2,3,8,9,10],[0,1,2,3,4,5,6,7,8,9,10,11],[0,1,2,3,4,5,6,7,8,9,10,11,12],[0,1,2,3,4,5,6,7,8,9,10,11,12,13],[0,1,2,3,4,5,6,7,8,9,10,11,12,13,14],[0,1,2,3,4,5,6,7,8,9,10,11,12,13,14,15],[0,1,2,3,4,5,6,7,8,9,10,11,12,13,14,15],[0,1,2,3,4,5,6,7,8,9,10,11,12,13,14,15],[0,1,2,3,4,5,6,7,8,9,10,11,12,13,14,15,16,17,18],[0,1,2,3,4,5,6,7,8,9,10,11,12,13,14,15,16,17,18,19],[0,1,2,3,4,5,6,7,8,9,10,11,12,13,14,15,16,17,18,19,20],[0,1,2,3,4,5,6,7,8,9,10,11,12,13,14,15,16,17,18,19,20,21],[0,1,2,3,4,5,6,7,8,9,10,11,12,13,14,15,16,17,18,19,20,21,22],[0,1,2,3,4,5,6,7,8,9,10,11,12,13,14,15,16,17,18,19,20,21,22],[0,1,2,3,4,5,6,7,8,9,10,11,12,13,14,15,16,17,18,19,20,21,22],[0,1,2,3,4,5,6,7,8,9,10,11,12,13,14,15,16,17,18,19,20,21,22,23,24,25],[0,1,2,3,4,5,6,7,8,9,10,11,12,13,14,15,16,17,18,19,20,21,22,23,24,25,26],[0,1,2,3,4,5,6,7,8,9,10,11,12,13,14,15,16,17,18,19,20,21,22,23,24,25,26,27],[0,1,2,3,4,5,6,7,8,9,10,11,12,13,14,15,16,17,18,19,20,21,22,23,24,25,26,27,28],[0,1,2,3,4,5,6,7,8,9,10,11,12,13,14,15,16,17,18,19,20,21,22,23,24,25,26,27,28,29]]) (lk [[],[],[],[],[],[],[],[],[],[],[],[],[],[],[],[],[],[],[],[],[],[],[],[],[],[],[],[],[],[],[]]) (lk [[],[],[],[],[],[],[],[],[],[],[],[],[44],[],[],[],[],[],[],[51],[],[],[],[],[],[],[58],[],[],[],[]]) (by kernel_rfl) (fun | 44 => some <| .plain ⟨.d (.bool (meetB l[i] l[j])), true⟩ | 51 => some <| .plain ⟨.d (.bool (decide (a ∈ aboveL l b))), true⟩ | 58 => some <| .plain ⟨.d (.bool (decide (b ∈ aboveL l a))), true⟩ | _ => none) (by intro d; first | exact ⟨rfl, fun _ h => h⟩ | (split <;> exact ⟨rfl, fun _ h => h⟩)) ?_
      simp [fa, fb, hi, hj]
      refine ⟨⟨⟨by intros; exact meet_ok _ _ (hs _ (List.getElem_mem hi)) (hs _ (List.getElem_mem hj)), by intros; exact EBefore_ok l a b⟩, by intros; exact EBefore_ok l b a⟩, ?_⟩
      refine LWp.ret ?_
      have n5 : ¬ (findI l a < 0 ∨ findI l b < 0) := by omega
      have hij : ((i : Int) = (j : Int)) ↔ a = b := by
        constructor
        · intro q
          have q : i = j := by omega
          subst q
          rw [← findI_name hi fa, ← findI_name hj fb]
        · intro q; subst q; rw [← fa, ← fb]
      simp [apartV, h2, n5, ea, eb, hij, Bool.and_assoc]
open Go.Proofs
set_option maxRecDepth 10000
theorem SameTexts_ok (a b : List Str) : Ok Tryz.prog 10 [strsD a, strsD b] ⟨.d (.bool (decide (a = b))), true⟩ := by
  refine Ok.ret Tryz.func10 (by kernel_rfl) (c := _) rfl Tryz.ntmps10 (by simp) Tryz.results10 (by intro _ h; cases h) fun w0 X hp => ?_
  refine LWp.len (t := 0) rfl fun hlen => ?_
  simp at hlen
  refine LWp.seq ?_
  refine LWp.reg hT hW (fun _ => none) (fun _ => ⟨rfl, fun _ h => h⟩) ?_
  simp
  refine LWp.seq ?_
  refine LWp.seq ?_
  refine LWp.reg hT hW (fun _ => none) (fun _ => ⟨rfl, fun _ h => h⟩) ?_
  simp
  refine LWp.iff ?_
  simp
  refine ⟨fun h1 => ?_, fun h1 => ?_⟩
  · refine LWp.seq ?_
    refine LWp.reg hT hW (fun _ => none) (fun _ => ⟨rfl, fun _ h => h⟩) ?_
    simp
    refine LWp.ret ?_
    simp
    exact fun e => h1 (by rw [e])
  · refine LWp.skip ?_
    simp
    refine LWp.seq ?_
    refine LWp.seq ?_
    refine LWp.reg hT hW (fun _ => none) (fun _ => ⟨rfl, fun _ h => h⟩) ?_
    simp
    refine LWp.block ?_
    refine LWp.loopW (ι := Nat) (fun i => mkEnv [(0, .d (strsD a)), (1, .d (strsD b)), (5, .d (I64 i))]) (fun i => mkObs []) (fun i => i ≤ a.length ∧ a.take i = b.take i) (fun i => a.length - i) 0 (Weak.to [0, 1, 5] [] (by decide) (by decide) (by simp [hp]) (by simp) (by simp)) (by simp) fun i hi4 => ?_
    refine LWp.seq ?_
    refine LWp.seq ?_
    refine LWp.reg hT hW (fun _ => none) (fun _ => ⟨rfl, fun _ h => h⟩) ?_
    simp
    refine LWp.iff ?_
    simp
    refine ⟨fun h4 => ?_, fun h4 => ?_⟩
    · refine LWp.skip ?_
      simp
      refine LWp.seq ?_
      refine LWp.block ?_
      refine LWp.seq ?_
      refine LWp.regAny hT hW hMixed (lk [[],[],[0,1],[0,1,2],[],[],[4,5],[4,5,6],[0,1,2,3,4,5,6,7]]) (lk [[],[],[],[],[],[],[],[],[]]) (lk [[],[],[],[],[],[],[],[],[]]) (by kernel_rfl) (fun _ => none) (fun _ => ⟨rfl, fun _ h => h⟩) ?_
      simp [h4, show i < b.length by omega]
      refine LWp.iff ?_
      simp
      refine ⟨fun h6 => ?_, fun h6 => ?_⟩
      · refine LWp.seq ?_
        refine LWp.reg hT hW (fun _ => none) (fun _ => ⟨rfl, fun _ h => h⟩) ?_
        simp
        refine LWp.ret ?_
        simp
        intro e
        subst e
        simp at h6
      · refine LWp.skip ?_
        simp
        refine LWp.reg hT hW (fun _ => none) (fun _ => ⟨rfl, fun _ h => h⟩) ?_
        simp
        refine ⟨by omega, ?_⟩
        refine loopQ.mk (i + 1) (Weak.to [0, 1, 5] [] (by decide) (by decide) (by simp [hp]) (by simp) (by simp)) ?_ ?_
        · exact ⟨h4, take_eq_succ hi4.2 h4 (by omega) (by simpa using h6)⟩
        · omega
    · refine LWp.exit ?_
      simp
      refine LWp.seq ?_
      refine LWp.reg hT hW (fun _ => none) (fun _ => ⟨rfl, fun _ h => h⟩) ?_
      simp
      refine LWp.ret ?_
      simp
      have e : i = a.length := by omega
      have := hi4.2
      rw [e, List.take_length] at this
      have h1' : a.length = b.length := by omega
      rw [this, h1', List.take_length]
theorem ed_eq (a b : Ed) : (((decide (a.name = b.name) && decide (a.needs = b.needs)) && decide (a.puts = b.puts)) && decide (a.drops = b.drops)) = decide (a = b) := by
  cases a; cases b; simp [Bool.decide_and, Bool.and_assoc]
theorem Same_ok (a b : Ed) : Ok Tryz.prog 24 [a.d, b.d] ⟨.d (.bool (decide (a = b))), true⟩ := by
  refine Ok.ret Tryz.func24 (by kernel_rfl) (c := _) rfl Tryz.ntmps24 (by simp) Tryz.results24 (by intro _ h; cases h) fun w0 X hp => ?_
  refine LWp.seq ?_
  refine LWp.reg hT hW (fun _ => none) (fun _ => ⟨rfl, fun _ h => h⟩) ?_
  simp
  refine LWp.seq ?_
  refine LWp.reg hT hW (fun | 15 => some <| .plain ⟨.d (.bool (decide (a.needs = b.needs))), true⟩ | 22 => some <| .plain ⟨.d (.bool (decide (a.puts = b.puts))), true⟩ | 29 => some <| .plain ⟨.d (.bool (decide (a.drops = b.drops))), true⟩ | _ => none) (by intro d; first | exact ⟨rfl, fun _ h => h⟩ | (split <;> exact ⟨rfl, fun _ h => h⟩)) ?_
  simp
  refine ⟨⟨⟨by intros; exact SameNames_ok _ _, by intros; exact SameDefs_ok _ _⟩, by intros; exact SameTexts_ok _ _⟩, ?_⟩
  refine LWp.ret ?_
  rw [← ed_eq]
  simp
end Go.Eng
namespace Go.Eng
theorem rowC_mem {f : Nm → Nm → Bool} {all : List Nm} {i : Nat} (hi : i < all.length) {p : Nm × Nm} : p ∈ rowC f all i ↔ p.1 = all[i] ∧ (∃ j, i < j ∧ ∃ hj : j < all.length, all[j] = p.2) ∧ f all[i] p.2 = true := by
  have e : all.getD i default = all[i] := by simp [hi]
  unfold rowC
  rw [e, List.mem_map]
  constructor
  · rintro ⟨b, hb, rfl⟩
    obtain ⟨h1, h2⟩ := List.mem_filter.1 hb
    obtain ⟨k, hk, hk2⟩ := List.getElem_of_mem h1
    rw [List.getElem_drop] at hk2
    rw [List.length_drop] at hk
    exact ⟨rfl, ⟨i + 1 + k, by omega, by omega, hk2⟩, h2⟩
  · rintro ⟨h1, ⟨j, hj, hj2, h3⟩, h2⟩
    refine ⟨p.2, List.mem_filter.2 ⟨?_, h2⟩, by rw [← h1]⟩
    rw [← h3, List.mem_iff_getElem]
    refine ⟨j - (i + 1), by rw [List.length_drop]; omega, ?_⟩
    rw [List.getElem_drop]
    congr 1; omega
theorem pairsL_mem {f : Nm → Nm → Bool} {all : List Nm} {p : Nm × Nm} : ∀ {k : Nat}, p ∈ pairsL f all k ↔ ∃ i, i < k ∧ p ∈ rowC f all i
  | 0 => by simp [pairsL]
  | k + 1 => by
    rw [pairsL, List.mem_append, pairsL_mem]
    constructor
    · rintro (⟨i, h1, h2⟩ | h)
      · exact ⟨i, by omega, h2⟩
      · exact ⟨k, by omega, h⟩
    · rintro ⟨i, h1, h2⟩
      by_cases q : i = k
      · subst q; exact .inr h2
      · exact .inl ⟨i, by omega, h2⟩
theorem pair_iff {f : Nm → Nm → Bool} {all : List Nm} (hr : Rising Nm.less all) {x y : Nm} (hx : x ∈ all) (hy : y ∈ all) (h : Nm.less x y = true) : (x, y) ∈ pairsL f all all.length ↔ f x y = true := by
  rw [pairsL_mem]
  constructor
  · rintro ⟨i, hi, hp⟩
    obtain ⟨h1, _, h2⟩ := (rowC_mem hi).1 hp
    dsimp only at h1 h2
    rw [h1]; exact h2
  · intro hf
    obtain ⟨i, hi, rfl⟩ := List.getElem_of_mem hx
    obtain ⟨j, hj, rfl⟩ := List.getElem_of_mem hy
    refine ⟨i, hi, (rowC_mem hi).2 ⟨rfl, ⟨j, ?_, hj, rfl⟩, hf⟩⟩
    rcases Nat.lt_trichotomy i j with q | q | q
    · exact q
    · subst q; rw [Nm.sto.irrefl] at h; cases h
    · have := Nm.sto.trans _ _ _ h (List.pairwise_iff_getElem.1 hr j i hj hi q)
      rw [Nm.sto.irrefl] at this; cases this
theorem shared_comm {l : List Ed} {a b : Nm} (h : sharedL l a b = []) : sharedL l b a = [] := by
  unfold sharedL at h ⊢
  split at h
  · rename_i q
    rw [if_pos]
    rcases q with q | q | q | q | q
    · exact .inr (.inl q)
    · exact .inl q
    · exact .inr (.inr (.inl q.symm))
    · exact .inr (.inr (.inr (.inr q)))
    · exact .inr (.inr (.inr (.inl q)))
  · rename_i q
    rw [if_neg fun w => q ?_]
    · rw [List.filter_eq_nil_iff] at h ⊢
      intro s hs q'
      exact h s (by simpa using q') (by simpa using hs)
    · rcases w with w | w | w | w | w
      · exact .inr (.inl w)
      · exact .inl w
      · exact .inr (.inr (.inl w.symm))
      · exact .inr (.inr (.inr (.inr w)))
      · exact .inr (.inr (.inr (.inl w)))
theorem sort_two {a b : Nm} (h : Nm.less a b = true) : sortN [a, b] = [a, b] := by
  refine rising_eq Nm.sto (sortN_spec _).1 ?_ (sortN_spec _).2
  exact List.pairwise_cons.2 ⟨fun y hy => by simp at hy; rw [hy]; exact h, by simp⟩
theorem sort_turn {a b : Nm} (h : Nm.less b a = true) : sortN [a, b] = [b, a] := by
  rw [← sort_two h]
  exact sortN_mem fun x => by simp only [List.mem_cons, List.not_mem_nil, or_false]; exact or_comm
theorem sort_same {a : Nm} : sortN [a, a] = [a] := by
  refine rising_eq Nm.sto (sortN_spec _).1 (by simp [Rising]) fun x => ?_
  rw [(sortN_spec _).2]; simp
theorem clash_cases {l : List Ed} {a b : Nm} (hv : (validV l).2 = 0) (ha : 0 ≤ findI l a) (hb : 0 ≤ findI l b) :
    (a = b ∧ sharedL l a b = [] ∧ sortN [a, b] = [a]) ∨ ∃ x y, sortN [a, b] = [x, y] ∧ ((x, y) ∈ clashesL l ↔ sharedL l a b ≠ []) := by
  have hm : ∀ n, 0 ≤ findI l n → n ∈ sortN (l.map Ed.name) := fun n hn => ((sortN_spec _).2 n).2 (found_iff.1 hn)
  have key : ∀ x y, 0 ≤ findI l x → 0 ≤ findI l y → Nm.less x y = true → ((x, y) ∈ clashesL l ↔ sharedL l x y ≠ []) := fun x y hx hy h => by
    unfold clashesL
    rw [if_neg (by rw [hv]; simp), pair_iff (sortN_spec _).1 (hm x hx) (hm y hy) h]
    unfold sharesB
    rw [decide_eq_true_eq, List.length_pos_iff]
  by_cases e : a = b
  · subst e
    refine .inl ⟨rfl, ?_, sort_same⟩
    unfold sharedL
    rw [if_pos (.inr (.inr (.inl rfl)))]
  · refine .inr ?_
    cases q : Nm.less a b with
    | true => exact ⟨a, b, sort_two q, key a b ha hb q⟩
    | false =>
      cases q' : Nm.less b a with
      | true =>
        refine ⟨b, a, sort_turn q', (key b a hb ha q').trans ?_⟩
        exact ⟨fun h w => h (shared_comm w), fun h w => h (shared_comm w)⟩
      | false => exact absurd (Nm.sto.total a b q q') e
theorem resolve_miss {l : List Ed} {a b : Nm} {x : Ed} (h : sharedL l a b ≠ []) :
    ((sharedL l a b).any fun s => decide (s ∉ touches x)) = (tchN (edAt l a)).any fun s => decide (s ∈ tchN (edAt l b)) && !decide (s ∈ tchN x) := by
  have e : sharedL l a b = (touches (edAt l a)).filter fun s => decide (s ∈ touches (edAt l b)) := by
    unfold sharedL at h ⊢
    split at h
    · exact absurd rfl h
    · rename_i q; rw [if_neg q]
  rw [Bool.eq_iff_iff, List.any_eq_true, List.any_eq_true, e]
  simp only [List.mem_filter, mem_tchN, Bool.and_eq_true, decide_eq_true_eq, Bool.not_eq_true', decide_eq_false_iff_not]
  constructor
  · rintro ⟨s, ⟨h1, h2⟩, h3⟩; exact ⟨s, h1, h2, h3⟩
  · rintro ⟨s, h1, h2, h3⟩; exact ⟨s, ⟨h1, h2⟩, h3⟩
def needsC (l : List Ed) (S : List Nm) (x : List Nm) : List Nm := (x.filter fun n => decide (n ∈ S)).flatMap fun n => (needsOf l n).filter fun m => decide (m ∉ S)
def foldC (l : List Ed) (S : List Nm) (x : List Nm) : Chg := (x.filter fun n => decide (n ∈ S)).foldl (fun c n => applyC c (edAt l n)) []
theorem needsC_sort {l : List Ed} (h : (validV l).2 = 0) {S : List Nm} (hS : ∀ n ∈ S, n ∈ l.map Ed.name) : sortN (needsC l S (orderN l (cloN l S))) = sortN (outNeeds l S) := by
  refine sortN_mem fun m => ?_
  rw [outNeeds_iff]
  show m ∈ (inOrd l S).flatMap _ ↔ _
  rw [List.mem_flatMap]
  constructor
  · rintro ⟨n, h1, h2⟩
    obtain ⟨h3, h4⟩ := List.mem_filter.1 h2
    exact ⟨by simpa using h4, n, ((inOrd_spec h hS).1 n).1 h1, h3⟩
  · rintro ⟨h1, n, h2, h3⟩
    exact ⟨n, ((inOrd_spec h hS).1 n).2 h2, List.mem_filter.2 ⟨h3, by simpa using h1⟩⟩
theorem squash_is {l : List Ed} (h : (validV l).2 = 0) {S : List Nm} (hS : ∀ n ∈ S, n ∈ l.map Ed.name) (n : Nm) :
    editC (foldC l S (orderN l (cloN l S))) n (sortN (needsC l S (orderN l (cloN l S)))) (fun _ => true) = squashE l S n := by
  rw [needsC_sort h hS]
  exact squash_editC h hS
theorem foldC_keys {l : List Ed} (h : (validV l).2 = 0) {S : List Nm} (hS : ∀ n ∈ S, n ∈ l.map Ed.name) (n : Nm) :
    ((foldC l S (orderN l (cloN l S))).map Prod.fst).Nodup ∧ (foldC l S (orderN l (cloN l S))).length = (touches (squashE l S n)).length := by
  have hnd : ∀ m ∈ inOrd l S, (touches (edAt l m)).Nodup := fun m hm => proper_nodup (edAt_proper h (hS m (((inOrd_spec h hS).1 m).1 hm))).1
  obtain ⟨k1, k2, _⟩ := chC_made (inOrd l S) (c := []) (L := []) (by simp) (by simp [Rising]) (fun s => rfl) hnd
  refine ⟨k1, ?_⟩
  have hp : ((foldC l S (orderN l (cloN l S))).map Prod.fst).Perm (touches (squashE l S n)) := by
    refine (List.perm_ext_iff_of_nodup k1 squash_nodup).2 fun s => ?_
    rw [squash_touch h hS]
    show s ∈ ((inOrd l S).foldl _ []).map Prod.fst ↔ _
    rw [k2]
    simp only [List.map_nil, List.not_mem_nil, false_or]
    constructor
    · rintro ⟨m, h1, h2⟩; exact ⟨m, ((inOrd_spec h hS).1 m).1 h1, h2⟩
    · rintro ⟨m, h1, h2⟩; exact ⟨m, ((inOrd_spec h hS).1 m).2 h1, h2⟩
  have := hp.length_eq
  rwa [List.length_map] at this
theorem needsC_succ {l : List Ed} {S x : List Nm} {i : Nat} (h : i < x.length) : needsC l S (x.take (i + 1)) = needsC l S (x.take i) ++ if x[i] ∈ S then (needsOf l x[i]).filter (fun m => decide (m ∉ S)) else [] := by
  unfold needsC
  rw [List.take_succ_eq_append_getElem h, List.filter_append, List.flatMap_append]
  congr 1
  by_cases q : x[i] ∈ S <;> simp [q]
theorem foldC_succ {l : List Ed} {S x : List Nm} {i : Nat} (h : i < x.length) : foldC l S (x.take (i + 1)) = if x[i] ∈ S then applyC (foldC l S (x.take i)) (edAt l x[i]) else foldC l S (x.take i) := by
  unfold foldC
  rw [List.take_succ_eq_append_getElem h, List.filter_append, List.foldl_append]
  by_cases q : x[i] ∈ S <;> simp [q]
theorem needsC_take {l : List Ed} {S x : List Nm} (i : Nat) : (needsC l S (x.take i)).length ≤ (needsC l S x).length := by
  have e : needsC l S x = needsC l S (x.take i) ++ needsC l S (x.drop i) := by
    unfold needsC
    rw [← List.flatMap_append, ← List.filter_append, List.take_append_drop]
  rw [e, List.length_append]; omega
end Go.Eng
namespace Go.Eng
open Go.Proofs
attribute [local simp] runL stepL evalG evalOp opLV constLV putEnv dstOk upd upds Res.plain Res.cond Res.fail evalBin evalUn seqQ blockQ argsEnv lookL lookH RetIs memless freshL evalPick evalMin bval bok evalLen evalIn strip whenC guardOps guardC slotsOf
  runM foldS stepI stepM maskE wrIn lk renO lookN evalCall evalCallee optAll resLV resObj retLV retObj retsLV retsObj evalLoad evalIndexAddr evalField solid cellsD_agg cellsD_int cellsD_bool cellsD_str cellsD_sl cellsD_ro cellsD_fn cellsL_agg cellsL_dagg cellsL_int cellsL_bool cellsL_str cellsL_sl cellsL_fn cellsL_ow cellsL_bx cellsL_lfn cellsL_nl takeL takeD mkAgg allD eqD eqDs kindsAre kindIs LObj.live TK.isNone TK.agg TK.isBool TK.isStr TK.isStruct Op.operands Call.operands
  evalBuildSlice evalAppend elemsOf evalStore evalBuild fillL lookupF putL evalSlice bound evalConv elemsS freezes frozen loadR
  mkEnv_at mkObs_at close_d close_agg close_ow close_bx close_fn close_nl touch_d touch_agg touch_ow touch_bx touch_fn touch_nl ren_d ren_agg ren_bx ren_rp ren_ow ren_fn ren_nl ren_junk retQ_ret retQ2_ret condQ_bool Nm.d Df.d Ed.d nmsD dfsD strsD edsD retC_ret nm_eq df_eq take_map_len take_map_app
  nm_t nm_d nm_td df_t df_d df_td str_t str_d str_td ed_t ed_d ed_td
  evalAppendIn evalCut evalClear evalCopy evalMake evalWrap evalCap evalNil isNilC lenL isInp gorc
  mapOf findD keyEq keyOk evalMakeMap evalRange zeroD zeroDV argsG shutG outN lenv retG0_ret retG0_normal retG1_ret renO close_mp touch_mp ren_mp optAll_d optAll_d' touch_ds cellsL_mp cellsD_mp cellsL_dmp
  evalMapSet evalPtr TK.isPtr evalToArr firstL retN_ret retsQ rvarL close_bm touch_bm ren_bm cellsD_bm cellsL_bm cellsL_lbm
attribute [local simp] cutQ_normal cutQ_ret cutQ_exit
set_option maxRecDepth 10000
theorem dF1 : (default : Ed).name.who = 0 := rfl
theorem dF2 : (default : Ed).name.seq = 0 := rfl
theorem dF3 : (default : Ed).needs = [] := rfl
theorem dF4 : (default : Ed).puts = [] := rfl
theorem dF5 : (default : Ed).drops = [] := rfl
attribute [local simp] dF1 dF2 dF3 dF4 dF5
def badB (l : List Ed) (S : List Nm) (e : Ed) : Bool := (S.any fun n => decide (n ∈ aboveL l e.name)) && (S.any fun n => decide (e.name ∈ aboveL l n)) && !decide (e.name ∈ S)
theorem convex_bad (l : List Ed) (S : List Nm) : convexB l S = !(l.any (badB l S)) := by
  have h : ∀ e, (!(S.any fun n => decide (e.name ∈ aboveL l n)) || !(S.any fun n => decide (n ∈ aboveL l e.name)) || decide (e.name ∈ S)) = !badB l S e := fun e => by
    unfold badB
    cases (S.any fun n => decide (e.name ∈ aboveL l n)) <;> cases (S.any fun n => decide (n ∈ aboveL l e.name)) <;> cases decide (e.name ∈ S) <;> rfl
  unfold convexB
  simp only [h]
  rw [Bool.eq_iff_iff]
  simp
theorem convex_ok (l : List Ed) (set : List Nm) : Ok Tryz.prog 94 [edsD l, nmsD set] ⟨.d (.bool (convexB l set)), true⟩ := by
  refine Ok.ret Tryz.func94 (by kernel_rfl) (c := _) rfl Tryz.ntmps94 (by simp) Tryz.results94 (by intro _ h; cases h) fun w0 X hp => ?_
  rw [convex_bad]
  refine LWp.len (t := 0) rfl fun hlen => ?_
  simp at hlen
  refine LWp.seq ?_
  refine LWp.reg hT hW (fun _ => none) (fun _ => ⟨rfl, fun _ h => h⟩) ?_
  simp
  refine LWp.seq ?_
  refine LWp.seq ?_
  refine LWp.reg hT hW (fun _ => none) (fun _ => ⟨rfl, fun _ h => h⟩) ?_
  simp
  refine LWp.block ?_
  refine LWp.loopW (ι := Nat) (fun i => mkEnv [(1, .d (nmsD set)), (2, .bx 2 0), (9, .d (edsD l)), (10, .d (I64 l.length)), (11, .d (I64 i))]) (fun i => mkObs [(2, .box false [.d (edsD l)])]) (fun i => i ≤ l.length ∧ Pre (badB l set) l i) (fun i => l.length - i) 0 (Weak.to [1, 2, 9, 10, 11] [(2, 2)] (by decide) (by decide) (by simp [hp]) (by simp) (by simp)) (⟨Nat.zero_le _, Pre.zero⟩) fun i hi2 => ?_
  refine LWp.seq ?_
  refine LWp.reg hT hW (fun _ => none) (fun _ => ⟨rfl, fun _ h => h⟩) ?_
  simp
  refine LWp.seq ?_
  refine LWp.iff ?_
  simp
  refine ⟨fun h2 => ?_, fun h2 => ?_⟩
  · refine LWp.skip ?_
    simp
    refine LWp.seq ?_
    refine LWp.block ?_
    refine LWp.seq ?_
    refine LWp.reg hT hW (fun _ => none) (fun _ => ⟨rfl, fun _ h => h⟩) ?_
    simp [h2]
    refine LWp.seq ?_
    refine LWp.reg hT hW (fun | 17 => some <| .plain ⟨.d (.bool (set.any fun n => decide (n ∈ aboveL l l[i].name))), true⟩ | _ => none) (by intro d; first | exact ⟨rfl, fun _ h => h⟩ | (split <;> exact ⟨rfl, fun _ h => h⟩)) ?_
    simp
    refine ⟨AnyNs_ok set _ _ _ fun n _ => convex1_ok l l[i] n, ?_⟩
    refine LWp.seq ?_
    refine LWp.reg hT hW (fun | 20 => some <| .plain ⟨.d (.bool (set.any fun n => decide (l[i].name ∈ aboveL l n))), true⟩ | _ => none) (by intro d; first | exact ⟨rfl, fun _ h => h⟩ | (split <;> exact ⟨rfl, fun _ h => h⟩)) ?_
    simp
    refine ⟨AnyNs_ok set _ _ _ fun n _ => convex2_ok l l[i] n, ?_⟩
    refine LWp.seq ?_
    refine LWp.reg hT hW (fun | 29 => some <| .plain ⟨.d (.bool (decide (l[i].name ∈ set))), true⟩ | _ => none) (by intro d; first | exact ⟨rfl, fun _ h => h⟩ | (split <;> exact ⟨rfl, fun _ h => h⟩)) ?_
    simp
    refine ⟨by intros; exact nsHas_ok _ _, ?_⟩
    refine LWp.iff ?_
    simp
    refine ⟨fun u1 u2 u3 v1 v2 v3 h6 => ?_, fun h6 => ?_⟩
    · have hb : badB l set l[i] = true := by
        simp only [badB, Bool.and_eq_true, List.any_eq_true, decide_eq_true_eq, Bool.not_eq_true', decide_eq_false_iff_not]
        exact ⟨⟨⟨u1, u2, u3⟩, v1, v2, v3⟩, h6⟩
      refine LWp.seq ?_
      refine LWp.reg hT hW (fun _ => none) (fun _ => ⟨rfl, fun _ h => h⟩) ?_
      simp
      refine LWp.ret ?_
      have e : l.any (badB l set) = true := List.any_eq_true.2 ⟨l[i], List.getElem_mem h2, hb⟩
      simp [e]
    · refine LWp.skip ?_
      simp
      refine LWp.reg hT hW (fun _ => none) (fun _ => ⟨rfl, fun _ h => h⟩) ?_
      simp
      refine ⟨by omega, ?_⟩
      refine loopQ.mk (i + 1) (Weak.to [1, 2, 9, 10, 11] [(2, 2)] (by decide) (by decide) (by simp [hp]) (by simp) (by simp)) ?_ ?_
      · exact ⟨h2, hi2.2.succ h2 (by simp [badB]; simpa using h6)⟩
      · omega
  · refine LWp.exit ?_
    simp
    refine LWp.seq ?_
    refine LWp.reg hT hW (fun _ => none) (fun _ => ⟨rfl, fun _ h => h⟩) ?_
    simp
    refine LWp.ret ?_
    have e : l.any (badB l set) = false := hi2.2.any (by omega)
    simp [e]
theorem PPick_ok (l : List Ed) (n : Nm) (onto : List Nm) (y : Nm) (hs : small l) (hl : onto.length ≤ 1100000) (ht : (touchingL l onto (edAt l n) ++ (edAt l n).needs.filter fun m => decide (m ∈ onto)).length ≤ 12) : Ok Tryz.prog 44 [edsD l, n.d, nmsD onto, y.d] ⟨.tup [.d (pickV l n onto y).1.d, .d (I64 (pickV l n onto y).2)], false⟩ := by
  refine Ok.many hT Tryz.func44 (by kernel_rfl) (c := _) rfl Tryz.ntmps44 (by simp) Tryz.results44 (by simp) (by rfl) fun w0 X hp => ?_
  refine LWp.seq ?_
  refine LWp.reg hT hW (fun _ => none) (fun _ => ⟨rfl, fun _ h => h⟩) ?_
  simp
  refine LWp.seq ?_
  refine LWp.seq ?_
  refine LWp.reg hT hW (fun | 18 => some <| .plain ⟨.tup [.d (I64 (validV l).1), .d (I64 (validV l).2)], true⟩ | _ => none) (by intro d; first | exact ⟨rfl, fun _ h => h⟩ | (split <;> exact ⟨rfl, fun _ h => h⟩)) ?_
  simp [evalExtract]
  refine ⟨EValid_ok l hs, ?_⟩
  refine LWp.seq ?_
  refine LWp.reg hT hW (fun _ => none) (fun _ => ⟨rfl, fun _ h => h⟩) ?_
  simp
  refine LWp.iff ?_
  simp
  refine ⟨fun h2 => ?_, fun h2 => ?_⟩
  · refine LWp.seq ?_
    refine LWp.reg hT hW (fun _ => none) (fun _ => ⟨rfl, fun _ h => h⟩) ?_
    simp
    refine LWp.ret ?_
    have e : pickV l n onto y = (default, (validV l).2) := by simp [pickV, h2]
    simp [e]
  · refine LWp.skip ?_
    simp
    refine LWp.seq ?_
    refine LWp.reg hT hW (fun | 27 => some <| .plain ⟨.d (I64 (findI l n)), true⟩ | _ => none) (by intro d; first | exact ⟨rfl, fun _ h => h⟩ | (split <;> exact ⟨rfl, fun _ h => h⟩)) ?_
    simp
    refine ⟨EFind_ok l n, ?_⟩
    refine LWp.seq ?_
    refine LWp.block ?_
    refine LWp.seq ?_
    refine LWp.reg hT hW (fun _ => none) (fun _ => ⟨rfl, fun _ h => h⟩) ?_
    simp
    refine LWp.iff ?_
    simp
    refine ⟨fun h5 => ?_, fun h5 => ?_⟩
    · refine LWp.seq ?_
      refine LWp.reg hT hW (fun _ => none) (fun _ => ⟨rfl, fun _ h => h⟩) ?_
      simp
      refine LWp.ret ?_
      have e : pickV l n onto y = (default, 6) := by simp [pickV, h2, h5]
      simp [e]
    · refine LWp.seq ?_
      refine LWp.reg hT hW (fun | 35 => some <| .plain ⟨.d (.bool (closedB l onto)), true⟩ | _ => none) (by intro d; first | exact ⟨rfl, fun _ h => h⟩ | (split <;> exact ⟨rfl, fun _ h => h⟩)) ?_
      simp
      refine ⟨EClosed_ok l onto, ?_⟩
      refine LWp.iff ?_
      simp
      refine ⟨fun h7 => ?_, fun h7 => ?_⟩
      · refine LWp.seq ?_
        refine LWp.reg hT hW (fun _ => none) (fun _ => ⟨rfl, fun _ h => h⟩) ?_
        simp
        refine LWp.ret ?_
        have n5 : ¬ findI l n < 0 := by omega
        have e : pickV l n onto y = (default, 10) := by simp [pickV, h2, n5, h7]
        simp [e]
      · refine LWp.seq ?_
        refine LWp.reg hT hW (fun | 40 => some <| .plain ⟨.d (.bool y.isName), true⟩ | _ => none) (by intro d; first | exact ⟨rfl, fun _ h => h⟩ | (split <;> exact ⟨rfl, fun _ h => h⟩)) ?_
        simp
        refine ⟨ppossible_ok y, ?_⟩
        refine LWp.iff ?_
        simp
        refine ⟨fun h9 => ?_, fun h9 => ?_⟩
        · refine LWp.seq ?_
          refine LWp.reg hT hW (fun _ => none) (fun _ => ⟨rfl, fun _ h => h⟩) ?_
          simp
          refine LWp.ret ?_
          have n5 : ¬ findI l n < 0 := by omega
          have e : pickV l n onto y = (default, 1) := by simp [pickV, h2, n5, h7, h9]
          simp [e]
        · refine LWp.seq ?_
          refine LWp.reg hT hW (fun | 46 => some <| .plain ⟨.d (I64 (findI l y)), true⟩ | _ => none) (by intro d; first | exact ⟨rfl, fun _ h => h⟩ | (split <;> exact ⟨rfl, fun _ h => h⟩)) ?_
          simp
          refine ⟨EFind_ok l y, ?_⟩
          refine LWp.iff ?_
          simp
          refine ⟨fun h11 => ?_, fun h11 => ?_⟩
          · refine LWp.seq ?_
            refine LWp.reg hT hW (fun _ => none) (fun _ => ⟨rfl, fun _ h => h⟩) ?_
            simp
            refine LWp.ret ?_
            have n5 : ¬ findI l n < 0 := by omega
            have e : pickV l n onto y = (default, 7) := by simp [pickV, h2, n5, h7, h9, h11]
            simp [e]
          · refine LWp.skip ?_
            simp
            refine LWp.seq ?_
            obtain ⟨i0, hi0, fi, ei⟩ := edAt_of (show 0 ≤ findI l n by omega)
            have hes := hs _ (List.getElem_mem hi0)
            obtain ⟨x, hx⟩ : ∃ x, x = edAt l n := ⟨_, rfl⟩
            have hxe : l[i0] = x := by rw [hx, ei]
            rw [← hx] at ht
            rw [hxe] at hes
            obtain ⟨ns, hns⟩ : ∃ ns, ns = touchingL l onto x := ⟨_, rfl⟩
            rw [← hns] at ht
            refine LWp.reg hT hW (fun | 55 => some <| .plain ⟨.own 2 (ns.map Nm.d), true⟩ | _ => none) (by intro d; first | exact ⟨rfl, fun _ h => h⟩ | (split <;> exact ⟨rfl, fun _ h => h⟩)) ?_
            simp [fi, hi0, hxe]
            refine ⟨by rw [hns]; exact ptouching_ok l onto x hs hes hl, ?_⟩
            refine LWp.seq ?_
            refine LWp.seq ?_
            refine LWp.reg hT hW (fun _ => none) (fun _ => ⟨rfl, fun _ h => h⟩) ?_
            simp [hi0, hxe]
            refine LWp.len (t := 60) (xs := x.needs.map Nm.d) (by simp) fun hxl => ?_
            simp at hxl
            refine LWp.block ?_
            refine LWp.loopW (ι := Nat × List Nm) (fun ⟨i, acc⟩ => mkEnv [(0, .d (edsD l)), (2, .d (nmsD onto)), (7, .bx 7 0), (8, .bx 8 0), (9, .d (I64 0)), (12, .d (I64 i0)), (13, .ow 55 0 acc.length), (60, .d (nmsD x.needs)), (61, .d (I64 x.needs.length)), (62, .d (I64 i))]) (fun ⟨i, acc⟩ => mkObs [(7, .box false [.d (I64 y.who), .d (I64 y.seq)]), (8, .box false [.d (I64 0), .d (I64 0), .nl, .nl, .nl]), (55, .row false 2 (acc.map Nm.d))]) (fun ⟨i, acc⟩ => i ≤ x.needs.length ∧ acc = ns ++ (x.needs.take i).filter fun m => decide (m ∈ onto)) (fun ⟨i, acc⟩ => x.needs.length - i) (0, ns) (Weak.to [0, 2, 7, 8, 9, 12, 13, 60, 61, 62] [(7, 7), (8, 8), (55, 55)] (by decide) (by decide) (by simp [hp]) (by simp) (by simp)) (by simp) fun ⟨i, acc⟩ hi15 => ?_
            refine LWp.seq ?_
            refine LWp.reg hT hW (fun _ => none) (fun _ => ⟨rfl, fun _ h => h⟩) ?_
            simp
            refine LWp.seq ?_
            refine LWp.iff ?_
            simp
            refine ⟨fun h15 => ?_, fun h15 => ?_⟩
            · refine LWp.skip ?_
              simp
              refine LWp.seq ?_
              refine LWp.block ?_
              refine LWp.seq ?_
              refine LWp.reg hT hW (fun _ => none) (fun _ => ⟨rfl, fun _ h => h⟩) ?_
              simp [h15]
              refine LWp.seq ?_
              refine LWp.reg hT hW (fun | 68 => some <| .plain ⟨.d (.bool (decide (x.needs[i] ∈ onto))), true⟩ | _ => none) (by intro d; first | exact ⟨rfl, fun _ h => h⟩ | (split <;> exact ⟨rfl, fun _ h => h⟩)) ?_
              simp [h15]
              refine ⟨nsHas_ok onto _, ?_⟩
              refine LWp.iff ?_
              simp
              refine ⟨fun h17 => ?_, fun h17 => ?_⟩
              · have hal : acc.length ≤ 12 := by
                  rw [hi15.2]
                  refine Nat.le_trans ?_ ht
                  rw [List.length_append, List.length_append]
                  exact Nat.add_le_add_left ((List.take_sublist _ _).filter _).length_le _
                refine LWp.reg hT hW (fun _ => none) (fun _ => ⟨rfl, fun _ h => h⟩) ?_
                simp [h15]
                refine ⟨by omega, ?_⟩
                refine LWp.reg hT hW (fun _ => none) (fun _ => ⟨rfl, fun _ h => h⟩) ?_
                simp
                refine ⟨by omega, ?_⟩
                refine loopQ.mk (i + 1, acc ++ [x.needs[i]]) (Weak.to [0, 2, 7, 8, 9, 12, 13, 60, 61, 62] [(7, 7), (8, 8), (72, 55)] (by decide) (by decide) (by simp [hp]) (by simp) (by simp)) ?_ ?_
                · refine ⟨h15, ?_⟩
                  dsimp only
                  rw [filter_take_succ h15, hi15.2]; simp [h17]
                · omega
              · refine LWp.skip ?_
                simp
                refine LWp.reg hT hW (fun _ => none) (fun _ => ⟨rfl, fun _ h => h⟩) ?_
                simp
                refine ⟨by omega, ?_⟩
                refine loopQ.mk (i + 1, acc) (Weak.to [0, 2, 7, 8, 9, 12, 13, 60, 61, 62] [(7, 7), (8, 8), (55, 55)] (by decide) (by decide) (by simp [hp]) (by simp) (by simp)) ?_ ?_
                · refine ⟨h15, ?_⟩
                  dsimp only
                  rw [filter_take_succ h15, hi15.2]; simp [h17]
                · omega
            · refine LWp.exit ?_
              simp
              refine LWp.seq ?_
              have hac : acc = ns ++ x.needs.filter fun m => decide (m ∈ onto) := by rw [hi15.2, List.take_of_length_le (by omega)]
              have hal : acc.length ≤ 12 := by rw [hac]; exact ht
              have hsl := sortN_len acc
              refine LWp.regAny hT hW hMixed (lk [[],[],[1],[],[],[3,4],[3,4,5],[3,4,5,6],[1,2,3,4,5,6,7],[],[],[9,10],[9,10,11],[9,10,11,12],[1,2,3,4,5,6,7,8,9,10,11,12,13],[0,1,2,3,4,5,6,7,8,9,10,11,12,13,14],[0,1,2,3,4,5,6,7,8,9,10,11,12,13,14,15],[0,1,2,3,4,5,6,7,8,9,10,11,12,13,14,15,16]]) (lk [[76,82,88],[],[],[76],[76],[76],[76],[76],[],[76,82],[76,82],[76,82],[76,82],[76,82],[],[],[],[]]) (lk [[],[],[76],[],[],[],[],[],[82],[],[],[],[],[],[88],[],[8],[]]) (by kernel_rfl) (fun | 76 => some <| .plain ⟨.own 2 ((sortN acc).map Nm.d), true⟩ | 82 => some <| .plain ⟨.own 2 (x.puts.map Df.d), true⟩ | 88 => some <| .plain ⟨.own 1 (x.drops.map .str), true⟩ | _ => none) (by intro d; first | exact ⟨rfl, fun _ h => h⟩ | (split <;> exact ⟨rfl, fun _ h => h⟩)) ?_
              simp [hi0, hxe]
              refine ⟨⟨⟨nsSorted_ok acc hal, CloneDf_ok _ (by have := hes.1; omega)⟩, CloneStr_ok _ (by have := hes.2; omega)⟩, ?_⟩
              refine LWp.ret ?_
              have n5 : ¬ findI l n < 0 := by omega
              have n11 : ¬ 0 ≤ findI l y := by omega
              have e : pickV l n onto y = (⟨y, sortN acc, x.puts, x.drops⟩, 0) := by simp [pickV, pickE, h2, n5, h7, h9, n11, ← hx, ← hns, ← hac]
              simp [e]
end Go.Eng
namespace Go.Eng
open Go.Proofs
attribute [local simp] runL stepL evalG evalOp opLV constLV putEnv dstOk upd upds Res.plain Res.cond Res.fail evalBin evalUn seqQ blockQ argsEnv lookL lookH RetIs memless freshL evalPick evalMin bval bok evalLen evalIn strip whenC guardOps guardC slotsOf
  runM foldS stepI stepM maskE wrIn lk renO lookN evalCall evalCallee optAll resLV resObj retLV retObj retsLV retsObj evalLoad evalIndexAddr evalField solid cellsD_agg cellsD_int cellsD_bool cellsD_str cellsD_sl cellsD_ro cellsD_fn cellsL_agg cellsL_dagg cellsL_int cellsL_bool cellsL_str cellsL_sl cellsL_fn cellsL_ow cellsL_bx cellsL_lfn cellsL_nl takeL takeD mkAgg allD eqD eqDs kindsAre kindIs LObj.live TK.isNone TK.agg TK.isBool TK.isStr TK.isStruct Op.operands Call.operands
  evalBuildSlice evalAppend elemsOf evalStore evalBuild fillL lookupF putL evalSlice bound evalConv elemsS freezes frozen loadR
  mkEnv_at mkObs_at close_d close_agg close_ow close_bx close_fn close_nl touch_d touch_agg touch_ow touch_bx touch_fn touch_nl ren_d ren_agg ren_bx ren_rp ren_ow ren_fn ren_nl ren_junk retQ_ret retQ2_ret condQ_bool Nm.d Df.d Ed.d nmsD dfsD strsD edsD retC_ret nm_eq df_eq take_map_len take_map_app
  nm_t nm_d nm_td df_t df_d df_td str_t str_d str_td ed_t ed_d ed_td
  evalAppendIn evalCut evalClear evalCopy evalMake evalWrap evalCap evalNil isNilC lenL isInp gorc
  mapOf findD keyEq keyOk evalMakeMap evalRange zeroD zeroDV argsG shutG outN lenv retG0_ret retG0_normal retG1_ret renO close_mp touch_mp ren_mp optAll_d optAll_d' touch_ds cellsL_mp cellsD_mp cellsL_dmp
  evalMapSet evalPtr TK.isPtr evalToArr firstL retN_ret retsQ rvarL close_bm touch_bm ren_bm cellsD_bm cellsL_bm cellsL_lbm
attribute [local simp] cutQ_normal cutQ_ret cutQ_exit
set_option maxRecDepth 10000
attribute [local simp] dF1 dF2 dF3 dF4 dF5
theorem squashV_go {D : List Df} {l : List Ed} {S : List Nm} {n : Nm} (hv : (validV l).2 = 0) (hno : ¬ (S = [] ∨ S.any (fun m => decide (findI l m < 0)) = true)) :
    squashV D l S n = if convexB l S = false then (default, 13) else if (programV D l (cloN l S)).2 ≠ 0 then (default, (programV D l (cloN l S)).2) else if 24 < (touches (squashE l S n)).length then (default, 4) else if n.isName = false then (default, 1)
      else if 0 ≤ findI l n ∧ n ∉ S then (default, 7) else (squashE l S n, 0) := by
  unfold squashV
  rw [if_neg (by simpa using hv), if_neg hno]
theorem PSquash_ok (base : List Df) (l : List Ed) (set : List Nm) (y : Nm) (hs : small l) (hb : base.length ≤ 1000) (hl : set.length ≤ 1100000) (hn : (allNeeds l).length ≤ 1100000) (ht : (needsC l set (orderN l (cloN l set))).length ≤ 12) (hcl : (cloN l set).length ≤ 1000) : Ok Tryz.prog 37 [dfsD base, edsD l, nmsD set, y.d] ⟨.tup [.d (squashV base l set y).1.d, .d (I64 (squashV base l set y).2)], false⟩ := by
  refine Ok.many hT Tryz.func37 (by kernel_rfl) (c := _) rfl Tryz.ntmps37 (by simp) Tryz.results37 (by simp) (by rfl) fun w0 X hp => ?_
  refine LWp.seq ?_
  refine LWp.reg hT hW (fun _ => none) (fun _ => ⟨rfl, fun _ h => h⟩) ?_
  simp
  refine LWp.seq ?_
  refine LWp.seq ?_
  refine LWp.reg hT hW (fun | 25 => some <| .plain ⟨.tup [.d (I64 (validV l).1), .d (I64 (validV l).2)], true⟩ | _ => none) (by intro d; first | exact ⟨rfl, fun _ h => h⟩ | (split <;> exact ⟨rfl, fun _ h => h⟩)) ?_
  simp [evalExtract]
  refine ⟨EValid_ok l hs, ?_⟩
  refine LWp.seq ?_
  refine LWp.reg hT hW (fun _ => none) (fun _ => ⟨rfl, fun _ h => h⟩) ?_
  simp
  refine LWp.iff ?_
  simp
  refine ⟨fun h2 => ?_, fun h2 => ?_⟩
  · refine LWp.seq ?_
    refine LWp.reg hT hW (fun _ => none) (fun _ => ⟨rfl, fun _ h => h⟩) ?_
    simp
    refine LWp.ret ?_
    have e : squashV base l set y = (default, (validV l).2) := by simp [squashV, h2]
    simp [e]
  · refine LWp.skip ?_
    simp
    refine LWp.seq ?_
    refine LWp.reg hT hW (fun | 34 => some <| .plain ⟨.d (.bool (set.any fun n => decide (findI l n < 0))), true⟩ | _ => none) (by intro d; first | exact ⟨rfl, fun _ h => h⟩ | (split <;> exact ⟨rfl, fun _ h => h⟩)) ?_
    simp
    refine ⟨AnyNm_ok _ _ _ _ fun n _ => Squash1_ok l n, ?_⟩
    refine LWp.seq ?_
    refine LWp.seq ?_
    refine LWp.reg hT hW (fun _ => none) (fun _ => ⟨rfl, fun _ h => h⟩) ?_
    simp
    refine LWp.iff ?_
    simp
    refine ⟨fun h5 => ?_, fun h5 g5 => ?_⟩
    · refine LWp.seq ?_
      refine LWp.reg hT hW (fun _ => none) (fun _ => ⟨rfl, fun _ h => h⟩) ?_
      simp
      refine LWp.ret ?_
      have e : squashV base l set y = (default, 6) := by
        unfold squashV
        rw [if_neg (by simpa using h2), if_pos]
        simpa using h5
      simp [e]
    · refine LWp.skip ?_
      simp
      refine LWp.seq ?_
      refine LWp.seq ?_
      have hv : (validV l).2 = 0 := by simpa using h2
      have hS : ∀ n ∈ set, n ∈ l.map Ed.name := fun n hn => found_iff.1 (by have := g5 n hn; omega)
      have hno : ¬ (set = [] ∨ set.any (fun m => decide (findI l m < 0)) = true) := by
        rintro (w | w)
        · exact h5 w
        · obtain ⟨m, hm, hlt⟩ := List.any_eq_true.1 w
          have := g5 m hm
          simp at hlt; omega
      have hgo := squashV_go (D := base) (n := y) hv hno
      refine LWp.reg hT hW (fun | 44 => some <| .plain ⟨.d (.bool (convexB l set)), true⟩ | _ => none) (by intro d; first | exact ⟨rfl, fun _ h => h⟩ | (split <;> exact ⟨rfl, fun _ h => h⟩)) ?_
      simp
      refine ⟨convex_ok l set, ?_⟩
      refine LWp.iff ?_
      simp
      refine ⟨fun h7 => ?_, fun h7 => ?_⟩
      · refine LWp.seq ?_
        refine LWp.reg hT hW (fun _ => none) (fun _ => ⟨rfl, fun _ h => h⟩) ?_
        simp
        refine LWp.ret ?_
        have e : squashV base l set y = (default, 13) := by rw [hgo]; simp [h7]
        simp [e]
      · refine LWp.skip ?_
        simp
        refine LWp.seq ?_
        have k9 := (EClosure_ok l set hl hn).own2_d
        rw [closureV_ok hv hS] at k9
        have hset := closure_closed hv hS
        obtain ⟨cl, hcc⟩ : ∃ cl, cl = cloN l set := ⟨_, rfl⟩
        rw [← hcc] at k9 hset hcl ht
        refine LWp.reg hT hW (fun | 50 => some <| .plain ⟨.tup [.d (nmsD cl), .d (I64 0)], true⟩ | _ => none) (by intro d; first | exact ⟨rfl, fun _ h => h⟩ | (split <;> exact ⟨rfl, fun _ h => h⟩)) ?_
        simp [evalExtract]
        refine ⟨k9, ?_⟩
        refine LWp.seq ?_
        refine LWp.seq ?_
        refine LWp.reg hT hW (fun _ => none) (fun _ => ⟨rfl, fun _ h => h⟩) ?_
        simp
        refine LWp.iff ?_
        simp
        refine LWp.skip ?_
        simp
        refine LWp.seq ?_
        refine LWp.seq ?_
        refine LWp.reg hT hW (fun | 61 => some <| .plain ⟨.tup [.d (dfsD (programV base l cl).1), .d (I64 (programV base l cl).2)], true⟩ | _ => none) (by intro d; first | exact ⟨rfl, fun _ h => h⟩ | (split <;> exact ⟨rfl, fun _ h => h⟩)) ?_
        simp [evalExtract]
        refine ⟨EProgram_ok base l cl hs hb hcl, ?_⟩
        refine LWp.seq ?_
        refine LWp.reg hT hW (fun _ => none) (fun _ => ⟨rfl, fun _ h => h⟩) ?_
        simp
        refine LWp.iff ?_
        simp
        refine ⟨fun h13 => ?_, fun h13 => ?_⟩
        · refine LWp.seq ?_
          refine LWp.reg hT hW (fun _ => none) (fun _ => ⟨rfl, fun _ h => h⟩) ?_
          simp
          refine LWp.ret ?_
          have e : squashV base l set y = (default, (programV base l cl).2) := by rw [hgo]; simp [h7, h13, ← hcc]
          simp [e]
        · refine LWp.skip ?_
          simp
          refine LWp.seq ?_
          have k15 := (EOrder_ok l cl hs (by omega)).own2_d
          rw [show orderV l cl = (orderN l cl, 0) by simp [orderV, hv, hset]] at k15
          have hxf : ∀ n ∈ orderN l cl, n ∈ l.map Ed.name := fun n hn => found_iff.1 (closedB_iff.1 hset n ((mem_orderN hv hset).1 hn)).1
          obtain ⟨x, hx⟩ : ∃ x, x = orderN l cl := ⟨_, rfl⟩
          rw [← hx] at k15 hxf ht
          refine LWp.reg hT hW (fun | 71 => some <| .plain ⟨.tup [.d (nmsD x), .d (I64 0)], true⟩ | _ => none) (by intro d; first | exact ⟨rfl, fun _ h => h⟩ | (split <;> exact ⟨rfl, fun _ h => h⟩)) ?_
          simp [evalExtract]
          refine ⟨k15, ?_⟩
          refine LWp.seq ?_
          refine LWp.seq ?_
          refine LWp.reg hT hW (fun _ => none) (fun _ => ⟨rfl, fun _ h => h⟩) ?_
          simp
          refine LWp.iff ?_
          simp
          refine LWp.skip ?_
          simp
          refine LWp.seq ?_
          refine LWp.reg hT hW (fun _ => none) (fun _ => ⟨rfl, fun _ h => h⟩) ?_
          simp
          refine LWp.seq ?_
          refine LWp.reg hT hW (fun _ => none) (fun _ => ⟨rfl, fun _ h => h⟩) ?_
          simp
          refine LWp.seq ?_
          refine LWp.seq ?_
          refine LWp.reg hT hW (fun _ => none) (fun _ => ⟨rfl, fun _ h => h⟩) ?_
          simp
          refine LWp.len (t := 79) (xs := x.map Nm.d) (by simp) fun hxl => ?_
          simp at hxl
          refine LWp.block ?_
          refine LWp.loopW (ι := Nat × List Nm × Chg) (fun ⟨i, acc, c⟩ => mkEnv [(2, .d (nmsD set)), (5, .bx 5 0), (7, .bx 7 0), (8, .bx 8 0), (9, .d (I64 0)), (16, .mp 78), (17, .ow 17 0 acc.length), (79, .d (nmsD x)), (80, .d (I64 x.length)), (81, .d (I64 i))]) (fun ⟨i, acc, c⟩ => mkObs [(5, .box false [.d (edsD l)]), (7, .box false [.d (I64 y.who), .d (I64 y.seq)]), (8, .box false [.d (I64 0), .d (I64 0), .nl, .nl, .nl]), (17, .row false 2 (acc.map Nm.d)), (78, .map false (ck c) (cv c))]) (fun ⟨i, acc, c⟩ => i ≤ x.length ∧ acc = needsC l set (x.take i) ∧ c = foldC l set (x.take i)) (fun ⟨i, acc, c⟩ => x.length - i) (0, [], []) (Weak.to [2, 5, 7, 8, 9, 16, 17, 79, 80, 81] [(5, 5), (7, 7), (8, 8), (17, 17), (78, 78)] (by decide) (by decide) (by simp [hp]) (by simp) (by simp [ck, cv])) (by simp [needsC, foldC]) fun ⟨i, acc, c⟩ hi21 => ?_
          refine LWp.seq ?_
          refine LWp.reg hT hW (fun _ => none) (fun _ => ⟨rfl, fun _ h => h⟩) ?_
          simp
          refine LWp.seq ?_
          refine LWp.iff ?_
          simp
          refine ⟨fun h21 => ?_, fun h21 => ?_⟩
          · refine LWp.skip ?_
            simp
            refine LWp.seq ?_
            refine LWp.block ?_
            refine LWp.seq ?_
            refine LWp.reg hT hW (fun _ => none) (fun _ => ⟨rfl, fun _ h => h⟩) ?_
            simp [h21]
            refine LWp.seq ?_
            refine LWp.seq ?_
            refine LWp.reg hT hW (fun | 87 => some <| .plain ⟨.d (.bool (decide (x[i] ∈ set))), true⟩ | _ => none) (by intro d; first | exact ⟨rfl, fun _ h => h⟩ | (split <;> exact ⟨rfl, fun _ h => h⟩)) ?_
            simp [h21]
            refine ⟨nsHas_ok set _, ?_⟩
            refine LWp.iff ?_
            simp
            refine ⟨fun h23 => ?_, fun h23 => ?_⟩
            · refine LWp.exit ?_
              simp
              refine LWp.reg hT hW (fun _ => none) (fun _ => ⟨rfl, fun _ h => h⟩) ?_
              simp
              refine ⟨by omega, ?_⟩
              refine loopQ.mk (i + 1, acc, c) (Weak.to [2, 5, 7, 8, 9, 16, 17, 79, 80, 81] [(5, 5), (7, 7), (8, 8), (17, 17), (78, 78)] (by decide) (by decide) (by simp [hp]) (by simp) (by simp)) ?_ ?_
              · refine ⟨h21, ?_, ?_⟩
                · dsimp only
                  rw [needsC_succ h21, if_neg h23, List.append_nil, ← hi21.2.1]
                · dsimp only
                  rw [foldC_succ h21, if_neg h23, ← hi21.2.2]
              · omega
            · refine LWp.skip ?_
              simp
              refine LWp.seq ?_
              obtain ⟨k0, hk0, fk, ek⟩ := edAt_of (found_iff.2 (hxf x[i] (List.getElem_mem h21)))
              obtain ⟨e, he⟩ : ∃ e, e = edAt l x[i] := ⟨_, rfl⟩
              have hes := hs _ (List.getElem_mem hk0)
              have hke : l[k0] = e := by rw [he, ek]
              rw [hke] at hes
              have hen : e.needs = needsOf l x[i] := by rw [he]; exact (edAt_proper hv (hxf _ (List.getElem_mem h21))).2.1
              have hfk := EFind_ok l x[i]
              rw [fk] at hfk
              refine LWp.regAny hT hW hMixed (lk [[],[],[],[1,2],[0,1,2,3],[0,1,2,3,4],[],[0,1,2,3,4,5,6]]) (lk [[20,92],[20],[20],[20],[20],[20],[92],[]]) (lk [[],[],[],[92],[],[],[20],[20]]) (by kernel_rfl) (fun | 92 => some <| .plain ⟨.d (I64 k0), true⟩ | _ => none) (by intro d; first | exact ⟨rfl, fun _ h => h⟩ | (split <;> exact ⟨rfl, fun _ h => h⟩)) ?_
              simp [hk0, hke]
              refine ⟨hfk, ?_⟩
              refine LWp.seq ?_
              refine LWp.reg hT hW (fun | 97 => some (.gen ⟨[(78, 0)], [], [], [(0, .map false (ck (applyC c e)) (cv (applyC c e)))], .tup []⟩) | _ => none) (by intro d; first | exact ⟨rfl, fun _ h => h⟩ | (split <;> exact ⟨rfl, fun _ h => h⟩)) ?_
              simp
              refine ⟨apply_ok c e hes, ?_⟩
              refine LWp.seq ?_
              refine LWp.reg hT hW (fun _ => none) (fun _ => ⟨rfl, fun _ h => h⟩) ?_
              simp
              refine LWp.len (t := 99) (xs := e.needs.map Nm.d) (by simp) fun hnl => ?_
              simp at hnl
              refine LWp.block ?_
              refine LWp.loopW (ι := Nat × List Nm) (fun ⟨j, acc2⟩ => mkEnv [(2, .d (nmsD set)), (5, .bx 5 0), (7, .bx 7 0), (8, .bx 8 0), (9, .d (I64 0)), (16, .mp 78), (17, .ow 17 0 acc2.length), (79, .d (nmsD x)), (80, .d (I64 x.length)), (81, .d (I64 i)), (99, .d (nmsD e.needs)), (100, .d (I64 e.needs.length)), (101, .d (I64 j))]) (fun ⟨j, acc2⟩ => mkObs [(5, .box false [.d (edsD l)]), (7, .box false [.d (I64 y.who), .d (I64 y.seq)]), (8, .box false [.d (I64 0), .d (I64 0), .nl, .nl, .nl]), (17, .row false 2 (acc2.map Nm.d)), (78, .map false (ck (applyC c e)) (cv (applyC c e)))]) (fun ⟨j, acc2⟩ => j ≤ e.needs.length ∧ acc2 = acc ++ (e.needs.take j).filter fun m => decide (m ∉ set)) (fun ⟨j, acc2⟩ => e.needs.length - j) (0, acc) (Weak.to [2, 5, 7, 8, 9, 16, 17, 79, 80, 81, 99, 100, 101] [(5, 5), (7, 7), (8, 8), (17, 17), (78, 78)] (by decide) (by decide) (by simp [hp]) (by simp) (by simp)) (by simp) fun ⟨j, acc2⟩ hi27 => ?_
              refine LWp.seq ?_
              refine LWp.reg hT hW (fun _ => none) (fun _ => ⟨rfl, fun _ h => h⟩) ?_
              simp
              refine LWp.seq ?_
              refine LWp.iff ?_
              simp
              refine ⟨fun h27 => ?_, fun h27 => ?_⟩
              · refine LWp.skip ?_
                simp
                refine LWp.seq ?_
                refine LWp.block ?_
                refine LWp.seq ?_
                refine LWp.reg hT hW (fun _ => none) (fun _ => ⟨rfl, fun _ h => h⟩) ?_
                simp [h27]
                refine LWp.seq ?_
                refine LWp.reg hT hW (fun | 107 => some <| .plain ⟨.d (.bool (decide (e.needs[j] ∈ set))), true⟩ | _ => none) (by intro d; first | exact ⟨rfl, fun _ h => h⟩ | (split <;> exact ⟨rfl, fun _ h => h⟩)) ?_
                simp [h27]
                refine ⟨nsHas_ok set _, ?_⟩
                refine LWp.iff ?_
                simp
                refine ⟨fun h29 => ?_, fun h29 => ?_⟩
                · have hal : acc2.length ≤ 12 := by
                    have q1 := needsC_take (l := l) (S := set) (x := x) (i + 1)
                    rw [needsC_succ h21, if_pos h23, ← hi21.2.1, List.length_append, ← hen] at q1
                    have q2 := ((List.take_sublist j e.needs).filter fun m => decide (m ∉ set)).length_le
                    rw [hi27.2, List.length_append]
                    omega
                  refine LWp.reg hT hW (fun _ => none) (fun _ => ⟨rfl, fun _ h => h⟩) ?_
                  simp [h27]
                  refine ⟨by omega, ?_⟩
                  refine LWp.reg hT hW (fun _ => none) (fun _ => ⟨rfl, fun _ h => h⟩) ?_
                  simp
                  refine ⟨by omega, ?_⟩
                  refine loopQ.mk (j + 1, acc2 ++ [e.needs[j]]) (Weak.to [2, 5, 7, 8, 9, 16, 17, 79, 80, 81, 99, 100, 101] [(5, 5), (7, 7), (8, 8), (112, 17), (78, 78)] (by decide) (by decide) (by simp [hp]) (by simp) (by simp)) ?_ ?_
                  · refine ⟨h27, ?_⟩
                    dsimp only
                    rw [filter_take_succ h27, hi27.2]; simp [h29]
                  · omega
                · refine LWp.skip ?_
                  simp
                  refine LWp.reg hT hW (fun _ => none) (fun _ => ⟨rfl, fun _ h => h⟩) ?_
                  simp
                  refine ⟨by omega, ?_⟩
                  refine loopQ.mk (j + 1, acc2) (Weak.to [2, 5, 7, 8, 9, 16, 17, 79, 80, 81, 99, 100, 101] [(5, 5), (7, 7), (8, 8), (17, 17), (78, 78)] (by decide) (by decide) (by simp [hp]) (by simp) (by simp)) ?_ ?_
                  · refine ⟨h27, ?_⟩
                    dsimp only
                    rw [filter_take_succ h27, hi27.2]; simp [h29]
                  · omega
              · refine LWp.exit ?_
                simp
                refine LWp.reg hT hW (fun _ => none) (fun _ => ⟨rfl, fun _ h => h⟩) ?_
                simp
                refine ⟨by omega, ?_⟩
                refine loopQ.mk (i + 1, acc2, applyC c e) (Weak.to [2, 5, 7, 8, 9, 16, 17, 79, 80, 81] [(5, 5), (7, 7), (8, 8), (17, 17), (78, 78)] (by decide) (by decide) (by simp [hp]) (by simp) (by simp)) ?_ ?_
                · refine ⟨h21, ?_, ?_⟩
                  · dsimp only
                    rw [needsC_succ h21, if_pos h23, ← hen, hi27.2, List.take_of_length_le (by omega), ← hi21.2.1]
                  · dsimp only
                    rw [foldC_succ h21, if_pos h23, ← hi21.2.2, he]
                · omega
          · refine LWp.exit ?_
            simp
            refine LWp.seq ?_
            refine LWp.block ?_
            refine LWp.seq ?_
            have hce : c = foldC l set x := by rw [hi21.2.2, List.take_of_length_le (by omega)]
            have hae : acc = needsC l set x := by rw [hi21.2.1, List.take_of_length_le (by omega)]
            have hckl : (ck c).length = c.length := by simp [ck]
            obtain ⟨hk1, hk2⟩ := foldC_keys hv hS y
            rw [← hcc, ← hx, ← hce] at hk1 hk2
            have hedit := squash_is hv hS y
            rw [← hcc, ← hx, ← hce, ← hae] at hedit
            refine LWp.reg hT hW (fun _ => none) (fun _ => ⟨rfl, fun _ h => h⟩) ?_
            simp
            refine LWp.iff ?_
            simp
            refine ⟨fun h33 => ?_, fun h33 => ?_⟩
            · refine LWp.seq ?_
              refine LWp.reg hT hW (fun _ => none) (fun _ => ⟨rfl, fun _ h => h⟩) ?_
              simp
              refine LWp.ret ?_
              have e : squashV base l set y = (default, 4) := by rw [hgo, if_neg (by simp [h7]), if_neg (by simp [h13, ← hcc]), if_pos (by omega)]
              simp [e]
            · refine LWp.seq ?_
              refine LWp.reg hT hW (fun | 122 => some <| .plain ⟨.d (.bool y.isName), true⟩ | _ => none) (by intro d; first | exact ⟨rfl, fun _ h => h⟩ | (split <;> exact ⟨rfl, fun _ h => h⟩)) ?_
              simp
              refine ⟨ppossible_ok y, ?_⟩
              refine LWp.iff ?_
              simp
              refine ⟨fun h35 => ?_, fun h35 => ?_⟩
              · refine LWp.seq ?_
                refine LWp.reg hT hW (fun _ => none) (fun _ => ⟨rfl, fun _ h => h⟩) ?_
                simp
                refine LWp.ret ?_
                have e : squashV base l set y = (default, 1) := by rw [hgo, if_neg (by simp [h7]), if_neg (by simp [h13, ← hcc]), if_neg (by omega), if_pos (by simpa using h35)]
                simp [e]
              · refine LWp.seq ?_
                refine LWp.reg hT hW (fun | 128 => some <| .plain ⟨.d (I64 (findI l y)), true⟩ | 133 => some <| .plain ⟨.d (.bool (decide (y ∈ set))), true⟩ | _ => none) (by intro d; first | exact ⟨rfl, fun _ h => h⟩ | (split <;> exact ⟨rfl, fun _ h => h⟩)) ?_
                simp
                refine ⟨⟨EFind_ok l y, by intros; exact nsHas_ok _ _⟩, ?_⟩
                refine LWp.iff ?_
                simp
                refine ⟨fun h37 g37 => ?_, fun h37 => ?_⟩
                · refine LWp.seq ?_
                  refine LWp.reg hT hW (fun _ => none) (fun _ => ⟨rfl, fun _ h => h⟩) ?_
                  simp
                  refine LWp.ret ?_
                  have e : squashV base l set y = (default, 7) := by rw [hgo, if_neg (by simp [h7]), if_neg (by simp [h13, ← hcc]), if_neg (by omega), if_neg (by simpa using h35), if_pos ⟨h37, g37⟩]
                  simp [e]
                · refine LWp.skip ?_
                  simp
                  refine LWp.seq ?_
                  have hsl := sortN_len acc
                  rw [← hae] at ht
                  refine LWp.regAny hT hW hMixed (lk [[],[],[],[2],[0,1,2,3],[0,1,2,3,4],[0,1,2,3,4,5]]) (lk [[17,140],[17,140],[],[],[],[],[]]) (lk [[],[],[],[17,140],[140,78,141],[8],[]]) (by kernel_rfl) (fun | 140 => some <| .plain ⟨.own 2 ((sortN acc).map Nm.d), true⟩ | 141 => some <| .plain ⟨.d (squashE l set y).d, false⟩ | _ => none) (by intro d; first | exact ⟨rfl, fun _ h => h⟩ | (split <;> exact ⟨rfl, fun _ h => h⟩)) ?_
                  simp
                  refine ⟨⟨nsSorted_ok acc (by omega), by rw [← hedit]; exact cedit_ok c y (sortN acc) (fun _ => true) _ _ (fun s => anyName_ok s) hk1 (by omega) (by omega)⟩, ?_⟩
                  refine LWp.ret ?_
                  have e : squashV base l set y = (squashE l set y, 0) := by rw [hgo, if_neg (by simp [h7]), if_neg (by simp [h13, ← hcc]), if_neg (by omega), if_neg (by simpa using h35), if_neg fun w => w.2 (h37 w.1)]
                  simp [e]
end Go.Eng
namespace Go.Eng
open Go.Proofs
attribute [local simp] runL stepL evalG evalOp opLV constLV putEnv dstOk upd upds Res.plain Res.cond Res.fail evalBin evalUn seqQ blockQ argsEnv lookL lookH RetIs memless freshL evalPick evalMin bval bok evalLen evalIn strip whenC guardOps guardC slotsOf
  runM foldS stepI stepM maskE wrIn lk renO lookN evalCall evalCallee optAll resLV resObj retLV retObj retsLV retsObj evalLoad evalIndexAddr evalField solid cellsD_agg cellsD_int cellsD_bool cellsD_str cellsD_sl cellsD_ro cellsD_fn cellsL_agg cellsL_dagg cellsL_int cellsL_bool cellsL_str cellsL_sl cellsL_fn cellsL_ow cellsL_bx cellsL_lfn cellsL_nl takeL takeD mkAgg allD eqD eqDs kindsAre kindIs LObj.live TK.isNone TK.agg TK.isBool TK.isStr TK.isStruct Op.operands Call.operands
  evalBuildSlice evalAppend elemsOf evalStore evalBuild fillL lookupF putL evalSlice bound evalConv elemsS freezes frozen loadR
  mkEnv_at mkObs_at close_d close_agg close_ow close_bx close_fn close_nl touch_d touch_agg touch_ow touch_bx touch_fn touch_nl ren_d ren_agg ren_bx ren_rp ren_ow ren_fn ren_nl ren_junk retQ_ret retQ2_ret condQ_bool Nm.d Df.d Ed.d nmsD dfsD strsD edsD retC_ret nm_eq df_eq take_map_len take_map_app
  nm_t nm_d nm_td df_t df_d df_td str_t str_d str_td ed_t ed_d ed_td
  evalAppendIn evalCut evalClear evalCopy evalMake evalWrap evalCap evalNil isNilC lenL isInp gorc
  mapOf findD keyEq keyOk evalMakeMap evalRange zeroD zeroDV argsG shutG outN lenv retG0_ret retG0_normal retG1_ret renO close_mp touch_mp ren_mp optAll_d optAll_d' touch_ds cellsL_mp cellsD_mp cellsL_dmp
  evalMapSet evalPtr TK.isPtr evalToArr firstL retN_ret retsQ rvarL close_bm touch_bm ren_bm cellsD_bm cellsL_bm cellsL_lbm
attribute [local simp] cutQ_normal cutQ_ret cutQ_exit
set_option maxRecDepth 10000
theorem dE1 : (default : Ed).name.who = 0 := rfl
theorem dE2 : (default : Ed).name.seq = 0 := rfl
theorem dE3 : (default : Ed).needs = [] := rfl
theorem dE4 : (default : Ed).puts = [] := rfl
theorem dE5 : (default : Ed).drops = [] := rfl
attribute [local simp] dE1 dE2 dE3 dE4 dE5
theorem alone_zero {e : Ed} : aloneV e = 0 ↔ properE e = true := by unfold aloneV; split <;> simp [*]
theorem lessN_bool (set : List Nm) (n : Nm) : (set.filter fun x => !decide (x = n)) = lessN set n := by simp [lessN]
theorem prog_names {D : List Df} {l : List Ed} {set : List Nm} (h : (programV D l set).2 = 0) : ((programV D l set).1.map Df.name).Nodup := by
  obtain ⟨L, k⟩ := prog_inv (p := (programV D l set).1) (D := D) (l := l) (set := set) (by rw [← h])
  rw [k.eq]
  exact rising_names (madeOf_rising _ k.rising)
theorem prog_closed {D : List Df} {l : List Ed} {set : List Nm} (h : (programV D l set).2 = 0) : closedB l set = true := by
  obtain ⟨L, k⟩ := prog_inv (p := (programV D l set).1) (D := D) (l := l) (set := set) (by rw [← h])
  exact k.closed
theorem lookC_some {m : Chg} {s : Str} : (lookC m s).isSome = decide (s ∈ m.map Prod.fst) := by
  have := lookC_none (m := m) (s := s)
  cases q : lookC m s with
  | none => rw [q] at this; simp at this ⊢; exact this
  | some v => rw [q] at this; simp at this ⊢; exact this
theorem upC_len (c : Chg) (s : Str) (v : Option Str) : (upC c s v).length ≤ c.length + 1 := by unfold upC; split <;> simp
theorem restore_yes {m : Chg} {d : Df} (h : (lookC m d.name).isSome = true) : restoreC m d = upC m d.name (some d.text) := by
  rw [lookC_some] at h
  unfold restoreC
  rw [if_pos (by simpa using h)]
theorem restore_no {m : Chg} {d : Df} (h : lookC m d.name = none) : restoreC m d = m := by
  rw [lookC_none] at h
  unfold restoreC
  rw [if_neg h]
theorem restoreC_keys (c : Chg) (d : Df) : (restoreC c d).map Prod.fst = c.map Prod.fst := by
  unfold restoreC
  split
  · rename_i h; rw [upC_keys, if_pos h]
  · rfl
theorem restoreC_foldkeys : ∀ (p : List Df) (c : Chg), (p.foldl restoreC c).map Prod.fst = c.map Prod.fst
  | [], _ => rfl
  | d :: p, c => by simp only [List.foldl_cons]; rw [restoreC_foldkeys p, restoreC_keys]
theorem map_len {α β : Type} {f : α → β} {a b : List α} (h : a.map f = b.map f) : a.length = b.length := by have := congrArg List.length h; simpa using this
theorem PRevert_ok (base : List Df) (l : List Ed) (set : List Nm) (n y : Nm) (hs : small l) (hb : base.length ≤ 1000) (hl : set.length ≤ 1000) (ht : (touchingL l set (edAt l n)).length ≤ 11) : Ok Tryz.prog 22 [dfsD base, edsD l, nmsD set, n.d, y.d] ⟨.tup [.d (revertV base l set n y).1.d, .d (I64 (revertV base l set n y).2)], false⟩ := by
  refine Ok.many hT Tryz.func22 (by kernel_rfl) (c := _) rfl Tryz.ntmps22 (by simp) Tryz.results22 (by simp) (by rfl) fun w0 X hp => ?_
  refine LWp.seq ?_
  refine LWp.reg hT hW (fun _ => none) (fun _ => ⟨rfl, fun _ h => h⟩) ?_
  simp
  refine LWp.seq ?_
  refine LWp.seq ?_
  refine LWp.reg hT hW (fun | 30 => some <| .plain ⟨.tup [.d (I64 (validV l).1), .d (I64 (validV l).2)], true⟩ | _ => none) (by intro d; first | exact ⟨rfl, fun _ h => h⟩ | (split <;> exact ⟨rfl, fun _ h => h⟩)) ?_
  simp [evalExtract]
  refine ⟨EValid_ok l hs, ?_⟩
  refine LWp.seq ?_
  refine LWp.reg hT hW (fun _ => none) (fun _ => ⟨rfl, fun _ h => h⟩) ?_
  simp
  refine LWp.iff ?_
  simp
  refine ⟨fun h2 => ?_, fun h2 => ?_⟩
  · refine LWp.seq ?_
    refine LWp.reg hT hW (fun _ => none) (fun _ => ⟨rfl, fun _ h => h⟩) ?_
    simp
    refine LWp.ret ?_
    have e : revertV base l set n y = (default, (validV l).2) := by simp [revertV, h2]
    simp [e]
  · refine LWp.skip ?_
    simp
    refine LWp.seq ?_
    refine LWp.block ?_
    refine LWp.seq ?_
    refine LWp.reg hT hW (fun | 40 => some <| .plain ⟨.d (.bool (decide (n ∈ set))), true⟩ | _ => none) (by intro d; first | exact ⟨rfl, fun _ h => h⟩ | (split <;> exact ⟨rfl, fun _ h => h⟩)) ?_
    simp
    refine ⟨nsHas_ok set n, ?_⟩
    refine LWp.iff ?_
    simp
    refine ⟨fun h4 => ?_, fun h4 => ?_⟩
    · refine LWp.seq ?_
      refine LWp.reg hT hW (fun _ => none) (fun _ => ⟨rfl, fun _ h => h⟩) ?_
      simp
      refine LWp.ret ?_
      have e : revertV base l set n y = (default, 6) := by simp [revertV, h2, h4]
      simp [e]
    · refine LWp.seq ?_
      refine LWp.reg hT hW (fun | 45 => some <| .plain ⟨.d (.bool y.isName), true⟩ | _ => none) (by intro d; first | exact ⟨rfl, fun _ h => h⟩ | (split <;> exact ⟨rfl, fun _ h => h⟩)) ?_
      simp
      refine ⟨ppossible_ok y, ?_⟩
      refine LWp.iff ?_
      simp
      refine ⟨fun h6 => ?_, fun h6 => ?_⟩
      · refine LWp.seq ?_
        refine LWp.reg hT hW (fun _ => none) (fun _ => ⟨rfl, fun _ h => h⟩) ?_
        simp
        refine LWp.ret ?_
        have e : revertV base l set n y = (default, 1) := by simp [revertV, h2, h4, h6]
        simp [e]
      · refine LWp.seq ?_
        refine LWp.reg hT hW (fun | 51 => some <| .plain ⟨.d (I64 (findI l y)), true⟩ | _ => none) (by intro d; first | exact ⟨rfl, fun _ h => h⟩ | (split <;> exact ⟨rfl, fun _ h => h⟩)) ?_
        simp
        refine ⟨EFind_ok l y, ?_⟩
        refine LWp.iff ?_
        simp
        refine ⟨fun h8 => ?_, fun h8 => ?_⟩
        · refine LWp.seq ?_
          refine LWp.reg hT hW (fun _ => none) (fun _ => ⟨rfl, fun _ h => h⟩) ?_
          simp
          refine LWp.ret ?_
          have e : revertV base l set n y = (default, 7) := by simp [revertV, h2, h4, h6, h8]
          simp [e]
        · refine LWp.skip ?_
          simp
          refine LWp.seq ?_
          refine LWp.seq ?_
          refine LWp.reg hT hW (fun | 58 => some <| .plain ⟨.tup [.d (dfsD (programV base l set).1), .d (I64 (programV base l set).2)], true⟩ | _ => none) (by intro d; first | exact ⟨rfl, fun _ h => h⟩ | (split <;> exact ⟨rfl, fun _ h => h⟩)) ?_
          simp [evalExtract]
          refine ⟨EProgram_ok base l set hs hb hl, ?_⟩
          refine LWp.seq ?_
          refine LWp.reg hT hW (fun _ => none) (fun _ => ⟨rfl, fun _ h => h⟩) ?_
          simp
          refine LWp.iff ?_
          simp
          refine ⟨fun h11 => ?_, fun h11 => ?_⟩
          · refine LWp.seq ?_
            refine LWp.reg hT hW (fun _ => none) (fun _ => ⟨rfl, fun _ h => h⟩) ?_
            simp
            refine LWp.ret ?_
            have n8 : ¬ 0 ≤ findI l y := by omega
            have e : revertV base l set n y = (default, (programV base l set).2) := by simp [revertV, h2, h4, h6, n8, h11]
            simp [e]
          · refine LWp.skip ?_
            simp
            refine LWp.seq ?_
            refine LWp.reg hT hW (fun | 66 => some <| .plain ⟨.own 2 (set.map Nm.d), true⟩ | 68 => some (.gen ⟨[(66, 0)], [], [1], [(0, .row false 2 ((set.filter fun x => !decide (x = n)).map Nm.d ++ List.replicate (set.length - (set.filter fun x => !decide (x = n)).length) zeroNm.d))], .ow 0 0 (set.filter fun x => !decide (x = n)).length⟩) | _ => none) (by intro d; first | exact ⟨rfl, fun _ h => h⟩ | (split <;> exact ⟨rfl, fun _ h => h⟩)) ?_
            simp
            refine ⟨⟨CloneNm_ok set (by omega), by simpa using DeleteFuncNm_ok set (by omega) (fun x => decide (x = n)) _ _ fun x _ => Revert1_ok x n⟩, ?_⟩
            refine LWp.seq ?_
            obtain ⟨rest, hrest⟩ : ∃ rest, rest = lessN set n := ⟨_, rfl⟩
            have hrl : rest.length ≤ 1000 := by rw [hrest]; exact Nat.le_trans (List.length_filter_le _ _) hl
            obtain ⟨q, hq⟩ : ∃ q, q = programV base l rest := ⟨_, rfl⟩
            rw [lessN_bool, ← hrest]
            refine LWp.reg hT hW (fun | 73 => some <| .plain ⟨.tup [.d (dfsD q.1), .d (I64 q.2)], true⟩ | _ => none) (by intro d; first | exact ⟨rfl, fun _ h => h⟩ | (split <;> exact ⟨rfl, fun _ h => h⟩)) ?_
            simp [evalExtract]
            refine ⟨by rw [hq]; exact EProgram_ok base l rest hs hb hrl, ?_⟩
            refine LWp.seq ?_
            refine LWp.seq ?_
            refine LWp.reg hT hW (fun _ => none) (fun _ => ⟨rfl, fun _ h => h⟩) ?_
            simp
            refine LWp.iff ?_
            simp
            refine ⟨fun h15 => ?_, fun h15 => ?_⟩
            · refine LWp.seq ?_
              refine LWp.reg hT hW (fun _ => none) (fun _ => ⟨rfl, fun _ h => h⟩) ?_
              simp
              refine LWp.ret ?_
              have n8 : ¬ 0 ≤ findI l y := by omega
              have e : revertV base l set n y = (default, q.2) := by simp [revertV, h2, h4, h6, n8, h11, ← hrest, ← hq, h15]
              simp [e]
            · refine LWp.skip ?_
              simp
              refine LWp.seq ?_
              obtain ⟨i0, hi0, fi, ei⟩ := edAt_of ((closedB_iff.1 (prog_closed h11) n h4).1)
              have hes := hs _ (List.getElem_mem hi0)
              refine LWp.reg hT hW (fun | 83 => some <| .plain ⟨.d (I64 (findI l n)), true⟩ | _ => none) (by intro d; first | exact ⟨rfl, fun _ h => h⟩ | (split <;> exact ⟨rfl, fun _ h => h⟩)) ?_
              simp [fi, hi0]
              refine ⟨by rw [← fi]; exact EFind_ok l n, ?_⟩
              refine LWp.seq ?_
              refine LWp.reg hT hW (fun _ => none) (fun _ => ⟨rfl, fun _ h => h⟩) ?_
              simp
              refine LWp.seq ?_
              refine LWp.seq ?_
              obtain ⟨x, hx⟩ : ∃ x, x = edAt l n := ⟨_, rfl⟩
              rw [← ei, ← hx] at hes ⊢
              have htl := tchN_len hes
              refine LWp.reg hT hW (fun | 88 => some <| .plain ⟨.d (strsD (tchN x)), true⟩ | _ => none) (by intro d; first | exact ⟨rfl, fun _ h => h⟩ | (split <;> exact ⟨rfl, fun _ h => h⟩)) ?_
              simp
              refine ⟨PTouches_ok x hes, ?_⟩
              refine LWp.block ?_
              refine LWp.loopW (ι := Nat × Chg) (fun ⟨i, m⟩ => mkEnv [(1, .d (edsD l)), (2, .d (nmsD set)), (8, .bx 8 0), (9, .bx 9 0), (10, .bx 10 0), (11, .d (I64 0)), (17, .d (dfsD q.1)), (19, .bx 19 0), (20, .mp 86), (88, .d (strsD (tchN x))), (89, .d (I64 (tchN x).length)), (90, .d (I64 i))]) (fun ⟨i, m⟩ => mkObs [(8, .box true [.d (I64 n.who), .d (I64 n.seq)]), (9, .box false [.d (I64 y.who), .d (I64 y.seq)]), (10, .box false [.d (I64 0), .d (I64 0), .nl, .nl, .nl]), (19, .box false ((cellsD x.d).map .d)), (86, .map false (ck m) (cv m))]) (fun ⟨i, m⟩ => i ≤ (tchN x).length ∧ m.length ≤ i ∧ m = ((tchN x).take i).foldl (fun c s => upC c s none) []) (fun ⟨i, m⟩ => (tchN x).length - i) (0, []) (Weak.to [1, 2, 8, 9, 10, 11, 17, 19, 20, 88, 89, 90] [(8, 8), (9, 9), (10, 10), (19, 19), (86, 86)] (by decide) (by decide) (by simp [hp]) (by simp) (by simp [ck, cv])) (by simp) fun ⟨i, m⟩ hi20 => ?_
              refine LWp.seq ?_
              refine LWp.reg hT hW (fun _ => none) (fun _ => ⟨rfl, fun _ h => h⟩) ?_
              simp
              refine LWp.seq ?_
              refine LWp.iff ?_
              simp
              refine ⟨fun h20 => ?_, fun h20 => ?_⟩
              · refine LWp.skip ?_
                simp
                refine LWp.seq ?_
                refine LWp.block ?_
                refine LWp.seq ?_
                refine LWp.reg hT hW (fun _ => none) (fun _ => ⟨rfl, fun _ h => h⟩) ?_
                simp [h20]
                refine LWp.reg hT hW (fun _ => none) (fun _ => ⟨rfl, fun _ h => h⟩) ?_
                simp [put_none m]
                refine LWp.reg hT hW (fun _ => none) (fun _ => ⟨rfl, fun _ h => h⟩) ?_
                simp
                refine ⟨by omega, ?_⟩
                refine loopQ.mk (i + 1, upC m (tchN x)[i] none) (Weak.to [1, 2, 8, 9, 10, 11, 17, 19, 20, 88, 89, 90] [(8, 8), (9, 9), (10, 10), (19, 19), (86, 86)] (by decide) (by decide) (by simp [hp]) (by simp) (by simp)) ?_ ?_
                · exact ⟨h20, Nat.le_trans (upC_len _ _ _) (by have := hi20.2.1; dsimp only; omega), by dsimp only; rw [List.take_succ_eq_append_getElem h20, List.foldl_append, ← hi20.2.2]; rfl⟩
                · omega
              · refine LWp.exit ?_
                simp
                refine LWp.seq ?_
                refine LWp.seq ?_
                refine LWp.len (t := 17) (xs := q.1.map Df.d) (by simp) fun hpl => ?_
                simp at hpl
                have hm : m = undoC x := by rw [hi20.2.2, List.take_of_length_le (by omega)]; rfl
                refine LWp.reg hT hW (fun _ => none) (fun _ => ⟨rfl, fun _ h => h⟩) ?_
                simp
                refine LWp.block ?_
                refine LWp.loopW (ι := Nat × Chg) (fun ⟨j, m2⟩ => mkEnv [(1, .d (edsD l)), (2, .d (nmsD set)), (8, .bx 8 0), (9, .bx 9 0), (10, .bx 10 0), (11, .d (I64 0)), (19, .bx 19 0), (20, .mp 86), (97, .d (dfsD q.1)), (98, .d (I64 q.1.length)), (99, .d (I64 j))]) (fun ⟨j, m2⟩ => mkObs [(8, .box true [.d (I64 n.who), .d (I64 n.seq)]), (9, .box false [.d (I64 y.who), .d (I64 y.seq)]), (10, .box false [.d (I64 0), .d (I64 0), .nl, .nl, .nl]), (19, .box false ((cellsD x.d).map .d)), (86, .map false (ck m2) (cv m2))]) (fun ⟨j, m2⟩ => j ≤ q.1.length ∧ m2 = (q.1.take j).foldl restoreC m) (fun ⟨j, m2⟩ => q.1.length - j) (0, m) (Weak.to [1, 2, 8, 9, 10, 11, 19, 20, 97, 98, 99] [(8, 8), (9, 9), (10, 10), (19, 19), (86, 86)] (by decide) (by decide) (by simp [hp]) (by simp) (by simp)) (by simp) fun ⟨j, m2⟩ hi25 => ?_
                refine LWp.seq ?_
                refine LWp.reg hT hW (fun _ => none) (fun _ => ⟨rfl, fun _ h => h⟩) ?_
                simp
                refine LWp.seq ?_
                refine LWp.iff ?_
                simp
                refine ⟨fun h25 => ?_, fun h25 => ?_⟩
                · refine LWp.skip ?_
                  simp
                  refine LWp.seq ?_
                  refine LWp.block ?_
                  refine LWp.seq ?_
                  refine LWp.reg hT hW (fun _ => none) (fun _ => ⟨rfl, fun _ h => h⟩) ?_
                  simp [h25]
                  refine LWp.seq ?_
                  refine LWp.reg hT hW (fun _ => none) (fun _ => ⟨rfl, fun _ h => h⟩) ?_
                  simp [look_chgO m2, evalExtract]
                  refine LWp.seq ?_
                  refine LWp.reg hT hW (fun _ => none) (fun _ => ⟨rfl, fun _ h => h⟩) ?_
                  simp
                  refine LWp.iff ?_
                  simp
                  refine ⟨fun h28 => ?_, fun h28 => ?_⟩
                  · refine LWp.reg hT hW (fun _ => none) (fun _ => ⟨rfl, fun _ h => h⟩) ?_
                    simp [put_some m2]
                    refine LWp.reg hT hW (fun _ => none) (fun _ => ⟨rfl, fun _ h => h⟩) ?_
                    simp
                    refine ⟨by omega, ?_⟩
                    refine loopQ.mk (j + 1, upC m2 q.1[j].name (some q.1[j].text)) (Weak.to [1, 2, 8, 9, 10, 11, 19, 20, 97, 98, 99] [(8, 8), (9, 9), (10, 10), (19, 19), (86, 86)] (by decide) (by decide) (by simp [hp]) (by simp) (by simp)) ?_ ?_
                    · refine ⟨h25, ?_⟩
                      dsimp only
                      rw [List.take_succ_eq_append_getElem h25, List.foldl_append, ← hi25.2]
                      simp only [List.foldl_cons, List.foldl_nil]
                      exact (restore_yes h28).symm
                    · omega
                  · refine LWp.skip ?_
                    simp
                    refine LWp.reg hT hW (fun _ => none) (fun _ => ⟨rfl, fun _ h => h⟩) ?_
                    simp
                    refine ⟨by omega, ?_⟩
                    refine loopQ.mk (j + 1, m2) (Weak.to [1, 2, 8, 9, 10, 11, 19, 20, 97, 98, 99] [(8, 8), (9, 9), (10, 10), (19, 19), (86, 86)] (by decide) (by decide) (by simp [hp]) (by simp) (by simp)) ?_ ?_
                    · refine ⟨h25, ?_⟩
                      dsimp only
                      rw [List.take_succ_eq_append_getElem h25, List.foldl_append, ← hi25.2]
                      simp only [List.foldl_cons, List.foldl_nil]
                      exact (restore_no h28).symm
                    · omega
                · refine LWp.exit ?_
                  simp
                  refine LWp.seq ?_
                  have hm2 : m2 = q.1.foldl restoreC (undoC x) := by rw [hi25.2, List.take_of_length_le (by omega), hm]
                  have hk2 : m2.map Prod.fst = m.map Prod.fst := by rw [hm2, hm, restoreC_foldkeys]
                  have hnd : (m2.map Prod.fst).Nodup := by rw [hk2, hm]; exact (dropsC_keys (tchN x) (c := []) (by simp)).1
                  have hml : m2.length ≤ 4400000 := by have := map_len hk2; have := hi20.2.1; omega
                  obtain ⟨ns, hns⟩ : ∃ ns, ns = touchingL l set x := ⟨_, rfl⟩
                  rw [← hx, ← hns] at ht
                  have hsl := sortN_len (ns ++ [n])
                  have hre : editC m2 y (sortN (ns ++ [n])) (fun _ => true) = revertE l set n y q.1 := by
                    rw [hm2, hx, hns, hx]
                    exact revert_editC (by rw [hq]; exact prog_names (by rw [← hq]; simpa using h15))
                  refine LWp.regAny hT hW hMixed (lk [[],[],[],[],[],[2,3,4],[],[6],[2,3,4,5,6,7],[2,3,4,5,6,7,8],[0,1,2,3,4,5,6,7,8,9],[],[0,1,2,3,4,5,6,7,8,9,10,11]]) (lk [[27,121,123,124,125],[27,121,123,124,125],[27,123],[27,123],[27,123],[27,123],[27,121],[27,121],[27],[27],[27],[86,121,123,124,125,126],[]]) (lk [[],[],[],[],[],[121],[],[123],[121,124],[125],[126,86,125],[27],[27]]) (by kernel_rfl) (fun | 121 => some <| .plain ⟨.own 2 (ns.map Nm.d), true⟩ | 125 => some <| .plain ⟨.own 2 ((sortN (ns ++ [n])).map Nm.d), true⟩ | 126 => some <| .plain ⟨.d (editC m2 y (sortN (ns ++ [n])) (fun _ => true)).d, false⟩ | _ => none) (by intro d; first | exact ⟨rfl, fun _ h => h⟩ | (split <;> exact ⟨rfl, fun _ h => h⟩)) ?_
                  simp
                  refine ⟨⟨⟨⟨by rw [hns]; simpa using ptouching_ok l set x hs hes (by omega), by omega, by omega⟩, by rw [List.take_of_length_le (by simp)]; simpa using nsSorted_ok (ns ++ [n]) (by simp; omega)⟩, by simpa using cedit_ok m2 y (sortN (ns ++ [n])) (fun _ => true) _ [] (fun s => anyName_ok s) hnd hml (by simp at hsl; omega)⟩, ?_⟩
                  obtain ⟨z, hz⟩ : ∃ z, z = editC m2 y (sortN (ns ++ [n])) (fun _ => true) := ⟨_, rfl⟩
                  rw [← hz] at hre ⊢
                  refine LWp.seq ?_
                  refine LWp.seq ?_
                  have hzs : z.small := by
                    rw [hre]
                    have hv : (validV l).2 = 0 := by simpa using h2
                    have hnn : n ∈ l.map Ed.name := found_iff.1 ((closedB_iff.1 (prog_closed h11) n h4).1)
                    have h24 : (tchN (edAt l n)).length ≤ 24 := Nat.le_trans (setS_len _) (proper_parts.1 (edAt_proper hv hnn).1).2.1
                    exact ⟨Nat.le_trans (List.length_filterMap_le _ _) (by omega), Nat.le_trans (List.length_filter_le _ _) (by omega)⟩
                  refine LWp.reg hT hW (fun | 128 => some <| .plain ⟨.d (I64 (aloneV z)), true⟩ | _ => none) (by intro d; first | exact ⟨rfl, fun _ h => h⟩ | (split <;> exact ⟨rfl, fun _ h => h⟩)) ?_
                  simp
                  refine ⟨by simpa using alone_ok z hzs, ?_⟩
                  refine LWp.iff ?_
                  simp
                  refine ⟨fun h32 => ?_, fun h32 => ?_⟩
                  · refine LWp.seq ?_
                    refine LWp.reg hT hW (fun _ => none) (fun _ => ⟨rfl, fun _ h => h⟩) ?_
                    simp
                    refine LWp.ret ?_
                    have n8 : ¬ 0 ≤ findI l y := by omega
                    have hp' : properE (revertE l set n y q.1) = false := by rw [← hre]; simpa [alone_zero] using h32
                    have e : revertV base l set n y = (default, 1) := by simp [revertV, h2, h4, h6, n8, h11, ← hrest, ← hq, h15, hp']
                    simp [e]
                  · refine LWp.skip ?_
                    simp
                    refine LWp.seq ?_
                    refine LWp.reg hT hW (fun _ => none) (fun _ => ⟨rfl, fun _ h => h⟩) ?_
                    simp
                    refine LWp.ret ?_
                    have n8 : ¬ 0 ≤ findI l y := by omega
                    have hp' : properE (revertE l set n y q.1) = true := by rw [← hre]; simpa [alone_zero] using h32
                    have e : revertV base l set n y = (z, 0) := by rw [hre]; simp [revertV, h2, h4, h6, n8, h11, ← hrest, ← hq, h15, hp']
                    simp [e]
end Go.Eng
namespace Go.Eng
open Go.Proofs
attribute [local simp] runL stepL evalG evalOp opLV constLV putEnv dstOk upd upds Res.plain Res.cond Res.fail evalBin evalUn seqQ blockQ argsEnv lookL lookH RetIs memless freshL evalPick evalMin bval bok evalLen evalIn strip whenC guardOps guardC slotsOf
  runM foldS stepI stepM maskE wrIn lk renO lookN evalCall evalCallee optAll resLV resObj retLV retObj retsLV retsObj evalLoad evalIndexAddr evalField solid cellsD_agg cellsD_int cellsD_bool cellsD_str cellsD_sl cellsD_ro cellsD_fn cellsL_agg cellsL_dagg cellsL_int cellsL_bool cellsL_str cellsL_sl cellsL_fn cellsL_ow cellsL_bx cellsL_lfn cellsL_nl takeL takeD mkAgg allD eqD eqDs kindsAre kindIs LObj.live TK.isNone TK.agg TK.isBool TK.isStr TK.isStruct Op.operands Call.operands
  evalBuildSlice evalAppend elemsOf evalStore evalBuild fillL lookupF putL evalSlice bound evalConv elemsS freezes frozen loadR
  mkEnv_at mkObs_at close_d close_agg close_ow close_bx close_fn close_nl touch_d touch_agg touch_ow touch_bx touch_fn touch_nl ren_d ren_agg ren_bx ren_rp ren_ow ren_fn ren_nl ren_junk retQ_ret retQ2_ret condQ_bool Nm.d Df.d Ed.d nmsD dfsD strsD edsD retC_ret nm_eq df_eq take_map_len take_map_app
  nm_t nm_d nm_td df_t df_d df_td str_t str_d str_td ed_t ed_d ed_td
  evalAppendIn evalCut evalClear evalCopy evalMake evalWrap evalCap evalNil isNilC lenL isInp gorc
  mapOf findD keyEq keyOk evalMakeMap evalRange zeroD zeroDV argsG shutG outN lenv retG0_ret retG0_normal retG1_ret renO close_mp touch_mp ren_mp optAll_d optAll_d' touch_ds cellsL_mp cellsD_mp cellsL_dmp
  evalMapSet evalPtr TK.isPtr evalToArr firstL retN_ret retsQ rvarL close_bm touch_bm ren_bm cellsD_bm cellsL_bm cellsL_lbm
attribute [local simp] cutQ_normal cutQ_ret cutQ_exit
def exB3 : List Df := [⟨[97], [118, 97, 114, 32, 97, 32, 61, 32, 49, 59]⟩, ⟨[98], [108, 111, 99, 107, 32, 98, 59]⟩]
def exL3 : List Ed :=
  [⟨⟨0, 1⟩, [], [⟨[97], [118, 97, 114, 32, 97, 32, 61, 32, 50, 59]⟩], []⟩,
   ⟨⟨1, 0⟩, [⟨0, 1⟩], [], [[98]]⟩,
   ⟨⟨1, 1⟩, [], [⟨[97], [118, 97, 114, 32, 97, 32, 61, 32, 51, 59]⟩], []⟩]
theorem example3_ok  : Ok Tryz.prog 58 [] ⟨.tup [.d (.sl (exB3.map Df.d)), .d (edsD exL3)], false⟩ := by
  refine Ok.twod Tryz.func58 (by kernel_rfl) (c := _) rfl Tryz.ntmps58 (by simp) Tryz.results58  fun w0 X hp => ?_
  refine LWp.seq ?_
  refine LWp.reg hT hW (fun _ => none) (fun _ => ⟨rfl, fun _ h => h⟩) ?_
  simp
  refine LWp.seq ?_
  refine LWp.reg hT hW (fun _ => none) (fun _ => ⟨rfl, fun _ h => h⟩) ?_
  simp [(show [0, 1] = List.range 2 from rfl)]
  refine LWp.seq ?_
  refine LWp.reg hT hW (fun _ => none) (fun _ => ⟨rfl, fun _ h => h⟩) ?_
  simp [(show [0, 1] = List.range 2 from rfl), (show [0, 1, 2] = List.range 3 from rfl)]
  refine LWp.seq ?_
  refine LWp.reg hT hW (fun _ => none) (fun _ => ⟨rfl, fun _ h => h⟩) ?_
  simp
  refine LWp.ret ?_
  simp [exB3, exL3, Ed.d, Df.d, Nm.d]
theorem exL3_small : small exL3 := by unfold small; decide
def y5 : Df := ⟨[97], [118, 97, 114, 32, 97, 32, 61, 32, 53, 59]⟩
def a2 : Df := ⟨[97], [118, 97, 114, 32, 97, 32, 61, 32, 50, 59]⟩
def a3 : Df := ⟨[97], [118, 97, 114, 32, 97, 32, 61, 32, 51, 59]⟩
def b0 : Df := ⟨[98], [108, 111, 99, 107, 32, 98, 59]⟩
set_option maxRecDepth 100000 in
theorem ex3_apart1 : apartV exL3 ⟨0, 1⟩ ⟨1, 0⟩ = (false, 0) := by decide
set_option maxRecDepth 100000 in
theorem ex3_apart2 : apartV exL3 ⟨1, 0⟩ ⟨1, 1⟩ = (true, 0) := by decide
set_option maxRecDepth 100000 in
theorem ex3_apart3 : apartV exL3 ⟨0, 1⟩ ⟨1, 1⟩ = (false, 0) := by decide
set_option maxRecDepth 100000 in
theorem ex3_rev1 : revertV exB3 exL3 [⟨0, 1⟩, ⟨1, 0⟩] ⟨1, 0⟩ ⟨2, 0⟩ = (⟨⟨2, 0⟩, [⟨1, 0⟩], [b0], []⟩, 0) := by decide
set_option maxRecDepth 100000 in
theorem ex3_rev2 : revertV exB3 exL3 [⟨0, 1⟩, ⟨1, 0⟩] ⟨0, 1⟩ ⟨2, 0⟩ = (default, 10) := by decide
set_option maxRecDepth 100000 in
theorem ex3_res : resolveV exL3 ⟨0, 1⟩ ⟨1, 1⟩ [y5] [] ⟨2, 0⟩ = (⟨⟨2, 0⟩, [⟨0, 1⟩, ⟨1, 1⟩], [y5], []⟩, 0) := by decide
set_option maxRecDepth 100000 in
theorem ex3_squash : squashV exB3 exL3 [⟨0, 1⟩, ⟨1, 0⟩] ⟨2, 0⟩ = (⟨⟨2, 0⟩, [], [a2], [[98]]⟩, 0) := by decide
set_option maxRecDepth 100000 in
theorem ex3_split : splitV ⟨⟨2, 0⟩, [], [a2], [[98]]⟩ [[97]] ⟨2, 1⟩ ⟨2, 2⟩ = ((⟨⟨2, 1⟩, [], [a2], []⟩, ⟨⟨2, 2⟩, [], [], [[98]]⟩), 0) := by decide
set_option maxRecDepth 100000 in
theorem ex3_pick : pickV exL3 ⟨1, 1⟩ [⟨0, 1⟩] ⟨2, 0⟩ = (⟨⟨2, 0⟩, [⟨0, 1⟩], [a3], []⟩, 0) := by decide
open Go.Proofs
set_option maxRecDepth 10000
attribute [local simp] dF1 dF2 dF3 dF4 dF5 prD
theorem pr_eq (a b : Nm × Nm) : (decide (a.1.who = b.1.who) && (decide (a.1.seq = b.1.seq) && (decide (a.2.who = b.2.who) && decide (a.2.seq = b.2.seq)))) = decide (a = b) := by
  obtain ⟨⟨_, _⟩, ⟨_, _⟩⟩ := a
  obtain ⟨⟨_, _⟩, ⟨_, _⟩⟩ := b
  simp [Bool.decide_and, Bool.and_assoc]
attribute [local simp] pr_eq
theorem IndexOfPr_ok (l : List (Nm × Nm)) (n : Nm × Nm) : Ok Tryz.prog 119 [.sl (l.map prD), prD n] ⟨.d (I64 (idxI (fun x => decide (n = x)) l)), true⟩ := by
  refine Ok.ret Tryz.func119 (by kernel_rfl) (c := _) rfl Tryz.ntmps119 (by simp) Tryz.results119 (by intro _ h; cases h) fun w0 X hp => ?_
  refine LWp.len (t := 0) rfl fun hlen => ?_
  simp at hlen
  refine LWp.seq ?_
  refine LWp.reg hT hW (fun _ => none) (fun _ => ⟨rfl, fun _ h => h⟩) ?_
  simp
  refine LWp.seq ?_
  refine LWp.seq ?_
  refine LWp.reg hT hW (fun _ => none) (fun _ => ⟨rfl, fun _ h => h⟩) ?_
  simp
  refine LWp.block ?_
  refine LWp.loopW (ι := Nat) (fun i => mkEnv [(0, .d (.sl (l.map prD))), (3, .bx 3 0), (7, .d (I64 l.length)), (8, .d (I64 i))]) (fun i => mkObs [(3, .box false [.d (I64 n.1.who), .d (I64 n.1.seq), .d (I64 n.2.who), .d (I64 n.2.seq)])]) (fun i => i ≤ l.length ∧ Pre (fun x => decide (n = x)) l i) (fun i => l.length - i) 0 (Weak.to [0, 3, 7, 8] [(3, 3)] (by decide) (by decide) (by simp [hp]) (by simp) (by simp)) (⟨Nat.zero_le _, Pre.zero⟩) fun i hi2 => ?_
  refine LWp.seq ?_
  refine LWp.reg hT hW (fun _ => none) (fun _ => ⟨rfl, fun _ h => h⟩) ?_
  simp
  refine LWp.seq ?_
  refine LWp.iff ?_
  simp
  refine ⟨fun h2 => ?_, fun h2 => ?_⟩
  · refine LWp.skip ?_
    simp
    refine LWp.seq ?_
    refine LWp.block ?_
    refine LWp.seq ?_
    refine LWp.reg hT hW (fun _ => none) (fun _ => ⟨rfl, fun _ h => h⟩) ?_
    simp
    refine LWp.seq ?_
    refine LWp.regAny hT hW hMixed (lk [[],[],[],[1,2],[1,2,3],[0,1,2,3,4]]) (lk [[],[],[],[],[],[]]) (lk [[],[],[],[],[],[]]) (by kernel_rfl) (fun _ => none) (fun _ => ⟨rfl, fun _ h => h⟩) ?_
    simp [h2]
    refine LWp.iff ?_
    simp
    refine ⟨fun a1 a2 a3 => ?_, fun g4 => ?_⟩
    · have h4 : n = l[i] := by
        rcases hq : l[i] with ⟨⟨u, v⟩, w⟩
        rcases n with ⟨⟨u', v'⟩, w'⟩
        rw [hq] at a1 a2 a3
        simp_all
      refine LWp.seq ?_
      refine LWp.reg hT hW (fun _ => none) (fun _ => ⟨rfl, fun _ h => h⟩) ?_
      simp
      refine LWp.ret ?_
      simp [idxI_some (hi2.2.found h2 (by simpa using h4))]
    · have h4 : ¬ n = l[i] := fun e => g4 (by rw [e]) (by rw [e]) (by rw [e])
      refine LWp.skip ?_
      simp
      refine LWp.reg hT hW (fun _ => none) (fun _ => ⟨rfl, fun _ h => h⟩) ?_
      simp
      refine ⟨by omega, ?_⟩
      refine loopQ.mk (i + 1) (Weak.to [0, 3, 7, 8] [(3, 3)] (by decide) (by decide) (by simp [hp]) (by simp) (by simp)) ?_ ?_
      · exact ⟨h2, hi2.2.succ h2 (by simpa using h4)⟩
      · omega
  · refine LWp.exit ?_
    simp
    refine LWp.seq ?_
    refine LWp.reg hT hW (fun _ => none) (fun _ => ⟨rfl, fun _ h => h⟩) ?_
    simp
    refine LWp.ret ?_
    simp [idxI_none (hi2.2.none (by omega))]
theorem InPr_ok (l : List (Nm × Nm)) (n : Nm × Nm) : Ok Tryz.prog 78 [.sl (l.map prD), prD n] ⟨.d (.bool (decide (n ∈ l))), true⟩ := by
  refine Ok.ret Tryz.func78 (by kernel_rfl) (c := _) rfl Tryz.ntmps78 (by simp) Tryz.results78 (by intro _ h; cases h) fun w0 X hp => ?_
  refine LWp.seq ?_
  refine LWp.reg hT hW (fun _ => none) (fun _ => ⟨rfl, fun _ h => h⟩) ?_
  simp
  refine LWp.seq ?_
  refine LWp.reg hT hW (fun | 7 => some <| .plain ⟨.d (I64 (idxI (fun x => decide (n = x)) l)), true⟩ | _ => none) (by intro d; first | exact ⟨rfl, fun _ h => h⟩ | (split <;> exact ⟨rfl, fun _ h => h⟩)) ?_
  simp
  refine ⟨IndexOfPr_ok l n, ?_⟩
  refine LWp.ret ?_
  simp [idxI_nonneg']
theorem PResolve_ok (l : List Ed) (a b : Nm) (puts : List Df) (drops : List Str) (y : Nm) (hs : small l) (hpl : puts.length ≤ 1100000) (hdl : drops.length ≤ 1100000) : Ok Tryz.prog 25 [edsD l, a.d, b.d, dfsD puts, strsD drops, y.d] ⟨.tup [.d (resolveV l a b puts drops y).1.d, .d (I64 (resolveV l a b puts drops y).2)], false⟩ := by
  refine Ok.many hT Tryz.func25 (by kernel_rfl) (c := _) rfl Tryz.ntmps25 (by simp) Tryz.results25 (by simp) (by rfl) fun w0 X hp => ?_
  refine LWp.len (t := 0) rfl fun hlen => ?_
  simp at hlen
  refine LWp.seq ?_
  refine LWp.reg hT hW (fun _ => none) (fun _ => ⟨rfl, fun _ h => h⟩) ?_
  simp
  refine LWp.seq ?_
  refine LWp.seq ?_
  refine LWp.reg hT hW (fun | 27 => some <| .plain ⟨.tup [.d (I64 (validV l).1), .d (I64 (validV l).2)], true⟩ | _ => none) (by intro d; first | exact ⟨rfl, fun _ h => h⟩ | (split <;> exact ⟨rfl, fun _ h => h⟩)) ?_
  simp [evalExtract]
  refine ⟨EValid_ok l hs, ?_⟩
  refine LWp.seq ?_
  refine LWp.reg hT hW (fun _ => none) (fun _ => ⟨rfl, fun _ h => h⟩) ?_
  simp
  refine LWp.iff ?_
  simp
  refine ⟨fun h2 => ?_, fun h2 => ?_⟩
  · refine LWp.seq ?_
    refine LWp.reg hT hW (fun _ => none) (fun _ => ⟨rfl, fun _ h => h⟩) ?_
    simp
    refine LWp.ret ?_
    have e : resolveV l a b puts drops y = (default, (validV l).2) := by simp [resolveV, h2]
    simp [e]
  · refine LWp.skip ?_
    simp
    refine LWp.seq ?_
    refine LWp.regAny hT hW hMixed (lk [[],[],[0,1],[],[],[0,1,2,3,4],[0,1,2,3,4,5],[0,1,2,3,4,5,6]]) (lk [[],[],[],[36],[36],[],[],[]]) (lk [[],[],[36],[],[],[39],[],[]]) (by kernel_rfl) (fun | 36 => some <| .plain ⟨.d (I64 (findI l a)), true⟩ | 39 => some <| .plain ⟨.d (I64 (findI l b)), true⟩ | _ => none) (by intro d; first | exact ⟨rfl, fun _ h => h⟩ | (split <;> exact ⟨rfl, fun _ h => h⟩)) ?_
    simp
    refine ⟨⟨EFind_ok l a, EFind_ok l b⟩, ?_⟩
    refine LWp.seq ?_
    refine LWp.seq ?_
    refine LWp.reg hT hW (fun _ => none) (fun _ => ⟨rfl, fun _ h => h⟩) ?_
    simp
    refine LWp.iff ?_
    simp
    refine ⟨fun h5 => ?_, fun h5 g5 => ?_⟩
    · refine LWp.seq ?_
      refine LWp.reg hT hW (fun _ => none) (fun _ => ⟨rfl, fun _ h => h⟩) ?_
      simp
      refine LWp.ret ?_
      have e : resolveV l a b puts drops y = (default, 6) := by simp [resolveV, h2, h5]
      simp [e]
    · refine LWp.skip ?_
      simp
      refine LWp.seq ?_
      refine LWp.reg hT hW (fun | 50 => some <| .plain ⟨.d (nmsD (sortN [a, b])), true⟩ | _ => none) (by intro d; first | exact ⟨rfl, fun _ h => h⟩ | (split <;> exact ⟨rfl, fun _ h => h⟩)) ?_
      simp
      refine ⟨⟨rfl, by simpa using (nsSorted_ok [a, b] (by simp)).own_d⟩, ?_⟩
      refine LWp.seq ?_
      refine LWp.seq ?_
      have hv : (validV l).2 = 0 := by simpa using h2
      rcases clash_cases (a := a) (b := b) hv (by omega) (by omega) with ⟨hab, hsh, hso⟩ | ⟨p, q, hso, hpq⟩
      · refine LWp.regAny hT hW hMixed (lk [[],[0],[0,1],[0,1,2],[0,1,2,3],[0,1,2,3,4],[0,1,2,3],[0,1,2,3,6],[0,1,2,3,6,7],[0,1,2,3,4,5,6,7,8],[0,1,2,3,4,5,6,7,8,9],[0,1,2,3,4,5,6,7,8,9,10]]) (lk [[],[],[],[],[],[],[56],[56],[56],[],[],[]]) (lk [[],[],[],[],[],[56],[],[],[],[60],[],[]]) (by kernel_rfl) (fun _ => none) (by intro d; first | exact ⟨rfl, fun _ h => h⟩ | (split <;> exact ⟨rfl, fun _ h => h⟩)) ?_
        simp [hso]
        refine LWp.iff ?_
        simp [hso]
        refine LWp.seq ?_
        refine LWp.reg hT hW (fun _ => none) (fun _ => ⟨rfl, fun _ h => h⟩) ?_
        simp
        refine LWp.ret ?_
        have e : resolveV l a b puts drops y = (default, 15) := by unfold resolveV; rw [if_neg (by simpa using h2), if_neg (by omega), if_pos hsh]
        simp [e]
      · refine LWp.regAny hT hW hMixed (lk [[],[0],[0,1],[0,1,2],[0,1,2,3],[0,1,2,3,4],[0,1,2,3],[0,1,2,3,6],[0,1,2,3,6,7],[0,1,2,3,4,5,6,7,8],[0,1,2,3,4,5,6,7,8,9],[0,1,2,3,4,5,6,7,8,9,10]]) (lk [[],[],[],[],[],[],[56],[56],[56],[],[],[]]) (lk [[],[],[],[],[],[56],[],[],[],[60],[],[]]) (by kernel_rfl) (fun | 56 => some <| .plain ⟨.d (.sl ((clashesL l).map prD)), true⟩ | 60 => some <| .plain ⟨.d (.bool (decide ((p, q) ∈ clashesL l))), true⟩ | _ => none) (by intro d; first | exact ⟨rfl, fun _ h => h⟩ | (split <;> exact ⟨rfl, fun _ h => h⟩)) ?_
        simp [hso]
        refine ⟨⟨⟨EClashes_ok l hs, by simp [flatD]⟩, by simpa [flatD] using InPr_ok (clashesL l) (p, q)⟩, ?_⟩
        refine LWp.iff ?_
        simp
        refine ⟨fun h8 => ?_, fun h8 => ?_⟩
        · refine LWp.seq ?_
          refine LWp.reg hT hW (fun _ => none) (fun _ => ⟨rfl, fun _ h => h⟩) ?_
          simp
          refine LWp.ret ?_
          have hsh : sharedL l a b = [] := Decidable.not_not.1 fun w => h8 (hpq.2 w)
          have e : resolveV l a b puts drops y = (default, 15) := by unfold resolveV; rw [if_neg (by simpa using h2), if_neg (by omega), if_pos hsh]
          simp [e]
        · refine LWp.skip ?_
          simp
          refine LWp.seq ?_
          have hsh : sharedL l a b ≠ [] := hpq.1 (by simpa using h8)
          obtain ⟨i0, hi0, fi, ei⟩ := edAt_of (show 0 ≤ findI l a by omega)
          obtain ⟨k0, hk0, fk, ek⟩ := edAt_of (show 0 ≤ findI l b by omega)
          obtain ⟨x, hx⟩ : ∃ x, x = resolveE a b puts drops y := ⟨_, rfl⟩
          have hxs : x.small := by rw [hx]; exact ⟨hpl, hdl⟩
          have hso2 : x.needs = [p, q] := by rw [hx]; exact hso
          refine LWp.regAny hT hW hMixed (lk [[],[],[],[2],[],[2,3,4],[0,1,2,3,4,5],[],[0,1,2,3,4,5,6,7]]) (lk [[19,67,69],[19,67,69],[19],[19],[19,67],[19],[19],[67,69],[]]) (lk [[],[],[],[67],[],[69],[],[19],[19]]) (by kernel_rfl) (fun | 67 => some <| .plain ⟨.d (dfsD puts), true⟩ | 69 => some <| .plain ⟨.d (strsD drops), true⟩ | _ => none) (by intro d; first | exact ⟨rfl, fun _ h => h⟩ | (split <;> exact ⟨rfl, fun _ h => h⟩)) ?_
          simp
          refine ⟨⟨(CloneDf_ok puts (by omega)).own_d, (CloneStr_ok drops (by omega)).own_d⟩, ?_⟩
          refine LWp.seq ?_
          refine LWp.regAny hT hW hMixed (lk [[],[],[0,1],[0,1,2],[0,1,2,3],[],[],[5,6],[5,6,7],[0,1,2,3,4,5,6,7,8],[],[0,1,2,3,4,5,6,7,8,9,10],[0,1,2,3,4,5,6,7,8,9,10,11],[0,1,2,3,4,5,6,7,8,9,10,11,12],[0,1,2,3,4,5,6,7,8,9,10,11,12,13]]) (lk [[],[],[],[],[],[75],[75],[75],[75],[],[75,80],[],[],[],[]]) (lk [[],[],[],[],[75],[],[],[],[],[80],[],[82],[],[],[]]) (by kernel_rfl) (fun | 75 => some <| .plain ⟨.d (strsD (tchN l[i0])), true⟩ | 80 => some <| .plain ⟨.d (strsD (tchN l[k0])), true⟩ | 82 => some <| .plain ⟨.d (strsD (tchN x)), true⟩ | _ => none) (by intro d; first | exact ⟨rfl, fun _ h => h⟩ | (split <;> exact ⟨rfl, fun _ h => h⟩)) ?_
          simp [fi, fk, hi0, hk0]
          refine ⟨⟨⟨PTouches_ok _ (hs _ (List.getElem_mem hi0)), PTouches_ok _ (hs _ (List.getElem_mem hk0))⟩, by have := PTouches_ok x hxs; simpa [hx, resolveE, hso] using this⟩, ?_⟩
          refine LWp.seq ?_
          refine LWp.seq ?_
          refine LWp.reg hT hW (fun _ => none) (fun _ => ⟨rfl, fun _ h => h⟩) ?_
          simp
          refine LWp.len (t := 83) (xs := (tchN l[i0]).map .str) (by simp) fun htl => ?_
          simp at htl
          refine LWp.block ?_
          refine LWp.loopW (ι := Nat) (fun i => mkEnv [(0, .d (edsD l)), (11, .bx 11 0), (12, .bx 12 0), (13, .d (I64 0)), (19, .bx 19 0), (21, .d (strsD (tchN l[k0]))), (22, .d (strsD (tchN x))), (83, .d (strsD (tchN l[i0]))), (84, .d (I64 (tchN l[i0]).length)), (85, .d (I64 i))]) (fun i => mkObs [(11, .box false [.d (I64 y.who), .d (I64 y.seq)]), (12, .box false [.d (I64 0), .d (I64 0), .nl, .nl, .nl]), (19, .box false ((cellsD x.d).map .d))]) (fun i => i ≤ (tchN l[i0]).length ∧ Pre (fun s => decide (s ∈ tchN l[k0]) && !decide (s ∈ tchN x)) (tchN l[i0]) i) (fun i => (tchN l[i0]).length - i) 0 (Weak.to [0, 11, 12, 13, 19, 21, 22, 83, 84, 85] [(11, 11), (12, 12), (19, 19)] (by decide) (by decide) (by simp [hp]) (by simp) (by simp [hx, resolveE, hso])) (⟨Nat.zero_le _, Pre.zero⟩) fun i hi13 => ?_
          refine LWp.seq ?_
          refine LWp.reg hT hW (fun _ => none) (fun _ => ⟨rfl, fun _ h => h⟩) ?_
          simp
          refine LWp.seq ?_
          refine LWp.iff ?_
          simp
          refine ⟨fun h13 => ?_, fun h13 => ?_⟩
          · refine LWp.skip ?_
            simp
            refine LWp.seq ?_
            refine LWp.block ?_
            refine LWp.seq ?_
            refine LWp.reg hT hW (fun _ => none) (fun _ => ⟨rfl, fun _ h => h⟩) ?_
            simp [h13]
            refine LWp.seq ?_
            refine LWp.reg hT hW (fun | 91 => some <| .plain ⟨.d (.bool (decide ((tchN l[i0])[i] ∈ tchN l[k0]))), true⟩ | 95 => some <| .plain ⟨.d (.bool (decide ((tchN l[i0])[i] ∈ tchN x))), true⟩ | _ => none) (by intro d; first | exact ⟨rfl, fun _ h => h⟩ | (split <;> exact ⟨rfl, fun _ h => h⟩)) ?_
            simp
            refine ⟨⟨InStr_ok _ _, by intros; exact InStr_ok _ _⟩, ?_⟩
            refine LWp.iff ?_
            simp
            refine ⟨fun h15 g15 => ?_, fun h15 => ?_⟩
            · refine LWp.seq ?_
              refine LWp.reg hT hW (fun _ => none) (fun _ => ⟨rfl, fun _ h => h⟩) ?_
              simp
              refine LWp.ret ?_
              have hany : (sharedL l a b).any (fun s => decide (s ∉ touches (resolveE a b puts drops y))) = true := by
                rw [resolve_miss hsh, ei, ek, ← hx, List.any_eq_true]
                exact ⟨_, List.getElem_mem h13, by simp [h15, g15]⟩
              have e : resolveV l a b puts drops y = (default, 10) := by unfold resolveV; rw [if_neg (by simpa using h2), if_neg (by omega), if_neg hsh, if_pos hany]
              simp [e]
            · refine LWp.skip ?_
              simp
              refine LWp.reg hT hW (fun _ => none) (fun _ => ⟨rfl, fun _ h => h⟩) ?_
              simp
              refine ⟨by omega, ?_⟩
              refine loopQ.mk (i + 1) (Weak.to [0, 11, 12, 13, 19, 21, 22, 83, 84, 85] [(11, 11), (12, 12), (19, 19)] (by decide) (by decide) (by simp [hp]) (by simp) (by simp)) ?_ ?_
              · exact ⟨h13, hi13.2.succ h13 (by simpa using h15)⟩
              · omega
          · refine LWp.exit ?_
            simp
            refine LWp.seq ?_
            refine LWp.seq ?_
            have hany : ¬ (sharedL l a b).any (fun s => decide (s ∉ touches (resolveE a b puts drops y))) = true := by
              rw [resolve_miss hsh, ei, ek, ← hx, hi13.2.any (by omega)]; simp
            have hgo : resolveV l a b puts drops y = if 63 < l.length then (default, 4) else if properE (resolveE a b puts drops y) = false then (default, 1) else if 0 ≤ findI l y then (default, 7) else (resolveE a b puts drops y, 0) := by
              unfold resolveV
              rw [if_neg (by simpa using hv), if_neg (by omega), if_neg hsh, if_neg hany]
            refine LWp.reg hT hW (fun _ => none) (fun _ => ⟨rfl, fun _ h => h⟩) ?_
            simp
            refine LWp.iff ?_
            simp
            refine ⟨fun h18 => ?_, fun h18 => ?_⟩
            · refine LWp.seq ?_
              refine LWp.reg hT hW (fun _ => none) (fun _ => ⟨rfl, fun _ h => h⟩) ?_
              simp
              refine LWp.ret ?_
              have e : resolveV l a b puts drops y = (default, 4) := by rw [hgo, if_pos (by omega)]
              simp [e]
            · refine LWp.skip ?_
              simp
              refine LWp.seq ?_
              refine LWp.seq ?_
              refine LWp.reg hT hW (fun | 105 => some <| .plain ⟨.d (I64 (aloneV x)), true⟩ | _ => none) (by intro d; first | exact ⟨rfl, fun _ h => h⟩ | (split <;> exact ⟨rfl, fun _ h => h⟩)) ?_
              simp
              refine ⟨alone_ok x hxs, ?_⟩
              refine LWp.iff ?_
              simp
              refine ⟨fun h20 => ?_, fun h20 => ?_⟩
              · refine LWp.seq ?_
                refine LWp.reg hT hW (fun _ => none) (fun _ => ⟨rfl, fun _ h => h⟩) ?_
                simp
                refine LWp.ret ?_
                have e : resolveV l a b puts drops y = (default, 1) := by rw [hgo, if_neg (by omega), ← hx, if_pos (by simpa [alone_zero] using h20)]
                simp [e]
              · refine LWp.skip ?_
                simp
                refine LWp.seq ?_
                refine LWp.seq ?_
                refine LWp.reg hT hW (fun | 110 => some <| .plain ⟨.d (I64 (findI l y)), true⟩ | _ => none) (by intro d; first | exact ⟨rfl, fun _ h => h⟩ | (split <;> exact ⟨rfl, fun _ h => h⟩)) ?_
                simp
                refine ⟨EFind_ok l y, ?_⟩
                refine LWp.iff ?_
                simp
                refine ⟨fun h22 => ?_, fun h22 => ?_⟩
                · refine LWp.seq ?_
                  refine LWp.reg hT hW (fun _ => none) (fun _ => ⟨rfl, fun _ h => h⟩) ?_
                  simp
                  refine LWp.ret ?_
                  have e : resolveV l a b puts drops y = (default, 7) := by rw [hgo, if_neg (by omega), ← hx, if_neg (by simpa [alone_zero] using h20), if_pos (by omega)]
                  simp [e]
                · refine LWp.skip ?_
                  simp
                  refine LWp.seq ?_
                  refine LWp.reg hT hW (fun _ => none) (fun _ => ⟨rfl, fun _ h => h⟩) ?_
                  simp
                  refine LWp.ret ?_
                  have e : resolveV l a b puts drops y = (x, 0) := by rw [hgo, if_neg (by omega), ← hx, if_neg (by simpa [alone_zero] using h20), if_neg (by omega)]
                  simp [e]
end Go.Eng
namespace Go.Eng
open Go.Proofs
attribute [local simp] runL stepL evalG evalOp opLV constLV putEnv dstOk upd upds Res.plain Res.cond Res.fail evalBin evalUn seqQ blockQ argsEnv lookL lookH RetIs memless freshL evalPick evalMin bval bok evalLen evalIn strip whenC guardOps guardC slotsOf
  runM foldS stepI stepM maskE wrIn lk renO lookN evalCall evalCallee optAll resLV resObj retLV retObj retsLV retsObj evalLoad evalIndexAddr evalField solid cellsD_agg cellsD_int cellsD_bool cellsD_str cellsD_sl cellsD_ro cellsD_fn cellsL_agg cellsL_dagg cellsL_int cellsL_bool cellsL_str cellsL_sl cellsL_fn cellsL_ow cellsL_bx cellsL_lfn cellsL_nl takeL takeD mkAgg allD eqD eqDs kindsAre kindIs LObj.live TK.isNone TK.agg TK.isBool TK.isStr TK.isStruct Op.operands Call.operands
  evalBuildSlice evalAppend elemsOf evalStore evalBuild fillL lookupF putL evalSlice bound evalConv elemsS freezes frozen loadR
  mkEnv_at mkObs_at close_d close_agg close_ow close_bx close_fn close_nl touch_d touch_agg touch_ow touch_bx touch_fn touch_nl ren_d ren_agg ren_bx ren_rp ren_ow ren_fn ren_nl ren_junk retQ_ret retQ2_ret condQ_bool Nm.d Df.d Ed.d nmsD dfsD strsD edsD retC_ret nm_eq df_eq take_map_len take_map_app
  nm_t nm_d nm_td df_t df_d df_td str_t str_d str_td ed_t ed_d ed_td
  evalAppendIn evalCut evalClear evalCopy evalMake evalWrap evalCap evalNil isNilC lenL isInp gorc
  mapOf findD keyEq keyOk evalMakeMap evalRange zeroD zeroDV argsG shutG outN lenv retG0_ret retG0_normal retG1_ret renO close_mp touch_mp ren_mp optAll_d optAll_d' touch_ds cellsL_mp cellsD_mp cellsL_dmp
  evalMapSet evalPtr TK.isPtr evalToArr firstL retN_ret retsQ rvarL close_bm touch_bm ren_bm cellsD_bm cellsL_bm cellsL_lbm
attribute [local simp] cutQ_normal cutQ_ret cutQ_exit
set_option maxRecDepth 10000
set_option maxHeartbeats 1000000
attribute [local simp] dF1 dF2 dF3 dF4 dF5 prD
theorem dP1 : (default : Ed × Ed).1 = (default : Ed) := rfl
theorem dP2 : (default : Ed × Ed).2 = (default : Ed) := rfl
attribute [local simp] dP1 dP2
def edsP (p : Ed × Ed) : DV := .agg (cellsD p.1.d ++ cellsD p.2.d)
def nilE : List LV := [.d (I64 0), .d (I64 0), .nl, .nl, .nl]
def edE (e : Ed) : List LV := (cellsD e.d).map .d
def arrS (e : Ed) (first : List Str) (n m : Nm) : Nat → List LV
  | 0 => nilE ++ nilE
  | 1 => edE (splitE e first n true) ++ nilE
  | _ => edE (splitE e first n true) ++ edE (splitE e first m false)
theorem arrS0 (e : Ed) (first : List Str) (n m : Nm) : arrS e first n m 0 = [.d (I64 0), .d (I64 0), .nl, .nl, .nl, .d (I64 0), .d (I64 0), .nl, .nl, .nl] := rfl
theorem arrS1 (e : Ed) (first : List Str) (n m : Nm) : arrS e first n m 1 = [.d (I64 (splitE e first n true).name.who), .d (I64 (splitE e first n true).name.seq), .d (nmsD (splitE e first n true).needs), .d (dfsD (splitE e first n true).puts), .d (strsD (splitE e first n true).drops),
    .d (I64 0), .d (I64 0), .nl, .nl, .nl] := rfl
theorem arrS2 (e : Ed) (first : List Str) (n m : Nm) : arrS e first n m 2 = [.d (I64 (splitE e first n true).name.who), .d (I64 (splitE e first n true).name.seq), .d (nmsD (splitE e first n true).needs), .d (dfsD (splitE e first n true).puts), .d (strsD (splitE e first n true).drops),
    .d (I64 (splitE e first m false).name.who), .d (I64 (splitE e first m false).name.seq), .d (nmsD (splitE e first m false).needs), .d (dfsD (splitE e first m false).puts), .d (strsD (splitE e first m false).drops)] := rfl
attribute [local simp] arrS0 arrS1 arrS2
theorem touches_zero {e : Ed} : touches e = [] ↔ e.puts.length + e.drops.length = 0 := by
  unfold touches
  rw [List.append_eq_nil_iff, List.map_eq_nil_iff, ← List.length_eq_zero_iff, ← List.length_eq_zero_iff]
  omega
theorem cedit_split {e : Ed} {first : List Str} (n : Nm) (k : Int) (b : Bool) (hb : decide (k = 0) = b) (hpe : properE e = true) (hs : e.small) (hn : e.needs.length ≤ 1100000) :
    Ok Tryz.prog 66 [.mp (ck (applyC [] e)) (cv (applyC [] e)), n.d, nmsD e.needs, .fn 84 [.ro [strsD first], .ro [I64 k]]] ⟨.d (splitE e first n b).d, false⟩ := by
  rw [← split_editC hpe, ← hb]
  exact cedit_ok _ n e.needs (fun s => decide (s ∈ first) == decide (k = 0)) _ _ (fun s => Split1_ok first k s) (applyC_nodup e) (by have := applyC_len [] e; have := hs.1; have := hs.2; simp at *; omega) hn
theorem PSplit_ok (e : Ed) (first : List Str) (n m : Nm) (hs : e.small) (hnl : e.needs.length ≤ 1100000) : Ok Tryz.prog 27 [e.d, strsD first, prD (n, m)] ⟨.tup [.d (edsP (splitV e first n m).1), .d (I64 (splitV e first n m).2)], false⟩ := by
  refine Ok.many hT Tryz.func27 (by kernel_rfl) (c := _) rfl Tryz.ntmps27 (by simp) Tryz.results27 (by simp) (by rfl) fun w0 X hp => ?_
  refine LWp.len (t := 1) (xs := first.map .str) (by simp) fun hlen => ?_
  simp at hlen
  refine LWp.seq ?_
  refine LWp.reg hT hW (fun _ => none) (fun _ => ⟨rfl, fun _ h => h⟩) ?_
  simp
  refine LWp.seq ?_
  refine LWp.reg hT hW (fun _ => none) (fun _ => ⟨rfl, fun _ h => h⟩) ?_
  simp
  refine LWp.seq ?_
  refine LWp.seq ?_
  refine LWp.reg hT hW (fun | 15 => some <| .plain ⟨.d (I64 (aloneV e)), true⟩ | 20 => some <| .plain ⟨.d (.bool n.isName), true⟩ | 26 => some <| .plain ⟨.d (.bool m.isName), true⟩ | _ => none) (by intro d; first | exact ⟨rfl, fun _ h => h⟩ | (split <;> exact ⟨rfl, fun _ h => h⟩)) ?_
  simp
  refine ⟨⟨⟨alone_ok e hs, by intros; exact ppossible_ok n⟩, by intros; exact ppossible_ok m⟩, ?_⟩
  refine LWp.iff ?_
  simp
  refine ⟨fun h2 => ?_, fun h2 p2 q2 => ?_⟩
  · refine LWp.seq ?_
    refine LWp.reg hT hW (fun _ => none) (fun _ => ⟨rfl, fun _ h => h⟩) ?_
    simp
    refine LWp.ret ?_
    have e1 : splitV e first n m = (default, 1) := by
      unfold splitV
      rw [if_pos]
      rcases h2 with (h | h) | h
      · exact .inl (by simpa [alone_zero] using h)
      · exact .inr (.inl h)
      · exact .inr (.inr h)
    simp [e1, edsP]
  · refine LWp.skip ?_
    simp
    refine LWp.seq ?_
    refine LWp.seq ?_
    refine LWp.reg hT hW (fun | 40 => some <| .plain ⟨.d (.bool (decide (n ∈ e.needs))), true⟩ | 47 => some <| .plain ⟨.d (.bool (decide (m ∈ e.needs))), true⟩ | _ => none) (by intro d; first | exact ⟨rfl, fun _ h => h⟩ | (split <;> exact ⟨rfl, fun _ h => h⟩)) ?_
    simp
    refine ⟨⟨by intros; exact nsHas_ok _ _, by intros; exact nsHas_ok _ _⟩, ?_⟩
    refine LWp.iff ?_
    simp
    refine ⟨fun h4 => ?_, fun h4 p4 q4 => ?_⟩
    · refine LWp.seq ?_
      refine LWp.reg hT hW (fun _ => none) (fun _ => ⟨rfl, fun _ h => h⟩) ?_
      simp
      refine LWp.ret ?_
      have e1 : splitV e first n m = (default, 7) := by
        unfold splitV
        rw [if_neg (by simp [alone_zero.1 h2, p2, q2]), if_pos]
        rcases h4 with (h | h) | h
        · exact .inl h
        · exact .inr (.inl h)
        · exact .inr (.inr h)
      simp [e1, edsP]
    · refine LWp.skip ?_
      simp
      refine LWp.seq ?_
      have hpe : properE e = true := alone_zero.1 h2
      have hgo : splitV e first n m = if first.any (fun s => decide (s ∉ touches e)) = true then (default, 6) else if touches (splitE e first n true) = [] ∨ touches (splitE e first m false) = [] then (default, 15)
          else ((splitE e first n true, splitE e first m false), 0) := by
        unfold splitV
        rw [if_neg (by simp [hpe, p2, q2]), if_neg (by simp [h4, p4, q4])]
      refine LWp.reg hT hW (fun | 51 => some <| .plain ⟨.d (strsD (tchN e)), true⟩ | _ => none) (by intro d; first | exact ⟨rfl, fun _ h => h⟩ | (split <;> exact ⟨rfl, fun _ h => h⟩)) ?_
      simp
      refine ⟨PTouches_ok e hs, ?_⟩
      refine LWp.seq ?_
      refine LWp.seq ?_
      refine LWp.reg hT hW (fun _ => none) (fun _ => ⟨rfl, fun _ h => h⟩) ?_
      simp
      refine LWp.block ?_
      refine LWp.loopW (ι := Nat) (fun i => mkEnv [(3, .bx 3 0), (4, .bx 4 0), (5, .bx 5 0), (6, .bx 6 0), (7, .d (I64 0)), (8, .bx 8 0), (9, .d (strsD (tchN e))), (52, .d (strsD first)), (53, .d (I64 first.length)), (54, .d (I64 i))]) (fun i => mkObs [(3, .box false ((cellsD e.d).map .d)), (4, .box false [.d (strsD first)]), (5, .box false [.d (I64 n.who), .d (I64 n.seq), .d (I64 m.who), .d (I64 m.seq)]), (6, .box false (arrS e first n m 0)), (8, .box false (arrS e first n m 0))]) (fun i => i ≤ first.length ∧ Pre (fun s => !decide (s ∈ tchN e)) first i) (fun i => first.length - i) 0 (Weak.to [3, 4, 5, 6, 7, 8, 9, 52, 53, 54] [(3, 3), (4, 4), (5, 5), (6, 6), (8, 8)] (by decide) (by decide) (by simp [hp]) (by simp) (by simp)) (⟨Nat.zero_le _, Pre.zero⟩) fun i hi8 => ?_
      refine LWp.seq ?_
      refine LWp.reg hT hW (fun _ => none) (fun _ => ⟨rfl, fun _ h => h⟩) ?_
      simp
      refine LWp.seq ?_
      refine LWp.iff ?_
      simp
      refine ⟨fun h8 => ?_, fun h8 => ?_⟩
      · refine LWp.skip ?_
        simp
        refine LWp.seq ?_
        refine LWp.block ?_
        refine LWp.seq ?_
        refine LWp.reg hT hW (fun _ => none) (fun _ => ⟨rfl, fun _ h => h⟩) ?_
        simp [h8]
        refine LWp.seq ?_
        refine LWp.reg hT hW (fun | 60 => some <| .plain ⟨.d (.bool (decide (first[i] ∈ tchN e))), true⟩ | _ => none) (by intro d; first | exact ⟨rfl, fun _ h => h⟩ | (split <;> exact ⟨rfl, fun _ h => h⟩)) ?_
        simp
        refine ⟨InStr_ok _ _, ?_⟩
        refine LWp.iff ?_
        simp
        refine ⟨fun h10 => ?_, fun h10 => ?_⟩
        · refine LWp.seq ?_
          refine LWp.reg hT hW (fun _ => none) (fun _ => ⟨rfl, fun _ h => h⟩) ?_
          simp
          refine LWp.ret ?_
          have e1 : splitV e first n m = (default, 6) := by
            rw [hgo, if_pos (List.any_eq_true.2 ⟨_, List.getElem_mem h8, by simpa [mem_tchN] using h10⟩)]
          simp [e1, edsP]
        · refine LWp.skip ?_
          simp
          refine LWp.reg hT hW (fun _ => none) (fun _ => ⟨rfl, fun _ h => h⟩) ?_
          simp
          refine ⟨by omega, ?_⟩
          refine loopQ.mk (i + 1) (Weak.to [3, 4, 5, 6, 7, 8, 9, 52, 53, 54] [(3, 3), (4, 4), (5, 5), (6, 6), (8, 8)] (by decide) (by decide) (by simp [hp]) (by simp) (by simp)) ?_ ?_
          · exact ⟨h8, hi8.2.succ h8 (by simpa using h10)⟩
          · omega
      · refine LWp.exit ?_
        simp
        refine LWp.seq ?_
        have hany : ¬ first.any (fun s => decide (s ∉ touches e)) = true := by
          have h := hi8.2.any (by omega)
          simp only [mem_tchN] at h
          simpa using h
        rw [if_neg hany] at hgo
        refine LWp.reg hT hW (fun _ => none) (fun _ => ⟨rfl, fun _ h => h⟩) ?_
        simp
        refine LWp.seq ?_
        refine LWp.reg hT hW (fun | 67 => some (.gen ⟨[(64, 0)], [], [], [(0, .map false (ck (applyC [] e)) (cv (applyC [] e)))], .tup []⟩) | _ => none) (by intro d; first | exact ⟨rfl, fun _ h => h⟩ | (split <;> exact ⟨rfl, fun _ h => h⟩)) ?_
        simp
        refine ⟨by simpa [ck, cv] using apply_ok [] e hs, ?_⟩
        refine LWp.seq ?_
        refine LWp.seq ?_
        obtain ⟨c, hc⟩ : ∃ c, c = applyC [] e := ⟨_, rfl⟩
        rw [← hc]
        refine LWp.weak (Weak.close 12 (x := .mp (ck c) (cv c)) (by simp)) ?_
        refine LWp.weak (Weak.close 4 (x := .ro [strsD first]) (by simp)) ?_
        refine LWp.reg hT hW (fun _ => none) (fun _ => ⟨rfl, fun _ h => h⟩) ?_
        simp
        refine LWp.block ?_
        refine LWp.loopW (ι := Nat) (fun k => mkEnv [(3, .bx 3 0), (4, .d (.ro [strsD first])), (5, .bx 5 0), (6, .bx 6 0), (7, .d (I64 0)), (8, .bx 8 0), (12, .d (.mp (ck c) (cv c))), (68, .d (I64 k))]) (fun k => mkObs [(3, .box false ((cellsD e.d).map .d)), (5, .box false [.d (I64 n.who), .d (I64 n.seq), .d (I64 m.who), .d (I64 m.seq)]), (6, .box false (arrS e first n m 0)), (8, .box false (arrS e first n m k))]) (fun k => k ≤ 2 ∧ (0 < k → touches (splitE e first n true) ≠ []) ∧ (1 < k → touches (splitE e first m false) ≠ [])) (fun k => 2 - k) 0 (Weak.to [3, 4, 5, 6, 7, 8, 12, 68] [(3, 3), (5, 5), (6, 6), (8, 8)] (by decide) (by decide) (by simp [hp]) (by simp) (by simp)) (by simp) fun k hi16 => ?_
        refine LWp.seq ?_
        refine LWp.reg hT hW (fun _ => none) (fun _ => ⟨rfl, fun _ h => h⟩) ?_
        simp
        refine LWp.seq ?_
        refine LWp.iff ?_
        simp
        refine ⟨fun h16 => ?_, fun h16 => ?_⟩
        · refine LWp.skip ?_
          simp
          refine LWp.seq ?_
          refine LWp.block ?_
          refine LWp.seq ?_
          refine LWp.reg hT hW (fun _ => none) (fun _ => ⟨rfl, fun _ h => h⟩) ?_
          simp
          refine LWp.weak (Weak.close 13 (x := .ro [I64 k]) (by simp)) ?_
          refine LWp.seq ?_
          obtain ⟨z, hz⟩ : ∃ z, (k = 0 ∧ z = splitE e first n true) ∨ (k = 1 ∧ z = splitE e first m false) := by
            rcases (by omega : k = 0 ∨ k = 1) with q | q
            · exact ⟨_, .inl ⟨q, rfl⟩⟩
            · exact ⟨_, .inr ⟨q, rfl⟩⟩
          rcases hz with ⟨rfl, hz⟩ | ⟨rfl, hz⟩
          · have hzl : z.puts.length ≤ 1100000 ∧ z.drops.length ≤ 1100000 := by
              subst hz
              exact ⟨Nat.le_trans (List.length_filter_le _ _) hs.1, Nat.le_trans (List.length_filter_le _ _) hs.2⟩
            refine LWp.regAny hT hW hMixed (lk [[],[],[],[2],[2,3],[],[5],[],[1,2,3,4,5,6,7],[0,1,2,3,4,5,6,7,8],[0,1,2,3,4,5,6,7,8,9]]) (lk [[79],[],[],[],[],[],[],[],[],[],[]]) (lk [[],[],[],[],[],[],[],[],[79],[],[8]]) (by kernel_rfl) (fun | 79 => some <| .plain ⟨.d z.d, false⟩ | _ => none) (by intro d; first | exact ⟨rfl, fun _ h => h⟩ | (split <;> exact ⟨rfl, fun _ h => h⟩)) ?_
            simp
            refine ⟨by subst hc; subst hz; first | exact cedit_split n 0 true rfl hpe hs hnl | exact cedit_split m 1 false rfl hpe hs hnl, ?_⟩
            refine LWp.seq ?_
            refine LWp.regAny hT hW hMixed (lk [[],[0],[0,1],[0,1,2],[0,1,2,3],[],[5],[5,6],[5,6,7],[5,6,7,8],[0,1,2,3,4,5,6,7,8,9],[0,1,2,3,4,5,6,7,8,9,10]]) (lk [[],[],[],[],[],[],[],[],[],[],[],[]]) (lk [[],[],[],[],[],[],[],[],[],[],[],[]]) (by kernel_rfl) (fun _ => none) (fun _ => ⟨rfl, fun _ h => h⟩) ?_
            simp
            refine ⟨⟨by omega, by omega⟩, ?_⟩
            refine LWp.iff ?_
            simp
            refine ⟨fun h19 => ?_, fun h19 => ?_⟩
            · refine LWp.seq ?_
              refine LWp.reg hT hW (fun _ => none) (fun _ => ⟨rfl, fun _ h => h⟩) ?_
              simp
              refine LWp.ret ?_
              have e1 : splitV e first n m = (default, 15) := by rw [hgo, if_pos (.inl (by rw [← hz, touches_zero]; omega))]
              simp [e1, edsP]
            · refine LWp.skip ?_
              simp
              refine LWp.reg hT hW (fun _ => none) (fun _ => ⟨rfl, fun _ h => h⟩) ?_
              simp
              refine loopQ.mk 1 (Weak.to [3, 4, 5, 6, 7, 8, 12, 68] [(3, 3), (5, 5), (6, 6), (8, 8)] (by decide) (by decide) (by simp [hp]) (by simp) (by simp [hz])) ?_ ?_
              · refine ⟨by omega, fun _ w => h19 ?_, fun w => absurd w (by omega)⟩
                rw [← hz, touches_zero] at w; omega
              · omega
          · have hzl : z.puts.length ≤ 1100000 ∧ z.drops.length ≤ 1100000 := by
              subst hz
              exact ⟨Nat.le_trans (List.length_filter_le _ _) hs.1, Nat.le_trans (List.length_filter_le _ _) hs.2⟩
            refine LWp.regAny hT hW hMixed (lk [[],[],[],[2],[2,3],[],[5],[],[1,2,3,4,5,6,7],[0,1,2,3,4,5,6,7,8],[0,1,2,3,4,5,6,7,8,9]]) (lk [[79],[],[],[],[],[],[],[],[],[],[]]) (lk [[],[],[],[],[],[],[],[],[79],[],[8]]) (by kernel_rfl) (fun | 79 => some <| .plain ⟨.d z.d, false⟩ | _ => none) (by intro d; first | exact ⟨rfl, fun _ h => h⟩ | (split <;> exact ⟨rfl, fun _ h => h⟩)) ?_
            simp
            refine ⟨by subst hc; subst hz; first | exact cedit_split n 0 true rfl hpe hs hnl | exact cedit_split m 1 false rfl hpe hs hnl, ?_⟩
            refine LWp.seq ?_
            refine LWp.regAny hT hW hMixed (lk [[],[0],[0,1],[0,1,2],[0,1,2,3],[],[5],[5,6],[5,6,7],[5,6,7,8],[0,1,2,3,4,5,6,7,8,9],[0,1,2,3,4,5,6,7,8,9,10]]) (lk [[],[],[],[],[],[],[],[],[],[],[],[]]) (lk [[],[],[],[],[],[],[],[],[],[],[],[]]) (by kernel_rfl) (fun _ => none) (fun _ => ⟨rfl, fun _ h => h⟩) ?_
            simp
            refine ⟨⟨by omega, by omega⟩, ?_⟩
            refine LWp.iff ?_
            simp
            refine ⟨fun h19 => ?_, fun h19 => ?_⟩
            · refine LWp.seq ?_
              refine LWp.reg hT hW (fun _ => none) (fun _ => ⟨rfl, fun _ h => h⟩) ?_
              simp
              refine LWp.ret ?_
              have e1 : splitV e first n m = (default, 15) := by rw [hgo, if_pos (.inr (by rw [← hz, touches_zero]; omega))]
              simp [e1, edsP]
            · refine LWp.skip ?_
              simp
              refine LWp.reg hT hW (fun _ => none) (fun _ => ⟨rfl, fun _ h => h⟩) ?_
              simp
              refine loopQ.mk 2 (Weak.to [3, 4, 5, 6, 7, 8, 12, 68] [(3, 3), (5, 5), (6, 6), (8, 8)] (by decide) (by decide) (by simp [hp]) (by simp) (by simp [hz])) ?_ ?_
              · refine ⟨by omega, fun _ => hi16.2.1 (by omega), fun _ w => h19 ?_⟩
                rw [← hz, touches_zero] at w; omega
              · omega
        · refine LWp.exit ?_
          simp
          refine LWp.seq ?_
          obtain rfl : k = 2 := by omega
          refine LWp.reg hT hW (fun _ => none) (fun _ => ⟨rfl, fun _ h => h⟩) ?_
          simp
          refine LWp.ret ?_
          have e1 : splitV e first n m = ((splitE e first n true, splitE e first m false), 0) := by
            rw [hgo, if_neg]
            rintro (w | w)
            · exact hi16.2.1 (by omega) w
            · exact hi16.2.2 (by omega) w
          simp [e1, edsP]
end Go.Eng
namespace Go.Eng
open Go.Proofs
attribute [local simp] runL stepL evalG evalOp opLV constLV putEnv dstOk upd upds Res.plain Res.cond Res.fail evalBin evalUn seqQ blockQ argsEnv lookL lookH RetIs memless freshL evalPick evalMin bval bok evalLen evalIn strip whenC guardOps guardC slotsOf
  runM foldS stepI stepM maskE wrIn lk renO lookN evalCall evalCallee optAll resLV resObj retLV retObj retsLV retsObj evalLoad evalIndexAddr evalField solid cellsD_agg cellsD_int cellsD_bool cellsD_str cellsD_sl cellsD_ro cellsD_fn cellsL_agg cellsL_dagg cellsL_int cellsL_bool cellsL_str cellsL_sl cellsL_fn cellsL_ow cellsL_bx cellsL_lfn cellsL_nl takeL takeD mkAgg allD eqD eqDs kindsAre kindIs LObj.live TK.isNone TK.agg TK.isBool TK.isStr TK.isStruct Op.operands Call.operands
  evalBuildSlice evalAppend elemsOf evalStore evalBuild fillL lookupF putL evalSlice bound evalConv elemsS freezes frozen loadR
  mkEnv_at mkObs_at close_d close_agg close_ow close_bx close_fn close_nl touch_d touch_agg touch_ow touch_bx touch_fn touch_nl ren_d ren_agg ren_bx ren_rp ren_ow ren_fn ren_nl ren_junk retQ_ret retQ2_ret condQ_bool Nm.d Df.d Ed.d nmsD dfsD strsD edsD retC_ret nm_eq df_eq take_map_len take_map_app
  nm_t nm_d nm_td df_t df_d df_td str_t str_d str_td ed_t ed_d ed_td
  evalAppendIn evalCut evalClear evalCopy evalMake evalWrap evalCap evalNil isNilC lenL isInp gorc
  mapOf findD keyEq keyOk evalMakeMap evalRange zeroD zeroDV argsG shutG outN lenv retG0_ret retG0_normal retG1_ret renO close_mp touch_mp ren_mp optAll_d optAll_d' touch_ds cellsL_mp cellsD_mp cellsL_dmp
  evalMapSet evalPtr TK.isPtr evalToArr firstL retN_ret retsQ rvarL close_bm touch_bm ren_bm cellsD_bm cellsL_bm cellsL_lbm
attribute [local simp] cutQ_normal cutQ_ret cutQ_exit
set_option maxRecDepth 10000
set_option maxHeartbeats 4000000
attribute [local simp] dF1 dF2 dF3 dF4 dF5 prD dP1 dP2
theorem ex_same (a b : Ed) (h : a = b) : Ok Tryz.prog 24 [a.d, b.d] ⟨.d (.bool true), true⟩ := by
  have := Same_ok a b
  rwa [decide_eq_true h] at this
theorem ex_defs (a b : List Df) (h : a = b) : Ok Tryz.prog 40 [dfsD a, dfsD b] ⟨.d (.bool true), true⟩ := by
  have := SameDefs_ok a b
  rwa [decide_eq_true h] at this
theorem ex_texts (a b : List Str) (h : a = b) : Ok Tryz.prog 10 [strsD a, strsD b] ⟨.d (.bool true), true⟩ := by
  have := SameTexts_ok a b
  rwa [decide_eq_true h] at this
theorem lives3_ok  : Ok Tryz.prog 16 [] ⟨.d (.bool true), true⟩ := by
  refine Ok.ret Tryz.func16 (by kernel_rfl) (c := _) rfl Tryz.ntmps16 (by simp) Tryz.results16 (by intro _ h; cases h) fun w0 X hp => ?_
  have k1 := PApart_ok exL3 ⟨0, 1⟩ ⟨1, 0⟩ exL3_small
  have k2 := PApart_ok exL3 ⟨1, 0⟩ ⟨1, 1⟩ exL3_small
  have k3 := PApart_ok exL3 ⟨0, 1⟩ ⟨1, 1⟩ exL3_small
  have k4 := PRevert_ok exB3 exL3 [⟨0, 1⟩, ⟨1, 0⟩] ⟨1, 0⟩ ⟨2, 0⟩ exL3_small (by decide) (by decide) (by decide)
  have k5 := PRevert_ok exB3 exL3 [⟨0, 1⟩, ⟨1, 0⟩] ⟨0, 1⟩ ⟨2, 0⟩ exL3_small (by decide) (by decide) (by decide)
  have k6 := PResolve_ok exL3 ⟨0, 1⟩ ⟨1, 1⟩ [y5] [] ⟨2, 0⟩ exL3_small (by decide) (by decide)
  have k7 := PSquash_ok exB3 exL3 [⟨0, 1⟩, ⟨1, 0⟩] ⟨2, 0⟩ exL3_small (by decide) (by decide) (by decide) (by decide) (by decide)
  have k8 := PSplit_ok ⟨⟨2, 0⟩, [], [a2], [[98]]⟩ [[97]] ⟨2, 1⟩ ⟨2, 2⟩ (by unfold Ed.small; decide) (by decide)
  have k9 := PPick_ok exL3 ⟨1, 1⟩ [⟨0, 1⟩] ⟨2, 0⟩ exL3_small (by decide) (by decide)
  have k10 := ex_same ⟨⟨2, 0⟩, [⟨1, 0⟩], [b0], []⟩ ⟨⟨2, 0⟩, [⟨1, 0⟩], [b0], []⟩ rfl
  have k11 := ex_same ⟨⟨2, 0⟩, [⟨0, 1⟩, ⟨1, 1⟩], [y5], []⟩ ⟨⟨2, 0⟩, [⟨0, 1⟩, ⟨1, 1⟩], [y5], []⟩ rfl
  have k12 := ex_same ⟨⟨2, 0⟩, [], [a2], [[98]]⟩ ⟨⟨2, 0⟩, [], [a2], [[98]]⟩ rfl
  have k13 := ex_defs [a2] [a2] rfl
  have k14 := ex_texts [[98]] [[98]] rfl
  have k15 := ex_same ⟨⟨2, 0⟩, [⟨0, 1⟩], [a3], []⟩ ⟨⟨2, 0⟩, [⟨0, 1⟩], [a3], []⟩ rfl
  rw [ex3_apart1] at k1
  rw [ex3_apart2] at k2
  rw [ex3_apart3] at k3
  rw [ex3_rev1] at k4
  rw [ex3_rev2] at k5
  rw [ex3_res] at k6
  rw [ex3_squash] at k7
  rw [ex3_split] at k8
  rw [ex3_pick] at k9
  refine LWp.seq ?_
  refine LWp.reg hT hW (fun _ => none) (fun _ => ⟨rfl, fun _ h => h⟩) ?_
  simp
  refine LWp.seq ?_
  refine LWp.reg hT hW (fun | 28 => some <| .plain ⟨.tup [.d (.sl (exB3.map Df.d)), .d (edsD exL3)], false⟩ | _ => none) (by intro d; first | exact ⟨rfl, fun _ h => h⟩ | (split <;> exact ⟨rfl, fun _ h => h⟩)) ?_
  simp [evalExtract]
  refine ⟨example3_ok, ?_⟩
  have hL : exL3 = [⟨⟨0, 1⟩, [], [a2], []⟩, ⟨⟨1, 0⟩, [⟨0, 1⟩], [], [[98]]⟩, ⟨⟨1, 1⟩, [], [a3], []⟩] := rfl
  have hB : exB3 = [⟨[97], [118, 97, 114, 32, 97, 32, 61, 32, 49, 59]⟩, b0] := rfl
  rw [hL, hB] at k4 k5 k7 ⊢
  rw [hL] at k1 k2 k3 k6 k9
  refine LWp.seq ?_
  refine LWp.reg hT hW (fun _ => none) (fun _ => ⟨rfl, fun _ h => h⟩) ?_
  simp
  refine LWp.seq ?_
  refine LWp.reg hT hW (fun _ => none) (fun _ => ⟨rfl, fun _ h => h⟩) ?_
  simp
  refine LWp.seq ?_
  refine LWp.reg hT hW (fun _ => none) (fun _ => ⟨rfl, fun _ h => h⟩) ?_
  simp
  refine LWp.seq ?_
  refine LWp.reg hT hW (fun _ => none) (fun _ => ⟨rfl, fun _ h => h⟩) ?_
  simp
  refine LWp.seq ?_
  refine LWp.reg hT hW (fun | 48 => some <| .plain ⟨.tup [.d (.bool false), .d (I64 0)], true⟩ | _ => none) (by intro d; first | exact ⟨rfl, fun _ h => h⟩ | (split <;> exact ⟨rfl, fun _ h => h⟩)) ?_
  simp [evalExtract]
  refine ⟨by simpa using k1, ?_⟩
  refine LWp.seq ?_
  refine LWp.reg hT hW (fun | 55 => some <| .plain ⟨.tup [.d (.bool true), .d (I64 0)], true⟩ | _ => none) (by intro d; first | exact ⟨rfl, fun _ h => h⟩ | (split <;> exact ⟨rfl, fun _ h => h⟩)) ?_
  simp [evalExtract]
  refine ⟨by simpa using k2, ?_⟩
  refine LWp.seq ?_
  refine LWp.reg hT hW (fun | 62 => some <| .plain ⟨.tup [.d (.bool false), .d (I64 0)], true⟩ | _ => none) (by intro d; first | exact ⟨rfl, fun _ h => h⟩ | (split <;> exact ⟨rfl, fun _ h => h⟩)) ?_
  simp [evalExtract]
  refine ⟨by simpa using k3, ?_⟩
  refine LWp.seq ?_
  refine LWp.seq ?_
  refine LWp.reg hT hW (fun _ => none) (fun _ => ⟨rfl, fun _ h => h⟩) ?_
  simp
  refine LWp.iff ?_
  simp
  refine LWp.skip ?_
  simp
  refine LWp.seq ?_
  refine LWp.reg hT hW (fun | 93 => some <| .plain ⟨.tup [.d (Ed.d ⟨⟨2, 0⟩, [⟨1, 0⟩], [b0], []⟩), .d (I64 0)], false⟩ | _ => none) (by intro d; first | exact ⟨rfl, fun _ h => h⟩ | (split <;> exact ⟨rfl, fun _ h => h⟩)) ?_
  simp [evalExtract]
  refine ⟨⟨by decide, by simpa using k4⟩, ?_⟩
  refine LWp.seq ?_
  refine LWp.reg hT hW (fun | 104 => some <| .plain ⟨.tup [.d (default : Ed).d, .d (I64 10)], false⟩ | _ => none) (by intro d; first | exact ⟨rfl, fun _ h => h⟩ | (split <;> exact ⟨rfl, fun _ h => h⟩)) ?_
  simp [evalExtract]
  refine ⟨⟨by decide, by simpa using k5⟩, ?_⟩
  refine LWp.seq ?_
  refine LWp.reg hT hW (fun _ => none) (fun _ => ⟨rfl, fun _ h => h⟩) ?_
  simp
  refine LWp.seq ?_
  refine LWp.reg hT hW (fun | 115 => some <| .plain ⟨.tup [.d (Ed.d ⟨⟨2, 0⟩, [⟨0, 1⟩, ⟨1, 1⟩], [y5], []⟩), .d (I64 0)], false⟩ | _ => none) (by intro d; first | exact ⟨rfl, fun _ h => h⟩ | (split <;> exact ⟨rfl, fun _ h => h⟩)) ?_
  simp [evalExtract]
  refine ⟨by simpa [y5] using k6, ?_⟩
  refine LWp.seq ?_
  refine LWp.reg hT hW (fun | 125 => some <| .plain ⟨.tup [.d (Ed.d ⟨⟨2, 0⟩, [], [a2], [[98]]⟩), .d (I64 0)], false⟩ | _ => none) (by intro d; first | exact ⟨rfl, fun _ h => h⟩ | (split <;> exact ⟨rfl, fun _ h => h⟩)) ?_
  simp [evalExtract]
  refine ⟨⟨by decide, by simpa using k7⟩, ?_⟩
  refine LWp.seq ?_
  refine LWp.seq ?_
  refine LWp.reg hT hW (fun _ => none) (fun _ => ⟨rfl, fun _ h => h⟩) ?_
  simp
  refine LWp.iff ?_
  simp
  refine LWp.skip ?_
  simp
  refine LWp.seq ?_
  refine LWp.seq ?_
  refine LWp.regAny hT hW hMixed (lk [[],[],[],[2],[],[4],[1,2,3,4,5],[0,1,2,3,4,5,6],[0,1,2,3,4,5,6,7],[0,1,2,3,4,5,6,7,8],[0,1,2,3,4,5,6,7,8,9],[0,1,2,3,4,5,6,7,8,9],[0,1,2,3,4,5,6,7,8,9],[0,1,2,3,4,5,6,7,8,9],[0,1,2,3,4,5,6,7,8,9,12,13],[0,1,2,3,4,5,6,7,8,9],[0,1,2,3,4,5,6,7,8,9,15],[0,1,2,3,4,5,6,7,8,9,11,12,13,14,15,16],[0,1,2,3,4,5,6,7,8,9,10,11,12,13,14,15,16,17],[0,1,2,3,4,5,6,7,8,9,10,11,12,13,14,15,16,17,18],[0,1,2,3,4,5,6,7,8,9,10,11,12,13,14,15,16,17,18,19],[0,1,2,3,4,5,6,7,8,9,10,11,12,13,14,15,16,17,18,19,20],[0,1,2,3,4,5,6,7,8,9,10,11,12,13,14,15,16,17,18,19,20,21],[0,1,2,3,4,5,6,7,8,9,10,11,12,13,14,15,16,17,18,19,20,21],[0,1,2,3,4,5,6,7,8,9,10,11,12,13,14,15,16,17,18,19,20,21],[0,1,2,3,4,5,6,7,8,9,10,11,12,13,14,15,16,17,18,19,20,21,24],[0,1,2,3,4,5,6,7,8,9,10,11,12,13,14,15,16,17,18,19,20,21,24,25],[0,1,2,3,4,5,6,7,8,9,10,11,12,13,14,15,16,17,18,19,20,21,24,25,26],[0,1,2,3,4,5,6,7,8,9,10,11,12,13,14,15,16,17,18,19,20,21],[0,1,2,3,4,5,6,7,8,9,10,11,12,13,14,15,16,17,18,19,20,21,23,24,25,26,27,28],[0,1,2,3,4,5,6,7,8,9,10,11,12,13,14,15,16,17,18,19,20,21,22,23,24,25,26,27,28,29],[0,1,2,3,4,5,6,7,8,9,10,11,12,13,14,15,16,17,18,19,20,21,22,23,24,25,26,27,28,29,30],[0,1,2,3,4,5,6,7,8,9,10,11,12,13,14,15,16,17,18,19,20,21,22,23,24,25,26,27,28,29,30,31]]) (lk [[145],[145],[],[],[145],[145],[],[],[],[],[156,158],[156,158],[158],[158],[158],[156],[156],[],[],[],[],[],[170],[170],[170],[170],[170],[170],[],[],[],[],[]]) (lk [[],[],[],[145],[],[],[],[149],[],[],[],[],[],[],[156],[],[158],[],[160],[],[],[],[],[],[],[],[],[],[170],[],[172],[],[]]) (by kernel_rfl) (fun | 149 => some <| .plain ⟨.d (.bool true), true⟩ | 160 => some <| .plain ⟨.d (.bool true), true⟩ | 172 => some <| .plain ⟨.d (.bool true), true⟩ | _ => none) (by intro d; first | exact ⟨rfl, fun _ h => h⟩ | (split <;> exact ⟨rfl, fun _ h => h⟩)) ?_
  simp
  refine ⟨⟨⟨⟨by simpa using k10, rfl⟩, by simpa [y5] using k11⟩, by simpa using k12⟩, ?_⟩
  refine LWp.iff ?_
  simp
  refine LWp.skip ?_
  simp
  refine LWp.seq ?_
  refine LWp.reg hT hW (fun | 181 => some <| .plain ⟨.tup [.d (edsP (⟨⟨2, 1⟩, [], [a2], []⟩, ⟨⟨2, 2⟩, [], [], [[98]]⟩)), .d (I64 0)], false⟩ | _ => none) (by intro d; first | exact ⟨rfl, fun _ h => h⟩ | (split <;> exact ⟨rfl, fun _ h => h⟩)) ?_
  simp [evalExtract, edsP]
  refine ⟨by simpa [edsP] using k8, ?_⟩
  refine LWp.seq ?_
  refine LWp.reg hT hW (fun | 190 => some <| .plain ⟨.tup [.d (Ed.d ⟨⟨2, 0⟩, [⟨0, 1⟩], [a3], []⟩), .d (I64 0)], false⟩ | _ => none) (by intro d; first | exact ⟨rfl, fun _ h => h⟩ | (split <;> exact ⟨rfl, fun _ h => h⟩)) ?_
  simp [evalExtract]
  refine ⟨by simpa using k9, ?_⟩
  refine LWp.seq ?_
  refine LWp.regAny hT hW hMixed (lk [[],[0],[0,1],[],[3],[3,4],[3,4,5],[0,1,2,3,4,5,6],[0,1,2,3,4,5,6,7],[0,1,2,3,4,5,6,7,8],[0,1,2,3,4,5,6,7,8,9],[0,1,2,3,4,5,6,7,8,9,10],[0,1,2,3,4,5,6,7,8,9,10,11],[0,1,2,3,4,5,6,7,8],[0,1,2,3,4,5,6,7,8,13],[0,1,2,3,4,5,6,7,8,13,14],[0,1,2,3,4,5,6,7,8,13,14,15],[0,1,2,3,4,5,6,7,8,9,10,11,12,13,14,15,16],[0,1,2,3,4,5,6,7,8,9,10,11,12,13,14,15,16,17],[0,1,2,3,4,5,6,7,8,9,10,11,12,13,14,15,16,17,18],[0,1,2,3,4,5,6,7,8,9,10,11,12,13,14,15,16,17,18,19],[0,1,2,3,4,5,6,7,8,9,10,11,12,13,14,15,16,17,18,19,20],[0,1,2,3,4,5,6,7,8,9,10,11,12,13,14,15,16,17,18,19,20,21],[0,1,2,3,4,5,6,7,8,9,10,11,12,13,14,15,16,17,18,19,20,21,22],[0,1,2,3,4,5,6,7,8,9,10,11,12,13,14,15,16,17,18,19,20],[0,1,2,3,4,5,6,7,8,9,10,11,12,13,14,15,16,17,18,19,20,21,22,23,24],[0,1,2,3,4,5,6,7,8,9,10,11,12,13,14,15,16,17,18,19,20,21,22,23,24,25],[0,1,2,3,4,5,6,7,8,9,10,11,12,13,14,15,16,17,18,19,20,21,22,23,24,25,26]]) (lk [[],[],[],[],[],[],[],[],[],[],[],[],[],[],[],[],[],[],[],[],[],[217],[217],[217],[],[],[],[]]) (lk [[],[],[],[],[],[],[],[200],[],[],[],[],[],[],[],[],[],[],[],[],[],[],[],[],[217],[218],[],[]]) (by kernel_rfl) (fun | 200 => some <| .plain ⟨.d (.bool true), true⟩ | 218 => some <| .plain ⟨.d (.bool true), true⟩ | _ => none) (by intro d; first | exact ⟨rfl, fun _ h => h⟩ | (split <;> exact ⟨rfl, fun _ h => h⟩)) ?_
  simp
  refine ⟨⟨by simpa using k13, by simpa using k14⟩, ?_⟩
  refine LWp.seq ?_
  refine LWp.regAny hT hW hMixed (lk [[],[0],[0,1],[0,1,2],[0,1,2,3],[0,1,2,3,4],[0,1,2,3,4,5],[0,1,2,3,4,5,6],[0,1,2,3,4,5,6,7],[0,1,2,3,4,5,6,7,8],[0,1,2,3,4,5,6,7,8,9],[0,1,2,3,4,5,6,7,8,9],[0,1,2,3,4,5,6,7,8,9],[0,1,2,3,4,5,6,7,8,9,12],[0,1,2,3,4,5,6,7,8,9],[0,1,2,3,4,5,6,7,8,9,14],[0,1,2,3,4,5,6,7,8,9,14,15],[0,1,2,3,4,5,6,7,8,9,14,15,16],[0,1,2,3,4,5,6,7,8,9,11,12,13,14,15,16,17],[0,1,2,3,4,5,6,7,8,9,10,11,12,13,14,15,16,17,18],[0,1,2,3,4,5,6,7,8,9,10,11,12,13,14,15,16,17,18,19],[0,1,2,3,4,5,6,7,8,9,10,11,12,13,14,15,16,17,18,19,20]]) (lk [[],[],[],[],[],[],[],[],[],[],[233],[233],[],[],[233],[233],[233],[233],[],[],[],[]]) (lk [[],[],[],[],[],[],[],[],[],[],[],[],[],[233],[],[],[],[],[],[239],[],[]]) (by kernel_rfl) (fun | 239 => some <| .plain ⟨.d (.bool true), true⟩ | _ => none) (by intro d; first | exact ⟨rfl, fun _ h => h⟩ | (split <;> exact ⟨rfl, fun _ h => h⟩)) ?_
  simp
  refine ⟨by simpa using k15, ?_⟩
  refine LWp.ret ?_
  simp
end Go.Eng
namespace Go.Eng
open Go.Proofs
attribute [local simp] runL stepL evalG evalOp opLV constLV putEnv dstOk upd upds Res.plain Res.cond Res.fail evalBin evalUn seqQ blockQ argsEnv lookL lookH RetIs memless freshL evalPick evalMin bval bok evalLen evalIn strip whenC guardOps guardC slotsOf
  runM foldS stepI stepM maskE wrIn lk renO lookN evalCall evalCallee optAll resLV resObj retLV retObj retsLV retsObj evalLoad evalIndexAddr evalField solid cellsD_agg cellsD_int cellsD_bool cellsD_str cellsD_sl cellsD_ro cellsD_fn cellsL_agg cellsL_dagg cellsL_int cellsL_bool cellsL_str cellsL_sl cellsL_fn cellsL_ow cellsL_bx cellsL_lfn cellsL_nl takeL takeD mkAgg allD eqD eqDs kindsAre kindIs LObj.live TK.isNone TK.agg TK.isBool TK.isStr TK.isStruct Op.operands Call.operands
  evalBuildSlice evalAppend elemsOf evalStore evalBuild fillL lookupF putL evalSlice bound evalConv elemsS freezes frozen loadR
  mkEnv_at mkObs_at close_d close_agg close_ow close_bx close_fn close_nl touch_d touch_agg touch_ow touch_bx touch_fn touch_nl ren_d ren_agg ren_bx ren_rp ren_ow ren_fn ren_nl ren_junk retQ_ret retQ2_ret condQ_bool Nm.d Df.d Ed.d nmsD dfsD strsD edsD retC_ret nm_eq df_eq take_map_len take_map_app
  nm_t nm_d nm_td df_t df_d df_td str_t str_d str_td ed_t ed_d ed_td
  evalAppendIn evalCut evalClear evalCopy evalMake evalWrap evalCap evalNil isNilC lenL isInp gorc
  mapOf findD keyEq keyOk evalMakeMap evalRange zeroD zeroDV argsG shutG outN lenv retG0_ret retG0_normal retG1_ret renO close_mp touch_mp ren_mp optAll_d optAll_d' touch_ds cellsL_mp cellsD_mp cellsL_dmp
  evalMapSet evalPtr TK.isPtr evalToArr firstL retN_ret retsQ rvarL close_bm touch_bm ren_bm cellsD_bm cellsL_bm cellsL_lbm
attribute [local simp] cutQ_normal cutQ_ret cutQ_exit
set_option maxRecDepth 10000
set_option maxHeartbeats 2000000
open Go.Proofs
set_option maxRecDepth 10000
set_option maxHeartbeats 2000000
attribute [local simp] dF1 dF2 dF3 dF4 dF5 prD
theorem lists3_ok (l : List Int) (how b : Int) (hr : ∀ n ∈ l, -9223372036854775808 ≤ n ∧ n ≤ 9223372036854775807) (h1 : -9223372036854775808 ≤ b) (h2 : b ≤ 9223372036854775807) (h3 : -9223372036854775808 ≤ how) (h4 : how ≤ 9223372036854775807) : OkR Tryz.prog 9 [.sl (l.map I64), I64 how, I64 b] (fun r => (fun v => ∃ L1 L2 : List Ed, SpB (madeL l) L1 ∧ SpB L1 L2 ∧ v = .d (.sl [edsD (madeL l), edsD L1, edsD L2, .sl []])) r.v ∧ r.fresh = false) := by
  refine OkR.ret (Rel := fun v => ∃ L1 L2 : List Ed, SpB (madeL l) L1 ∧ SpB L1 L2 ∧ v = .d (.sl [edsD (madeL l), edsD L1, edsD L2, .sl []])) Tryz.func9 (by kernel_rfl) (c := _) rfl Tryz.ntmps9 (by simp) Tryz.results9 fun w0 X hp => ?_
  refine LWp.seq ?_
  refine LWp.reg hT hW (fun _ => none) (fun _ => ⟨rfl, fun _ h => h⟩) ?_
  simp
  refine LWp.seq ?_
  have hal := madeL_len l
  have han := made_needs l
  have has := made_small l
  have hok := Made_ok l hr
  obtain ⟨a, haa⟩ : ∃ a, a = madeL l := ⟨_, rfl⟩
  rw [← haa] at hal han has hok
  refine LWp.reg hT hW (fun | 10 => some <| .plain ⟨.d (edsD a), false⟩ | _ => none) (by intro d; first | exact ⟨rfl, fun _ h => h⟩ | (split <;> exact ⟨rfl, fun _ h => h⟩)) ?_
  simp
  refine ⟨hok, ?_⟩
  refine LWp.seq ?_
  refine LWp.regRel hT hW 14 (fun r => (∃ L : List Ed, SpB a L ∧ r.v = .d (edsD L)) ∧ r.fresh = false) false ⟨.d (edsD a), false⟩ ⟨⟨⟨a, SpB.refl a, rfl⟩, rfl⟩, rfl⟩ (fun | 99 => none | _ => none) (by intro d; first | exact ⟨rfl, fun _ h => h⟩ | (split <;> exact ⟨rfl, fun _ h => h⟩)) (by kernel_rfl) fun r2 hr2 => ?_
  obtain ⟨v2, f2⟩ := r2
  obtain ⟨⟨L1, hL1, hv⟩, hf⟩ := hr2
  dsimp only at hv hf
  subst hv; subst hf
  obtain ⟨b1, b2, b3, b4⟩ : L1.length ≤ 73 ∧ (allNeeds L1).length ≤ 37 ∧ small L1 ∧ True := by
    have q := hL1.parts 4 fun e he => (made_mem (l := l) (haa ▸ he)).2
    exact ⟨by have := hL1.len; omega, by have := hL1.needs; omega, fun e he => by have := q e he; omega, trivial⟩
  simp
  refine ⟨Spoilt_ok a how b (by omega) has (by omega) h1 h2 h3 h4, ?_⟩
  refine LWp.seq ?_
  refine LWp.regRel hT hW 20 (fun r => (∃ L : List Ed, SpB L1 L ∧ r.v = .d (edsD L)) ∧ r.fresh = false) false ⟨.d (edsD L1), false⟩ ⟨⟨⟨L1, SpB.refl L1, rfl⟩, rfl⟩, rfl⟩ (fun | 99 => none | _ => none) (by intro d; first | exact ⟨rfl, fun _ h => h⟩ | (split <;> exact ⟨rfl, fun _ h => h⟩)) (by kernel_rfl) fun r3 hr3 => ?_
  obtain ⟨v3, f3⟩ := r3
  obtain ⟨⟨L2, hL2, hv⟩, hf⟩ := hr3
  dsimp only at hv hf
  subst hv; subst hf
  simp
  refine ⟨⟨Spoilt_ok L1 b how (by omega) b3 (by omega) h3 h4 h1 h2, by decide⟩, ?_⟩
  refine LWp.ret ?_
  refine retR_ret.2 ⟨_, ⟨L1, haa ▸ hL1, L2, hL2, rfl⟩, by simp, ?_⟩
  simp [haa]
end Go.Eng
