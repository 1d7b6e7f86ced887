/-
  Texts of the proofs of this seat, part 8. No condition.
-/
import Derived.Test.YteklgabeddpinaaGreatMG
import Derived.Deep.Strs
import Derived.Deep.Slices
set_option linter.unusedVariables false
set_option linter.unusedSimpArgs false
namespace Go.Eng
open Go.Proofs
attribute [local simp] runL stepL evalG evalOp opLV constLV putEnv dstOk upd upds Res.plain Res.cond Res.fail evalBin evalUn seqQ blockQ argsEnv lookL lookH RetIs memless freshL evalPick evalMin bval bok evalLen evalIn strip whenC guardOps guardC slotsOf
  runM foldS stepI stepM maskE wrIn lk renO lookN evalCall evalCallee optAll resLV resObj retLV retObj retsLV retsObj evalLoad evalIndexAddr evalField solid cellsD_agg cellsD_int cellsD_bool cellsD_str cellsD_sl cellsD_ro cellsD_fn cellsL_agg cellsL_dagg cellsL_int cellsL_bool cellsL_str cellsL_sl cellsL_fn cellsL_ow cellsL_bx cellsL_lfn cellsL_nl takeL takeD mkAgg allD eqD eqDs kindsAre kindIs LObj.live TK.isNone TK.agg TK.isBool TK.isStr TK.isStruct Op.operands Call.operands
  evalBuildSlice evalAppend elemsOf evalStore evalBuild fillL lookupF putL evalSlice bound evalConv elemsS freezes frozen loadR
  mkEnv_at mkObs_at close_d close_agg close_ow close_bx close_fn close_nl touch_d touch_agg touch_ow touch_bx touch_fn touch_nl ren_d ren_agg ren_bx ren_rp ren_ow ren_fn ren_nl ren_junk retQ_ret retQ2_ret condQ_bool Nm.d Df.d Ed.d nmsD dfsD strsD edsD retC_ret nm_eq df_eq take_map_len take_map_app
  nm_t nm_d nm_td df_t df_d df_td str_t str_d str_td ed_t ed_d ed_td
  evalAppendIn evalCut evalClear evalCopy evalMake evalWrap evalCap evalNil isNilC lenL isInp gorc
  mapOf findD keyEq keyOk evalMakeMap evalRange zeroD zeroDV argsG shutG outN lenv retG0_ret retG0_normal retG1_ret renO close_mp touch_mp ren_mp optAll_d optAll_d' touch_ds cellsL_mp cellsD_mp cellsL_dmp
  evalMapSet evalPtr TK.isPtr evalToArr firstL retN_ret retsQ rvarL close_bm touch_bm ren_bm cellsD_bm cellsL_bm cellsL_lbm
attribute [local simp] cutQ_normal cutQ_ret cutQ_exit
set_option maxRecDepth 10000
set_option maxHeartbeats 4400000
attribute [local simp] dF1 dF2 dF3 dF4 dF5 dP1 dP2 prD
def putK (first : List Str) (k : Nat) (l : List Df) : List Df := l.filter fun d => decide (d.name ∈ first) == decide ((k : Int) = 0)
def dropK (first : List Str) (k : Nat) (l : List Str) : List Str := l.filter fun s => decide (s ∈ first) == decide ((k : Int) = 0)
theorem split_k0 (e : Ed) (first : List Str) (n : Nm) : splitE e first n true = ⟨n, e.needs, putK first 0 e.puts, dropK first 0 e.drops⟩ := rfl
theorem split_k1 (e : Ed) (first : List Str) (n : Nm) : splitE e first n false = ⟨n, e.needs, putK first 1 e.puts, dropK first 1 e.drops⟩ := rfl
def boxS (e : Ed) (first : List Str) (n m : Nm) : Nat → Nat → Nat → List LV
  | 0, p, d => [.d (I64 n.who), .d (I64 n.seq), .ow 75 0 e.needs.length, .ow 1107 0 p, .ow 1138 0 d, .d (I64 0), .d (I64 0), .nl, .nl, .nl]
  | _, p, d => [.d (I64 n.who), .d (I64 n.seq), .ow 2075 0 e.needs.length, .ow 3107 0 (putK first 0 e.puts).length, .ow 3138 0 (dropK first 0 e.drops).length, .d (I64 m.who), .d (I64 m.seq), .ow 75 0 e.needs.length, .ow 1107 0 p, .ow 1138 0 d]
def boxA (e : Ed) (first : List Str) (n m : Nm) : Nat → List LV
  | 0 => [.d (I64 0), .d (I64 0), .nl, .nl, .nl, .d (I64 0), .d (I64 0), .nl, .nl, .nl]
  | 1 => [.d (I64 n.who), .d (I64 n.seq), .ow 2075 0 e.needs.length, .ow 3107 0 (putK first 0 e.puts).length, .ow 3138 0 (dropK first 0 e.drops).length, .d (I64 0), .d (I64 0), .nl, .nl, .nl]
  | _ => boxS e first n m 1 (putK first 1 e.puts).length (dropK first 1 e.drops).length
def oldN (e : Ed) : Nat → LObj | 0 => .absent | _ => .row false 2 (e.needs.map Nm.d)
def oldP (e : Ed) (first : List Str) : Nat → LObj | 0 => .absent | _ => .row false 2 ((putK first 0 e.puts).map Df.d)
def oldD (e : Ed) (first : List Str) : Nat → LObj | 0 => .absent | _ => .row false 1 ((dropK first 0 e.drops).map .str)
def nowN (e : Ed) : Nat → LObj | 0 => .absent | 1 => .absent | _ => .row false 2 (e.needs.map Nm.d)
def nowP (e : Ed) (first : List Str) : Nat → LObj | 0 => .absent | 1 => .absent | _ => .row false 2 ((putK first 1 e.puts).map Df.d)
def nowD (e : Ed) (first : List Str) : Nat → LObj | 0 => .absent | 1 => .absent | _ => .row false 1 ((dropK first 1 e.drops).map .str)
def nilS (e : Ed) (first : List Str) (n m : Nm) : Nat → List LV
  | 0 => [.d (I64 n.who), .d (I64 n.seq), .ow 75 0 e.needs.length, .nl, .nl, .d (I64 0), .d (I64 0), .nl, .nl, .nl]
  | _ => [.d (I64 n.who), .d (I64 n.seq), .ow 2075 0 e.needs.length, .ow 3107 0 (putK first 0 e.puts).length, .ow 3138 0 (dropK first 0 e.drops).length, .d (I64 m.who), .d (I64 m.seq), .ow 75 0 e.needs.length, .nl, .nl]
def nilT (e : Ed) (first : List Str) (n m : Nm) : Nat → List LV
  | 0 => [.d (I64 n.who), .d (I64 n.seq), .ow 75 0 e.needs.length, .ow 1107 0 0, .nl, .d (I64 0), .d (I64 0), .nl, .nl, .nl]
  | _ => [.d (I64 n.who), .d (I64 n.seq), .ow 2075 0 e.needs.length, .ow 3107 0 (putK first 0 e.puts).length, .ow 3138 0 (dropK first 0 e.drops).length, .d (I64 m.who), .d (I64 m.seq), .ow 75 0 e.needs.length, .ow 1107 0 0, .nl]
section
variable (e : Ed) (first : List Str) (n m : Nm) (p d : Nat)
theorem boxS0 : boxS e first n m 0 p d = [.d (I64 n.who), .d (I64 n.seq), .ow 75 0 e.needs.length, .ow 1107 0 p, .ow 1138 0 d, .d (I64 0), .d (I64 0), .nl, .nl, .nl] := rfl
theorem boxS1 : boxS e first n m 1 p d = [.d (I64 n.who), .d (I64 n.seq), .ow 2075 0 e.needs.length, .ow 3107 0 (putK first 0 e.puts).length, .ow 3138 0 (dropK first 0 e.drops).length, .d (I64 m.who), .d (I64 m.seq), .ow 75 0 e.needs.length, .ow 1107 0 p, .ow 1138 0 d] := rfl
theorem boxA0 : boxA e first n m 0 = [.d (I64 0), .d (I64 0), .nl, .nl, .nl, .d (I64 0), .d (I64 0), .nl, .nl, .nl] := rfl
theorem boxA1 : boxA e first n m 1 = [.d (I64 n.who), .d (I64 n.seq), .ow 2075 0 e.needs.length, .ow 3107 0 (putK first 0 e.puts).length, .ow 3138 0 (dropK first 0 e.drops).length, .d (I64 0), .d (I64 0), .nl, .nl, .nl] := rfl
theorem boxA2 : boxA e first n m 2 = [.d (I64 n.who), .d (I64 n.seq), .ow 2075 0 e.needs.length, .ow 3107 0 (putK first 0 e.puts).length, .ow 3138 0 (dropK first 0 e.drops).length, .d (I64 m.who), .d (I64 m.seq), .ow 75 0 e.needs.length, .ow 1107 0 (putK first 1 e.puts).length, .ow 1138 0 (dropK first 1 e.drops).length] := rfl
theorem nilS0 : nilS e first n m 0 = [.d (I64 n.who), .d (I64 n.seq), .ow 75 0 e.needs.length, .nl, .nl, .d (I64 0), .d (I64 0), .nl, .nl, .nl] := rfl
theorem nilS1 : nilS e first n m 1 = [.d (I64 n.who), .d (I64 n.seq), .ow 2075 0 e.needs.length, .ow 3107 0 (putK first 0 e.puts).length, .ow 3138 0 (dropK first 0 e.drops).length, .d (I64 m.who), .d (I64 m.seq), .ow 75 0 e.needs.length, .nl, .nl] := rfl
theorem nilT0 : nilT e first n m 0 = [.d (I64 n.who), .d (I64 n.seq), .ow 75 0 e.needs.length, .ow 1107 0 0, .nl, .d (I64 0), .d (I64 0), .nl, .nl, .nl] := rfl
theorem nilT1 : nilT e first n m 1 = [.d (I64 n.who), .d (I64 n.seq), .ow 2075 0 e.needs.length, .ow 3107 0 (putK first 0 e.puts).length, .ow 3138 0 (dropK first 0 e.drops).length, .d (I64 m.who), .d (I64 m.seq), .ow 75 0 e.needs.length, .ow 1107 0 0, .nl] := rfl
theorem oldN0 : oldN e 0 = .absent := rfl
theorem oldN1 : oldN e 1 = .row false 2 (e.needs.map Nm.d) := rfl
theorem oldN2 : oldN e 2 = .row false 2 (e.needs.map Nm.d) := rfl
theorem oldP0 : oldP e first 0 = .absent := rfl
theorem oldP1 : oldP e first 1 = .row false 2 ((putK first 0 e.puts).map Df.d) := rfl
theorem oldP2 : oldP e first 2 = .row false 2 ((putK first 0 e.puts).map Df.d) := rfl
theorem oldD0 : oldD e first 0 = .absent := rfl
theorem oldD1 : oldD e first 1 = .row false 1 ((dropK first 0 e.drops).map .str) := rfl
theorem oldD2 : oldD e first 2 = .row false 1 ((dropK first 0 e.drops).map .str) := rfl
theorem nowN0 : nowN e 0 = .absent := rfl
theorem nowN1 : nowN e 1 = .absent := rfl
theorem nowN2 : nowN e 2 = .row false 2 (e.needs.map Nm.d) := rfl
theorem nowP0 : nowP e first 0 = .absent := rfl
theorem nowP1 : nowP e first 1 = .absent := rfl
theorem nowP2 : nowP e first 2 = .row false 2 ((putK first 1 e.puts).map Df.d) := rfl
theorem nowD0 : nowD e first 0 = .absent := rfl
theorem nowD1 : nowD e first 1 = .absent := rfl
theorem nowD2 : nowD e first 2 = .row false 1 ((dropK first 1 e.drops).map .str) := rfl
end
attribute [local simp] boxS0 boxS1 boxA0 boxA1 boxA2 nilS0 nilS1 nilT0 nilT1 oldN0 oldN1 oldN2 oldP0 oldP1 oldP2 oldD0 oldD1 oldD2 nowN0 nowN1 nowN2 nowP0 nowP1 nowP2 nowD0 nowD1 nowD2
theorem putK_succ {first : List Str} {k i : Nat} {l : List Df} (h : i < l.length) : putK first k (l.take (i + 1)) = putK first k (l.take i) ++ if (decide (l[i].name ∈ first) == decide ((k : Int) = 0)) = true then [l[i]] else [] := by
  unfold putK
  rw [List.take_succ_eq_append_getElem h, List.filter_append]
  congr 1
  rw [List.filter_cons, List.filter_nil]
theorem dropK_succ {first : List Str} {k i : Nat} {l : List Str} (h : i < l.length) : dropK first k (l.take (i + 1)) = dropK first k (l.take i) ++ if (decide (l[i] ∈ first) == decide ((k : Int) = 0)) = true then [l[i]] else [] := by
  unfold dropK
  rw [List.take_succ_eq_append_getElem h, List.filter_append]
  congr 1
  rw [List.filter_cons, List.filter_nil]
theorem tch_nil {e : Ed} : tchN e = [] ↔ touches e = [] := by
  rw [List.eq_nil_iff_forall_not_mem, List.eq_nil_iff_forall_not_mem]
  exact forall_congr' fun s => not_congr mem_tchN
theorem RSplit_ok (e : Ed) (first : List Str) (n m : Nm) (hs : e.small) (hnl : e.needs.length ≤ 1100000) : Ok Tryz.prog 28 [e.d, strsD first, prD (n, m)] ⟨.tup [.d (edsP (splitV e first n m).1), .d (I64 (splitV e first n m).2)], false⟩ := by
  refine Ok.many hT Tryz.func28 (by kernel_rfl) (c := _) rfl Tryz.ntmps28 (by simp) Tryz.results28 (by simp) (by rfl) fun w0 X hp => ?_
  refine LWp.len (t := 1) (xs := first.map .str) (by simp) fun hlen => ?_
  simp at hlen
  refine LWp.seq ?_
  refine LWp.reg hT hW (fun _ => none) (fun _ => ⟨rfl, fun _ h => h⟩) ?_
  simp
  refine LWp.seq ?_
  refine LWp.reg hT hW (fun _ => none) (fun _ => ⟨rfl, fun _ h => h⟩) ?_
  simp
  refine LWp.seq ?_
  refine LWp.seq ?_
  refine LWp.reg hT hW (fun | 14 => some <| .plain ⟨.d (.bool (properE e)), true⟩ | 19 => some <| .plain ⟨.d (.bool n.isName), true⟩ | 25 => some <| .plain ⟨.d (.bool m.isName), true⟩ | _ => none) (by intro d; first | exact ⟨rfl, fun _ h => h⟩ | (split <;> exact ⟨rfl, fun _ h => h⟩)) ?_
  simp
  refine ⟨⟨⟨by simpa using Possible_ok e hs.1 hs.2 hnl, by intros; exact IsName_ok n⟩, by intros; exact IsName_ok m⟩, ?_⟩
  refine LWp.iff ?_
  simp
  refine ⟨fun h2 => ?_, fun h2 p2 q2 => ?_⟩
  · refine LWp.seq ?_
    refine LWp.reg hT hW (fun _ => none) (fun _ => ⟨rfl, fun _ h => h⟩) ?_
    simp
    refine LWp.ret ?_
    have e1 : splitV e first n m = (default, 1) := by
      unfold splitV
      rw [if_pos]
      rcases h2 with (h | h) | h
      · exact .inl h
      · exact .inr (.inl h)
      · exact .inr (.inr h)
    simp [e1, edsP]
  · refine LWp.skip ?_
    simp
    refine LWp.seq ?_
    refine LWp.seq ?_
    refine LWp.reg hT hW (fun | 39 => some <| .plain ⟨.d (.bool (decide (n ∈ e.needs))), true⟩ | 46 => some <| .plain ⟨.d (.bool (decide (m ∈ e.needs))), true⟩ | _ => none) (by intro d; first | exact ⟨rfl, fun _ h => h⟩ | (split <;> exact ⟨rfl, fun _ h => h⟩)) ?_
    simp
    refine ⟨⟨by intros; exact Has_ok _ _, by intros; exact Has_ok _ _⟩, ?_⟩
    refine LWp.iff ?_
    simp
    refine ⟨fun h4 => ?_, fun h4 p4 q4 => ?_⟩
    · refine LWp.seq ?_
      refine LWp.reg hT hW (fun _ => none) (fun _ => ⟨rfl, fun _ h => h⟩) ?_
      simp
      refine LWp.ret ?_
      have e1 : splitV e first n m = (default, 7) := by
        unfold splitV
        rw [if_neg (by simp [h2, p2, q2]), if_pos]
        rcases h4 with (h | h) | h
        · exact .inl h
        · exact .inr (.inl h)
        · exact .inr (.inr h)
      simp [e1, edsP]
    · refine LWp.skip ?_
      simp
      refine LWp.seq ?_
      refine LWp.seq ?_
      have hgo : splitV e first n m = if first.any (fun s => decide (s ∉ touches e)) = true then (default, 6) else if touches (splitE e first n true) = [] ∨ touches (splitE e first m false) = [] then (default, 15)
          else ((splitE e first n true, splitE e first m false), 0) := by
        unfold splitV
        rw [if_neg (by simp [h2, p2, q2]), if_neg (by simp [h4, p4, q4])]
      refine LWp.reg hT hW (fun _ => none) (fun _ => ⟨rfl, fun _ h => h⟩) ?_
      simp
      refine LWp.block ?_
      refine LWp.loopW (ι := Nat) (fun i => mkEnv [(1, .d (strsD first)), (3, .bx 3 0), (5, .bx 5 0), (6, .bx 6 0), (7, .d (I64 0)), (8, .bx 8 0), (9, .d (I64 i))]) (fun i => mkObs [(3, .box false ((cellsD e.d).map .d)), (5, .box false [.d (I64 n.who), .d (I64 n.seq), .d (I64 m.who), .d (I64 m.seq)]), (6, .box false (boxA e first n m 0)), (8, .box false (boxA e first n m 0))]) (fun i => i ≤ first.length ∧ Pre (fun s => !decide (s ∈ tchN e)) first i) (fun i => first.length - i) 0 (Weak.to [1, 3, 5, 6, 7, 8, 9] [(3, 3), (5, 5), (6, 6), (8, 8)] (by decide) (by decide) (by simp [hp]) (by simp) (by simp)) (⟨Nat.zero_le _, Pre.zero⟩) fun i hi7 => ?_
      refine LWp.seq ?_
      refine LWp.seq ?_
      refine LWp.reg hT hW (fun _ => none) (fun _ => ⟨rfl, fun _ h => h⟩) ?_
      simp
      refine LWp.iff ?_
      simp
      refine ⟨fun h7 => ?_, fun h7 => ?_⟩
      · refine LWp.skip ?_
        simp
        refine LWp.seq ?_
        refine LWp.block ?_
        refine LWp.seq ?_
        refine LWp.regAny hT hW hMixed (lk [[],[0],[],[],[2,3],[2,3,4],[0,1,2,3,4,5],[0,1,2,3,4,5,6]]) (lk [[],[],[56],[56],[56],[56],[],[]]) (lk [[],[56],[],[],[],[],[61],[]]) (by kernel_rfl) (fun | 56 => some <| .plain ⟨.d (strsD (tchN e)), true⟩ | 61 => some <| .plain ⟨.d (.bool (decide (first[i] ∈ tchN e))), true⟩ | _ => none) (by intro d; first | exact ⟨rfl, fun _ h => h⟩ | (split <;> exact ⟨rfl, fun _ h => h⟩)) ?_
        simp [h7]
        refine ⟨⟨by simpa using Touches23_ok e hs, In_ok _ _⟩, ?_⟩
        refine LWp.iff ?_
        simp
        refine ⟨fun h9 => ?_, fun h9 => ?_⟩
        · refine LWp.seq ?_
          refine LWp.reg hT hW (fun _ => none) (fun _ => ⟨rfl, fun _ h => h⟩) ?_
          simp
          refine LWp.ret ?_
          have e1 : splitV e first n m = (default, 6) := by
            rw [hgo, if_pos (List.any_eq_true.2 ⟨_, List.getElem_mem h7, by simpa [mem_tchN] using h9⟩)]
          simp [e1, edsP]
        · refine LWp.skip ?_
          simp
          refine LWp.reg hT hW (fun _ => none) (fun _ => ⟨rfl, fun _ h => h⟩) ?_
          simp
          refine ⟨by omega, ?_⟩
          refine loopQ.mk (i + 1) (Weak.to [1, 3, 5, 6, 7, 8, 9] [(3, 3), (5, 5), (6, 6), (8, 8)] (by decide) (by decide) (by simp [hp]) (by simp) (by simp)) ?_ ?_
          · exact ⟨h7, hi7.2.succ h7 (by simpa using h9)⟩
          · omega
      · refine LWp.exit ?_
        simp
        refine LWp.seq ?_
        refine LWp.seq ?_
        have hany : ¬ first.any (fun s => decide (s ∉ touches e)) = true := by
          have h := hi7.2.any (by omega)
          simp only [mem_tchN] at h
          simpa using h
        rw [if_neg hany] at hgo
        refine LWp.reg hT hW (fun _ => none) (fun _ => ⟨rfl, fun _ h => h⟩) ?_
        simp
        refine LWp.block ?_
        refine LWp.loopW (ι := Nat) (fun k => mkEnv [(1, .d (strsD first)), (3, .bx 3 0), (5, .bx 5 0), (6, .bx 6 0), (7, .d (I64 0)), (8, .bx 8 0), (10, .d (I64 k))]) (fun k => mkObs [(3, .box false ((cellsD e.d).map .d)), (5, .box false [.d (I64 n.who), .d (I64 n.seq), .d (I64 m.who), .d (I64 m.seq)]), (6, .box false (boxA e first n m 0)), (8, .box false (boxA e first n m k)), (2075, oldN e k), (3107, oldP e first k), (3138, oldD e first k), (75, nowN e k), (1107, nowP e first k), (1138, nowD e first k)]) (fun k => k ≤ 2) (fun k => 2 - k) 0 (Weak.to [1, 3, 5, 6, 7, 8, 10] [(3, 3), (5, 5), (6, 6), (8, 8), (2075, 2075), (3107, 3107), (3138, 3138), (75, 75), (1107, 1107), (1138, 1138)] (by decide) (by decide) (by simp [hp]) (by simp) (by simp)) (by simp) fun k hi12 => ?_
        refine LWp.seq ?_
        refine LWp.seq ?_
        refine LWp.reg hT hW (fun _ => none) (fun _ => ⟨rfl, fun _ h => h⟩) ?_
        simp
        refine LWp.iff ?_
        simp
        refine ⟨fun h12 => ?_, fun h12 => ?_⟩
        · refine LWp.skip ?_
          simp
          refine LWp.seq ?_
          refine LWp.block ?_
          refine LWp.seq ?_
          rcases (by omega : k = 0 ∨ k = 1) with rfl | rfl
          · refine LWp.regAny hT hW hMixed (lk [[],[],[1],[1,2],[],[],[5],[4,5,6],[1,2,3,4,5,6,7],[0,1,2,3,4,5,6,7,8],[0,1,2,3,4,5,6,7,8,9]]) (lk [[72,75],[72,75],[72,75],[72,75],[],[72],[72],[],[],[],[]]) (lk [[],[],[],[],[72],[],[],[72,75],[],[],[8]]) (by kernel_rfl) (fun _ => none) (fun _ => ⟨rfl, fun _ h => h⟩) ?_
            simp
            refine ⟨⟨by omega, by omega⟩, ?_⟩
            refine LWp.nlCell (fz := false) (cs := nilS e first n m 0) 8 (3 + 5 * 0) 1107 2 (by decide) ⟨by simp, by simp, by simp, ?_⟩
            refine LWp.nlCell (fz := false) (cs := nilT e first n m 0) 8 (4 + 5 * 0) 1138 1 (by decide) ⟨by simp, by simp, by simp, ?_⟩
            simp
            refine LWp.seq ?_
            refine LWp.seq ?_
            refine LWp.reg hT hW (fun _ => none) (fun _ => ⟨rfl, fun _ h => h⟩) ?_
            simp
            refine LWp.block ?_
            refine LWp.loopW (ι := Nat × List Df) (fun ⟨i, ps⟩ => mkEnv [(1, .d (strsD first)), (3, .bx 3 0), (5, .bx 5 0), (6, .bx 6 0), (7, .d (I64 0)), (8, .bx 8 0), (10, .d (I64 0)), (11, .d (I64 i))]) (fun ⟨i, ps⟩ => mkObs [(3, .box false ((cellsD e.d).map .d)), (5, .box false [.d (I64 n.who), .d (I64 n.seq), .d (I64 m.who), .d (I64 m.seq)]), (6, .box false (boxA e first n m 0)), (8, .box false (boxS e first n m 0 ps.length 0)), (75, .row false 2 (e.needs.map Nm.d)), (1107, .row false 2 (ps.map Df.d)), (1138, .row false 1 []), (2075, oldN e 0), (3107, oldP e first 0), (3138, oldD e first 0)]) (fun ⟨i, ps⟩ => i ≤ e.puts.length ∧ ps.length ≤ i ∧ ps = putK first 0 (e.puts.take i)) (fun ⟨i, ps⟩ => e.puts.length - i) (0, []) (Weak.to [1, 3, 5, 6, 7, 8, 10, 11] [(3, 3), (5, 5), (6, 6), (8, 8), (75, 75), (1107, 1107), (1138, 1138), (2075, 2075), (3107, 3107), (3138, 3138)] (by decide) (by decide) (by simp [hp]) (by simp) (by simp)) (by simp [putK]) fun ⟨i, ps⟩ hi16 => ?_
            refine LWp.seq ?_
            refine LWp.seq ?_
            refine LWp.reg hT hW (fun _ => none) (fun _ => ⟨rfl, fun _ h => h⟩) ?_
            simp
            refine LWp.iff ?_
            simp
            refine ⟨fun h16 => ?_, fun h16 => ?_⟩
            · refine LWp.skip ?_
              simp
              refine LWp.seq ?_
              refine LWp.block ?_
              refine LWp.seq ?_
              refine LWp.reg hT hW (fun | 92 => some <| .plain ⟨.d (.bool (decide (e.puts[i].name ∈ first))), true⟩ | _ => none) (by intro d; first | exact ⟨rfl, fun _ h => h⟩ | (split <;> exact ⟨rfl, fun _ h => h⟩)) ?_
              simp [h16]
              refine ⟨In_ok _ _, ?_⟩
              refine LWp.iff ?_
              simp
              refine ⟨fun h18 => ?_, fun h18 => ?_⟩
              · refine LWp.regAny hT hW hMixed (lk [[],[],[1],[1,2],[1,2,3],[],[5],[],[5,6,7],[5,6,7,8],[5,6,7,8,9],[1,2,3,4,5,6,7,8,9,10],[0,1,2,3,4,5,6,7,8,9,10,11],[0,1,2,3,4,5,6,7,8,9,10,11,12],[0,1,2,3,4,5,6,7,8,9,10,11,12,13]]) (lk [[100,106,107],[106],[106],[106],[106],[],[],[],[],[],[],[],[],[],[]]) (lk [[],[],[],[],[],[],[],[],[],[],[106],[100,107],[],[],[8]]) (by kernel_rfl) (fun _ => none) (fun _ => ⟨rfl, fun _ h => h⟩) ?_
                simp [h16]
                refine ⟨⟨by have := hi16.2.1; have := hs.1; omega, by have := hi16.2.1; have := hs.1; omega⟩, ?_⟩
                refine LWp.reg hT hW (fun _ => none) (fun _ => ⟨rfl, fun _ h => h⟩) ?_
                simp
                refine ⟨by have := hs.1; omega, ?_⟩
                refine loopQ.mk (i + 1, ps ++ [e.puts[i]]) (Weak.to [1, 3, 5, 6, 7, 8, 10, 11] [(3, 3), (5, 5), (6, 6), (8, 8), (75, 75), (107, 1107), (1138, 1138), (2075, 2075), (3107, 3107), (3138, 3138)] (by decide) (by decide) (by simp [hp]) (by simp) (by simp)) ?_ ?_
                · refine ⟨h16, by have := hi16.2.1; simp; omega, ?_⟩
                  dsimp only
                  rw [putK_succ h16, ← hi16.2.2, if_pos (by simp [h18])]
                · omega
              · refine LWp.skip ?_
                simp
                refine LWp.reg hT hW (fun _ => none) (fun _ => ⟨rfl, fun _ h => h⟩) ?_
                simp
                refine ⟨by have := hs.1; omega, ?_⟩
                refine loopQ.mk (i + 1, ps) (Weak.to [1, 3, 5, 6, 7, 8, 10, 11] [(3, 3), (5, 5), (6, 6), (8, 8), (75, 75), (1107, 1107), (1138, 1138), (2075, 2075), (3107, 3107), (3138, 3138)] (by decide) (by decide) (by simp [hp]) (by simp) (by simp)) ?_ ?_
                · refine ⟨h16, by have := hi16.2.1; dsimp only; omega, ?_⟩
                  dsimp only
                  rw [putK_succ h16, ← hi16.2.2, if_neg (by simp [h18]), List.append_nil]
                · omega
            · refine LWp.exit ?_
              simp
              refine LWp.seq ?_
              have hps : ps = putK first 0 e.puts := by rw [hi16.2.2, List.take_of_length_le (by omega)]
              refine LWp.reg hT hW (fun _ => none) (fun _ => ⟨rfl, fun _ h => h⟩) ?_
              simp
              refine LWp.block ?_
              refine LWp.loopW (ι := Nat × List Str) (fun ⟨j, ds⟩ => mkEnv [(1, .d (strsD first)), (3, .bx 3 0), (5, .bx 5 0), (6, .bx 6 0), (7, .d (I64 0)), (8, .bx 8 0), (10, .d (I64 0)), (12, .d (I64 j))]) (fun ⟨j, ds⟩ => mkObs [(3, .box false ((cellsD e.d).map .d)), (5, .box false [.d (I64 n.who), .d (I64 n.seq), .d (I64 m.who), .d (I64 m.seq)]), (6, .box false (boxA e first n m 0)), (8, .box false (boxS e first n m 0 ps.length ds.length)), (75, .row false 2 (e.needs.map Nm.d)), (1107, .row false 2 (ps.map Df.d)), (1138, .row false 1 (ds.map .str)), (2075, oldN e 0), (3107, oldP e first 0), (3138, oldD e first 0)]) (fun ⟨j, ds⟩ => j ≤ e.drops.length ∧ ds.length ≤ j ∧ ds = dropK first 0 (e.drops.take j)) (fun ⟨j, ds⟩ => e.drops.length - j) (0, []) (Weak.to [1, 3, 5, 6, 7, 8, 10, 12] [(3, 3), (5, 5), (6, 6), (8, 8), (75, 75), (1107, 1107), (1138, 1138), (2075, 2075), (3107, 3107), (3138, 3138)] (by decide) (by decide) (by simp [hp]) (by simp) (by simp)) (by simp [dropK]) fun ⟨j, ds⟩ hi21 => ?_
              refine LWp.seq ?_
              refine LWp.seq ?_
              refine LWp.reg hT hW (fun _ => none) (fun _ => ⟨rfl, fun _ h => h⟩) ?_
              simp
              refine LWp.iff ?_
              simp
              refine ⟨fun h21 => ?_, fun h21 => ?_⟩
              · refine LWp.skip ?_
                simp
                refine LWp.seq ?_
                refine LWp.block ?_
                refine LWp.seq ?_
                refine LWp.reg hT hW (fun | 123 => some <| .plain ⟨.d (.bool (decide (e.drops[j] ∈ first))), true⟩ | _ => none) (by intro d; first | exact ⟨rfl, fun _ h => h⟩ | (split <;> exact ⟨rfl, fun _ h => h⟩)) ?_
                simp [h21]
                refine ⟨In_ok _ _, ?_⟩
                refine LWp.iff ?_
                simp
                refine ⟨fun h23 => ?_, fun h23 => ?_⟩
                · refine LWp.regAny hT hW hMixed (lk [[],[],[1],[1,2],[1,2,3],[],[5],[],[5,6,7],[5,6,7,8],[5,6,7,8,9],[1,2,3,4,5,6,7,8,9,10],[0,1,2,3,4,5,6,7,8,9,10,11],[0,1,2,3,4,5,6,7,8,9,10,11,12],[0,1,2,3,4,5,6,7,8,9,10,11,12,13]]) (lk [[131,137,138],[137],[137],[137],[137],[],[],[],[],[],[],[],[],[],[]]) (lk [[],[],[],[],[],[],[],[],[],[],[137],[131,138],[],[],[8]]) (by kernel_rfl) (fun _ => none) (fun _ => ⟨rfl, fun _ h => h⟩) ?_
                  simp [h21]
                  refine ⟨⟨by have := hi21.2.1; have := hs.2; omega, by have := hi21.2.1; have := hs.2; omega⟩, ?_⟩
                  refine LWp.reg hT hW (fun _ => none) (fun _ => ⟨rfl, fun _ h => h⟩) ?_
                  simp
                  refine ⟨by have := hs.2; omega, ?_⟩
                  refine loopQ.mk (j + 1, ds ++ [e.drops[j]]) (Weak.to [1, 3, 5, 6, 7, 8, 10, 12] [(3, 3), (5, 5), (6, 6), (8, 8), (75, 75), (1107, 1107), (138, 1138), (2075, 2075), (3107, 3107), (3138, 3138)] (by decide) (by decide) (by simp [hp]) (by simp) (by simp)) ?_ ?_
                  · refine ⟨h21, by have := hi21.2.1; simp; omega, ?_⟩
                    dsimp only
                    rw [dropK_succ h21, ← hi21.2.2, if_pos (by simp [h23])]
                  · omega
                · refine LWp.skip ?_
                  simp
                  refine LWp.reg hT hW (fun _ => none) (fun _ => ⟨rfl, fun _ h => h⟩) ?_
                  simp
                  refine ⟨by have := hs.2; omega, ?_⟩
                  refine loopQ.mk (j + 1, ds) (Weak.to [1, 3, 5, 6, 7, 8, 10, 12] [(3, 3), (5, 5), (6, 6), (8, 8), (75, 75), (1107, 1107), (1138, 1138), (2075, 2075), (3107, 3107), (3138, 3138)] (by decide) (by decide) (by simp [hp]) (by simp) (by simp)) ?_ ?_
                  · refine ⟨h21, by have := hi21.2.1; dsimp only; omega, ?_⟩
                    dsimp only
                    rw [dropK_succ h21, ← hi21.2.2, if_neg (by simp [h23]), List.append_nil]
                  · omega
              · refine LWp.exit ?_
                simp
                have hds : ds = dropK first 0 e.drops := by rw [hi21.2.2, List.take_of_length_le (by omega)]
                refine LWp.reg hT hW (fun _ => none) (fun _ => ⟨rfl, fun _ h => h⟩) ?_
                simp
                refine loopQ.mk 1 (Weak.to [1, 3, 5, 6, 7, 8, 10] [(3, 3), (5, 5), (6, 6), (8, 8), (75, 2075), (1107, 3107), (1138, 3138), (4075, 75), (5107, 1107), (5138, 1138)] (by decide) (by decide) (by simp [hp]) (by simp) (by simp [hps, hds])) ?_ ?_
                · simp_all
                · omega
          · refine LWp.regAny hT hW hMixed (lk [[],[],[1],[1,2],[],[],[5],[4,5,6],[1,2,3,4,5,6,7],[0,1,2,3,4,5,6,7,8],[0,1,2,3,4,5,6,7,8,9]]) (lk [[72,75],[72,75],[72,75],[72,75],[],[72],[72],[],[],[],[]]) (lk [[],[],[],[],[72],[],[],[72,75],[],[],[8]]) (by kernel_rfl) (fun _ => none) (fun _ => ⟨rfl, fun _ h => h⟩) ?_
            simp
            refine ⟨⟨by omega, by omega⟩, ?_⟩
            refine LWp.nlCell (fz := false) (cs := nilS e first n m 1) 8 (3 + 5 * 1) 1107 2 (by decide) ⟨by simp, by simp, by simp, ?_⟩
            refine LWp.nlCell (fz := false) (cs := nilT e first n m 1) 8 (4 + 5 * 1) 1138 1 (by decide) ⟨by simp, by simp, by simp, ?_⟩
            simp
            refine LWp.seq ?_
            refine LWp.seq ?_
            refine LWp.reg hT hW (fun _ => none) (fun _ => ⟨rfl, fun _ h => h⟩) ?_
            simp
            refine LWp.block ?_
            refine LWp.loopW (ι := Nat × List Df) (fun ⟨i, ps⟩ => mkEnv [(1, .d (strsD first)), (3, .bx 3 0), (5, .bx 5 0), (6, .bx 6 0), (7, .d (I64 0)), (8, .bx 8 0), (10, .d (I64 1)), (11, .d (I64 i))]) (fun ⟨i, ps⟩ => mkObs [(3, .box false ((cellsD e.d).map .d)), (5, .box false [.d (I64 n.who), .d (I64 n.seq), .d (I64 m.who), .d (I64 m.seq)]), (6, .box false (boxA e first n m 0)), (8, .box false (boxS e first n m 1 ps.length 0)), (75, .row false 2 (e.needs.map Nm.d)), (1107, .row false 2 (ps.map Df.d)), (1138, .row false 1 []), (2075, oldN e 1), (3107, oldP e first 1), (3138, oldD e first 1)]) (fun ⟨i, ps⟩ => i ≤ e.puts.length ∧ ps.length ≤ i ∧ ps = putK first 1 (e.puts.take i)) (fun ⟨i, ps⟩ => e.puts.length - i) (0, []) (Weak.to [1, 3, 5, 6, 7, 8, 10, 11] [(3, 3), (5, 5), (6, 6), (8, 8), (75, 75), (1107, 1107), (1138, 1138), (2075, 2075), (3107, 3107), (3138, 3138)] (by decide) (by decide) (by simp [hp]) (by simp) (by simp)) (by simp [putK]) fun ⟨i, ps⟩ hi16 => ?_
            refine LWp.seq ?_
            refine LWp.seq ?_
            refine LWp.reg hT hW (fun _ => none) (fun _ => ⟨rfl, fun _ h => h⟩) ?_
            simp
            refine LWp.iff ?_
            simp
            refine ⟨fun h16 => ?_, fun h16 => ?_⟩
            · refine LWp.skip ?_
              simp
              refine LWp.seq ?_
              refine LWp.block ?_
              refine LWp.seq ?_
              refine LWp.reg hT hW (fun | 92 => some <| .plain ⟨.d (.bool (decide (e.puts[i].name ∈ first))), true⟩ | _ => none) (by intro d; first | exact ⟨rfl, fun _ h => h⟩ | (split <;> exact ⟨rfl, fun _ h => h⟩)) ?_
              simp [h16]
              refine ⟨In_ok _ _, ?_⟩
              refine LWp.iff ?_
              simp
              refine ⟨fun h18 => ?_, fun h18 => ?_⟩
              · refine LWp.regAny hT hW hMixed (lk [[],[],[1],[1,2],[1,2,3],[],[5],[],[5,6,7],[5,6,7,8],[5,6,7,8,9],[1,2,3,4,5,6,7,8,9,10],[0,1,2,3,4,5,6,7,8,9,10,11],[0,1,2,3,4,5,6,7,8,9,10,11,12],[0,1,2,3,4,5,6,7,8,9,10,11,12,13]]) (lk [[100,106,107],[106],[106],[106],[106],[],[],[],[],[],[],[],[],[],[]]) (lk [[],[],[],[],[],[],[],[],[],[],[106],[100,107],[],[],[8]]) (by kernel_rfl) (fun _ => none) (fun _ => ⟨rfl, fun _ h => h⟩) ?_
                simp [h16]
                refine ⟨⟨by have := hi16.2.1; have := hs.1; omega, by have := hi16.2.1; have := hs.1; omega⟩, ?_⟩
                refine LWp.reg hT hW (fun _ => none) (fun _ => ⟨rfl, fun _ h => h⟩) ?_
                simp
                refine ⟨by have := hs.1; omega, ?_⟩
                refine loopQ.mk (i + 1, ps ++ [e.puts[i]]) (Weak.to [1, 3, 5, 6, 7, 8, 10, 11] [(3, 3), (5, 5), (6, 6), (8, 8), (75, 75), (107, 1107), (1138, 1138), (2075, 2075), (3107, 3107), (3138, 3138)] (by decide) (by decide) (by simp [hp]) (by simp) (by simp)) ?_ ?_
                · refine ⟨h16, by have := hi16.2.1; simp; omega, ?_⟩
                  dsimp only
                  rw [putK_succ h16, ← hi16.2.2, if_pos (by simp [h18])]
                · omega
              · refine LWp.skip ?_
                simp
                refine LWp.reg hT hW (fun _ => none) (fun _ => ⟨rfl, fun _ h => h⟩) ?_
                simp
                refine ⟨by have := hs.1; omega, ?_⟩
                refine loopQ.mk (i + 1, ps) (Weak.to [1, 3, 5, 6, 7, 8, 10, 11] [(3, 3), (5, 5), (6, 6), (8, 8), (75, 75), (1107, 1107), (1138, 1138), (2075, 2075), (3107, 3107), (3138, 3138)] (by decide) (by decide) (by simp [hp]) (by simp) (by simp)) ?_ ?_
                · refine ⟨h16, by have := hi16.2.1; dsimp only; omega, ?_⟩
                  dsimp only
                  rw [putK_succ h16, ← hi16.2.2, if_neg (by simp [h18]), List.append_nil]
                · omega
            · refine LWp.exit ?_
              simp
              refine LWp.seq ?_
              have hps : ps = putK first 1 e.puts := by rw [hi16.2.2, List.take_of_length_le (by omega)]
              refine LWp.reg hT hW (fun _ => none) (fun _ => ⟨rfl, fun _ h => h⟩) ?_
              simp
              refine LWp.block ?_
              refine LWp.loopW (ι := Nat × List Str) (fun ⟨j, ds⟩ => mkEnv [(1, .d (strsD first)), (3, .bx 3 0), (5, .bx 5 0), (6, .bx 6 0), (7, .d (I64 0)), (8, .bx 8 0), (10, .d (I64 1)), (12, .d (I64 j))]) (fun ⟨j, ds⟩ => mkObs [(3, .box false ((cellsD e.d).map .d)), (5, .box false [.d (I64 n.who), .d (I64 n.seq), .d (I64 m.who), .d (I64 m.seq)]), (6, .box false (boxA e first n m 0)), (8, .box false (boxS e first n m 1 ps.length ds.length)), (75, .row false 2 (e.needs.map Nm.d)), (1107, .row false 2 (ps.map Df.d)), (1138, .row false 1 (ds.map .str)), (2075, oldN e 1), (3107, oldP e first 1), (3138, oldD e first 1)]) (fun ⟨j, ds⟩ => j ≤ e.drops.length ∧ ds.length ≤ j ∧ ds = dropK first 1 (e.drops.take j)) (fun ⟨j, ds⟩ => e.drops.length - j) (0, []) (Weak.to [1, 3, 5, 6, 7, 8, 10, 12] [(3, 3), (5, 5), (6, 6), (8, 8), (75, 75), (1107, 1107), (1138, 1138), (2075, 2075), (3107, 3107), (3138, 3138)] (by decide) (by decide) (by simp [hp]) (by simp) (by simp)) (by simp [dropK]) fun ⟨j, ds⟩ hi21 => ?_
              refine LWp.seq ?_
              refine LWp.seq ?_
              refine LWp.reg hT hW (fun _ => none) (fun _ => ⟨rfl, fun _ h => h⟩) ?_
              simp
              refine LWp.iff ?_
              simp
              refine ⟨fun h21 => ?_, fun h21 => ?_⟩
              · refine LWp.skip ?_
                simp
                refine LWp.seq ?_
                refine LWp.block ?_
                refine LWp.seq ?_
                refine LWp.reg hT hW (fun | 123 => some <| .plain ⟨.d (.bool (decide (e.drops[j] ∈ first))), true⟩ | _ => none) (by intro d; first | exact ⟨rfl, fun _ h => h⟩ | (split <;> exact ⟨rfl, fun _ h => h⟩)) ?_
                simp [h21]
                refine ⟨In_ok _ _, ?_⟩
                refine LWp.iff ?_
                simp
                refine ⟨fun h23 => ?_, fun h23 => ?_⟩
                · refine LWp.regAny hT hW hMixed (lk [[],[],[1],[1,2],[1,2,3],[],[5],[],[5,6,7],[5,6,7,8],[5,6,7,8,9],[1,2,3,4,5,6,7,8,9,10],[0,1,2,3,4,5,6,7,8,9,10,11],[0,1,2,3,4,5,6,7,8,9,10,11,12],[0,1,2,3,4,5,6,7,8,9,10,11,12,13]]) (lk [[131,137,138],[137],[137],[137],[137],[],[],[],[],[],[],[],[],[],[]]) (lk [[],[],[],[],[],[],[],[],[],[],[137],[131,138],[],[],[8]]) (by kernel_rfl) (fun _ => none) (fun _ => ⟨rfl, fun _ h => h⟩) ?_
                  simp [h21]
                  refine ⟨⟨by have := hi21.2.1; have := hs.2; omega, by have := hi21.2.1; have := hs.2; omega⟩, ?_⟩
                  refine LWp.reg hT hW (fun _ => none) (fun _ => ⟨rfl, fun _ h => h⟩) ?_
                  simp
                  refine ⟨by have := hs.2; omega, ?_⟩
                  refine loopQ.mk (j + 1, ds ++ [e.drops[j]]) (Weak.to [1, 3, 5, 6, 7, 8, 10, 12] [(3, 3), (5, 5), (6, 6), (8, 8), (75, 75), (1107, 1107), (138, 1138), (2075, 2075), (3107, 3107), (3138, 3138)] (by decide) (by decide) (by simp [hp]) (by simp) (by simp)) ?_ ?_
                  · refine ⟨h21, by have := hi21.2.1; simp; omega, ?_⟩
                    dsimp only
                    rw [dropK_succ h21, ← hi21.2.2, if_pos (by simp [h23])]
                  · omega
                · refine LWp.skip ?_
                  simp
                  refine LWp.reg hT hW (fun _ => none) (fun _ => ⟨rfl, fun _ h => h⟩) ?_
                  simp
                  refine ⟨by have := hs.2; omega, ?_⟩
                  refine loopQ.mk (j + 1, ds) (Weak.to [1, 3, 5, 6, 7, 8, 10, 12] [(3, 3), (5, 5), (6, 6), (8, 8), (75, 75), (1107, 1107), (1138, 1138), (2075, 2075), (3107, 3107), (3138, 3138)] (by decide) (by decide) (by simp [hp]) (by simp) (by simp)) ?_ ?_
                  · refine ⟨h21, by have := hi21.2.1; dsimp only; omega, ?_⟩
                    dsimp only
                    rw [dropK_succ h21, ← hi21.2.2, if_neg (by simp [h23]), List.append_nil]
                  · omega
              · refine LWp.exit ?_
                simp
                have hds : ds = dropK first 1 e.drops := by rw [hi21.2.2, List.take_of_length_le (by omega)]
                refine LWp.reg hT hW (fun _ => none) (fun _ => ⟨rfl, fun _ h => h⟩) ?_
                simp
                refine loopQ.mk 2 (Weak.to [1, 3, 5, 6, 7, 8, 10] [(3, 3), (5, 5), (6, 6), (8, 8), (2075, 2075), (3107, 3107), (3138, 3138), (75, 75), (1107, 1107), (1138, 1138)] (by decide) (by decide) (by simp [hp]) (by simp) (by simp [hps, hds])) ?_ ?_
                · simp_all
                · omega
        · refine LWp.exit ?_
          simp
          refine LWp.seq ?_
          refine LWp.seq ?_
          obtain rfl : k = 2 := by omega
          have s1 := Touches23_ok (splitE e first n true) ⟨Nat.le_trans (List.length_filter_le _ _) hs.1, Nat.le_trans (List.length_filter_le _ _) hs.2⟩
          have s2 := Touches23_ok (splitE e first m false) ⟨Nat.le_trans (List.length_filter_le _ _) hs.1, Nat.le_trans (List.length_filter_le _ _) hs.2⟩
          have t1 := tch_nil (e := splitE e first n true)
          have t2 := tch_nil (e := splitE e first m false)
          rw [split_k0] at s1 t1 hgo
          rw [split_k1] at s2 t2 hgo
          obtain ⟨T1, hT1⟩ : ∃ T, T = tchN ⟨n, e.needs, putK first 0 e.puts, dropK first 0 e.drops⟩ := ⟨_, rfl⟩
          obtain ⟨T2, hT2⟩ : ∃ T, T = tchN ⟨m, e.needs, putK first 1 e.puts, dropK first 1 e.drops⟩ := ⟨_, rfl⟩
          rw [← hT1] at s1 t1
          rw [← hT2] at s2 t2
          refine LWp.reg hT hW (fun | 143 => some <| .plain ⟨.d (strsD T1), true⟩ | 149 => some <| .plain ⟨.d (strsD T2), true⟩ | _ => none) (by intro d; first | exact ⟨rfl, fun _ h => h⟩ | (split <;> exact ⟨rfl, fun _ h => h⟩)) ?_
          simp
          refine ⟨⟨by simpa using s1, by intros; simpa using s2⟩, ?_⟩
          refine LWp.iff ?_
          simp
          refine ⟨fun h25 => ?_, fun h25 g25 => ?_⟩
          · refine LWp.seq ?_
            refine LWp.reg hT hW (fun _ => none) (fun _ => ⟨rfl, fun _ h => h⟩) ?_
            simp
            refine LWp.ret ?_
            have e1 : splitV e first n m = (default, 15) := by
              rw [hgo, if_pos]
              rcases h25 with h | h
              · exact .inl (t1.1 (by simpa using h))
              · exact .inr (t2.1 (by simpa using h))
            simp [e1, edsP]
          · refine LWp.skip ?_
            simp
            refine LWp.seq ?_
            refine LWp.reg hT hW (fun _ => none) (fun _ => ⟨rfl, fun _ h => h⟩) ?_
            simp
            refine LWp.ret ?_
            have e1 : splitV e first n m = ((⟨n, e.needs, putK first 0 e.puts, dropK first 0 e.drops⟩, ⟨m, e.needs, putK first 1 e.puts, dropK first 1 e.drops⟩), 0) := by
              rw [hgo, if_neg]
              rintro (w | w)
              · exact h25 (t1.2 w)
              · exact g25 (t2.2 w)
            simp [e1, edsP]
end Go.Eng
namespace Go.Eng
open Go.Proofs
attribute [local simp] runL stepL evalG evalOp opLV constLV putEnv dstOk upd upds Res.plain Res.cond Res.fail evalBin evalUn seqQ blockQ argsEnv lookL lookH RetIs memless freshL evalPick evalMin bval bok evalLen evalIn strip whenC guardOps guardC slotsOf
  runM foldS stepI stepM maskE wrIn lk renO lookN evalCall evalCallee optAll resLV resObj retLV retObj retsLV retsObj evalLoad evalIndexAddr evalField solid cellsD_agg cellsD_int cellsD_bool cellsD_str cellsD_sl cellsD_ro cellsD_fn cellsL_agg cellsL_dagg cellsL_int cellsL_bool cellsL_str cellsL_sl cellsL_fn cellsL_ow cellsL_bx cellsL_lfn cellsL_nl takeL takeD mkAgg allD eqD eqDs kindsAre kindIs LObj.live TK.isNone TK.agg TK.isBool TK.isStr TK.isStruct Op.operands Call.operands
  evalBuildSlice evalAppend elemsOf evalStore evalBuild fillL lookupF putL evalSlice bound evalConv elemsS freezes frozen loadR
  mkEnv_at mkObs_at close_d close_agg close_ow close_bx close_fn close_nl touch_d touch_agg touch_ow touch_bx touch_fn touch_nl ren_d ren_agg ren_bx ren_rp ren_ow ren_fn ren_nl ren_junk retQ_ret retQ2_ret condQ_bool Nm.d Df.d Ed.d nmsD dfsD strsD edsD retC_ret nm_eq df_eq take_map_len take_map_app
  nm_t nm_d nm_td df_t df_d df_td str_t str_d str_td ed_t ed_d ed_td
  evalAppendIn evalCut evalClear evalCopy evalMake evalWrap evalCap evalNil isNilC lenL isInp gorc
  mapOf findD keyEq keyOk evalMakeMap evalRange zeroD zeroDV argsG shutG outN lenv retG0_ret retG0_normal retG1_ret renO close_mp touch_mp ren_mp optAll_d optAll_d' touch_ds cellsL_mp cellsD_mp cellsL_dmp
  evalMapSet evalPtr TK.isPtr evalToArr firstL retN_ret retsQ rvarL close_bm touch_bm ren_bm cellsD_bm cellsL_bm cellsL_lbm
attribute [local simp] cutQ_normal cutQ_ret cutQ_exit
set_option maxRecDepth 10000
set_option maxHeartbeats 4400000
attribute [local simp] dF1 dF2 dF3 dF4 dF5 dP1 dP2 prD
theorem flat_one {l : List Ed} {e : Ed} (h : e ∈ l) : e.needs.length ≤ (l.flatMap Ed.needs).length := by
  induction l with
  | nil => cases h
  | cons a l ih =>
    rw [List.flatMap_cons, List.length_append]
    rcases List.mem_cons.1 h with rfl | h
    · omega
    · have := ih h; omega
theorem PatchSplits_ok (l : List Int) (how b bits : Int) (na nb : Nm) (first : List Str) (x : Ed) (hx : x.small) (hxn : x.needs.length ≤ 1100000) (hr : ∀ n ∈ l, -9223372036854775808 ≤ n ∧ n ≤ 9223372036854775807) (q1 : -9223372036854775808 ≤ how ∧ how ≤ 9223372036854775807) (q2 : -9223372036854775808 ≤ b ∧ b ≤ 9223372036854775807) (q3 : -9223372036854775808 ≤ bits ∧ bits ≤ 9223372036854775807) : Ok Tryz.prog 5 [.sl (l.map I64), I64 how, I64 b, I64 bits, na.d, nb.d, strsD first, x.d] ⟨.d (.bool true), true⟩ := by
  refine Ok.ret Tryz.func5 (by kernel_rfl) (c := _) rfl Tryz.ntmps5 (by simp) Tryz.results5 (by intro _ h; cases h) fun w0 X hp => ?_
  refine LWp.seq ?_
  refine LWp.reg hT hW (fun _ => none) (fun _ => ⟨rfl, fun _ h => h⟩) ?_
  simp
  refine LWp.seq ?_
  refine LWp.regRel hT hW 37 (fun r => (∃ L1 L2 : List Ed, SpB (madeL l) L1 ∧ SpB L1 L2 ∧ r.v = .d (.sl [edsD (madeL l), edsD L1, edsD L2, .sl []])) ∧ r.fresh = false) false ⟨.d (.sl [edsD (madeL l), edsD (madeL l), edsD (madeL l), .sl []]), false⟩ ⟨⟨⟨madeL l, madeL l, SpB.refl _, SpB.refl _, rfl⟩, rfl⟩, rfl⟩ (fun | 99 => none | _ => none) (by intro d; first | exact ⟨rfl, fun _ h => h⟩ | (split <;> exact ⟨rfl, fun _ h => h⟩)) (by kernel_rfl) fun r1 hr1 => ?_
  obtain ⟨v1, f1⟩ := r1
  obtain ⟨⟨L1, L2, hL1, hL2, hv⟩, hf⟩ := hr1
  dsimp only at hv hf
  have hlo := lists3_ok l how b hr q2.1 q2.2 q1.1 q1.2
  have hb := lists_b hL1 hL2
  obtain ⟨M0, hM0⟩ : ∃ M, M = madeL l := ⟨_, rfl⟩
  have hM1 : M0.length ≤ 6 := by rw [hM0]; exact madeL_len l
  have hM2 : ∀ e ∈ M0, e.small ∧ e.needs.length ≤ 1100000 := fun e he => by
    have := made_mem (hM0 ▸ he)
    exact ⟨⟨by omega, by omega⟩, by omega⟩
  have hL1n : ∀ e ∈ L1, e.needs.length ≤ 37 := fun e he => Nat.le_trans (by unfold allNeeds; exact flat_one he) hb.need1
  obtain ⟨G, hG⟩ : ∃ G, G = M0 ++ L1 ++ [x] := ⟨_, rfl⟩
  have hGl : G.length ≤ 200 := by rw [hG]; have := hb.len1; simp; omega
  have hGs : ∀ e ∈ G, e.small ∧ e.needs.length ≤ 1100000 := fun e he => by
    rw [hG, List.mem_append, List.mem_append, List.mem_singleton] at he
    rcases he with (q | q) | rfl
    · exact hM2 e q
    · have h1 := hb.part1 e q
      have h2 := hL1n e q
      exact ⟨⟨by omega, by omega⟩, by omega⟩
    · exact ⟨hx, hxn⟩
  have hl1 := hb.len1
  rw [← hM0] at hv
  subst hv; subst hf
  simp
  refine ⟨by simpa using hlo, ?_⟩
  refine LWp.seq ?_
  refine LWp.regAny hT hW hMixed (lk [[],[],[1],[1,2],[0,1,2,3],[],[5],[5,6],[0,1,2,3,4,5,6,7],[],[9],[0,1,2,3,4,5,6,7,8,9,10],[0,1,2,3,4,5,6,7,8,9,10,11]]) (lk [[48],[38,48],[38,48],[38,48],[48],[38,42,48],[38,42,48],[38,42,48],[48],[38,42,46],[38,42,46],[],[]]) (lk [[38],[],[],[],[38,42],[],[],[],[42,46],[],[48],[46,49],[]]) (by kernel_rfl) (fun _ => none) (fun _ => ⟨rfl, fun _ h => h⟩) ?_
  simp
  refine ⟨?_, ?_⟩
  · repeat' first | omega | refine ⟨?_, ?_⟩
  refine LWp.weak (Weak.close 18 (x := edsD G) (by simp [hG]; rw [List.take_of_length_le (l := List.map Ed.d M0 ++ List.map Ed.d L1) (by rw [List.length_append, List.length_map, List.length_map]; exact Nat.le_refl _), List.take_of_length_le (by rw [List.length_append, List.length_append, List.length_map, List.length_map]; exact Nat.le_refl _), List.append_assoc])) ?_
  refine LWp.seq ?_
  refine LWp.seq ?_
  refine LWp.reg hT hW (fun _ => none) (fun _ => ⟨rfl, fun _ h => h⟩) ?_
  simp
  refine LWp.block ?_
  refine LWp.loopW (ι := Nat) (fun i => mkEnv [(3, .d (I64 bits)), (6, .d (strsD first)), (12, .bx 12 0), (13, .bx 13 0), (18, .d (edsD G)), (19, .d (I64 i))]) (fun i => mkObs [(12, .box false [.d (I64 na.who), .d (I64 na.seq)]), (13, .box false [.d (I64 nb.who), .d (I64 nb.seq)])]) (fun i => i ≤ G.length) (fun i => G.length - i) 0 (Weak.to [3, 6, 12, 13, 18, 19] [(12, 12), (13, 13)] (by decide) (by decide) (by simp [hp]) (by simp) (by simp)) (by simp) fun i hi4 => ?_
  refine LWp.seq ?_
  refine LWp.seq ?_
  refine LWp.reg hT hW (fun _ => none) (fun _ => ⟨rfl, fun _ h => h⟩) ?_
  simp
  refine LWp.iff ?_
  simp
  refine ⟨fun h4 => ?_, fun h4 => ?_⟩
  · refine LWp.skip ?_
    simp
    refine LWp.seq ?_
    refine LWp.block ?_
    refine LWp.seq ?_
    have hie := List.getElem_mem h4
    obtain ⟨e, he⟩ : ∃ e, e = G[i] := ⟨_, rfl⟩
    rw [← he] at hie
    obtain ⟨hsm, hne⟩ := hGs e hie
    obtain ⟨T, hT'⟩ : ∃ T, T = tchN e := ⟨_, rfl⟩
    have hTl : T.length ≤ 2200000 := by rw [hT']; exact tchN_len hsm
    have hT2 := Touches23_ok e hsm
    rw [← hT'] at hT2
    refine LWp.reg hT hW (fun | 60 => some <| .plain ⟨.d (strsD T), true⟩ | _ => none) (by intro d; first | exact ⟨rfl, fun _ h => h⟩ | (split <;> exact ⟨rfl, fun _ h => h⟩)) ?_
    simp [h4, ← he]
    refine ⟨by simpa using hT2, ?_⟩
    refine LWp.seq ?_
    refine LWp.reg hT hW (fun _ => none) (fun _ => ⟨rfl, fun _ h => h⟩) ?_
    simp
    refine LWp.seq ?_
    refine LWp.seq ?_
    refine LWp.reg hT hW (fun _ => none) (fun _ => ⟨rfl, fun _ h => h⟩) ?_
    simp
    refine LWp.block ?_
    refine LWp.loopW (ι := Nat × List Str) (fun ⟨k, acc⟩ => mkEnv [(3, .d (I64 bits)), (6, .d (strsD first)), (12, .bx 12 0), (13, .bx 13 0), (18, .d (edsD G)), (19, .d (I64 i)), (20, .d (strsD T)), (21, .ow 21 0 acc.length), (22, .d (I64 k))]) (fun ⟨k, acc⟩ => mkObs [(12, .box false [.d (I64 na.who), .d (I64 na.seq)]), (13, .box false [.d (I64 nb.who), .d (I64 nb.seq)]), (21, .row false 1 (acc.map .str))]) (fun ⟨k, acc⟩ => k ≤ T.length ∧ acc.length ≤ k) (fun ⟨k, acc⟩ => T.length - k) (0, []) (Weak.to [3, 6, 12, 13, 18, 19, 20, 21, 22] [(12, 12), (13, 13), (21, 21)] (by decide) (by decide) (by simp [hp]) (by simp) (by simp)) (by simp) fun ⟨k, acc⟩ hi9 => ?_
    refine LWp.seq ?_
    refine LWp.seq ?_
    refine LWp.reg hT hW (fun _ => none) (fun _ => ⟨rfl, fun _ h => h⟩) ?_
    simp
    refine LWp.iff ?_
    simp
    refine ⟨fun h9 => ?_, fun h9 => ?_⟩
    · refine LWp.skip ?_
      simp
      refine LWp.seq ?_
      refine LWp.block ?_
      refine LWp.seq ?_
      have hm1 : 0 ≤ ((k : Int)).tmod 20 := Int.tmod_nonneg _ (by omega)
      have hm2 : ((k : Int)).tmod 20 < 20 := Int.tmod_lt_of_pos _ (by omega)
      obtain ⟨k0, hk0⟩ : ∃ k0 : Nat, (k0 : Int) = ((k : Int)).tmod 20 := ⟨(((k : Int)).tmod 20).toNat, by omega⟩
      have hkw := u64_nat (k := k0) (by omega)
      have hk64 : min k0 64 = k0 := by omega
      refine LWp.reg hT hW (fun _ => none) (fun _ => ⟨rfl, fun _ h => h⟩) ?_
      simp [← hk0, hkw, IntKind.bits, hk64]
      refine LWp.iff ?_
      simp
      refine ⟨fun h11 => ?_, fun h11 => ?_⟩
      · refine LWp.reg hT hW (fun _ => none) (fun _ => ⟨rfl, fun _ h => h⟩) ?_
        simp [h9]
        refine ⟨by have := hi9.2; omega, ?_⟩
        refine LWp.reg hT hW (fun _ => none) (fun _ => ⟨rfl, fun _ h => h⟩) ?_
        simp
        refine ⟨by omega, ?_⟩
        refine loopQ.mk (k + 1, acc ++ [T[k]]) (Weak.to [3, 6, 12, 13, 18, 19, 20, 21, 22] [(12, 12), (13, 13), (80, 21)] (by decide) (by decide) (by simp [hp]) (by simp) (by simp)) ?_ ?_
        · refine ⟨h9, by have := hi9.2; simp; omega⟩
        · omega
      · refine LWp.skip ?_
        simp
        refine LWp.reg hT hW (fun _ => none) (fun _ => ⟨rfl, fun _ h => h⟩) ?_
        simp
        refine ⟨by omega, ?_⟩
        refine loopQ.mk (k + 1, acc) (Weak.to [3, 6, 12, 13, 18, 19, 20, 21, 22] [(12, 12), (13, 13), (21, 21)] (by decide) (by decide) (by simp [hp]) (by simp) (by simp)) ?_ ?_
        · refine ⟨h9, by have := hi9.2; dsimp only; omega⟩
        · omega
    · refine LWp.exit ?_
      simp
      refine LWp.seq ?_
      refine LWp.weak (Weak.close 21 (x := strsD acc) (by simp)) ?_
      obtain ⟨prs, hprs⟩ : ∃ prs : List (Nm × Nm), prs = [(⟨3, 1⟩, ⟨3, 2⟩), (na, nb), (⟨1, 0⟩, ⟨1, 0⟩)] := ⟨_, rfl⟩
      have hp3 : prs.length = 3 := by rw [hprs]; rfl
      obtain ⟨ls, hls⟩ : ∃ ls, ls = [acc, first, T] := ⟨_, rfl⟩
      have hl3 : ls.length = 3 := by rw [hls]; rfl
      refine LWp.reg hT hW (fun _ => none) (fun _ => ⟨rfl, fun _ h => h⟩) ?_
      simp [(show [0, 1, 2] = List.range 3 from rfl)]
      refine LWp.weak (Weak.close 23 (x := .sl (prs.map prD)) (by simp [hprs])) ?_
      refine LWp.seq ?_
      refine LWp.reg hT hW (fun _ => none) (fun _ => ⟨rfl, fun _ h => h⟩) ?_
      simp [(show [0, 1, 2] = List.range 3 from rfl)]
      refine LWp.weak (Weak.close 24 (x := .sl (ls.map strsD)) (by simp [hls])) ?_
      refine LWp.seq ?_
      refine LWp.reg hT hW (fun _ => none) (fun _ => ⟨rfl, fun _ h => h⟩) ?_
      simp
      refine LWp.block ?_
      refine LWp.loopW (ι := Nat) (fun j => mkEnv [(3, .d (I64 bits)), (6, .d (strsD first)), (12, .bx 12 0), (13, .bx 13 0), (18, .d (edsD G)), (19, .d (I64 i)), (21, .d (strsD acc)), (23, .d (.sl (prs.map prD))), (24, .d (.sl (ls.map strsD))), (25, .d (I64 j))]) (fun j => mkObs [(12, .box false [.d (I64 na.who), .d (I64 na.seq)]), (13, .box false [.d (I64 nb.who), .d (I64 nb.seq)])]) (fun j => j ≤ 3) (fun j => 3 - j) 0 (Weak.to [3, 6, 12, 13, 18, 19, 21, 23, 24, 25] [(12, 12), (13, 13)] (by decide) (by decide) (by simp [hp]) (by simp) (by simp)) (by simp) fun j hi16 => ?_
      refine LWp.seq ?_
      refine LWp.seq ?_
      refine LWp.reg hT hW (fun _ => none) (fun _ => ⟨rfl, fun _ h => h⟩) ?_
      simp [hp3]
      refine LWp.iff ?_
      simp
      refine ⟨fun h16 => ?_, fun h16 => ?_⟩
      · refine LWp.skip ?_
        simp
        refine LWp.seq ?_
        refine LWp.block ?_
        refine LWp.seq ?_
        have hj : j < prs.length := by rw [hp3]; omega
        have hj2 : j < ls.length := by rw [hl3]; omega
        obtain ⟨p, hpp⟩ : ∃ p, p = prs[j] := ⟨_, rfl⟩
        obtain ⟨f, hff⟩ : ∃ f, f = ls[j] := ⟨_, rfl⟩
        have s1 := PSplit_ok e f p.1 p.2 hsm hne
        have s2 := RSplit_ok e f p.1 p.2 hsm hne
        have s3 := PSplit_ok e acc p.1 p.2 hsm hne
        have s4 := RSplit_ok e acc p.1 p.2 hsm hne
        obtain ⟨v, hv⟩ : ∃ v, v = splitV e f p.1 p.2 := ⟨_, rfl⟩
        obtain ⟨u, hu⟩ : ∃ u, u = splitV e acc p.1 p.2 := ⟨_, rfl⟩
        rw [← hv] at s1 s2
        rw [← hu] at s3 s4
        refine LWp.regAny hT hW hMixed (lk [[],[],[0,1],[0,1,2],[],[],[4,5],[4,5,6],[],[],[8,9],[8,9,10],[0,1,2,3,4,5,6,7,8,9,10,11],[0,1,2,3,4,5,6,7,8,9,10,11,12],[0,1,2,3,4,5,6,7,8,9,10,11,12,13],[0,1,2,3,4,5,6,7,8,9,10,11,12,13],[],[0,1,2,3,4,5,6,7,8,9,10,11,12,13,14,16],[0,1,2,3,4,5,6,7,8,9,10,11,12,13,14,15,16,17]]) (lk [[26],[26],[26],[26],[26],[26],[26],[26],[26],[26],[26],[26],[26],[26],[26],[26],[114],[],[]]) (lk [[],[],[],[],[],[],[],[],[],[],[],[],[114],[],[],[],[26],[26],[]]) (by kernel_rfl) (fun | 114 => some <| .plain ⟨.tup [.d (edsP v.1), .d (I64 v.2)], false⟩ | _ => none) (by intro d; first | exact ⟨rfl, fun _ h => h⟩ | (split <;> exact ⟨rfl, fun _ h => h⟩)) ?_
        simp [evalExtract, h4, hj, hj2, ← he, ← hpp, ← hff, edsP]
        refine ⟨by simpa [edsP] using s1, ?_⟩
        refine LWp.seq ?_
        refine LWp.regAny hT hW hMixed (lk [[],[],[0,1],[0,1,2],[],[],[4,5],[4,5,6],[],[],[8,9],[8,9,10],[0,1,2,3,4,5,6,7,8,9,10,11],[0,1,2,3,4,5,6,7,8,9,10,11,12],[0,1,2,3,4,5,6,7,8,9,10,11,12,13],[0,1,2,3,4,5,6,7,8,9,10,11,12,13],[],[0,1,2,3,4,5,6,7,8,9,10,11,12,13,14,16],[0,1,2,3,4,5,6,7,8,9,10,11,12,13,14,15,16,17]]) (lk [[28],[28],[28],[28],[28],[28],[28],[28],[28],[28],[28],[28],[28],[28],[28],[28],[130],[],[]]) (lk [[],[],[],[],[],[],[],[],[],[],[],[],[130],[],[],[],[28],[28],[]]) (by kernel_rfl) (fun | 130 => some <| .plain ⟨.tup [.d (edsP v.1), .d (I64 v.2)], false⟩ | _ => none) (by intro d; first | exact ⟨rfl, fun _ h => h⟩ | (split <;> exact ⟨rfl, fun _ h => h⟩)) ?_
        simp [evalExtract, h4, hj, hj2, ← he, ← hpp, ← hff, edsP]
        refine ⟨by simpa [edsP] using s2, ?_⟩
        refine LWp.seq ?_
        refine LWp.regAny hT hW hMixed (lk [[],[],[0,1],[0,1,2],[],[],[],[5,6],[5,6,7],[0,1,2,3,4,5,6,7,8],[0,1,2,3,4,5,6,7,8,9],[0,1,2,3,4,5,6,7,8,9,10],[0,1,2,3,4,5,6,7,8,9,10],[],[0,1,2,3,4,5,6,7,8,9,10,11,13],[0,1,2,3,4,5,6,7,8,9,10,11,12,13,14]]) (lk [[30],[30],[30],[30],[30],[30],[30],[30],[30],[30],[30],[30],[30],[143],[],[]]) (lk [[],[],[],[],[],[],[],[],[],[143],[],[],[],[30],[30],[]]) (by kernel_rfl) (fun | 143 => some <| .plain ⟨.tup [.d (edsP u.1), .d (I64 u.2)], false⟩ | _ => none) (by intro d; first | exact ⟨rfl, fun _ h => h⟩ | (split <;> exact ⟨rfl, fun _ h => h⟩)) ?_
        simp [evalExtract, h4, hj, ← he, ← hpp, edsP]
        refine ⟨by simpa [edsP] using s3, ?_⟩
        refine LWp.seq ?_
        refine LWp.regAny hT hW hMixed (lk [[],[],[0,1],[0,1,2],[],[],[],[5,6],[5,6,7],[0,1,2,3,4,5,6,7,8],[0,1,2,3,4,5,6,7,8,9],[0,1,2,3,4,5,6,7,8,9,10],[0,1,2,3,4,5,6,7,8,9,10],[],[0,1,2,3,4,5,6,7,8,9,10,11,13],[0,1,2,3,4,5,6,7,8,9,10,11,12,13,14]]) (lk [[32],[32],[32],[32],[32],[32],[32],[32],[32],[32],[32],[32],[32],[156],[],[]]) (lk [[],[],[],[],[],[],[],[],[],[156],[],[],[],[32],[32],[]]) (by kernel_rfl) (fun | 156 => some <| .plain ⟨.tup [.d (edsP u.1), .d (I64 u.2)], false⟩ | _ => none) (by intro d; first | exact ⟨rfl, fun _ h => h⟩ | (split <;> exact ⟨rfl, fun _ h => h⟩)) ?_
        simp [evalExtract, h4, hj, ← he, ← hpp, edsP]
        refine ⟨by simpa [edsP] using s4, ?_⟩
        refine LWp.seq ?_
        refine LWp.reg hT hW (fun | 172 => some <| .plain ⟨.d (.bool true), true⟩ | 180 => some <| .plain ⟨.d (.bool true), true⟩ | 188 => some <| .plain ⟨.d (.bool true), true⟩ | 196 => some <| .plain ⟨.d (.bool true), true⟩ | _ => none) (by intro d; first | exact ⟨rfl, fun _ h => h⟩ | (split <;> exact ⟨rfl, fun _ h => h⟩)) ?_
        simp
        refine ⟨⟨⟨⟨by simpa using ex_same v.1.1 _ rfl, by simpa using ex_same v.1.2 _ rfl⟩, by simpa using ex_same u.1.1 _ rfl⟩, by simpa using ex_same u.1.2 _ rfl⟩, ?_⟩
        refine LWp.iff ?_
        simp
        refine LWp.skip ?_
        simp
        refine LWp.reg hT hW (fun _ => none) (fun _ => ⟨rfl, fun _ h => h⟩) ?_
        simp
        refine ⟨by omega, ?_⟩
        refine loopQ.mk (j + 1) (Weak.to [3, 6, 12, 13, 18, 19, 21, 23, 24, 25] [(12, 12), (13, 13)] (by decide) (by decide) (by simp [hp]) (by simp) (by simp)) ?_ ?_
        · omega
        · omega
      · refine LWp.exit ?_
        simp
        refine LWp.reg hT hW (fun _ => none) (fun _ => ⟨rfl, fun _ h => h⟩) ?_
        simp
        refine ⟨by omega, ?_⟩
        refine loopQ.mk (i + 1) (Weak.to [3, 6, 12, 13, 18, 19] [(12, 12), (13, 13)] (by decide) (by decide) (by simp [hp]) (by simp) (by simp)) ?_ ?_
        · omega
        · omega
  · refine LWp.exit ?_
    simp
    refine LWp.seq ?_
    refine LWp.reg hT hW (fun | 199 => some <| .plain ⟨.d (.bool true), true⟩ | _ => none) (by intro d; first | exact ⟨rfl, fun _ h => h⟩ | (split <;> exact ⟨rfl, fun _ h => h⟩)) ?_
    simp
    refine ⟨lives3_ok, ?_⟩
    refine LWp.ret ?_
    simp
end Go.Eng
namespace Go.Eng
open Go.Proofs Go Go.ChangeShapes Go.Deep
theorem chunk_get {β : Type} {g : Nat → List β} {s : Nat} (hs : 0 < s) : ∀ {len : Nat}, (∀ i, i < len → (g i).length = s) → ∀ j, ((List.range len).flatMap g)[j]? = if j < len * s then (g (j / s))[j % s]? else none
  | 0, _, j => by simp
  | len + 1, hg, j => by
    have ih := chunk_get hs (len := len) (g := g) (fun i hi => hg i (by omega))
    have hl : ((List.range len).flatMap g).length = len * s := by
      have : ∀ n, n ≤ len → ((List.range n).flatMap g).length = n * s := by
        intro n
        induction n with
        | zero => intro _; simp
        | succ n ihn =>
          intro hn
          rw [List.range_succ, List.flatMap_append, List.length_append, ihn (by omega)]
          simp only [List.flatMap_cons, List.flatMap_nil, List.append_nil]
          rw [hg n (by omega), Nat.add_mul]; omega
      exact this len (Nat.le_refl _)
    have e : (len + 1) * s = len * s + s := by rw [Nat.add_mul]; omega
    rw [List.range_succ, List.flatMap_append, List.getElem?_append, hl, ih]
    simp only [List.flatMap_cons, List.flatMap_nil, List.append_nil]
    by_cases h1 : j < len * s
    · rw [if_pos h1, if_pos h1, if_pos (by omega)]
    · rw [if_neg h1]
      by_cases h2 : j < (len + 1) * s
      · rw [if_pos h2]
        have hd : j / s = len := by
          have : j = (j - len * s) + len * s := by omega
          rw [this, Nat.add_mul_div_right _ _ hs, Nat.div_eq_of_lt (by omega)]; omega
        have hm : j % s = j - len * s := by
          have : j = (j - len * s) + len * s := by omega
          rw [this, Nat.add_mul_mod_self_right, Nat.mod_eq_of_lt (by omega)]; omega
        rw [hd, hm]
      · rw [if_neg h2, List.getElem?_eq_none]
        rw [hg len (by omega)]; omega
def RC (w : World) (ds : List DV) (cs : List Value) : Prop := cs.length = ds.length ∧ ∀ (i : Nat) (d : DV) (v : Value), ds[i]? = some d → cs[i]? = some v → RD w (fun _ => False) d v ∧ v.oneCell' = true
theorem RC.nil {w : World} : RC w [] [] := ⟨rfl, fun i d v h => by simp at h⟩
theorem RC.cons {w : World} {d : DV} {v : Value} {ds : List DV} {cs : List Value} (h : RD w (fun _ => False) d v) (h1 : v.oneCell' = true) (hs : RC w ds cs) : RC w (d :: ds) (v :: cs) :=
  ⟨by simp [hs.1], fun i c u hc hu => by
    cases i with
    | zero => simp at hc hu; subst hc; subst hu; exact ⟨h, h1⟩
    | succ i => exact hs.2 i c u (by simpa using hc) (by simpa using hu)⟩
theorem RC.agg {w : World} {ds : List DV} {cs : List Value} (h : RC w ds cs) : RD w (fun _ => False) (.agg ds) (.agg cs.toArray) :=
  .agg ds cs h.1 (fun u hu => by
    obtain ⟨i, hi, rfl⟩ := List.getElem_of_mem hu
    have hi' : i < ds.length := by have := h.1; omega
    exact (h.2 i ds[i] cs[i] (by simp [hi']) (by simp [hi])).2) fun i c v hc hv => (h.2 i c v hc hv).1
theorem str_rd {w : World} (s : ByteArray) : RD w (fun _ => False) (.str s.data.toList) (.string s) := RD.str s.data.toList
section
variable {H : Type} {enc : TypeId × Value → H} {w : World} {sp : Nat → Bool} {hd : Bool}
def LenIs (d : DataW H) (n : Nat) : Prop := (d = .nil ∧ n = 0) ∨ ∃ el sp, d = .slice el sp ∧ el.length = n
theorem trod_sl {α : Type} [Inhabited α] (f : α → DV) (s : Nat) (hs : ∀ a, (cellsD (f a)).length = s) (h0 : 0 < s) {t e : TypeId} (ht : Tryz.prog.underlying t = some (.slice e)) (hc : Tryz.prog.cellsOf e = s)
    (el : ∀ {n : Nat} {cs : List Value} {x : DataW H × List MemPlace}, DataW.trod enc Tryz.prog w 0 sp hd n e cs = some x → ∃ a, RC w (cellsD (f a)) cs)
    {fuel : Nat} {cs : List Value} {x : DataW H × List MemPlace} (h : DataW.trod enc Tryz.prog w 0 sp hd fuel t cs = some x) :
    ∃ (l : List α) (v : Value), cs = [v] ∧ RD w (fun _ => False) (.sl (l.map f)) v ∧ v.oneCell' = true ∧ LenIs x.1 l.length := by
  rcases open_slice ht h with ⟨rfl, rfl⟩ | ⟨a, len, cap, m, n, D, Pl, rfl, hb, hl, hm, hmm, rfl, hx⟩
  · exact ⟨[], _, rfl, .sl0 none 0 (Nat.zero_le _), rfl, .inl ⟨rfl, rfl⟩⟩
  · have hlm : len ≤ m := by rw [hmm]; split <;> omega
    have each : ∀ i, i < len → ∃ y : α × List Value, w.cells? 0 (a.add (i * s)) s = some y.2 ∧ RC w (cellsD (f y.1)) y.2 := fun i hi => by
      obtain ⟨cs', h1, h2⟩ := hx i (by omega)
      rw [hc] at h1
      obtain ⟨b, hb⟩ := el h2
      exact ⟨(b, cs'), h1, hb⟩
    obtain ⟨g, hg⟩ := choose_lt each
    refine ⟨(List.range len).map fun i => (g i).1, _, rfl, ?_, rfl, .inr ⟨_, _, rfl, by simp⟩⟩
    by_cases hz : len = 0
    · subst hz
      exact .sl0 _ cap hm
    · have hcell : ∀ i, i < len → ∀ r, r < s → w.cell? ((a.add (i * s)).add r) = (g i).2[r]? := fun i hi r hr => (World.cells?_some (hg i hi).1).2.2 r hr
      have hlen2 : ∀ i, i < len → (g i).2.length = s := fun i hi => (World.cells?_some (hg i hi).1).2.1
      obtain ⟨b, o, spot⟩ := a
      have hfirst := hcell 0 (by omega) 0 h0
      have hspot : spot = none := by
        have h2 := hlen2 0 (by omega)
        have : ((g 0).2[0]?).isSome = true := by simp; omega
        obtain ⟨u, hu⟩ := Option.isSome_iff_exists.1 this
        rw [hu] at hfirst
        simpa [Addr.add] using World.cell?_spot hfirst
      subst hspot
      have hflat : flatD (((List.range len).map fun i => (g i).1).map f) = (List.range len).flatMap fun i => cellsD (f (g i).1) := by
        unfold flatD
        rw [List.map_map, List.flatMap_map]; rfl
      have gd := chunk_get (g := fun i => cellsD (f (g i).1)) h0 (len := len) (fun i _ => hs _)
      have gv := chunk_get (g := fun i => (g i).2) h0 (len := len) hlen2
      have hpos : ∀ j, j < len * s → j / s < len ∧ j % s < s ∧ j / s * s + j % s = j := fun j hj => ⟨(Nat.div_lt_iff_lt_mul h0).2 hj, Nat.mod_lt _ h0, by rw [Nat.mul_comm]; exact Nat.div_add_mod j s⟩
      have hul : ((List.range len).flatMap fun i => (g i).2).length = len * s := by
        have h1 : ∀ j, j < len * s → j < ((List.range len).flatMap fun i => (g i).2).length := fun j hj => by
          have h := gv j
          rw [if_pos hj] at h
          obtain ⟨p1, p2, p3⟩ := hpos j hj
          have h2 : ((g (j / s)).2[j % s]?).isSome = true := by simp; rw [hlen2 _ p1]; exact p2
          rw [← h] at h2
          simpa using h2
        have h3 := gv (len * s)
        rw [if_neg (by omega)] at h3
        have h4 := List.getElem?_eq_none_iff.1 h3
        by_cases q : len * s = 0
        · omega
        · have := h1 (len * s - 1) (by omega); omega
      have hfin := RD.sl (w := w) (E := fun _ => False) (((List.range len).map fun i => (g i).1).map f) b o cap s ((List.range len).flatMap fun i => (g i).2)
        (fun q => hz (by have := congrArg List.length q; simpa using this)) (fun q => q) (fun x hx => by obtain ⟨y, _, rfl⟩ := List.mem_map.1 hx; exact hs y) (by simpa using hl) hm (by rw [hul]; simp)
        (fun u hu => by
          obtain ⟨j, hj, rfl⟩ := List.getElem_of_mem hu
          have hj' : j < len * s := by omega
          have h := gv j
          rw [if_pos hj', List.getElem?_eq_getElem hj] at h
          obtain ⟨p1, p2, _⟩ := hpos j hj'
          exact ((hg _ p1).2.2 (j % s) ((cellsD (f (g (j / s)).1))[j % s]'(by rw [hs]; exact p2)) _ (by simp [hs, p2]) h.symm).2)
        (by have := World.cells?_block (hg 0 (by omega)).1 h0; simpa [Addr.add] using this)
        (fun j u hj => by
          rw [gv] at hj
          split at hj
          · rename_i hj'
            obtain ⟨p1, p2, p3⟩ := hpos j hj'
            rw [← hcell _ p1 _ p2, Addr.add_lit, Addr.add_lit, Nat.add_assoc, p3] at hj
            exact hj
          · cases hj)
        (fun i d v hd hv => by
          rw [hflat, gd] at hd
          rw [gv] at hv
          split at hd
          · rename_i hj'
            rw [if_pos hj'] at hv
            obtain ⟨p1, p2, _⟩ := hpos i hj'
            exact ((hg _ p1).2.2 _ d v hd hv).1
          · cases hd)
      simpa using hfin
theorem trod_i64 {fuel : Nat} {cs : List Value} {x : DataW H × List MemPlace} (h : DataW.trod enc Tryz.prog w 0 sp hd fuel 3 cs = some x) : ∃ n : Int, cs = [.int .i64 n] ∧ -9223372036854775808 ≤ n ∧ n ≤ 9223372036854775807 := by
  obtain ⟨n, h1, h2, h3⟩ := DataW.trod_int Tryz.underlying3 h
  exact ⟨n, h1, int_rng h3⟩
theorem trod_str {fuel : Nat} {cs : List Value} {x : DataW H × List MemPlace} (h : DataW.trod enc Tryz.prog w 0 sp hd fuel 9 cs = some x) : ∃ s : Str, RC w [.str s] cs := by
  obtain ⟨s, h1, _, _⟩ := DataW.trod_string Tryz.underlying9 h
  exact ⟨s.data.toList, by rw [h1]; exact RC.cons (str_rd s) rfl RC.nil⟩
theorem c3 : Tryz.prog.cellsOf 3 = 1 := by kernel_rfl
theorem c9 : Tryz.prog.cellsOf 9 = 1 := by kernel_rfl
theorem c24 : Tryz.prog.cellsOf 24 = 2 := by kernel_rfl
theorem c25 : Tryz.prog.cellsOf 25 = 1 := by kernel_rfl
theorem c26 : Tryz.prog.cellsOf 26 = 1 := by kernel_rfl
theorem c27 : Tryz.prog.cellsOf 27 = 1 := by kernel_rfl
theorem c29 : Tryz.prog.cellsOf 29 = 5 := by kernel_rfl
theorem c47 : Tryz.prog.cellsOf 47 = 2 := by kernel_rfl
theorem trod_nm {fuel : Nat} {cs : List Value} {x : DataW H × List MemPlace} (h : DataW.trod enc Tryz.prog w 0 sp hd fuel 24 cs = some x) : ∃ n : Nm, RC w (cellsD n.d) cs := by
  obtain ⟨y0, y1, n, _, hl, h0, h1⟩ := trod_struct2 Tryz.underlying24 h
  rw [c24] at hl
  simp only [c3] at h0 h1
  obtain ⟨a, e0, _⟩ := trod_i64 h0
  obtain ⟨b, e1, _⟩ := trod_i64 h1
  have e : cs = [.int .i64 a, .int .i64 b] := by
    rcases cs with _ | ⟨c, _ | ⟨d, _ | ⟨_, _⟩⟩⟩ <;> simp_all
  rw [e]
  exact ⟨⟨a, b⟩, RC.cons (.int .i64 a) rfl (RC.cons (.int .i64 b) rfl RC.nil)⟩
theorem trod_df {fuel : Nat} {cs : List Value} {x : DataW H × List MemPlace} (h : DataW.trod enc Tryz.prog w 0 sp hd fuel 47 cs = some x) : ∃ d : Df, RC w (cellsD d.d) cs := by
  obtain ⟨y0, y1, n, _, hl, h0, h1⟩ := trod_struct2 Tryz.underlying47 h
  rw [c47] at hl
  simp only [c9] at h0 h1
  obtain ⟨a, e0, _, _⟩ := DataW.trod_string Tryz.underlying9 h0
  obtain ⟨b, e1, _, _⟩ := DataW.trod_string Tryz.underlying9 h1
  have e : cs = [.string a, .string b] := by
    rcases cs with _ | ⟨c, _ | ⟨d, _ | ⟨_, _⟩⟩⟩ <;> simp_all
  rw [e]
  exact ⟨⟨a.data.toList, b.data.toList⟩, RC.cons (str_rd a) rfl (RC.cons (str_rd b) rfl RC.nil)⟩
theorem trod_nms {fuel : Nat} {cs : List Value} {x : DataW H × List MemPlace} (h : DataW.trod enc Tryz.prog w 0 sp hd fuel 25 cs = some x) :
    ∃ (l : List Nm) (v : Value), cs = [v] ∧ RD w (fun _ => False) (nmsD l) v ∧ v.oneCell' = true ∧ LenIs x.1 l.length := trod_sl Nm.d 2 (fun _ => rfl) (by omega) Tryz.underlying25 c24 trod_nm h
theorem trod_dfs {fuel : Nat} {cs : List Value} {x : DataW H × List MemPlace} (h : DataW.trod enc Tryz.prog w 0 sp hd fuel 26 cs = some x) :
    ∃ (l : List Df) (v : Value), cs = [v] ∧ RD w (fun _ => False) (dfsD l) v ∧ v.oneCell' = true ∧ LenIs x.1 l.length := trod_sl Df.d 2 (fun _ => rfl) (by omega) Tryz.underlying26 c47 trod_df h
theorem trod_strs {fuel : Nat} {cs : List Value} {x : DataW H × List MemPlace} (h : DataW.trod enc Tryz.prog w 0 sp hd fuel 27 cs = some x) :
    ∃ (l : List Str) (v : Value), cs = [v] ∧ RD w (fun _ => False) (strsD l) v ∧ v.oneCell' = true ∧ LenIs x.1 l.length := trod_sl DV.str 1 (fun _ => rfl) (by omega) Tryz.underlying27 c9 trod_str h
theorem trod_ed {fuel : Nat} {cs : List Value} {x : DataW H × List MemPlace} (h : DataW.trod enc Tryz.prog w 0 sp hd fuel 29 cs = some x) :
    ∃ (e : Ed) (d0 d1 d2 d3 : DataW H), RC w (cellsD e.d) cs ∧ x.1 = .agg [d0, d1, d2, d3] ∧ LenIs d1 e.needs.length ∧ LenIs d2 e.puts.length ∧ LenIs d3 e.drops.length := by
  obtain ⟨xs, n, _, rfl, hl, hlen, hf⟩ := DataW.trod_struct Tryz.underlying29 h
  rw [c29] at hl
  match xs, hlen with
  | [y0, y1, y2, y3], _ =>
    have f0 : DataW.trod enc Tryz.prog w 0 sp hd n 24 ((cs.drop 0).take (Tryz.prog.cellsOf 24)) = some y0 := hf 0 _ rfl
    have f1 : DataW.trod enc Tryz.prog w 0 sp hd n 25 ((cs.drop 2).take (Tryz.prog.cellsOf 25)) = some y1 := hf 1 _ rfl
    have f2 : DataW.trod enc Tryz.prog w 0 sp hd n 26 ((cs.drop 3).take (Tryz.prog.cellsOf 26)) = some y2 := hf 2 _ rfl
    have f3 : DataW.trod enc Tryz.prog w 0 sp hd n 27 ((cs.drop 4).take (Tryz.prog.cellsOf 27)) = some y3 := hf 3 _ rfl
    rw [c24] at f0
    rw [c25] at f1
    rw [c26] at f2
    rw [c27] at f3
    obtain ⟨v0, v1, v2, v3, v4, rfl⟩ : ∃ v0 v1 v2 v3 v4, cs = [v0, v1, v2, v3, v4] := by
      rcases cs with _ | ⟨v0, _ | ⟨v1, _ | ⟨v2, _ | ⟨v3, _ | ⟨v4, _ | ⟨_, _⟩⟩⟩⟩⟩⟩ <;> simp only [List.length_nil, List.length_cons] at hl <;> first | omega | exact ⟨v0, v1, v2, v3, v4, rfl⟩
    obtain ⟨nm, r0⟩ := trod_nm f0
    obtain ⟨ns, w1, e1, r1, o1, l1⟩ := trod_nms f1
    obtain ⟨ps, w2, e2, r2, o2, l2⟩ := trod_dfs f2
    obtain ⟨ds, w3, e3, r3, o3, l3⟩ := trod_strs f3
    obtain rfl : v2 = w1 := by simpa using e1
    obtain rfl : v3 = w2 := by simpa using e2
    obtain rfl : v4 = w3 := by simpa using e3
    have ra := r0.2 0 (I64 nm.who) v0 rfl rfl
    have rb := r0.2 1 (I64 nm.seq) v1 rfl rfl
    exact ⟨⟨nm, ns, ps, ds⟩, y0.1, y1.1, y2.1, y3.1, RC.cons ra.1 ra.2 (RC.cons rb.1 rb.2 (RC.cons r1 o1 (RC.cons r2 o2 (RC.cons r3 o3 RC.nil)))), rfl, l1, l2, l3⟩
end
end Go.Eng
