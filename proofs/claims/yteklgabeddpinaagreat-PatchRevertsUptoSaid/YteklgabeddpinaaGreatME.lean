/-
  Texts of the proofs of this seat, part 5. No condition.
-/
import Derived.Test.YteklgabeddpinaaGreatMD
import Derived.RangeFuncNested
import Derived.OwnWalkIn
import Derived.Test.YteklgabeddpinaaGreatProg
import Derived.Maps.RangeRun
import Derived.Shelf.SlIter.Collect
import Derived.Shelf.SortM.Plain
import Derived.Shelf.SortM.SortNone
import Derived.Shelf.SlGeneric
set_option linter.unusedVariables false
set_option linter.unusedSimpArgs false
namespace Go.Eng
open Go.Proofs
attribute [local simp] runL stepL evalG evalOp opLV constLV putEnv dstOk upd upds Res.plain Res.cond Res.fail evalBin evalUn seqQ blockQ argsEnv lookL lookH RetIs memless freshL evalPick evalMin bval bok evalLen evalIn strip whenC guardOps guardC slotsOf
  runM foldS stepI stepM maskE wrIn lk renO lookN evalCall evalCallee optAll resLV resObj retLV retObj retsLV retsObj evalLoad evalIndexAddr evalField solid cellsD_agg cellsD_int cellsD_bool cellsD_str cellsD_sl cellsD_ro cellsD_fn cellsL_agg cellsL_dagg cellsL_int cellsL_bool cellsL_str cellsL_sl cellsL_fn cellsL_ow cellsL_bx cellsL_lfn cellsL_nl takeL takeD mkAgg allD eqD eqDs kindsAre kindIs LObj.live TK.isNone TK.agg TK.isBool TK.isStr TK.isStruct Op.operands Call.operands
  evalBuildSlice evalAppend elemsOf evalStore evalBuild fillL lookupF putL evalSlice bound evalConv elemsS freezes frozen loadR
  mkEnv_at mkObs_at close_d close_agg close_ow close_bx close_fn close_nl touch_d touch_agg touch_ow touch_bx touch_fn touch_nl ren_d ren_agg ren_bx ren_rp ren_ow ren_fn ren_nl ren_junk retQ_ret retQ2_ret condQ_bool Nm.d Df.d Ed.d nmsD dfsD strsD edsD retC_ret nm_eq df_eq take_map_len take_map_app
  nm_t nm_d nm_td df_t df_d df_td str_t str_d str_td ed_t ed_d ed_td
  evalAppendIn evalCut evalClear evalCopy evalMake evalWrap evalCap evalNil isNilC lenL isInp gorc
  mapOf findD keyEq keyOk evalMakeMap evalRange zeroD zeroDV argsG shutG outN lenv retG0_ret retG0_normal retG1_ret renO close_mp touch_mp ren_mp optAll_d optAll_d' touch_ds cellsL_mp cellsD_mp cellsL_dmp
  evalMapSet evalPtr TK.isPtr evalToArr firstL retN_ret retsQ rvarL close_bm touch_bm ren_bm cellsD_bm cellsL_bm cellsL_lbm
theorem app_get {α : Type} {f : α → DV} {l : List α} {t : List DV} {k : Nat} (h : k < l.length) : (List.map f l ++ t)[k]? = some (f l[k]) := by rw [List.getElem?_append_left (by simpa using h)]; simp [h]
def msortN (l : List Nm) : List Nm := l.mergeSort fun x y => !Nm.less y x
theorem nmAgg (x : Nm) (w : World) (E : Nat → Prop) (v : Value) : RD w E x.d v ↔ v = .agg x.enc.toArray := by
  constructor
  · intro h
    cases h with
    | agg _ us hl _ hc =>
      match us, hl with
      | [a, b], _ =>
        have h0 := hc 0 _ a rfl rfl
        have h1 := hc 1 _ b rfl rfl
        cases h0; cases h1; rfl
  · rintro rfl
    refine .agg _ _ rfl (fun u hu => by simp [Nm.enc] at hu; rcases hu with rfl | rfl <;> rfl) fun i c v hc hv => ?_
    match i, hc, hv with
    | 0, hc, hv => simp [Nm.enc] at hc hv; subst hc; subst hv; exact .int _ _
    | 1, hc, hv => simp [Nm.enc] at hc hv; subst hc; subst hv; exact .int _ _
theorem nmCells : Cells 2 Nm.d Nm.enc where
  pos := by decide
  len := fun _ => rfl
  lenD := fun _ => rfl
  one := fun x v hv => by simp [Nm.enc] at hv; rcases hv with rfl | rfl <;> rfl
  cell := fun x i c v hc hv w E u => by
    match i, hc, hv with
    | 0, hc, hv => simp [Nm.enc, Nm.d, cellsD] at hc hv; subst hc; subst hv; exact ⟨fun h => by cases h; rfl, fun h => h ▸ .int _ _⟩
    | 1, hc, hv => simp [Nm.enc, Nm.d, cellsD] at hc hv; subst hc; subst hv; exact ⟨fun h => by cases h; rfl, fun h => h ▸ .int _ _⟩
theorem ltOf_cmpN (a b : Nm) : Proofs.ltOf cmpN a b = Nm.less a b := by
  have := cmpN_ge a b
  unfold Proofs.ltOf
  by_cases h : 0 ≤ cmpN a b <;> simp [h, Int.not_lt.2, Int.lt_of_not_ge] at this ⊢ <;> simp_all
theorem SortFuncNm_ok (l : List Nm) (hl : l.length ≤ 8000000000000) : OkG Tryz.prog 154 [.ow 0 0 l.length, .d (.fn 142 [])] [(0, .row false 2 (l.map Nm.d))] [(0, .row false 2 ((msortN l).map Nm.d))] (.tup []) := by
  have e0 : Proofs.ltOf cmpN = Nm.less := by funext x y; exact ltOf_cmpN x y
  have e : msortN l = l.mergeSort fun x y => !(Proofs.ltOf cmpN) y x := by rw [e0]; rfl
  rw [e]
  have hO : Go.Sort.SWO Nm.less := ⟨fun x => by simp [Nm.less], fun x y z h1 h2 => by simp [Nm.less] at h1 h2 ⊢; omega, fun x y z h1 h2 => by simp [Nm.less] at h1 h2 ⊢; omega⟩
  have hT : ∀ x y, Nm.less x y = false → Nm.less y x = false → x = y := fun x y h1 h2 => by simp [Nm.less] at h1 h2; cases x; cases y; simp at *; omega
  exact sortFunc_ok Tryz.sortNm nmCells nmAgg Tryz.isAgg24 Tryz.sizeOf24 cmpN (e0 ▸ hO) (e0 ▸ hT) _ compare_ok
    ⟨_, Tryz.func154, by kernel_rfl, by rfl⟩ l hl
theorem msortN_len (l : List Nm) : (msortN l).length = l.length := List.length_mergeSort _
theorem dedup_msort (l : List Nm) : dedup (msortN l) = sortN l := by
  refine dedup_sorted (fun x => List.mem_mergeSort) ?_
  have := List.pairwise_mergeSort (le := fun x y : Nm => !Nm.less y x) (fun a b c h1 h2 => by simp [Nm.less] at *; omega) (fun a b => by simp [Nm.less]; omega) l
  exact this.imp fun h => by simpa using h
theorem sortN_len (l : List Nm) : (sortN l).length ≤ l.length := by rw [← dedup_msort, ← msortN_len l]; exact dedup_length _
theorem closedB_iff {l : List Ed} {set : List Nm} : closedB l set = true ↔ ∀ n ∈ set, 0 ≤ findI l n ∧ ∀ m ∈ needsOf l n, m ∈ set := by
  unfold closedB closedAt
  simp
theorem ESort_ok (l : List Nm) (hl : l.length ≤ 8000000000000) : Ok Tryz.prog 120 [nmsD l] ⟨.own 2 ((sortN l).map Nm.d), true⟩ := by
  refine Ok.ret Tryz.func120 (by kernel_rfl) (c := _) rfl Tryz.ntmps120 (by simp) Tryz.results120 (by intro _ h; cases h) fun w0 X hp => ?_
  refine LWp.seq ?_
  refine LWp.rz hT hW ?_
  simp
  refine LWp.seq ?_
  refine LWp.ro hT hW (fun | 5 => some <| .plain ⟨.own 2 (l.map Nm.d), true⟩ | _ => none) ?_
  simp
  refine ⟨CloneNm_ok l hl, ?_⟩
  refine LWp.seq ?_
  refine LWp.ro hT hW (fun | 7 => some (.gen ⟨[(5, 0)], [], [], [(0, .row false 2 ((msortN l).map Nm.d))], .tup []⟩) | _ => none) ?_
  simp
  refine ⟨by simpa using SortFuncNm_ok l hl, ?_⟩
  refine LWp.seq ?_
  refine LWp.ro hT hW (fun | 9 => some (.gen ⟨[(5, 0)], [], [], [(0, .row false 2 ((sortN l).map Nm.d ++ List.replicate (l.length - (sortN l).length) zeroNm.d))], .ow 0 0 (sortN l).length⟩) | _ => none) ?_
  simp
  refine ⟨by have := CompactNm_ok (msortN l) (by rw [msortN_len]; exact hl); rw [msortN_len, dedup_msort] at this; simpa using this, ?_⟩
  refine LWp.ret ?_
  simp
theorem order11_ok (out : List Nm) (n : Nm) : Ok Tryz.prog 126 [n.d, .ro [nmsD out]] ⟨.d (.bool (!decide (n ∈ out))), true⟩ := by
  refine Ok.ret Tryz.func126 (by kernel_rfl) (c := _) rfl Tryz.ntmps126 (by simp) Tryz.results126 (by intro _ h; cases h) fun w0 X hp => ?_
  refine LWp.seq ?_
  refine LWp.rz hT hW ?_
  simp
  refine LWp.seq ?_
  refine LWp.ro hT hW (fun | 6 => some <| .plain ⟨.d (.bool (decide (n ∈ out))), true⟩ | _ => none) ?_
  simp
  refine ⟨InNm_ok out n, ?_⟩
  refine LWp.ret ?_
  simp
theorem order1_ok (l : List Ed) (out : List Nm) (n : Nm) (h : 0 ≤ findI l n) : Ok Tryz.prog 125 [n.d, .ro [edsD l], .ro [nmsD out]] ⟨.d (.bool (readyN l out n)), true⟩ := by
  refine Ok.ret Tryz.func125 (by kernel_rfl) (c := _) rfl Tryz.ntmps125 (by simp) Tryz.results125 (by intro _ h; cases h) fun w0 X hp => ?_
  refine LWp.seq ?_
  refine LWp.rz hT hW ?_
  simp
  refine LWp.seq ?_
  obtain ⟨i0, hi0, hfi, hfe, hne⟩ := edit_find (show ¬ findI l n < 0 by omega)
  refine LWp.regAny hT hW hMixed (lk [[],[],[],[1,2],[0,1,2,3],[0,1,2,3,4],[0,1,2,3,4,5],[],[0,1,2,3,4,5,6,7],[0,1,2,3,4,5,6,7,8],[0,1,2,3,4,5,6,7,8,9]]) (lk [[8],[],[],[],[],[],[],[8],[],[],[]]) (lk [[],[],[],[8],[],[],[],[],[13],[],[]]) (by kernel_rfl) (fun | 8 => some <| .plain ⟨.d (I64 (findI l n)), true⟩ | 13 => some <| .plain ⟨.d (.bool (l[i0].needs.any fun m => !decide (m ∈ out))), true⟩ | _ => none) (by intro d; first | exact ⟨rfl, fun _ h => h⟩ | (split <;> exact ⟨rfl, fun _ h => h⟩)) ?_
  simp [hfe, hi0]
  refine ⟨⟨by rw [← hfe]; exact EFind_ok l n, by simpa [nmsD] using AnyNm_ok l[i0].needs (fun m => !decide (m ∈ out)) _ _ fun m _ => order11_ok out m⟩, ?_⟩
  refine LWp.ret ?_
  simp [readyN, hne]
  rw [Bool.eq_iff_iff]
  simp
theorem order_init {l : List Ed} {set : List Nm} (hc : closedB l set = true) : (∀ n ∈ sortN set, ∀ m ∈ needsOf l n, m ∈ sortN set ∨ m ∈ ([] : List Nm)) ∧ (∀ n ∈ sortN set, 0 ≤ findI l n) ∧ orderF l (sortN set).length (sortN set) [] = orderN l set ∧ (sortN set).length + ([] : List Nm).length ≤ set.length := by
  have hcl := closedB_iff.1 hc
  refine ⟨fun n hn m hm => .inl ?_, fun n hn => ?_, rfl, by simpa using sortN_len set⟩
  · exact ((sortN_spec set).2 m).2 ((hcl n (((sortN_spec set).2 n).1 hn)).2 m hm)
  · exact (hcl n (((sortN_spec set).2 n).1 hn)).1
theorem order_ok (l : List Ed) (set : List Nm) (hl : set.length ≤ 1100000) (ha : Acyc l) (hc : closedB l set = true) : Ok Tryz.prog 89 [edsD l, nmsD set] ⟨.own 2 ((orderN l set).map Nm.d), true⟩ := by
  refine Ok.ret Tryz.func89 (by kernel_rfl) (c := _) rfl Tryz.ntmps89 (by simp) Tryz.results89 (by intro _ h; cases h) fun w0 X hp => ?_
  refine LWp.seq ?_
  refine LWp.rz hT hW ?_
  simp
  refine LWp.seq ?_
  refine LWp.ro hT hW (fun | 9 => some <| .plain ⟨.own 2 ((sortN set).map Nm.d), true⟩ | _ => none) ?_
  simp
  refine ⟨ESort_ok set (by omega), ?_⟩
  refine LWp.seq ?_
  refine LWp.rz hT hW ?_
  simp
  refine LWp.nlBox (fz := false) 6 7 2 (by decide) ⟨by simp, by simp, ?_⟩
  refine LWp.seq ?_
  refine LWp.block ?_
  refine LWp.loopW (ι := List Nm × List Nm × Nat) (fun ⟨rest, out, z⟩ => mkEnv [(2, .bx 2 0), (5, .ow 5 0 rest.length), (6, .bx 6 0)]) (fun ⟨rest, out, z⟩ => mkObs [(2, .box false [.d (edsD l)]), (5, .row false 2 (rest.map Nm.d ++ List.replicate z zeroNm.d)), (6, .box false [.ow 7 0 out.length]), (7, .row false 2 (out.map Nm.d))]) (fun ⟨rest, out, z⟩ => (∀ n ∈ rest, ∀ m ∈ needsOf l n, m ∈ rest ∨ m ∈ out) ∧ (∀ n ∈ rest, 0 ≤ findI l n) ∧ orderF l rest.length rest out = orderN l set ∧ rest.length + out.length ≤ set.length) (fun ⟨rest, out, z⟩ => rest.length) (sortN set, [], 0) (Weak.to [2, 5, 6] [(2, 2), (9, 5), (6, 6), (7, 7)] (by decide) (by decide) (by simp [hp]) (by simp) (by simp)) (order_init hc) fun ⟨rest, out, z⟩ hi3 => ?_
  refine LWp.seq ?_
  refine LWp.seq ?_
  refine LWp.rz hT hW ?_
  simp
  refine LWp.iff ?_
  simp
  refine ⟨fun h3 => ?_, fun h3 => ?_⟩
  · obtain ⟨k, hfk, hk⟩ := ready_at ha hi3.1 h3
    refine LWp.skip ?_
    simp
    refine LWp.block ?_
    refine LWp.seq ?_
    refine LWp.ro hT hW (fun | 15 => some <| .plain ⟨.d (I64 (idxI (readyN l out) rest)), true⟩ | _ => none) ?_
    simp
    refine ⟨by simpa [nmsD] using IndexNm_ok rest (readyN l out) _ _ fun n hn => order1_ok l out n (hi3.2.1 n hn), ?_⟩
    refine LWp.seq ?_
    refine LWp.regAny hT hW hMixed (lk [[],[],[],[1,2],[1,2,3],[1,2,3,4],[0,1,2,3,4,5],[0,1,2,3,4,5,6]]) (lk [[21],[],[],[],[],[],[],[]]) (lk [[],[],[],[],[],[21],[22,7],[6]]) (by kernel_rfl) (fun _ => none) (fun _ => ⟨rfl, fun _ h => h⟩) ?_
    simp [idxI_some hfk, hk, app_get hk]
    refine ⟨by have := hi3.2.2.2; omega, ?_⟩
    refine LWp.ro hT hW (fun | 27 => some (.gen ⟨[(5, 0)], [], [], [(0, .row false 2 ((rest.eraseIdx k).map Nm.d ++ Nm.d ⟨0, 0⟩ :: List.replicate z zeroNm.d))], .ow 0 0 (rest.length - 1)⟩) | _ => none) ?_
    simp
    refine ⟨⟨by have := hi3.2.2.2; omega, by simpa using DeleteNm_ok rest (List.replicate z zeroNm.d) (fun y hy => by rw [(List.mem_replicate.1 hy).2]; rfl) k hk⟩, ?_⟩
    refine loopQ.mk (rest.eraseIdx k, out ++ [rest[k]], z + 1) (Weak.to [2, 5, 6] [(2, 2), (5, 5), (6, 6), (22, 7)] (by decide) (by decide) (by simp [hp]) (by simp [List.length_eraseIdx, hk]) (by simp [List.replicate_succ, zeroNm])) ?_ ?_
    · refine ⟨closed_step hi3.1 hk, fun n hn => hi3.2.1 n (List.mem_of_mem_eraseIdx hn), ?_, ?_⟩
      · have := hi3.2.2.1
        rw [← this, show rest.length = (rest.eraseIdx k).length + 1 by rw [List.length_eraseIdx, if_pos hk]; omega, orderF_succ hfk hk]
      · have := hi3.2.2.2
        simp [List.length_eraseIdx, hk]; omega
    · simp [List.length_eraseIdx, hk]; omega
  · refine LWp.exit ?_
    simp
    refine LWp.seq ?_
    refine LWp.rz hT hW ?_
    simp
    refine LWp.ret ?_
    have := hi3.2.2.1
    simp only [show rest = [] from List.eq_nil_of_length_eq_zero (by simpa using h3), List.length_nil, orderF] at this
    simp [← this]
open Go.Proofs
theorem EOrder_ok (l : List Ed) (set : List Nm) (hs : small l) (hl : set.length ≤ 1100000) : Ok Tryz.prog 96 [edsD l, nmsD set] ⟨.tup [.own 2 ((orderV l set).1.map Nm.d), .d (I64 (orderV l set).2)], true⟩ := by
  refine Ok.two Tryz.func96 (by kernel_rfl) (c := _) rfl Tryz.ntmps96 (by simp) Tryz.results96 rfl fun w0 X hp => ?_
  refine LWp.seq ?_
  refine LWp.rz hT hW ?_
  simp
  refine LWp.seq ?_
  refine LWp.seq ?_
  refine LWp.ro hT hW (fun | 10 => some <| .plain ⟨.tup [.d (I64 (validV l).1), .d (I64 (validV l).2)], true⟩ | _ => none) ?_
  simp [evalExtract]
  refine ⟨EValid_ok l hs, ?_⟩
  refine LWp.seq ?_
  refine LWp.rz hT hW ?_
  simp
  refine LWp.iff ?_
  simp
  refine ⟨fun h2 => ?_, fun h2 => ?_⟩
  · refine LWp.seq ?_
    refine LWp.rz hT hW ?_
    simp
    refine LWp.ret ?_
    simp [orderV, h2]
  · refine LWp.skip ?_
    simp
    refine LWp.seq ?_
    refine LWp.seq ?_
    refine LWp.ro hT hW (fun | 18 => some <| .plain ⟨.d (.bool (closedB l set)), true⟩ | _ => none) ?_
    simp
    refine ⟨EClosed_ok l set, ?_⟩
    refine LWp.iff ?_
    simp
    refine ⟨fun h4 => ?_, fun h4 => ?_⟩
    · refine LWp.seq ?_
      refine LWp.rz hT hW ?_
      simp
      refine LWp.ret ?_
      simp [orderV, h2, h4]
    · refine LWp.skip ?_
      simp
      refine LWp.seq ?_
      refine LWp.ro hT hW (fun | 22 => some <| .plain ⟨.own 2 ((orderN l set).map Nm.d), true⟩ | _ => none) ?_
      simp
      refine ⟨order_ok l set hl (valid_acyc (by simpa using h2)) (by simpa using h4), ?_⟩
      refine LWp.ret ?_
      simp [orderV, h2, h4]
theorem IndexStr_ok (l : List Str) (p : Str → Bool) (g : FuncId) (cs : List DV) (hg : ∀ x ∈ l, Ok Tryz.prog g (.str x :: cs) ⟨.d (.bool (p x)), true⟩) : Ok Tryz.prog 147 [strsD l, .fn g cs] ⟨.d (I64 (idxI p l)), true⟩ := by
  refine Ok.ret Tryz.func147 (by kernel_rfl) (c := _) rfl Tryz.ntmps147 (by simp) Tryz.results147 (by intro _ h; cases h) fun w0 X hp => ?_
  refine LWp.len (t := 0) rfl fun hlen => ?_
  simp at hlen
  refine LWp.seq ?_
  refine LWp.rz hT hW ?_
  simp
  refine LWp.seq ?_
  refine LWp.seq ?_
  refine LWp.rz hT hW ?_
  simp
  refine LWp.block ?_
  refine LWp.loopW (ι := Nat) (fun i => mkEnv [(0, .d (strsD l)), (1, .d (.fn g cs)), (7, .d (I64 l.length)), (8, .d (I64 i))]) (fun i => mkObs []) (fun i => i ≤ l.length ∧ Pre p l i) (fun i => l.length - i) 0 (Weak.to [0, 1, 7, 8] [] (by decide) (by decide) (by simp [hp]) (by simp) (by simp)) (⟨Nat.zero_le _, Pre.zero⟩) fun i hi2 => ?_
  refine LWp.seq ?_
  refine LWp.rz hT hW ?_
  simp
  refine LWp.seq ?_
  refine LWp.iff ?_
  simp
  refine ⟨fun h2 => ?_, fun h2 => ?_⟩
  · refine LWp.skip ?_
    simp
    refine LWp.seq ?_
    refine LWp.block ?_
    refine LWp.seq ?_
    refine LWp.rz hT hW ?_
    simp
    refine LWp.seq ?_
    refine LWp.ro hT hW (fun | 16 => some <| .plain ⟨.d (.bool (p l[i])), true⟩ | _ => none) ?_
    simp [h2]
    refine ⟨hg l[i] (List.getElem_mem h2), ?_⟩
    refine LWp.iff ?_
    simp
    refine ⟨fun h4 => ?_, fun h4 => ?_⟩
    · refine LWp.seq ?_
      refine LWp.rz hT hW ?_
      simp
      refine LWp.ret ?_
      simp [idxI_some (hi2.2.found h2 h4)]
    · refine LWp.skip ?_
      simp
      refine LWp.rz hT hW ?_
      simp
      refine ⟨by omega, ?_⟩
      refine loopQ.mk (i + 1) (Weak.to [0, 1, 7, 8] [] (by decide) (by decide) (by simp [hp]) (by simp) (by simp)) ?_ ?_
      · exact ⟨h2, hi2.2.succ h2 h4⟩
      · omega
  · refine LWp.exit ?_
    simp
    refine LWp.seq ?_
    refine LWp.rz hT hW ?_
    simp
    refine LWp.ret ?_
    simp [idxI_none (hi2.2.none (by omega))]
theorem idxI_cases {α : Type} {p : α → Bool} {l : List α} (h : idxI p l ≠ -1) : ∃ k : Nat, idxI p l = (k : Int) ∧ ∃ hk : k < l.length, p l[k] = true ∧ (l.take (k + 1)).filter (fun x => !p x) = l.take k := by
  unfold idxI at h ⊢
  split at h
  · rename_i k hk
    refine ⟨k, by simp, ?_⟩
    obtain ⟨h1, h2, h3⟩ := List.findIdx?_eq_some_iff_getElem.1 hk
    refine ⟨h1, h2, ?_⟩
    rw [List.take_succ_eq_append_getElem h1, List.filter_append]
    simp only [List.filter_cons, h2, Bool.not_true, Bool.false_eq_true, if_false, List.filter_nil, List.append_nil]
    rw [List.filter_eq_self]
    intro a ha
    obtain ⟨j, hj, rfl⟩ := List.getElem_of_mem ha
    simp at hj ⊢
    simpa using h3 j (by omega)
  · exact absurd rfl h
theorem idxI_neg {α : Type} {p : α → Bool} {l : List α} (h : idxI p l = -1) : l.filter (fun x => !p x) = l := by
  unfold idxI at h
  split at h
  · omega
  · rename_i hk
    rw [List.filter_eq_self]
    intro a ha
    simpa using List.findIdx?_eq_none_iff.1 hk a ha
theorem DeleteFuncStr_ok (l : List Str) (hl : l.length ≤ 8000000000000) (p : Str → Bool) (g : FuncId) (cs : List DV) (hg : ∀ x ∈ l, Ok Tryz.prog g (.str x :: cs) ⟨.d (.bool (p x)), true⟩) : OkG Tryz.prog 156 [.ow 0 0 l.length, .d (.fn g cs)] [(0, .row false 1 (l.map .str))] [(0, .row false 1 ((l.filter fun x => !p x).map .str ++ List.replicate (l.length - (l.filter fun x => !p x).length) (.str [])))] (.ow 0 0 (l.filter fun x => !p x).length) := by
  refine OkG.one Tryz.func156 (by kernel_rfl) (c := _) rfl Tryz.ntmps156 (by simp) Tryz.results156 fun w0 X hp => ?_
  refine LWp.seq ?_
  refine LWp.rz hT hW ?_
  simp
  refine LWp.seq ?_
  refine LWp.ro hT hW (fun | 10 => some <| .plain ⟨.d (I64 (idxI p l)), true⟩ | _ => none) ?_
  simp
  refine ⟨by simpa [strsD] using IndexStr_ok l p g cs hg, ?_⟩
  refine LWp.seq ?_
  refine LWp.seq ?_
  refine LWp.rz hT hW ?_
  simp
  refine LWp.iff ?_
  simp
  refine ⟨fun h2 => ?_, fun h2 => ?_⟩
  · refine LWp.seq ?_
    refine LWp.rz hT hW ?_
    simp
    refine LWp.ret ?_
    simp
    refine Weak.to [4] [(0, 0)] (by decide) (by decide) (by simp [hp]) ?_ ?_
    · simp [idxI_neg h2]
    · simp [idxI_neg h2]
  · obtain ⟨k, hk, hkl, hpk, htk⟩ := idxI_cases h2
    refine LWp.skip ?_
    simp
    refine LWp.seq ?_
    refine LWp.seq ?_
    refine LWp.rz hT hW ?_
    simp [hk]
    refine ⟨by omega, ?_⟩
    refine LWp.block ?_
    refine LWp.loopW (ι := Nat × Nat × List Str) (fun ⟨q, i, r⟩ => mkEnv [(0, .ow 0 0 l.length), (1, .d (.fn g cs)), (5, .d (I64 i)), (6, .d (I64 q))]) (fun ⟨q, i, r⟩ => mkObs [(0, .row false 1 (r.map .str))]) (fun ⟨q, i, r⟩ => q ≤ l.length ∧ i < q ∧ r.length = l.length ∧ r.take i = (l.take q).filter (fun x => !p x) ∧ r.drop q = l.drop q) (fun ⟨q, i, r⟩ => l.length - q) (k + 1, k, l) (Weak.to [0, 1, 5, 6] [(0, 0)] (by decide) (by decide) (by simp [hp]) (by simp) (by simp)) (⟨hkl, by omega, rfl, htk.symm, rfl⟩) fun ⟨q, i, r⟩ hi5 => ?_
    refine LWp.seq ?_
    refine LWp.seq ?_
    refine LWp.rz hT hW ?_
    simp
    refine LWp.iff ?_
    simp
    refine ⟨fun h5 => ?_, fun h5 => ?_⟩
    · refine LWp.skip ?_
      simp
      refine LWp.seq ?_
      refine LWp.block ?_
      refine LWp.seq ?_
      obtain ⟨g1, g2, g3, g4, g5⟩ := hi5
      have e1 : r[q]'(by omega) = l[q] := drop_get g5 (by omega) (by omega) h5
      refine LWp.rz hT hW ?_
      simp [(show q < r.length by omega), e1]
      refine ⟨by omega, ?_⟩
      refine LWp.seq ?_
      refine LWp.ro hT hW (fun | 28 => some <| .plain ⟨.d (.bool (p l[q])), true⟩ | _ => none) ?_
      simp
      refine ⟨hg l[q] (List.getElem_mem h5), ?_⟩
      refine LWp.iff ?_
      simp
      refine ⟨fun h8 => ?_, fun h8 => ?_⟩
      · refine LWp.seq ?_
        refine LWp.rz hT hW ?_
        simp [(show i < r.length by omega)]
        refine ⟨by omega, ?_⟩
        refine LWp.rz hT hW ?_
        simp
        refine ⟨by omega, ?_⟩
        refine LWp.rz hT hW ?_
        simp
        refine ⟨by omega, ?_⟩
        refine loopQ.mk (q + 1, i + 1, r.set i l[q]) (Weak.to [0, 1, 5, 6] [(0, 0)] (by decide) (by decide) (by simp [hp]) (by simp) (by simp)) ?_ ?_
        · dsimp only
          refine ⟨by omega, by omega, by simp [g3], ?_, ?_⟩
          · rw [List.take_succ_eq_append_getElem (by simpa using (show i < r.length by omega)), List.getElem_set_self, List.take_set_of_le (by omega), g4, List.take_succ_eq_append_getElem h5, List.filter_append]
            simp [h8]
          · have g8 := congrArg (List.drop 1) g5
            rw [List.drop_drop, List.drop_drop] at g8
            rw [List.drop_set_of_lt (by omega), g8]
        · omega
      · refine LWp.skip ?_
        simp
        refine LWp.rz hT hW ?_
        simp
        refine ⟨by omega, ?_⟩
        refine loopQ.mk (q + 1, i, r) (Weak.to [0, 1, 5, 6] [(0, 0)] (by decide) (by decide) (by simp [hp]) (by simp) (by simp)) ?_ ?_
        · dsimp only
          refine ⟨by omega, by omega, g3, ?_, ?_⟩
          · rw [g4, List.take_succ_eq_append_getElem h5, List.filter_append]
            simp [h8]
          · have g8 := congrArg (List.drop 1) g5
            rw [List.drop_drop, List.drop_drop] at g8
            exact g8
        · omega
    · refine LWp.exit ?_
      simp
      refine LWp.seq ?_
      refine LWp.rz hT hW ?_
      simp
      refine ⟨by omega, ?_⟩
      refine LWp.seq ?_
      refine LWp.rz hT hW ?_
      simp
      refine ⟨by omega, ?_⟩
      refine LWp.ret ?_
      simp
      obtain ⟨g1, g2, g3, g4, g5⟩ := hi5
      have hq : q = l.length := by omega
      rw [hq, List.take_length] at g4
      have hkl : (l.filter fun x => !p x).length = i := by rw [← g4]; simp; omega
      refine Weak.to [4] [(0, 0)] (by decide) (by decide) (by simp [hp]) ?_ ?_
      · simp [hkl]
      · have hd : List.drop (i + (l.length - i)) (List.map DV.str r) = [] := List.drop_eq_nil_of_le (by simp; omega)
        simp
        rw [hd, hkl, ← g4, List.map_take, List.append_nil]
theorem etouches_own (e : Ed) (h1 : e.puts.length ≤ 1100000) (h2 : e.drops.length ≤ 1100000) : Ok Tryz.prog 129 [e.d] ⟨.own 1 ((touches e).map .str), true⟩ := by
  refine Ok.ret Tryz.func129 (by kernel_rfl) (c := _) rfl Tryz.ntmps129 (by simp) Tryz.results129 (by intro _ h; cases h) fun w0 X hp => ?_
  refine LWp.seq ?_
  refine LWp.rz hT hW ?_
  simp
  refine LWp.seq ?_
  refine LWp.rz hT hW ?_
  simp
  refine LWp.seq ?_
  refine LWp.seq ?_
  refine LWp.rz hT hW ?_
  simp
  refine LWp.block ?_
  refine LWp.loopW (ι := Nat × List Str) (fun ⟨i, acc⟩ => mkEnv [(1, .bx 1 0), (3, .ow 3 0 acc.length), (7, .d (dfsD e.puts)), (8, .d (I64 e.puts.length)), (9, .d (I64 i))]) (fun ⟨i, acc⟩ => mkObs [(3, .row false 1 (acc.map .str)), (1, .box false ((cellsD e.d).map .d))]) (fun ⟨i, acc⟩ => i ≤ e.puts.length ∧ acc.length = i ∧ acc = (e.puts.map Df.name).take i) (fun ⟨i, acc⟩ => e.puts.length - i) (0, []) (Weak.to [1, 3, 7, 8, 9] [(3, 3), (1, 1)] (by decide) (by decide) (by simp [hp]) (by simp) (by simp)) (by simp) fun ⟨i, acc⟩ hi3 => ?_
  refine LWp.seq ?_
  refine LWp.rz hT hW ?_
  simp
  refine LWp.seq ?_
  refine LWp.iff ?_
  simp
  refine ⟨fun h3 => ?_, fun h3 => ?_⟩
  · refine LWp.skip ?_
    simp
    refine LWp.seq ?_
    refine LWp.block ?_
    refine LWp.seq ?_
    refine LWp.rz hT hW ?_
    simp [h3]
    refine LWp.rz hT hW ?_
    simp
    refine ⟨by have := hi3.2.1; omega, ?_⟩
    refine LWp.rz hT hW ?_
    simp
    refine ⟨by omega, ?_⟩
    refine loopQ.mk (i + 1, acc ++ [e.puts[i].name]) (Weak.to [1, 3, 7, 8, 9] [(17, 3), (1, 1)] (by decide) (by decide) (by simp [hp]) (by simp) (by simp)) ?_ ?_
    · exact ⟨h3, by simp [hi3.2.1], by rw [map_take_succ h3, ← hi3.2.2]⟩
    · omega
  · refine LWp.exit ?_
    simp
    refine LWp.seq ?_
    refine LWp.rz hT hW ?_
    simp
    refine ⟨by have := hi3.2.1; omega, ?_⟩
    refine LWp.ret ?_
    have q : i = e.puts.length := by omega
    have := hi3.2.2
    rw [q] at this
    have q2 : ∀ (x y : List DV) (n : Nat), n = x.length + y.length → List.take n (x ++ y) = x ++ y := fun x y n h => List.take_of_length_le (by simp [h])
    simp [this, touches, q2]
    rintro x (⟨a, _, rfl⟩ | ⟨a, _, rfl⟩) <;> simp
def edAt (l : List Ed) (n : Nm) : Ed := match find? l n with | some i => l.getD i default | none => default
def sharedL (l : List Ed) (a b : Nm) : List Str :=
  if findI l a < 0 ∨ findI l b < 0 ∨ a = b ∨ a ∈ aboveL l b ∨ b ∈ aboveL l a then [] else (touches (edAt l a)).filter fun s => decide (s ∈ touches (edAt l b))
theorem edAt_of {l : List Ed} {n : Nm} (h : 0 ≤ findI l n) : ∃ i, ∃ hi : i < l.length, findI l n = (i : Int) ∧ edAt l n = l[i] := by
  unfold findI at h
  unfold findI edAt
  cases q : find? l n with
  | none => rw [q] at h; simp at h
  | some i =>
    obtain ⟨hi, _, _⟩ := find_at q
    exact ⟨i, hi, rfl, by simp [hi]⟩
theorem touches_len {e : Ed} (h1 : e.puts.length ≤ 1100000) (h2 : e.drops.length ≤ 1100000) : (touches e).length ≤ 2200000 := by unfold touches; simp; omega
theorem apart1_ok (l : List Str) (s : Str) : Ok Tryz.prog 157 [.str s, .ro [strsD l]] ⟨.d (.bool (!decide (s ∈ l))), true⟩ := by
  refine Ok.ret Tryz.func157 (by kernel_rfl) (c := _) rfl Tryz.ntmps157 (by simp) Tryz.results157 (by intro _ h; cases h) fun w0 X hp => ?_
  refine LWp.seq ?_
  refine LWp.rz hT hW ?_
  simp
  refine LWp.seq ?_
  refine LWp.ro hT hW (fun | 6 => some <| .plain ⟨.d (.bool (decide (s ∈ l))), true⟩ | _ => none) ?_
  simp
  refine ⟨InStr_ok l s, ?_⟩
  refine LWp.ret ?_
  simp
theorem apart_ok (l : List Ed) (a b : Nm) (hs : small l) (ha : 0 ≤ findI l a) (hb : 0 ≤ findI l b) : Ok Tryz.prog 121 [edsD l, a.d, b.d] ⟨.d (strsD (sharedL l a b)), true⟩ := by
  refine Ok.ret Tryz.func121 (by kernel_rfl) (c := _) rfl Tryz.ntmps121 (by simp) Tryz.results121 (by intro _ h; cases h) fun w0 X hp => ?_
  refine LWp.seq ?_
  refine LWp.rz hT hW ?_
  simp
  refine LWp.seq ?_
  refine LWp.seq ?_
  refine LWp.ro hT hW (fun | 15 => some <| .plain ⟨.d (.bool (decide (a ∈ aboveL l b))), true⟩ | 21 => some <| .plain ⟨.d (.bool (decide (b ∈ aboveL l a))), true⟩ | _ => none) ?_
  simp
  refine ⟨⟨fun _ => EBefore_ok l a b, fun _ _ => EBefore_ok l b a⟩, ?_⟩
  refine LWp.iff ?_
  simp
  refine ⟨fun h1 => ?_, fun g1 g2 g3 => ?_⟩
  · refine LWp.seq ?_
    refine LWp.rz hT hW ?_
    simp
    refine LWp.ret ?_
    have e : sharedL l a b = [] := by unfold sharedL; rw [if_pos (by rcases h1 with (h | h) | h <;> simp [h])]
    simp [e]
  · refine LWp.skip ?_
    simp
    refine LWp.seq ?_
    obtain ⟨i, hi, fa, ea⟩ := edAt_of ha
    obtain ⟨j, hj, fb, eb⟩ := edAt_of hb
    refine LWp.ro hT hW (fun | 26 => some <| .plain ⟨.d (I64 (findI l b)), true⟩ | 29 => some <| .plain ⟨.d (strsD (touches l[j])), true⟩ | _ => none) ?_
    simp [fb, hj]
    refine ⟨⟨by rw [← fb]; exact EFind_ok l b, etouches_ok _ (hs _ (List.getElem_mem hj)).1 (hs _ (List.getElem_mem hj)).2⟩, ?_⟩
    refine LWp.seq ?_
    refine LWp.ro hT hW (fun | 33 => some <| .plain ⟨.d (I64 (findI l a)), true⟩ | 36 => some <| .plain ⟨.own 1 ((touches l[i]).map .str), true⟩ | 38 => some (.gen ⟨[(36, 0)], [], [1], [(0, .row false 1 (((touches l[i]).filter fun x => !(!decide (x ∈ touches l[j]))).map .str ++ List.replicate ((touches l[i]).length - ((touches l[i]).filter fun x => !(!decide (x ∈ touches l[j]))).length) (.str [])))], .ow 0 0 ((touches l[i]).filter fun x => !(!decide (x ∈ touches l[j]))).length⟩) | _ => none) ?_
    simp [fa, hi]
    refine ⟨⟨⟨by rw [← fa]; exact EFind_ok l a, etouches_own _ (hs _ (List.getElem_mem hi)).1 (hs _ (List.getElem_mem hi)).2⟩, by simpa [strsD] using DeleteFuncStr_ok (touches l[i]) (by have := touches_len (hs _ (List.getElem_mem hi)).1 (hs _ (List.getElem_mem hi)).2; omega) (fun x => !decide (x ∈ touches l[j])) _ _ fun x _ => apart1_ok (touches l[j]) x⟩, ?_⟩
    refine LWp.ret ?_
    have e : sharedL l a b = (touches l[i]).filter fun s => decide (s ∈ touches l[j]) := by unfold sharedL; rw [if_neg (by simp only [not_or]; exact ⟨by omega, by omega, g1, g2, g3⟩), ea, eb]
    simp [e]
    rintro _ x _ _ rfl
    simp
def resolvedB (l : List Ed) (s : Str) (a b c : Nm) : Bool := decide (s ∈ touches (edAt l c)) && decide (a ∈ aboveL l c) && decide (b ∈ aboveL l c)
def clashB (l : List Ed) (set : List Nm) (a b : Nm) : Bool := (sharedL l a b).any fun s => !set.any (resolvedB l s a b)
theorem clash1_ok (l : List Ed) (s : Str) (a b c : Nm) (hs : small l) (hc : 0 ≤ findI l c) : Ok Tryz.prog 128 [c.d, .ro [edsD l], .ro [.str s], .ro [I64 a.who, I64 a.seq], .ro [I64 b.who, I64 b.seq]] ⟨.d (.bool (resolvedB l s a b c)), true⟩ := by
  refine Ok.ret Tryz.func128 (by kernel_rfl) (c := _) rfl Tryz.ntmps128 (by simp) Tryz.results128 (by intro _ h; cases h) fun w0 X hp => ?_
  refine LWp.seq ?_
  refine LWp.rz hT hW ?_
  simp
  refine LWp.seq ?_
  obtain ⟨i, hi, fc, ec⟩ := edAt_of hc
  refine LWp.regAny hT hW hMixed (lk [[],[],[],[1,2],[0,1,2,3],[0,1,2,3,4],[0,1,2,3,4,5],[],[0,1,2,3,4,5,6,7],[0,1,2,3,4,5,6,7,8],[0,1,2,3,4,5,6,7,8,9],[0,1,2,3,4,5,6,7,8,9],[0,1,2,3,4,5,6,7,8,9],[0,1,2,3,4,5,6,7,8,9,10,11,12],[0,1,2,3,4,5,6,7,8,9,10,11,12,13],[0,1,2,3,4,5,6,7,8,9,10,11,12,13,14],[0,1,2,3,4,5,6,7,8,9,10,11,12,13,14,15],[0,1,2,3,4,5,6,7,8,9,10,11,12,13,14,15],[0,1,2,3,4,5,6,7,8,9,10,11,12,13,14,15],[0,1,2,3,4,5,6,7,8,9,10,11,12,13,14,15,16,17,18],[0,1,2,3,4,5,6,7,8,9,10,11,12,13,14,15,16,17,18,19],[0,1,2,3,4,5,6,7,8,9,10,11,12,13,14,15,16,17,18,19,20]]) (lk [[10],[],[],[],[],[],[],[10,13],[],[],[],[],[],[],[],[],[],[],[],[],[],[]]) (lk [[],[],[],[10],[],[],[13],[],[15],[],[],[],[],[20],[],[],[],[],[],[26],[],[]]) (by kernel_rfl) (fun | 10 => some <| .plain ⟨.d (I64 (findI l c)), true⟩ | 13 => some <| .plain ⟨.d (strsD (touches l[i])), true⟩ | 15 => some <| .plain ⟨.d (.bool (decide (s ∈ touches l[i]))), true⟩ | 20 => some <| .plain ⟨.d (.bool (decide (a ∈ aboveL l c))), true⟩ | 26 => some <| .plain ⟨.d (.bool (decide (b ∈ aboveL l c))), true⟩ | _ => none) (by intro d; first | exact ⟨rfl, fun _ h => h⟩ | (split <;> exact ⟨rfl, fun _ h => h⟩)) ?_
  simp [fc, hi]
  refine ⟨⟨⟨⟨⟨by rw [← fc]; exact EFind_ok l c, etouches_ok _ (hs _ (List.getElem_mem hi)).1 (hs _ (List.getElem_mem hi)).2⟩, InStr_ok _ _⟩, fun _ => EBefore_ok l a c⟩, fun _ _ => EBefore_ok l b c⟩, ?_⟩
  refine LWp.ret ?_
  simp [resolvedB, ec]
theorem edAt_small {l : List Ed} (hs : small l) (n : Nm) : (edAt l n).puts.length ≤ 1100000 ∧ (edAt l n).drops.length ≤ 1100000 := by
  unfold edAt
  split
  · rename_i i h
    obtain ⟨hi, _, _⟩ := find_at h
    simp only [List.getD_eq_getElem?_getD, List.getElem?_eq_getElem hi, Option.getD_some]
    exact hs _ (List.getElem_mem hi)
  · exact ⟨by decide, by decide⟩
theorem sharedL_len {l : List Ed} (hs : small l) (a b : Nm) : (sharedL l a b).length ≤ 2200000 := by
  unfold sharedL
  split
  · simp
  · exact Nat.le_trans (List.length_filter_le _ _) (touches_len (edAt_small hs a).1 (edAt_small hs a).2)
theorem eclash_ok (l : List Ed) (set : List Nm) (a b : Nm) (hs : small l) (hset : ∀ c ∈ set, 0 ≤ findI l c) (ha : 0 ≤ findI l a) (hb : 0 ≤ findI l b) : Ok Tryz.prog 90 [edsD l, nmsD set, a.d, b.d] ⟨.d (.bool (clashB l set a b)), true⟩ := by
  refine Ok.ret Tryz.func90 (by kernel_rfl) (c := _) rfl Tryz.ntmps90 (by simp) Tryz.results90 (by intro _ h; cases h) fun w0 X hp => ?_
  have hlen := sharedL_len hs a b
  refine LWp.seq ?_
  refine LWp.rz hT hW ?_
  simp
  refine LWp.seq ?_
  refine LWp.seq ?_
  refine LWp.ro hT hW (fun | 14 => some <| .plain ⟨.d (strsD (sharedL l a b)), true⟩ | _ => none) ?_
  simp
  refine ⟨apart_ok l a b hs ha hb, ?_⟩
  refine LWp.block ?_
  refine LWp.loopW (ι := Nat) (fun i => mkEnv [(1, .d (nmsD set)), (4, .bx 4 0), (6, .bx 6 0), (7, .bx 7 0), (14, .d (strsD (sharedL l a b))), (15, .d (I64 (sharedL l a b).length)), (16, .d (I64 i))]) (fun i => mkObs [(4, .box false [.d (edsD l)]), (6, .box false [.d (I64 a.who), .d (I64 a.seq)]), (7, .box false [.d (I64 b.who), .d (I64 b.seq)])]) (fun i => i ≤ (sharedL l a b).length ∧ Pre (fun s => !set.any (resolvedB l s a b)) (sharedL l a b) i) (fun i => (sharedL l a b).length - i) 0 (Weak.to [1, 4, 6, 7, 14, 15, 16] [(4, 4), (6, 6), (7, 7)] (by decide) (by decide) (by simp [hp]) (by simp) (by simp)) (⟨Nat.zero_le _, Pre.zero⟩) fun i hi2 => ?_
  refine LWp.seq ?_
  refine LWp.rz hT hW ?_
  simp
  refine LWp.seq ?_
  refine LWp.iff ?_
  simp
  refine ⟨fun h2 => ?_, fun h2 => ?_⟩
  · refine LWp.skip ?_
    simp
    refine LWp.seq ?_
    refine LWp.block ?_
    refine LWp.seq ?_
    refine LWp.rz hT hW ?_
    simp [h2]
    refine LWp.seq ?_
    refine LWp.ro hT hW (fun | 22 => some <| .plain ⟨.d (.bool (set.any (resolvedB l (sharedL l a b)[i] a b))), true⟩ | _ => none) ?_
    simp
    refine ⟨AnyNm_ok set (resolvedB l (sharedL l a b)[i] a b) _ _ fun c hc => clash1_ok l _ a b c hs (hset c hc), ?_⟩
    refine LWp.iff ?_
    simp
    refine ⟨fun h4 => ?_, fun c4 hc4 hr4 => ?_⟩
    · refine LWp.seq ?_
      refine LWp.rz hT hW ?_
      simp
      refine LWp.ret ?_
      simp
      exact List.any_eq_true.2 ⟨_, List.getElem_mem h2, by simpa using h4⟩
    · refine LWp.skip ?_
      simp
      refine LWp.rz hT hW ?_
      simp
      refine ⟨by omega, ?_⟩
      refine loopQ.mk (i + 1) (Weak.to [1, 4, 6, 7, 14, 15, 16] [(4, 4), (6, 6), (7, 7)] (by decide) (by decide) (by simp [hp]) (by simp) (by simp)) ?_ ?_
      · exact ⟨h2, hi2.2.succ h2 (by have := List.any_eq_true.2 ⟨c4, hc4, hr4⟩; simp only [this, Bool.not_true])⟩
      · omega
  · refine LWp.exit ?_
    simp
    refine LWp.seq ?_
    refine LWp.rz hT hW ?_
    simp
    refine LWp.ret ?_
    simp
    exact hi2.2.any h2
open Go.Proofs
def prD (p : Nm × Nm) : DV := .agg [.int .i64 p.1.who, .int .i64 p.1.seq, .int .i64 p.2.who, .int .i64 p.2.seq]
def rowC (f : Nm → Nm → Bool) (all : List Nm) (i : Nat) : List (Nm × Nm) := ((all.drop (i + 1)).filter (f (all.getD i default))).map fun b => (all.getD i default, b)
def pairsL (f : Nm → Nm → Bool) (all : List Nm) : Nat → List (Nm × Nm)
  | 0 => []
  | i + 1 => pairsL f all i ++ rowC f all i
def sharesB (l : List Ed) (a b : Nm) : Bool := decide (0 < (sharedL l a b).length)
def clashesL (l : List Ed) : List (Nm × Nm) := if (validV l).2 ≠ 0 then [] else pairsL (sharesB l) (sortN (l.map Ed.name)) (sortN (l.map Ed.name)).length
theorem names_found {l : List Ed} {n : Nm} (h : n ∈ sortN (l.map Ed.name)) : 0 ≤ findI l n := by
  have h := ((sortN_spec _).2 n).1 h
  obtain ⟨e, he, rfl⟩ := List.mem_map.1 h
  unfold findI
  cases q : find? l e.name with
  | some i => simp
  | none => have := List.findIdx?_eq_none_iff.1 q e he; simp at this
theorem EClashes_ok (l : List Ed) (hs : small l) : Ok Tryz.prog 79 [edsD l] ⟨.d (.sl ((clashesL l).map prD)), true⟩ := by
  refine Ok.ret Tryz.func79 (by kernel_rfl) (c := _) rfl Tryz.ntmps79 (by simp) Tryz.results79 (by intro _ h; cases h) fun w0 X hp => ?_
  refine LWp.len (t := 0) rfl fun hlen => ?_
  simp at hlen
  refine LWp.seq ?_
  refine LWp.rz hT hW ?_
  simp
  refine LWp.seq ?_
  refine LWp.seq ?_
  refine LWp.ro hT hW (fun | 15 => some <| .plain ⟨.tup [.d (I64 (validV l).1), .d (I64 (validV l).2)], true⟩ | _ => none) ?_
  simp [evalExtract]
  refine ⟨EValid_ok l hs, ?_⟩
  refine LWp.seq ?_
  refine LWp.rz hT hW ?_
  simp
  refine LWp.iff ?_
  simp
  refine ⟨fun h2 => ?_, fun h2 => ?_⟩
  · refine LWp.seq ?_
    refine LWp.rz hT hW ?_
    simp
    refine LWp.ret ?_
    simp [clashesL, h2]
  · have h64 := (valid_err (by simpa using h2)).1
    refine LWp.skip ?_
    simp
    refine LWp.seq ?_
    refine LWp.rz hT hW ?_
    simp
    refine LWp.seq ?_
    refine LWp.seq ?_
    refine LWp.rz hT hW ?_
    simp
    refine LWp.block ?_
    refine LWp.loopW (ι := Nat × List Nm) (fun ⟨i, acc⟩ => mkEnv [(0, .d (edsD l)), (5, .ow 5 0 acc.length), (20, .d (edsD l)), (21, .d (I64 l.length)), (22, .d (I64 i))]) (fun ⟨i, acc⟩ => mkObs [(5, .row false 2 (acc.map Nm.d))]) (fun ⟨i, acc⟩ => i ≤ l.length ∧ acc.length = i ∧ acc = (l.map Ed.name).take i) (fun ⟨i, acc⟩ => l.length - i) (0, []) (Weak.to [0, 5, 20, 21, 22] [(5, 5)] (by decide) (by decide) (by simp [hp]) (by simp) (by simp)) (by simp) fun ⟨i, acc⟩ hi6 => ?_
    refine LWp.seq ?_
    refine LWp.rz hT hW ?_
    simp
    refine LWp.seq ?_
    refine LWp.iff ?_
    simp
    refine ⟨fun h6 => ?_, fun h6 => ?_⟩
    · refine LWp.skip ?_
      simp
      refine LWp.seq ?_
      refine LWp.block ?_
      refine LWp.seq ?_
      refine LWp.rz hT hW ?_
      simp [h6]
      refine LWp.rz hT hW ?_
      simp [h6]
      refine ⟨by have := hi6.2.1; omega, ?_⟩
      refine LWp.rz hT hW ?_
      simp
      refine ⟨by omega, ?_⟩
      refine loopQ.mk (i + 1, acc ++ [l[i].name]) (Weak.to [0, 5, 20, 21, 22] [(30, 5)] (by decide) (by decide) (by simp [hp]) (by simp) (by simp)) ?_ ?_
      · exact ⟨h6, by simp [hi6.2.1], by rw [map_take_succ h6, ← hi6.2.2]⟩
      · omega
    · refine LWp.exit ?_
      simp
      refine LWp.seq ?_
      have e6 : acc = l.map Ed.name := by rw [hi6.2.2, show i = l.length by omega, List.take_of_length_le (by simp)]
      refine LWp.ro hT hW (fun | 33 => some <| .plain ⟨.own 2 ((sortN acc).map Nm.d), true⟩ | _ => none) ?_
      simp
      refine ⟨ESort_ok acc (by have := hi6.2.1; omega), ?_⟩
      refine LWp.seq ?_
      refine LWp.rz hT hW ?_
      simp
      refine LWp.seq ?_
      refine LWp.seq ?_
      obtain ⟨all, hall⟩ : ∃ all, all = sortN acc := ⟨_, rfl⟩
      have hal : all.length ≤ 64 := by have := sortN_len acc; have := hi6.2.1; rw [hall]; omega
      have hfound : ∀ n ∈ all, 0 ≤ findI l n := fun n hn => names_found (by rw [← e6, ← hall]; exact hn)
      rw [← hall]
      refine LWp.rz hT hW ?_
      simp
      refine LWp.block ?_
      refine LWp.loopW (ι := Nat × List (Nm × Nm)) (fun ⟨j, ps⟩ => mkEnv [(0, .d (edsD l)), (5, .ow 5 0 all.length), (8, .ow 8 0 ps.length), (34, .ow 5 0 all.length), (35, .d (I64 all.length)), (36, .d (I64 j))]) (fun ⟨j, ps⟩ => mkObs [(5, .row false 2 (all.map Nm.d)), (8, .row false 4 (ps.map prD))]) (fun ⟨j, ps⟩ => j ≤ all.length ∧ ps.length ≤ j * all.length ∧ ps = pairsL (sharesB l) all j) (fun ⟨j, ps⟩ => all.length - j) (0, []) (Weak.to [0, 5, 8, 34, 35, 36] [(33, 5), (8, 8)] (by decide) (by decide) (by simp [hp]) (by simp) (by simp)) (by simp [pairsL]) fun ⟨j, ps⟩ hi13 => ?_
      refine LWp.seq ?_
      refine LWp.rz hT hW ?_
      simp
      refine LWp.seq ?_
      refine LWp.iff ?_
      simp
      refine ⟨fun h13 => ?_, fun h13 => ?_⟩
      · refine LWp.skip ?_
        simp
        refine LWp.seq ?_
        refine LWp.block ?_
        refine LWp.seq ?_
        refine LWp.rz hT hW ?_
        simp [h13]
        refine LWp.seq ?_
        refine LWp.rz hT hW ?_
        simp [(show ((all.length : Int) - ((j : Int) + 1)).toNat = all.length - (j + 1) by omega)]
        refine ⟨by omega, ?_⟩
        refine LWp.block ?_
        refine LWp.loopW (ι := Nat × List (Nm × Nm)) (fun ⟨k, qs⟩ => mkEnv [(0, .d (edsD l)), (5, .ow 5 0 all.length), (8, .ow 8 0 qs.length), (10, .bx 10 0), (34, .ow 5 0 all.length), (35, .d (I64 all.length)), (36, .d (I64 j)), (44, .ow 5 (j + 1) (all.length - (j + 1))), (45, .d (I64 (all.length - (j + 1) : Nat))), (46, .d (I64 k))]) (fun ⟨k, qs⟩ => mkObs [(5, .row false 2 (all.map Nm.d)), (8, .row false 4 (qs.map prD)), (10, .box false [.d (I64 all[j].who), .d (I64 all[j].seq)])]) (fun ⟨k, qs⟩ => k ≤ all.length - (j + 1) ∧ qs.length ≤ ps.length + k ∧ qs = pairsL (sharesB l) all j ++ (((all.drop (j + 1)).take k).filter (sharesB l all[j])).map (fun b => (all[j], b))) (fun ⟨k, qs⟩ => all.length - (j + 1) - k) (0, ps) (Weak.to [0, 5, 8, 10, 34, 35, 36, 44, 45, 46] [(5, 5), (8, 8), (10, 10)] (by decide) (by decide) (by simp [hp]) (by simp) (by simp)) (by simp [hi13.2.2]) fun ⟨k, qs⟩ hi16 => ?_
        refine LWp.seq ?_
        refine LWp.rz hT hW ?_
        simp
        refine LWp.seq ?_
        refine LWp.iff ?_
        simp
        refine ⟨fun h16 => ?_, fun h16 => ?_⟩
        · refine LWp.skip ?_
          simp
          refine LWp.seq ?_
          refine LWp.block ?_
          refine LWp.seq ?_
          have h16' : j + 1 + k < all.length := by omega
          refine LWp.rz hT hW ?_
          simp [h16, h16']
          refine LWp.seq ?_
          refine LWp.ro hT hW (fun | 53 => some <| .plain ⟨.d (strsD (sharedL l all[j] all[j + 1 + k])), true⟩ | _ => none) ?_
          simp
          refine ⟨apart_ok l _ _ hs (hfound _ (List.getElem_mem h13)) (hfound _ (List.getElem_mem h16')), ?_⟩
          refine LWp.iff ?_
          simp
          refine ⟨fun h18 => ?_, fun h18 => ?_⟩
          · refine LWp.rz hT hW ?_
            simp
            have hb : qs.length ≤ 5000 := by
              have h1 := hi16.2.1
              have h2 := hi13.2.1
              have h3 : j * all.length ≤ 64 * 64 := Nat.mul_le_mul (by omega) hal
              omega
            refine ⟨by omega, ?_⟩
            refine LWp.rz hT hW ?_
            simp
            refine ⟨by omega, ?_⟩
            refine loopQ.mk (k + 1, qs ++ [(all[j], all[j + 1 + k])]) (Weak.to [0, 5, 8, 10, 34, 35, 36, 44, 45, 46] [(5, 5), (61, 8), (10, 10)] (by decide) (by decide) (by simp [hp]) (by simp) (by simp [prD])) ?_ ?_
            · refine ⟨by omega, by have := hi16.2.1; simp; omega, ?_⟩
              rw [hi16.2.2, List.take_succ_eq_append_getElem (by simp; omega), List.filter_append, List.map_append]
              simp [sharesB, h18]
            · omega
          · refine LWp.skip ?_
            simp
            refine LWp.rz hT hW ?_
            simp
            refine ⟨by omega, ?_⟩
            refine loopQ.mk (k + 1, qs) (Weak.to [0, 5, 8, 10, 34, 35, 36, 44, 45, 46] [(5, 5), (8, 8), (10, 10)] (by decide) (by decide) (by simp [hp]) (by simp) (by simp)) ?_ ?_
            · dsimp only
              refine ⟨by omega, by have := hi16.2.1; omega, ?_⟩
              rw [hi16.2.2, List.take_succ_eq_append_getElem (by simp; omega), List.filter_append, List.map_append]
              simp [sharesB, h18]
            · omega
        · refine LWp.exit ?_
          simp
          refine LWp.rz hT hW ?_
          simp
          refine ⟨by omega, ?_⟩
          refine loopQ.mk (j + 1, qs) (Weak.to [0, 5, 8, 34, 35, 36] [(5, 5), (8, 8)] (by decide) (by decide) (by simp [hp]) (by simp) (by simp)) ?_ ?_
          · refine ⟨h13, ?_, ?_⟩
            · rw [hi16.2.2, List.length_append, Nat.add_mul]
              have h1 := hi13.2.1
              have h2 := hi13.2.2
              rw [← h2]
              have h3 : ((((all.drop (j + 1)).take k).filter (sharesB l all[j])).map (fun b => (all[j], b))).length ≤ all.length := by
                rw [List.length_map]
                exact Nat.le_trans (List.length_filter_le _ _) (by simp; omega)
              omega
            · rw [hi16.2.2, List.take_of_length_le (by simp; omega)]
              simp [pairsL, rowC, h13]
          · omega
      · refine LWp.exit ?_
        simp
        refine LWp.seq ?_
        refine LWp.rz hT hW ?_
        simp
        refine LWp.ret ?_
        have e : ps = clashesL l := by
          have := hi13.2.2
          rw [show j = all.length by omega, hall, e6] at this
          simp [clashesL, h2, this]
        simp [e]
        rintro _ a b _ rfl
        simp [prD]
end Go.Eng
namespace Go.Eng
open Go.RowKit
def AbW {β : Type} (B : Nat) (J : β → World → Prop) : Prop :=
  ∀ s W W' row, J s W → W.grownBy W' row → W.drawn ≤ W'.drawn → (∀ r, row = some r → B ≤ r ∧ ∃ o : Obj, W.heap[r]? = some o ∧ o.isCells = false) → J s W'
theorem AbW.putObj {β : Type} {B : Nat} {J : β → World → Prop} (h : AbW B J) {s : β} {W : World} {l : Nat} {o : Obj} (o' : Obj) (hs : J s W) (hB : B ≤ l) (hl : W.heap[l]? = some o) (ho : o.isCells = false) : J s (W.putObj l o') :=
  h s W _ (some l) hs (grownBy_putObj' W l o') (Nat.le_refl _) (fun r e => by cases e; exact ⟨hB, o, hl, ho⟩)
theorem AbW.alloc {β : Type} {B : Nat} {J : β → World → Prop} (h : AbW B J) {s : β} {W : World} (o : Obj) (hs : J s W) : J s (W.alloc o) :=
  h s W _ none hs (World.grownBy_alloc W o none) (Nat.le_refl _) (fun r e => by cases e)
def roundEnd {α : Type} (B : Nat) (I : List α → World → Prop) (xs : List α) (W : World) : Exit → Act → World → Prop
  | .normal, _, W' => KeepsFrom B W W' ∧ KeepsWalks W W' ∧ I xs W'
  | _, _, _ => False
theorem wpIn_rangeFunc_gives {F : Fence} {n : Nat} {P : Program} {w : World} {α : Type} {g : Operand} {p : Tmp} {assign body : Code} {Q : Exit → Act → World → Prop} {a : Act}
    (hro : F.round = none) (h1 : 1 ≤ n) {gf : Nat} {lb : Array Value} (hg : a.eval g = .func (.func gf) #[] lb) (hFg : F.fn gf) (eg : ∀ args w, (callFunc gf args).run P w = .ok (.enter gf args) w)
    {enc : α → Value} {S : List α → Prop} {N : Nat} (I : List α → World → Prop) (hI : AbW w.heap.size I) (h0 : I [] w)
    (hseq : ∀ (l : Nat) (J : List α → World → Prop) (W1 : World), I [] W1 → w.heap.size ≤ W1.heap.size → AbW W1.heap.size J →
      (∀ pre x W, J pre W → pre.length < N → YieldAt F (n - 1 - 1) P l #[enc x] W fun e W' => e = .returned (.bool true) ∧ J (pre ++ [x]) W' ∧ KeepsWalks W W') → J [] W1 →
      CallsIn F (n - 1) P gf (#[.func (.yield l) #[] #[]] ++ lb) W1 fun e W' => (∃ v, e = .returned v) ∧ ∃ xs, S xs ∧ J xs W')
    (Ax : α → Act → World → Prop) (hAx : ∀ x a', AbW w.heap.size (fun (_ : Unit) W => Ax x a' W))
    (hassign : ∀ (l : Nat) (pre : List α) (x : α) (W : World) (K : Act → World → Prop), I pre W → (∀ a' W', W.grownBy W' none → W.drawn ≤ W'.drawn → Ax x a' W' → K a' W') →
      assign.wpIn (F.inRound l) (n - 1 - 1) P (Exit.then K (fun _ _ _ => False)) { tmps := a.tmps.setIfInBounds p (enc x), defers := [] } W)
    (hbody : ∀ (l : Nat) (pre : List α) (x : α) (a' : Act) (W : World), I pre W → Ax x a' W → pre.length < N → body.wpIn (F.inRound l) (n - 1 - 1) P (roundEnd w.heap.size I (pre ++ [x]) W) a' W)
    (hdone : ∀ (D : Nat) (xs : List α) (W : World), w.heap.size ≤ D → S xs → I xs W → W.heap[D]? = some (.deferred (some [])) → Q .normal { a with defers := { target := .collected D, args := #[] } :: a.defers } W) :
    (Code.rangeFunc g #[p] assign body).wpIn F n P Q a w := by
  refine wpIn_rangeFunc ?_
  intro fn hfn
  rw [hro]
  obtain ⟨rec, hrec⟩ : ∃ rec : LoopState → Option Code → Loop, rec = fun st pe => { state := st, pending := pe, fn, tmps := a.tmps, params := #[p], assign, body, defers := w.heap.size } := ⟨_, rfl⟩
  obtain ⟨W1, hW1⟩ : ∃ W1, (w.alloc (.deferred (some []))).alloc (.loop (rec .ready none)) = W1 := ⟨_, rfl⟩
  have hL1 : W1.heap[w.heap.size + 1]? = some (.loop (rec .ready none)) := by
    rw [← hW1]; have := World.alloc_heap_new (w.alloc (.deferred (some []))) (.loop (rec .ready none)); rwa [World.size_alloc] at this
  have hK1 : W1.heap[w.heap.size]? = some (.deferred (some [])) := by
    rw [← hW1]; exact (Below.heap_alloc _ _ _ (by simp)).trans (World.alloc_heap_new w _)
  have hI1 : I [] W1 := by rw [← hW1]; exact hI.alloc _ (hI.alloc _ h0)
  have hs1 : W1.heap.size = w.heap.size + 2 := by rw [← hW1]; simp
  refine ⟨w.heap.size + 1, [{ target := .collected w.heap.size, args := #[] }], W1, { target := .fn (.func gf) lb, args := #[.func (.yield (w.heap.size + 1)) #[] #[]] }, W1, gf,
    #[.func (.yield (w.heap.size + 1)) #[] #[]] ++ lb, W1, ?_, ?_, ?_, ?_, fun _ => h1, ?_⟩
  · rw [← hW1, hrec]; exact run_enterLoop_outer _ _ _ _ _
  · simp only [resolve, hg]
    simp [go_sem]
  · intro f' hf'; simp [Target.leads] at hf'; subst hf'; exact hFg
  · simp [invoke, go_sem, eg]
  · have keep : ∀ {A B : World} {row : Option Nat} {k : Nat} {o : Obj}, A.grownBy B row → (∀ r, row = some r → W1.heap.size ≤ r ∧ ∃ o : Obj, A.heap[r]? = some o ∧ o.isCells = false) → k < W1.heap.size → A.heap[k]? = some o → B.heap[k]? = some o := fun {A B row k o} hg' hr hk ho =>
      (hg'.block k (Array.getElem?_eq_some_iff.1 ho).1 (fun e => by have := (hr k e.symm).1; omega)).trans ho
    refine (hseq (w.heap.size + 1) (fun pre W => I pre W ∧ W.heap[w.heap.size + 1]? = some (.loop (rec .ready none)) ∧ W.heap[w.heap.size]? = some (.deferred (some []))) W1 hI1 (by omega)
      (fun s A B row hs hg' hd hr => ⟨hI s A B row hs.1 hg' hd (fun r e => ⟨by have := (hr r e).1; omega, (hr r e).2⟩), keep hg' hr (by omega) hs.2.1, keep hg' hr (by omega) hs.2.2⟩)
      ?_ ⟨hI1, hL1, hK1⟩).mono ?_
    · rintro pre x W ⟨hi, hl, hk⟩ hlen
      have hlt : w.heap.size + 1 < W.heap.size := (Array.getElem?_eq_some_iff.1 hl).1
      have hy : (Instr.yield (w.heap.size + 1) #[enc x]).run P W = .ok (.round (w.heap.size + 1) fn (a.tmps.setIfInBounds p (enc x)) assign body) W := by
        have := run_yield (P := P) (args := #[enc x]) hl (by rw [hrec]; simp)
        rw [hrec] at this
        simpa using this
      refine ⟨fn, _, assign, body, hy, roundIn_of_wpIn hfn (hassign _ pre x W _ hi ?_)⟩
      intro a' Wa hga hda hax
      have hla := (hga.block _ (Array.getElem?_eq_some_iff.1 hl).1 (by simp)).trans hl
      have hka := (hga.block _ (Array.getElem?_eq_some_iff.1 hk).1 (by simp)).trans hk
      have hia : I pre Wa := hI pre W Wa none hi hga hda (fun r e => by cases e)
      have hwa : KeepsWalks W Wa := KeepsWalks.of_grownBy hga (fun j o e => by cases e)
      have hlta : w.heap.size + 1 < Wa.heap.size := (Array.getElem?_eq_some_iff.1 hla).1
      refine ⟨_, run_beginRound hla (by rw [hrec]), ?_⟩
      have hl2 : (Wa.putObj (w.heap.size + 1) (.loop { rec .ready none with state := .busy })).heap[w.heap.size + 1]? = some (.loop { rec .ready none with state := .busy }) := World.putObj_heap_same hlta
      have hk2 : (Wa.putObj (w.heap.size + 1) (.loop { rec .ready none with state := .busy })).heap[w.heap.size]? = some (.deferred (some [])) := (World.putObj_heap_other (by omega)).trans hka
      have hw2 : KeepsWalks Wa (Wa.putObj (w.heap.size + 1) (.loop { rec .ready none with state := .busy })) := KeepsWalks.putObj _ hla rfl
      refine wpIn_mono (hbody _ pre x a' _ (hI.putObj _ hia (by omega) hla rfl) ((hAx x a').putObj (s := ()) _ hax (by omega) hla rfl) hlen) ?_
      rintro e a3 W3 hp
      cases e with
      | normal =>
        obtain ⟨hk3, hkp3, hi3⟩ := hp
        have hl3 := hk3.same _ _ (by omega) hl2 rfl
        have hd3 := hk3.same _ _ (Nat.le_refl _) hk2 rfl
        have hr := run_endRound (P := P) none hl3
        refine ⟨_, _, hr, rfl, ⟨hI.putObj _ hi3 (by omega) hl3 rfl, ?_, (World.putObj_heap_other (by omega)).trans hd3⟩, (hwa.trans hw2).trans (hkp3.trans (KeepsWalks.putObj _ hl3 rfl))⟩
        have := World.putObj_heap_same (w := W3) (o := .loop (rec .ready none)) (Array.getElem?_eq_some_iff.1 hl3).1
        rw [hrec] at this ⊢
        exact this
      | ret => exact hp.elim
      | exit id => exact hp.elim
      | goto t => exact hp.elim
      | panic ch => exact hp.elim
      | outgrown => exact hp.elim
    · rintro e W2 ⟨⟨v, rfl⟩, xs, hS, hi, hl, hk⟩
      exact ⟨none, _, by have := run_endLoop (P := P) hl (by rw [hrec]; simp); rw [hrec] at this; exact this, hdone _ xs _ (Nat.le_refl _) hS (hI.putObj _ hi (by omega) hl rfl) ((World.putObj_heap_other (by omega)).trans hk)⟩
structure RowAt (s : Nat) (b0 : Option Nat) (base : Nat) (W : World) (v : Value) (n : Nat) (cells : List Value) (gb : Option Nat) : Prop where
  len : cells.length = n * s
  one : ∀ u ∈ cells, u.oneCell' = true
  lies : (gb = none ∧ n = 0 ∧ ∃ a, v = .slice a 0 0) ∨ ∃ g cap cur e, gb = some g ∧ v = .slice (some ⟨g, 0, none⟩) n cap ∧ (b0 = some g ∨ base ≤ g) ∧ W.heap[g]? = some (.cells cur e (0, 0)) ∧ n ≤ cap ∧ cap ≤ maxLen ∧ cap * s = cur.size ∧ cur.toList.take (n * s) = cells
theorem RowAt.kept {s : Nat} {b0 : Option Nat} {base : Nat} {W W' : World} {v : Value} {n : Nat} {cells : List Value} {gb row : Option Nat} (h : RowAt s b0 base W v n cells gb) (hg : W.grownBy W' row) (hr : gb = none ∨ gb ≠ row) : RowAt s b0 base W' v n cells gb := by
  refine ⟨h.len, h.one, ?_⟩
  rcases h.lies with h1 | ⟨g, cap, cur, e, rfl, h2, h3, h4, h5⟩
  · exact .inl h1
  · refine .inr ⟨g, cap, cur, e, rfl, h2, h3, (hg.block g (Array.getElem?_eq_some_iff.1 h4).1 (fun e' => ?_)).trans h4, h5⟩
    rcases hr with hr | hr
    · cases hr
    · exact hr e'
theorem RowAt.append {P : Program} {t e : TypeId} {i : TypeInfo} {z : Value} {s : Nat} (ty : TypeId) (ht : P.underlying t = some (.slice e)) (hi : P.info? e = some i) (hz : i.zero = some z) (hsz : i.size = s) (hzs : z.cells.size = s) (hs : 0 < s)
    {b0 : Option Nat} {base : Nat} {W : World} {v : Value} {n : Nat} {cells : List Value} {gb : Option Nat} (h : RowAt s b0 base W v n cells gb) (hbase : base ≤ W.heap.size) {ad c : Nat} {news : List Value} (hn : news.length = s) (h1 : ∀ u ∈ news, u.oneCell' = true)
    (hc : ∀ (j : Nat) (u : Value), news[j]? = some u → W.cell? ⟨ad, j, none⟩ = some u) (hb : (n + 1) * i.bytes ≤ 140737488355328) (hm : n + 1 ≤ 140737488355328) :
    ∃ v' W' g', (Builtin.append_ #[t, t] ty #[v, .slice (some ⟨ad, 0, none⟩) 1 c]).run P W = .ok v' W' ∧ RowAt s b0 base W' v' (n + 1) (cells ++ news) (some g') ∧ W.grownBy W' gb ∧ W.drawn ≤ W'.drawn ∧ (gb = some g' ∨ g' = W.heap.size) ∧
      ((g' = W.heap.size ∧ W.grownBy W' none) ∨ (gb = some g' ∧ ∀ cur e, W.heap[g']? = some (.cells cur e (0, 0)) → ∃ cur', W'.heap[g']? = some (.cells cur' e (0, 0)) ∧ cur'.size = cur.size ∧ cur'.toList.take (n * s) = cur.toList.take (n * s))) := by
  have hlen : (cells ++ news).length = (n + 1) * s := by rw [List.length_append, h.len, hn, Nat.add_mul]; omega
  have hone : ∀ u ∈ cells ++ news, u.oneCell' = true := fun u hu => (List.mem_append.1 hu).elim (h.one u) (h1 u)
  have hlo : (Builtin.lenOf (.slice (some ⟨ad, 0, none⟩) 1 c)).run P W = .ok 1 W := by simp [Builtin.lenOf]
  have hf : ∀ w2 : World, w2.heap = W.heap → (Builtin.firstCells i.size 1 (.slice (some ⟨ad, 0, none⟩) 1 c)).run P w2 = .ok news.toArray w2 := fun w2 hw =>
    run_firstCells (by rw [hsz]; omega) fun j u hu => by rw [cell_heap hw]; simpa using hc j u hu
  have hd : ∀ k, (TypeDesc.slice e) ≠ .int k := fun k => by simp
  have out : ∀ {ba : Option Addr} {cap : Nat} (olds : List Value), olds = cells → (∀ w2 : World, w2.heap = W.heap → (Builtin.firstCells i.size n (.slice ba n cap)).run P w2 = .ok olds.toArray w2) → cap < n + 1 →
      ∃ v' W' g', (Builtin.append_ #[t, t] ty #[.slice ba n cap, .slice (some ⟨ad, 0, none⟩) 1 c]).run P W = .ok v' W' ∧ RowAt s b0 base W' v' (n + 1) (cells ++ news) (some g') ∧ W.grownBy W' gb ∧ W.drawn ≤ W'.drawn ∧ (gb = some g' ∨ g' = W.heap.size) ∧
      ((g' = W.heap.size ∧ W.grownBy W' none) ∨ (gb = some g' ∧ ∀ cur e, W.heap[g']? = some (.cells cur e (0, 0)) → ∃ cur', W'.heap[g']? = some (.cells cur' e (0, 0)) ∧ cur'.size = cur.size ∧ cur'.toList.take (n * s) = cur.toList.take (n * s))) := by
    intro ba cap olds ho hol hcap
    subst ho
    have hrun := run_append_out (P := P) (w := W) (ty := ty) (base := ba) (sLen := n) (sCap := cap) ht ht hd hi hz hlo hf hol hcap (by omega) hb
    have hge := grownCap_ge W (n + 1) cap e
    have hgc : (olds.toArray ++ news.toArray ++ Builtin.zeroCells z.cells (grownCap W (n + 1) cap e - (n + 1))).size = grownCap W (n + 1) cap e * s := by
      simp only [Array.size_append, List.size_toArray, size_zeroCells, hzs, h.len, hn]
      have : (n + 1 + (grownCap W (n + 1) cap e - (n + 1))) * s = n * s + s + (grownCap W (n + 1) cap e - (n + 1)) * s := by rw [Nat.add_mul, Nat.add_mul]; omega
      rw [← this]; congr 1; omega
    refine ⟨_, _, _, hrun, ⟨hlen, hone, .inr ⟨_, _, _, e, rfl, rfl, .inr hbase, heap_alloc_new W.drew _, hge, grownCap_le_maxLen W (n + 1) cap e (by unfold maxLen; omega), hgc.symm, ?_⟩⟩, ⟨rfl, rfl, rfl, by simp, fun k hk _ => heap_alloc_old W.drew _ hk⟩, Nat.le_succ _, .inr rfl, .inl ⟨rfl, ⟨rfl, rfl, rfl, by simp, fun k hk _ => heap_alloc_old W.drew _ hk⟩⟩⟩
    rw [← hlen]
    simp only [Array.toList_append, List.append_assoc]
    rw [← List.append_assoc, List.take_left]
  rcases h.lies with ⟨rfl, rfl, a, rfl⟩ | ⟨g, cap, cur, e', rfl, rfl, hbg, hblk, hnc, hcm, hcs, htk⟩
  · have hc0 : cells = [] := List.eq_nil_of_length_eq_zero (by simpa using h.len)
    refine out [] hc0.symm (fun w2 _ => by cases a <;> simp [Builtin.firstCells, loadCells, loadCellsFrom]) (by omega)
  · by_cases hroom : n + 1 ≤ cap
    · have hfit : n * s + news.length ≤ cur.size := by
        rw [hn, ← hcs]
        have : (n + 1) * s ≤ cap * s := Nat.mul_le_mul_right _ hroom
        rw [Nat.add_mul] at this; omega
      have hrun := run_append_in (P := P) (w := W) (ty := ty) (base := some ⟨g, 0, none⟩) (sLen := n) (sCap := cap) ht ht hd hi hlo hf hroom
      have hst := run_storeCells_at P g (n * s) e' news 0 cur W hblk (by omega) h1
      simp only [Nat.add_zero] at hst
      simp only [Addr.add_lit, Nat.zero_add, hsz] at hrun
      rw [hst] at hrun
      have hcl : cur.toList.length = cur.size := by simp
      refine ⟨_, _, g, hrun, ⟨hlen, hone, .inr ⟨g, cap, _, e', rfl, rfl, hbg, setRow_heap W g cur _ e' (0, 0) hblk, hroom, hcm, ?_, ?_⟩⟩, ⟨rfl, rfl, rfl, by simp, fun k _ hk => setRow_other W g k _ (fun e => hk (by rw [e]))⟩, Nat.le_refl _, .inl rfl, .inr ⟨rfl, fun cur2 e2 hc2 => ?_⟩⟩
      · rw [hcs]; simp only [List.size_toArray, List.length_append, List.length_take, List.length_drop, hcl]; omega
      · simp only [htk]
        rw [List.append_assoc, ← List.append_assoc, ← hlen, List.take_left]
      · rw [hblk] at hc2; injection hc2 with hc2; injection hc2 with p1 p2; subst p1; subst p2
        refine ⟨_, setRow_heap W g cur _ e' (0, 0) hblk, ?_, ?_⟩
        · simp only [List.size_toArray, List.length_append, List.length_take, List.length_drop, hcl]; omega
        · simp only [htk]
          rw [List.append_assoc, ← h.len, List.take_left]
    · refine out (cur.toList.take (n * s)) htk (fun w2 hw => ?_) (by omega)
      refine run_firstCells (by rw [hsz, List.length_take, Array.length_toList, ← hcs]; have : n * s ≤ cap * s := Nat.mul_le_mul_right _ hnc; omega) fun j u hu => ?_
      rw [cell_heap hw, cell_of_row W g _ cur e' (0, 0) hblk]
      rw [List.getElem?_take] at hu
      split at hu
      · simpa using hu
      · cases hu
theorem wpListIn_append_row {F : Fence} {nF : Nat} {P : Program} (W : World) {ops : Array Oper} {rest : List Oper} {o : Oper} {a : Act} {Q : Exit → Act → World → Prop} (hg : o.guard = none) (sl x : Operand) (t : TypeId) (ho : o.op = .call { callee := .builtin .append, args := #[sl, x], argTypes := #[t, t] })
    {e : TypeId} {i : TypeInfo} {z : Value} {s : Nat} (ht : P.underlying t = some (.slice e)) (hi : P.info? e = some i) (hz : i.zero = some z) (hsz : i.size = s) (hzs : z.cells.size = s) (hs : 0 < s)
    {b0 : Option Nat} {base : Nat} {v : Value} {n : Nat} {cells : List Value} {gb : Option Nat} (hv : a.eval sl = v) (h : RowAt s b0 base W v n cells gb) (hbase : base ≤ W.heap.size) {ad c : Nat} {news : List Value} (hx : a.eval x = .slice (some ⟨ad, 0, none⟩) 1 c) (hn : news.length = s) (h1 : ∀ u ∈ news, u.oneCell' = true)
    (hc : ∀ (j : Nat) (u : Value), news[j]? = some u → W.cell? ⟨ad, j, none⟩ = some u) (hb : (n + 1) * i.bytes ≤ 140737488355328) (hm : n + 1 ≤ 140737488355328)
    (hK : ∀ v' W' g', RowAt s b0 base W' v' (n + 1) (cells ++ news) (some g') → W.grownBy W' gb → W.drawn ≤ W'.drawn → (gb = some g' ∨ g' = W.heap.size) →
      ((g' = W.heap.size ∧ W.grownBy W' none) ∨ (gb = some g' ∧ ∀ cur e, W.heap[g']? = some (.cells cur e (0, 0)) → ∃ cur', W'.heap[g']? = some (.cells cur' e (0, 0)) ∧ cur'.size = cur.size ∧ cur'.toList.take (n * s) = cur.toList.take (n * s))) → wpListIn F nF P ops Q rest (a.put o.dst v') W') : wpListIn F nF P ops Q (o :: rest) a W := by
  refine wpListIn_plain hg fun K hK' => ?_
  obtain ⟨v', W', g', hr, h2, h3, h4, h5, h6⟩ := h.append o.type ht hi hz hsz hzs hs hbase hn h1 hc hb hm
  unfold Oper.wpIn
  refine ⟨by simp [Oper.about, ho, resolve, Target.leads, Sem.run_pure], ?_⟩
  rw [Oper.semAt_plain F _ _ (by rw [ho]; intro c hc'; cases hc')]
  simp [execOp, ho, resolve, invoke, builtin, hv, hx, Result.andThen]
  rw [hr]
  exact hK' _ _ (hK v' W' g' h2 h3 h4 h5 h6)
structure Still (b0 : Option Nat) (W0 W : World) : Prop where
  os : W.os = W0.os
  tape : W.tape = W0.tape
  output : W.output = W0.output
  size : W0.heap.size ≤ W.heap.size
  block : ∀ k, k < W0.heap.size → some k ≠ b0 → W.heap[k]? = W0.heap[k]?
  drawn : W0.drawn ≤ W.drawn
theorem Still.refl (b0 : Option Nat) (W : World) : Still b0 W W := ⟨rfl, rfl, rfl, Nat.le_refl _, fun _ _ _ => rfl, Nat.le_refl _⟩
theorem Still.step {b0 : Option Nat} {W0 W W' : World} {row : Option Nat} (h : Still b0 W0 W) (hg : W.grownBy W' row) (hd : W.drawn ≤ W'.drawn) (hr : ∀ r, row = some r → b0 = some r ∨ W0.heap.size ≤ r) : Still b0 W0 W' :=
  ⟨hg.os.trans h.os, hg.tape.trans h.tape, hg.output.trans h.output, Nat.le_trans h.size hg.size, fun k hk hb => (hg.block k (Nat.lt_of_lt_of_le hk h.size) (fun e => by rcases hr k e.symm with q | q; exact hb q.symm; omega)).trans (h.block k hk hb), Nat.le_trans h.drawn hd⟩
def Head0 (m : Nat) (b0 : Option Nat) (W0 W : World) : Prop := ∀ g cur0 e0, b0 = some g → W0.heap[g]? = some (.cells cur0 e0 (0, 0)) → ∃ cur, W.heap[g]? = some (.cells cur e0 (0, 0)) ∧ cur.size = cur0.size ∧ cur.toList.take m = cur0.toList.take m
theorem Head0.refl (m : Nat) (b0 : Option Nat) (W : World) : Head0 m b0 W W := fun _ cur0 _ _ h => ⟨cur0, h, rfl, rfl⟩
theorem Head0.step {m : Nat} {b0 : Option Nat} {W0 W W' : World} {row : Option Nat} (h : Head0 m b0 W0 W) (hg : W.grownBy W' row) (hr : b0 = none ∨ b0 ≠ row) : Head0 m b0 W0 W' := fun g cur0 e0 hb h0 => by
  obtain ⟨cur, h1, h2, h3⟩ := h g cur0 e0 hb h0
  refine ⟨cur, (hg.block g (Array.getElem?_eq_some_iff.1 h1).1 (fun e => ?_)).trans h1, h2, h3⟩
  rcases hr with hr | hr
  · rw [hr] at hb; cases hb
  · exact hr (hb.trans e)
theorem Head0.write {m n : Nat} {b0 gb : Option Nat} {W0 W W' : World} {g' : Nat} (h : Head0 m b0 W0 W) (hn : m ≤ n) (hg : W.grownBy W' gb)
    (hw : (g' = W.heap.size ∧ W.grownBy W' none) ∨ (gb = some g' ∧ ∀ cur e, W.heap[g']? = some (.cells cur e (0, 0)) → ∃ cur', W'.heap[g']? = some (.cells cur' e (0, 0)) ∧ cur'.size = cur.size ∧ cur'.toList.take n = cur.toList.take n)) : Head0 m b0 W0 W' := by
  rcases hw with ⟨_, hg'⟩ | ⟨hgb, hw⟩
  · exact h.step hg' (by cases b0 <;> simp)
  · by_cases e : b0 = gb
    · intro g cur0 e0 hb h0
      rw [e, hgb] at hb; injection hb with hb; subst hb
      obtain ⟨cur, h1, h2, h3⟩ := h g' cur0 e0 (e.trans hgb) h0
      obtain ⟨cur', q1, q2, q3⟩ := hw cur e0 h1
      refine ⟨cur', q1, q2.trans h2, ?_⟩
      have := congrArg (List.take m) q3
      rw [List.take_take, List.take_take, Nat.min_eq_left hn] at this
      exact this.trans h3
    · exact h.step hg (.inr e)
section
variable {w0 : Base} {X : Nat → Prop} {H : Nat → LObj} {β : Nat → Option Nat} {w w' : World} {α : Type} [Inhabited α] {k : Nat} {d : α → DV} {enc : α → List Value}
theorem Cells.flat_len (C : Cells k d enc) (l : List α) : (l.flatMap enc).length = l.length * k := by rw [← flatK_list C l]; simp
theorem Cells.flatD_len {α : Type} {k : Nat} {d : α → DV} {enc : α → List Value} (C : Cells k d enc) (l : List α) : (flatD (l.map d)).length = l.length * k := by
  rw [Go.Eng.flat_len (size := k) (fun x hx => by obtain ⟨y, _, rfl⟩ := List.mem_map.1 hx; exact C.lenD y)]; simp
theorem Cells.all {α : Type} {k : Nat} {d : α → DV} {enc : α → List Value} (C : Cells k d enc) (l : List α) : ∀ x ∈ l.map d, (cellsD x).length = k := fun x hx => by obtain ⟨y, _, rfl⟩ := List.mem_map.1 hx; exact C.lenD y
theorem Cells.reads (C : Cells k d enc) {l : List α} {cur : Array Value} (h : cur.toList.take (l.length * k) = l.flatMap enc) : l.length * k ≤ cur.size ∧ ∀ (E : Nat → Prop) (W : World) (i : Nat) (c : DV) (v : Value), (flatD (l.map d))[i]? = some c → cur[i]? = some v → v.oneCell' = true ∧ RD W E c v := by
  have hl := congrArg List.length h
  rw [List.length_take, C.flat_len] at hl
  have hcl : cur.toList.length = cur.size := by simp
  refine ⟨by omega, fun E W i c v hc hv => ?_⟩
  have hi : i < l.length * k := by have := (List.getElem?_eq_some_iff.1 hc).1; rw [C.flatD_len] at this; exact this
  have hv' : (l.flatMap enc)[i]? = some v := by rw [← h, List.getElem?_take, if_pos hi]; simpa using hv
  refine ⟨?_, (flat_cells C l i c v hc hv' _ _ _).2 rfl⟩
  obtain ⟨x, _, hx⟩ := List.mem_flatMap.1 (List.mem_of_getElem? hv')
  exact C.one x v hx
theorem Cells.holds (C : Cells k d enc) {l : List α} {cur : Array Value} (hn : l.length * k ≤ cur.size) {E : Nat → Prop} {W : World} (h : ∀ (i : Nat) (c : DV) (v : Value), (flatD (l.map d))[i]? = some c → cur[i]? = some v → RD W E c v) : cur.toList.take (l.length * k) = l.flatMap enc := by
  apply List.ext_getElem?
  intro i
  rw [List.getElem?_take]
  by_cases hi : i < l.length * k
  · rw [if_pos hi]
    have h1 : i < cur.size := by omega
    have h2 : i < (l.flatMap enc).length := by rw [C.flat_len]; exact hi
    have h3 : i < (flatD (l.map d)).length := by rw [C.flatD_len]; exact hi
    have := (flat_cells C l i _ _ (List.getElem?_eq_getElem h3) (List.getElem?_eq_getElem h2) W E _).1 (h i _ _ (List.getElem?_eq_getElem h3) (Array.getElem?_eq_getElem h1))
    rw [List.getElem?_eq_getElem h2, ← this]
    simp [h1]
  · rw [if_neg hi, List.getElem?_eq_none (by rw [C.flat_len]; omega)]
theorem upd_upd (f : Nat → LObj) (i : Nat) (x y : LObj) : upd (upd f i x) i y = upd f i y := by funext j; simp only [upd]; split <;> rfl
theorem Mem.appended (C : Cells k d enc) (m : Mem w0 X H β w) {id new : Nat} {l p : List α} {b0 gb : Option Nat} {v : Value} (hH : H id = .row false k (l.map d)) (hnew : H new = .absent) (hb0 : (b0 = none ∧ l = []) ∨ (∃ b, b0 = some b ∧ β id = some b ∧ ∃ cur e, w.heap[b]? = some (.cells cur e (0, 0)) ∧ cur.toList.take (l.length * k) = l.flatMap enc))
    (hr : RowAt k b0 w.heap.size w' v (l.length + p.length) ((l ++ p).flatMap enc) gb) (hs : Still b0 w w') (hh : Head0 (l.length * k) b0 w w') :
    ∃ β', Mem w0 X (upd (upd H id .dead) new (.row false k ((l ++ p).map d))) β' w' ∧ R w' (Ex X β' (upd (upd H id .dead) new (.row false k ((l ++ p).map d)))) β' (upd (upd H id .dead) new (.row false k ((l ++ p).map d))) (.ow new 0 (l.length + p.length)) v := by
  have hne : id ≠ new := fun e => by rw [e, hnew] at hH; cases hH
  have hlive : (H id).live = true := by rw [hH]; rfl
  have hmut : (H id).mut = true := by rw [hH]; rfl
  have hn' : (l ++ p).length = l.length + p.length := by simp
  -- the world without what is new
  obtain ⟨wm, hwm⟩ : ∃ wm : World, wm = { w with heap := w'.heap.extract 0 w.heap.size } := ⟨_, rfl⟩
  have hms : wm.heap.size = w.heap.size := by rw [hwm]; simp [hs.size]
  have hmk : ∀ j, j < w.heap.size → wm.heap[j]? = w'.heap[j]? := fun j hj => by
    rw [hwm]; simp only [Array.getElem?_extract]; have := hs.size
    rw [if_pos (by omega)]; congr 1; omega
  have hbel : Bel wm.heap.size wm w' := by
    refine ⟨?_, ?_, ?_, by rw [hms]; exact hs.size, fun j hj => (hmk j (by omega)).symm, ?_⟩ <;> rw [hwm]
    · exact hs.os
    · exact hs.tape
    · exact hs.output
    · exact hs.drawn
  have hm1 : Mem w0 X H β wm := by
    rcases hb0 with ⟨rfl, _⟩ | ⟨b, rfl, hb, cur, e, hblk, htk⟩
    · have e : wm = w := by
        have : w'.heap.extract 0 w.heap.size = w.heap := by
          apply Array.ext_getElem?
          intro j
          by_cases hj : j < w.heap.size
          · have h1 := hmk j hj
            rw [hwm] at h1
            exact h1.trans (hs.block j hj (by simp))
          · have := hs.size
            rw [Array.getElem?_extract, if_neg (by omega), Array.getElem?_eq_none (by omega)]
        rw [hwm, this]
      rw [e]; exact m
    · obtain ⟨cur', q1, q2, q3⟩ := hh b cur e rfl hblk
      have hbl := (Array.getElem?_eq_some_iff.1 hblk).1
      have hwb : wm.heap[b]? = some (.cells cur' e (0, 0)) := (hmk b hbl).trans q1
      have := m.rewriteG (id := id) (b := b) (o' := .row false k (l.map d)) (w' := wm) hmut hb (by rw [hwm]) (by rw [hwm]) (by rw [hwm]) (by rw [hwm]; exact Nat.le_refl _) hms (fun j hj => by
          by_cases hjl : j < w.heap.size
          · rw [hmk j hjl]; exact hs.block j hjl (fun e => hj (by injection e))
          · rw [Array.getElem?_eq_none (by omega), Array.getElem?_eq_none (by omega)]) (by
          unfold Passes
          rw [hH, upd_same]
          refine .inr ⟨⟨false, _, rfl, Nat.le_refl _⟩, rfl, fun b' c' t hbb hblk' => ?_⟩
          rw [hb] at hbb; injection hbb with hbb; subst hbb
          rw [hblk] at hblk'; injection hblk' with hblk'; injection hblk' with p1 p2; subst p1; subst p2
          exact ⟨cur', e, hwb, q2⟩) (fun _ _ => by
          unfold ObjR
          rw [upd_same]
          obtain ⟨r1, r2⟩ := C.reads (q3.trans htk)
          exact ⟨C.pos, C.all l, .inr ⟨b, e, cur', hb, hwb, by simpa using r1, r2 _ _⟩⟩)
      rw [upd_id hH] at this
      exact this.1
  -- the new object
  rcases hr.lies with ⟨rfl, hz, a, rfl⟩ | ⟨g, cap, cur, e, rfl, rfl, hbg, hblk, hnc, hcm, hcs, htk⟩
  · have hl0 : l = [] := List.eq_nil_of_length_eq_zero (by omega)
    have hp0 : p = [] := List.eq_nil_of_length_eq_zero (by omega)
    subst hl0; subst hp0
    obtain ⟨m2, _⟩ := hm1.kill id hlive
    obtain ⟨m3, _⟩ := m2.grow hbel
    obtain ⟨m4, _⟩ := new_none m3 (d := new) (by rw [upd_ne _ _ (Ne.symm hne)]; exact hnew) C.pos
    exact ⟨_, m4, .ow0 new 0 a false k [] (by rw [upd_same]; rfl) (.inl ⟨by rw [upd_same], rfl⟩)⟩
  · rw [← hn'] at htk
    obtain ⟨r1, r2⟩ := C.reads htk
    have hbr : ∀ (β' : Nat → Option Nat) (H' : Nat → LObj), H' new = .row false k ((l ++ p).map d) → β' new = some g → R w' (Ex X β' H') β' H' (.ow new 0 (l.length + p.length)) (.slice (some ⟨g, 0, none⟩) (l.length + p.length) cap) := fun β' H' h1 h2 => by
      have hR := R.ow (w := w') (E := Ex X β' H') (β := β') (H := H') new 0 (l.length + p.length) g cap false k ((l ++ p).map d) cur e h1 h2 (by simp) hnc hcm hblk (by rw [Nat.zero_add]; exact hcs)
      rw [Nat.zero_mul] at hR
      exact hR
    by_cases hgl : g < w.heap.size
    · have hbg' : b0 = some g := hbg.resolve_right (by omega)
      have hβ : β id = some g := by
        rcases hb0 with ⟨h, _⟩ | ⟨b, h, hb, _⟩
        · rw [h] at hbg'; cases hbg'
        · rw [h] at hbg'; injection hbg' with hbg'; rw [← hbg']; exact hb
      obtain ⟨m2, _⟩ := hm1.grow hbel
      obtain ⟨m3, _⟩ := m2.moveObj (id := id) (d := new) l.length hH hnew
      have := m3.rewriteG (id := new) (b := g) (o' := .row false k ((l ++ p).map d)) (w' := w') (by rw [upd_same]; rfl) (by rw [upd_same]; exact hβ) rfl rfl rfl (Nat.le_refl _) rfl (fun _ _ => rfl) (by
          unfold Passes
          rw [upd_same, upd_same]
          exact .inr ⟨⟨false, _, rfl, by simp⟩, rfl, fun b' c' t _ hblk' => ⟨c', t, hblk', rfl⟩⟩) (fun _ _ => by
          unfold ObjR
          rw [upd_same]
          exact ⟨C.pos, C.all _, .inr ⟨g, e, cur, by rw [upd_same]; exact hβ, hblk, by simpa using r1, r2 _ _⟩⟩)
      rw [upd_upd] at this
      exact ⟨_, this.1, hbr _ _ (by rw [upd_same]) (by rw [upd_same]; exact hβ)⟩
    · obtain ⟨m2, _⟩ := hm1.kill id hlive
      have hgs := (Array.getElem?_eq_some_iff.1 hblk).1
      have := m2.newObj hbel (d := new) (by rw [upd_ne _ _ (Ne.symm hne)]; exact hnew) (o := .row false k ((l ++ p).map d)) (some g) (fun b hb => by injection hb with hb; subst hb; exact ⟨by omega, hgs⟩) (fun _ _ => by
          unfold ObjR
          rw [upd_same]
          exact ⟨C.pos, C.all _, .inr ⟨g, e, cur, by rw [upd_same], hblk, by simpa using r1, r2 _ _⟩⟩)
      exact ⟨_, this.1, hbr _ _ (by rw [upd_same]) (by rw [upd_same])⟩
end
end Go.Eng
namespace Go.Eng
open Go.RowKit Go.Maps Go.Sort Go.Shelf Go.Proofs
open Go.ChangeMaps (setBlock)
section
variable {P : Program} {F : Fence} {n : Nat} (w : World) {ops : Array Oper} {rest : List Oper} {o : Oper} {a : Act} {Q : Exit → Act → World → Prop}
structure Came (es : Array MapEntry) (vs : List MapEntry) (seen : Array Nat) : Prop where
  mem : ∀ e ∈ vs, e ∈ es.toList
  nd : (vs.map (·.born)).Nodup
  seen : seen.toList = vs.map (·.born)
theorem born_nodup {es : Array MapEntry} {clock : Nat} (h : BornOk es clock) : (es.toList.map (·.born)).Nodup := by
  rw [List.Nodup, List.pairwise_map, List.pairwise_iff_getElem]
  intro i j hi hj hij e
  have := h.2 i j _ _ (by simp) (by simp) e
  omega
theorem nodup_of_map {α β : Type} {f : α → β} : ∀ {l : List α}, (l.map f).Nodup → l.Nodup
  | [], _ => by simp
  | a :: l, h => by
    simp only [List.map_cons, List.nodup_cons] at h ⊢
    exact ⟨fun hm => h.1 (List.mem_map.2 ⟨a, hm, rfl⟩), nodup_of_map h.2⟩
theorem Came.perm {es : Array MapEntry} {clock : Nat} {vs : List MapEntry} {seen : Array Nat} (h : Came es vs seen) (hb : BornOk es clock) (hl : (leftOf es seen).size = 0) : vs.Perm es.toList := by
  refine (List.perm_ext_iff_of_nodup (nodup_of_map h.nd) (nodup_of_map (born_nodup hb))).2 fun e => ⟨h.mem e, fun he => ?_⟩
  have hs : e.born ∈ seen := by
    have : leftOf es seen = #[] := Array.eq_empty_of_size_eq_zero hl
    unfold leftOf at this
    rw [Array.filter_eq_empty_iff] at this
    have := this e (by simpa using he)
    simpa using this
  have hs' : e.born ∈ vs.map (·.born) := by rw [← h.seen]; simpa using hs
  obtain ⟨e', he', hee⟩ := List.mem_map.1 hs'
  obtain ⟨i, hi, hie⟩ := List.getElem_of_mem he
  obtain ⟨j, hj, hje⟩ := List.getElem_of_mem (h.mem e' he')
  have := hb.2 j i e' e (by rw [← hje]; simp) (by rw [← hie]; simp) hee
  subst this
  rw [← hie, hje]; exact he'
theorem Came.step {es : Array MapEntry} {vs : List MapEntry} {seen : Array Nat} (h : Came es vs seen) {e : MapEntry} (he : e ∈ (leftOf es seen).toList) : Came es (vs ++ [e]) (seen.push e.born) := by
  unfold leftOf at he
  simp only [Array.toList_filter, List.mem_filter, Bool.not_eq_true'] at he
  refine ⟨fun x hx => ?_, ?_, by simp [h.seen]⟩
  · rcases List.mem_append.1 hx with hx | hx
    · exact h.mem x hx
    · simp at hx; subst hx; exact he.1
  · rw [List.map_append, List.nodup_append]
    refine ⟨h.nd, by simp, fun x hx y hy e' => ?_⟩
    simp at hy; subst hy; subst e'
    rw [← h.seen] at hx
    have := he.2
    simp at this
    exact this (by simpa using hx)
theorem nodup_le : ∀ {l m : List Nat}, l.Nodup → (∀ x ∈ l, x ∈ m) → l.length ≤ m.length
  | [], _, _, _ => Nat.zero_le _
  | a :: l, m, h, hs => by
    simp only [List.nodup_cons] at h
    have ha : a ∈ m := hs a (List.mem_cons_self ..)
    have := nodup_le h.2 (m := m.erase a) (fun x hx => (List.mem_erase_of_ne (show x ≠ a from fun e => by subst e; exact h.1 hx)).2 (hs x (List.mem_cons_of_mem _ hx)))
    rw [List.length_erase_of_mem ha] at this
    have := List.length_pos_of_mem ha
    simp only [List.length_cons]; omega
theorem Came.size {es : Array MapEntry} {clock : Nat} {vs : List MapEntry} {seen : Array Nat} (h : Came es vs seen) (hb : BornOk es clock) : seen.size ≤ es.size := by
  have h1 : seen.size = vs.length := by have := congrArg List.length h.seen; simpa using this
  rw [h1]
  have := nodup_le h.nd (m := es.toList.map (·.born)) (fun x hx => by obtain ⟨e, he, rfl⟩ := List.mem_map.1 hx; exact List.mem_map.2 ⟨e, h.mem e he, rfl⟩)
  simpa using this
theorem setBlock_heap {w : World} {r : Nat} {o o' : Obj} (h : w.heap[r]? = some o) : (setBlock w r o').heap[r]? = some o' ∧ ∀ k, k ≠ r → (setBlock w r o').heap[k]? = w.heap[k]? := by
  have hlt := (Array.getElem?_eq_some_iff.1 h).1
  refine ⟨by simp [setBlock, hlt], fun k hk => ?_⟩
  simp only [setBlock]
  rw [Array.getElem?_setIfInBounds_ne (fun e => hk e.symm)]
theorem wpListIn_range_map (hg : o.guard = none) (m : Operand) (t : TypeId) (hop : o.op = Op.range t m) (k e : TypeId) (ht : P.underlying t = some (.map k e)) {b clock : Nat} {es : Array MapEntry} (hm : a.eval m = .map (some b)) (hb : w.heap[b]? = some (.map es clock))
    (hK : wpListIn F n P ops Q rest (a.put o.dst (.pointer (some ⟨w.heap.size, 0, none⟩))) (w.alloc (.mapIter (some b) clock #[] clock))) : wpListIn F n P ops Q (o :: rest) a w := by
  refine wpListIn_plain hg fun K' hK' => ?_
  have hrun : (Instr.range t (.map (some b))).run P w = .ok (.pointer (some ⟨w.heap.size, 0, none⟩)) (w.alloc (.mapIter (some b) clock #[] clock)) := by
    simp [Instr.range, run_underlying ht, getObj, Sem.run, hb, Result.andThen, run_newObj_alloc]
  unfold Oper.wpIn
  refine ⟨by simp [Oper.about, hop], ?_⟩
  rw [Oper.semAt_plain F _ _ (by rw [hop]; intro c hc'; cases hc')]
  simp [execOp, hop, hm, hrun, Result.andThen]
  exact hK' _ _ hK
theorem wpListIn_next_map (hg : o.guard = none) (it : Operand) (hop : o.op = Op.next it false) {b r clock since c0 : Nat} {es : Array MapEntry} {seen : Array Nat} {vs : List MapEntry} (hne : r ≠ b) (hit : a.eval it = .pointer (some ⟨r, 0, none⟩))
    (hr : w.heap[r]? = some (.mapIter (some b) since seen c0)) (hb : w.heap[b]? = some (.map es clock)) (hborn : BornOk es clock) (hsc : since ≤ c0) (hcs : clock ≤ since) (hC : Came es vs seen)
    (hDone : vs.Perm es.toList → wpListIn F n P ops Q rest (a.put o.dst (.tuple #[.bool false])) w)
    (hMore : ∀ (e : MapEntry) (w' : World), e ∈ es.toList → Came es (vs ++ [e]) (seen.push e.born) → w'.heap[r]? = some (.mapIter (some b) since (seen.push e.born) clock) → w.grownBy w' (some r) → w.drawn ≤ w'.drawn →
      (Instr.entry (.pointer (some ⟨r, 0, none⟩))).run P w' = .ok (.tuple #[e.key, e.val]) w' → wpListIn F n P ops Q rest (a.put o.dst (.tuple #[.bool true, e.key, e.val])) w') :
    wpListIn F n P ops Q (o :: rest) a w := by
  refine wpListIn_plain hg fun K' hK' => ?_
  unfold Oper.wpIn
  refine ⟨by simp [Oper.about, hop], ?_⟩
  rw [Oper.semAt_plain F _ _ (by rw [hop]; intro c hc'; cases hc')]
  have hold : ∀ x ∈ es.toList, x.born < since := fun x hx => by
    obtain ⟨i, hi, hix⟩ := List.getElem_of_mem hx
    have := hborn.1 i x (by rw [← hix]; simp)
    omega
  rcases run_next_at (P := P) w o.type r b since c0 seen es clock hr hb hold hsc with ⟨h0, hrun⟩ | ⟨e, he, w1, hal, hrun⟩
  · simp [execOp, hop, hit, hrun, Result.andThen]
    exact hK' _ _ (hDone (hC.perm hborn h0))
  · have hr1 : w1.heap[r]? = some (.mapIter (some b) since seen c0) := by rcases hal with rfl | rfl <;> exact hr
    have hb1 : w1.heap[b]? = some (.map es clock) := by rcases hal with rfl | rfl <;> exact hb
    have hset := setBlock_heap (o' := .mapIter (some b) since (seen.push e.born) clock) hr1
    have hb' : (setBlock w1 r (.mapIter (some b) since (seen.push e.born) clock)).heap[b]? = some (.map es clock) := (hset.2 b (fun e1 => hne e1.symm)).trans hb1
    have hem : e ∈ es.toList := (mem_left he).1
    simp [execOp, hop, hit, hrun, Result.andThen]
    refine hK' _ _ (hMore e _ hem (hC.step he) hset.1 ?_ ?_ (run_entry_at _ r b since seen es clock e hset.1 hb' hem (born_nodup hborn)))
    · rcases hal with rfl | rfl <;> exact ⟨rfl, rfl, rfl, by simp [setBlock], fun i _ hi => hset.2 i (fun e1 => hi (by rw [e1]))⟩
    · rcases hal with rfl | rfl
      · exact Nat.le_refl _
      · exact Nat.le_succ _
end
def toCome (n r : Nat) (W : World) : Nat := n - (match W.heap[r]? with | some (.mapIter _ _ seen _) => seen.size | _ => 0)
theorem toCome_eq {n r : Nat} {W : World} {m : Option Nat} {a c : Nat} {seen : Array Nat} (h : W.heap[r]? = some (.mapIter m a seen c)) : toCome n r W = n - seen.size := by simp [toCome, h]
def keyV (x : Nm) : Value := .agg #[.int .i64 x.who, .int .i64 x.seq]
set_option maxRecDepth 100000 in
set_option maxHeartbeats 2000000 in
theorem keysNm_gives (F : Fence) (n : Nat) (hf : F.fn 160) (hro : F.round = none) (hn : 1 ≤ n) {Bm ob b clock : Nat} {es : Array MapEntry} (W : World) (hm' : W.cell? ⟨Bm, ob, none⟩ = some (.map (some b)))
    (hb' : W.heap[b]? = some (.map es clock)) (hborn : BornOk es clock) (key : MapEntry → Nm) (hkey : ∀ e ∈ es.toList, e.key = keyV (key e)) (l : Nat) (J : List Nm → World → Prop) (hJ : AbW W.heap.size J)
    (hY : ∀ pre x W1, J pre W1 → pre.length < es.size → YieldAt F (n - 1) Tryz.prog l #[keyV x] W1 fun e W' => e = .returned (.bool true) ∧ J (pre ++ [x]) W' ∧ KeepsWalks W1 W') (h0 : J [] W) :
    CallsIn F n Tryz.prog 160 #[.func (.yield l) #[] #[], .pointer (some ⟨Bm, ob, none⟩)] W fun e W' => (∃ v, e = .returned v) ∧ ∃ ss : List Nm, ss.Perm (es.toList.map key) ∧ J ss W' := by
  have hbW : b < W.heap.size := (Array.getElem?_eq_some_iff.1 hb').1
  refine callsIn_of_wp Tryz.func160 rfl hf ?_ hro
  simp only [Tryz.ntmps160, List.size_toArray, List.length_cons, List.length_nil, Nat.reduceAdd, Nat.reduceSub, Array.replicate_succ, Array.replicate_zero, List.push_toArray, List.append_toArray, List.nil_append, List.cons_append]
  gi_wp2_with (first
    | (gi_at_range; refine wpListIn_range_map _ rfl _ _ rfl _ _ Tryz.underlying134 rfl hb' ?_)
    | gi_in)
  have hg0 : W.grownBy (W.alloc (.mapIter (some b) clock #[] clock)) none := World.grownBy_alloc W _ none
  have hr0 : (W.alloc (.mapIter (some b) clock #[] clock)).heap[W.heap.size]? = some (.mapIter (some b) clock #[] clock) := heap_alloc_new W _
  have hb0 : (W.alloc (.mapIter (some b) clock #[] clock)).heap[b]? = some (.map es clock) := (hg0.block b hbW (by simp)).trans hb'
  have hJ0 := hJ [] W _ none h0 hg0 (Nat.le_refl _) (fun r e => by cases e)
  generalize W.alloc (.mapIter (some b) clock #[] clock) = w0 at *
  try go_frame
  gi_loopw [3] (fun _ wr => ∃ (vs : List MapEntry) (seen : Array Nat) (c0 : Nat), wr.heap[W.heap.size]? = some (.mapIter (some b) clock seen c0) ∧ wr.heap[b]? = some (.map es clock) ∧ clock ≤ c0 ∧ Came es vs seen ∧ J (vs.map key) wr)
    (fun _ wr => toCome es.size W.heap.size wr)
  case atStart =>
    exact ⟨[], #[], clock, hr0, hb0, Nat.le_refl _, ⟨by simp, by simp, by simp⟩, hJ0⟩
  case round =>
    obtain ⟨vs, seen, c0, hr, hbr, hcc, hC, hJs⟩ := hrel
    gi_wp2_with (first
      | (gi_at_next; refine wpListIn_next_map _ rfl _ rfl (Nat.ne_of_gt hbW) rfl hr hbr hborn hcc (Nat.le_refl _) hC ?_ ?_)
      | gi_in)
    · intro hp
      gi_wp2
      go_end0
      exact ⟨⟨_, rfl⟩, vs.map key, hp.map key, hJs⟩
    · intro e w2 he hC2 hr2 hg2 hd2 hen
      have hJ2 : J (vs.map key) w2 := hJ _ wr w2 (some W.heap.size) hJs hg2 hd2 (fun r e => by cases e; exact ⟨Nat.le_refl _, _, hr, rfl⟩)
      have hb2 : w2.heap[b]? = some (.map es clock) := (hg2.block b (Array.getElem?_eq_some_iff.1 hbr).1 (fun e => by injection e with e; omega)).trans hbr
      have hsz := hC2.size hborn
      have hvs : seen.size = vs.length := by have := congrArg List.length hC.seen; simpa using this
      have hg3 : w2.grownBy (w2.alloc (.cells #[.int .i64 (key e).who, .int .i64 (key e).seq] 24)) none := World.grownBy_alloc w2 _ none
      obtain ⟨fn, tmps, assign, body, hy, hR⟩ := hY (vs.map key) (key e) _ (hJ _ _ _ none hJ2 hg3 (Nat.le_refl _) (fun r e => by cases e)) (by simp at hsz ⊢; omega)
      have hr3 := (hg3.block _ (Array.getElem?_eq_some_iff.1 hr2).1 (by simp)).trans hr2
      have hb3 := (hg3.block _ (Array.getElem?_eq_some_iff.1 hb2).1 (by simp)).trans hb2
      rw [hkey e (by simpa using he)] at hen ⊢
      unfold keyV at hen hy ⊢
      gi_wp2
      refine hR.mono ?_
      rintro e' W3 ⟨rfl, hJ3, hk3⟩
      gi_wp2
      have hr4 := hk3.same _ _ hr3 rfl
      have hb4 := hk3.same _ _ hb3 rfl
      go_roundw
      case rel => exact ⟨vs ++ [e], seen.push e.born, clock, hr4, hb4, Nat.le_refl _, hC2, by simpa using hJ3⟩
      case measure => rw [toCome_eq hr4, toCome_eq hr]; simp at hsz ⊢; omega
def AppI (b0 : Option Nat) (W0 : World) (l : List Nm) (ss : List Nm) (W : World) : Prop :=
  ∃ v gb, W.heap[W0.heap.size]? = some (.cells #[v] 25 (0, 0)) ∧ RowAt 2 b0 W0.heap.size W v (l.length + ss.length) ((l ++ ss).flatMap Nm.enc) gb ∧ gb ≠ some W0.heap.size ∧ Still b0 W0 W ∧ Head0 (l.length * 2) b0 W0 W
theorem appI_abW (b0 : Option Nat) (W0 : World) (l : List Nm) (hb0 : ∀ b, b0 = some b → b < W0.heap.size) : AbW (W0.heap.size + 1) (AppI b0 W0 l) := by
  rintro ss W W' row ⟨v, gb, h1, h2, h3, h4, h5⟩ hg hd hr
  have hrow : ∀ {k : Nat} {cur : Array Value} {e : TypeId}, W.heap[k]? = some (.cells cur e (0, 0)) → some k ≠ row := fun hk e => by
    obtain ⟨_, o, ho, hc⟩ := hr _ e.symm
    rw [hk] at ho; cases ho; cases hc
  refine ⟨v, gb, (hg.block _ (Array.getElem?_eq_some_iff.1 h1).1 (hrow h1)).trans h1, h2.kept hg ?_, h3, h4.step hg hd (fun r e => .inr (by have := (hr r e).1; omega)), h5.step hg ?_⟩
  rcases h2.lies with ⟨rfl, _⟩ | ⟨g, cap, cur, e, rfl, _, _, hb, _⟩
  · exact .inl rfl
  · exact .inr (hrow hb)
  · cases hb : b0 with
    | none => exact .inl rfl
    | some g => exact .inr fun e => by have := (hr g e.symm).1; have := hb0 g hb; omega
set_option maxRecDepth 100000 in
set_option maxHeartbeats 4000000 in
theorem appendSeqNm (W0 : World) (v0 : Value) (l : List Nm) (b0 : Option Nat) (hrow : RowAt 2 b0 W0.heap.size W0 v0 l.length (l.flatMap Nm.enc) b0) (hb0 : ∀ b, b0 = some b → b < W0.heap.size) {Bm ob b clock : Nat} {es : Array MapEntry} (hm : W0.cell? ⟨Bm, ob, none⟩ = some (.map (some b))) (hBm : some Bm ≠ b0)
    (hb : W0.heap[b]? = some (.map es clock)) (hbb : some b ≠ b0) (hborn : BornOk es clock) (key : MapEntry → Nm) (hkey : ∀ e ∈ es.toList, e.key = keyV (key e)) (hN : (l.length + es.size) * 16 ≤ 140737488355328) :
    Calls Tryz.prog 134 #[v0, .func (.func 160) #[] #[.pointer (some ⟨Bm, ob, none⟩)]] W0 fun e W' =>
      ∃ v ss gb, e = .returned v ∧ List.Perm ss (es.toList.map key) ∧ RowAt 2 b0 W0.heap.size W' v (l.length + ss.length) ((l ++ ss).flatMap Nm.enc) gb ∧ Still b0 W0 W' ∧ Head0 (l.length * 2) b0 W0 W' := by
  refine (callsIn_wide (n := 6)).1 ?_
  obtain ⟨ba, bn, bc, hv0⟩ : ∃ ba bn bc, v0 = .slice ba bn bc := by
    rcases hrow.lies with ⟨_, _, a, rfl⟩ | ⟨g, cap, cur, e, _, rfl, _⟩
    · exact ⟨_, _, _, rfl⟩
    · exact ⟨_, _, _, rfl⟩
  subst hv0
  have hBml : Bm < W0.heap.size := World.block_lt_of_cell? W0 _ hm
  have hbl : b < W0.heap.size := (Array.getElem?_eq_some_iff.1 hb).1
  refine callsIn_of_wp_marks Tryz.func134 rfl trivial ?_ rfl
  simp only [Tryz.ntmps134, List.size_toArray, List.length_cons, List.length_nil, Nat.reduceAdd, Nat.reduceSub, Array.replicate_succ, Array.replicate_zero, List.push_toArray, List.append_toArray, List.nil_append, List.cons_append]
  gi_wp2
  obtain ⟨W1, hW1⟩ : ∃ W1, W0.alloc (.cells #[.slice ba bn bc] 25) = W1 := ⟨_, rfl⟩
  have hs1 : W1.heap.size = W0.heap.size + 1 := by rw [← hW1]; simp
  have hg1 : W0.grownBy W1 none := by rw [← hW1]; exact World.grownBy_alloc W0 _ none
  have hd1 : W0.drawn ≤ W1.drawn := by rw [← hW1]; exact Nat.le_refl _
  have hv1 : W1.heap[W0.heap.size]? = some (.cells #[.slice ba bn bc] 25 (0, 0)) := by rw [← hW1]; exact heap_alloc_new W0 _
  rw [hW1]
  clear hW1
  refine wpIn_rangeFunc_gives (enc := keyV) (N := es.size) (S := fun ss => List.Perm ss (es.toList.map key)) rfl (by omega) rfl trivial (enters_of Tryz.func160 (by kernel_rfl) rfl) (AppI b0 W0 l) (by rw [hs1]; exact appI_abW b0 W0 l hb0)
    ⟨.slice ba bn bc, b0, hv1, by simpa using hrow.kept hg1 (by cases b0 <;> simp), fun e => by have := hb0 _ e; omega, (Still.refl b0 W0).step hg1 hd1 (fun r e => by cases e), (Head0.refl _ b0 W0).step hg1 (by cases b0 <;> simp)⟩ ?_
    (fun x a' W => ∃ Bv, a' = ⟨#[.slice ba bn bc, .func (.func 160) #[] #[.pointer (some ⟨Bm, ob, none⟩)], .pointer (some ⟨W0.heap.size, 0, none⟩), undef, .slice none 0 0, .pointer (some ⟨Bv, 0, none⟩), .func (.func 160) #[] #[.pointer (some ⟨Bm, ob, none⟩)], keyV x, undef, undef, undef, undef, undef], []⟩ ∧ W.heap[Bv]? = some (.cells #[.int .i64 x.who, .int .i64 x.seq] 24 (0, 0))) ?_ ?_ ?_ ?_
  · intro l' J W2 hI hsz hJ hY hJ0
    obtain ⟨v, gb, q1, q2, q3, q4, q6⟩ := hI
    exact keysNm_gives _ 5 trivial rfl (by omega) W2 ((World.cell?_of_block (q4.block Bm hBml hBm)).trans hm) ((q4.block b hbl hbb).trans hb) hborn key hkey l' J hJ hY hJ0
  · rintro x a' s W W' row ⟨Bv, h1, h2⟩ hg hd hr
    refine ⟨Bv, h1, (hg.block _ (Array.getElem?_eq_some_iff.1 h2).1 (fun e => ?_)).trans h2⟩
    obtain ⟨_, o, ho, hc⟩ := hr _ e.symm
    rw [h2] at ho; cases ho; cases hc
  · intro l' pre x W K hI hK
    change Code.wpIn (Fence.wide.inRound l') (6 - 1 - 1) Tryz.prog _ _ ⟨#[.slice ba bn bc, .func (.func 160) #[] #[.pointer (some ⟨Bm, ob, none⟩)], .pointer (some ⟨W0.heap.size, 0, none⟩), undef, .slice none 0 0, undef, .func (.func 160) #[] #[.pointer (some ⟨Bm, ob, none⟩)], keyV x, undef, undef, undef, undef, undef], []⟩ W
    have hK' := hK _ (W.alloc (.cells #[.int .i64 x.who, .int .i64 x.seq] 24)) (World.grownBy_alloc W _ none) (Nat.le_refl _) ⟨W.heap.size, rfl, heap_alloc_new W _⟩
    clear hK
    unfold keyV at hK' ⊢
    gi_wp2_with gi_round_op_a
    exact hK'
  · rintro l' pre x a' W ⟨v, gb, q1, q2, q3, q4, q6⟩ ⟨Bv, rfl, hBv⟩ hlen
    obtain ⟨hc1, hf1⟩ := cell_of_box_a q1
    have hk0 : W.cell? ⟨Bv, 0, none⟩ = some (.int .i64 x.who) := by simp [World.cell?, hBv]
    have hk1 : W.cell? ⟨Bv, 1, none⟩ = some (.int .i64 x.seq) := by simp [World.cell?, hBv]
    obtain ⟨inf, d, z, i1, i2, i3, i4, i5, i6, i7⟩ := hT.parts (t := 24) (by simp [TK.isNone])
    simp at i4 i5 i7
    obtain ⟨va, vn, vc, hv⟩ : ∃ va vn vc, v = .slice va vn vc := by
      rcases q2.lies with ⟨_, _, a, rfl⟩ | ⟨g, cap, cur, e, _, rfl, _⟩
      · exact ⟨_, _, _, rfl⟩
      · exact ⟨_, _, _, rfl⟩
    subst hv
    have hWs : W0.heap.size < W.heap.size := (Array.getElem?_eq_some_iff.1 q1).1
    have q5 : RowAt 2 b0 W0.heap.size (W.alloc (.cells #[.int .i64 x.who, .int .i64 x.seq] 24)) (.slice va vn vc) (l.length + pre.length) ((l ++ pre).flatMap Nm.enc) gb := q2.kept (World.grownBy_alloc W _ none) (by cases gb <;> simp)
    have hnew : ∀ (j : Nat) (u : Value), [Value.int .i64 x.who, Value.int .i64 x.seq][j]? = some u → (W.alloc (.cells #[.int .i64 x.who, .int .i64 x.seq] 24)).cell? ⟨W.heap.size, j, none⟩ = some u := fun j u hj => by
      have := heap_alloc_new W (.cells #[.int .i64 x.who, .int .i64 x.seq] 24)
      simp only [World.cell?, this]
      simpa using hj
    gi_wp2_with (first
      | (gi_at_builtin; refine wpListIn_append_row _ rfl _ _ 25 rfl Tryz.underlying25 i1 i6 i4 (by rw [← Array.length_toList, i7]; rfl) (by decide) rfl q5 (by simp; omega) rfl (news := [.int .i64 x.who, .int .i64 x.seq]) rfl (by simp [Value.oneCell']) hnew (by rw [i5]; omega) (by omega) ?_; intro v' W3 g' r1 r2 r3 r4 r5
         have hv3 : W3.heap[W0.heap.size]? = some (.cells #[.slice va vn vc] 25 (0, 0)) := (r2.block _ (by simp; omega) (fun e => q3 e.symm)).trans ((heap_alloc_old W _ hWs).trans q1)
         obtain ⟨hc3, hf3⟩ := cell_of_box_a hv3
         obtain ⟨cap', cur', e', rfl, s2, s3, s4, s5, s6, s7⟩ : ∃ cap' cur' e', v' = .slice (some ⟨g', 0, none⟩) (l.length + pre.length + 1) cap' ∧ (b0 = some g' ∨ W0.heap.size ≤ g') ∧ W3.heap[g']? = some (.cells cur' e' (0, 0)) ∧ l.length + pre.length + 1 ≤ cap' ∧ cap' ≤ maxLen ∧ cap' * 2 = cur'.size ∧ cur'.toList.take ((l.length + pre.length + 1) * 2) = (l ++ pre).flatMap Nm.enc ++ [.int .i64 x.who, .int .i64 x.seq] := by
           rcases r1.lies with ⟨h, _⟩ | ⟨g, cap, cur, e, h, h1, h2, h3, h4, h5, h6, h7⟩
           · cases h
           · injection h with h; subst h; exact ⟨cap, cur, e, h1, h2, h3, h4, h5, h6, h7⟩
         go_frame)
      | gi_round_op_a)
    have hg0 : W.grownBy (W.alloc (.cells #[.int .i64 x.who, .int .i64 x.seq] 24)) none := World.grownBy_alloc W _ none
    have hd0 : W.drawn ≤ (W.alloc (.cells #[.int .i64 x.who, .int .i64 x.seq] 24)).drawn := Nat.le_refl _
    have hgb : ∀ r, gb = some r → (b0 = some r ∨ W0.heap.size ≤ r) ∧ ∃ cur e, W.heap[r]? = some (.cells cur e (0, 0)) := fun r e => by
      rcases q2.lies with ⟨h, _⟩ | ⟨g, cap, cur, e', h, _, h2, h3, _⟩
      · rw [h] at e; cases e
      · rw [h] at e; injection e with e; subst e; exact ⟨h2, cur, e', h3⟩
    have hgne : g' ≠ W0.heap.size := by
      rcases r4 with h | h
      · exact fun e => q3 (by rw [h, e])
      · rw [h]; simp; omega
    generalize W.alloc (.cells #[.int .i64 x.who, .int .i64 x.seq] 24) = W2 at *
    have hg4 : W3.grownBy (W3.setCell ⟨W0.heap.size, 0, none⟩ (.slice (some ⟨g', 0, none⟩) (l.length + pre.length + 1) cap')) (some W0.heap.size) := grownBy_setCell0_a _ _ _
    refine ⟨⟨Nat.le_trans hg0.size (Nat.le_trans r2.size hg4.size), fun k o hk ho hcell => ?_⟩, ((KeepsWalks.of_grownBy hg0 (fun j o e => by cases e)).trans (KeepsWalks.of_grownBy r2 (fun j o e ho => ?_))).trans (KeepsWalks.setCell _ _ _),
      .slice (some ⟨g', 0, none⟩) (l.length + pre.length + 1) cap', some g', heap_setCell_box_a _ hv3, ?_, fun e => hgne (by injection e), ((q4.step hg0 hd0 (fun r e => by cases e)).step r2 r3 (fun r e => (hgb r e).1)).step hg4 (Nat.le_refl _) (fun r e => .inr (by injection e with e; omega)), ((q6.step hg0 (by cases b0 <;> simp)).write (by rw [Nat.add_mul]; omega) r2 r5).step hg4 ?_⟩
    · have h2 := (hg0.block k (Array.getElem?_eq_some_iff.1 ho).1 (by simp)).trans ho
      have h3 := (r2.block k (Array.getElem?_eq_some_iff.1 h2).1 (fun e => by
        obtain ⟨_, cur, e', h⟩ := hgb k e.symm
        rw [ho] at h; cases h; cases hcell)).trans h2
      exact (hg4.block k (Array.getElem?_eq_some_iff.1 h3).1 (fun e => by injection e with e; omega)).trans h3
    · obtain ⟨_, cur, e', h⟩ := hgb j e
      have h2 := (hg0.block j (Array.getElem?_eq_some_iff.1 h).1 (by simp)).trans h
      rw [ho] at h2; cases h2; rfl
    · have := r1.kept hg4 (.inr (fun e => hgne (by injection e)))
      simpa [Nm.enc, Nat.add_assoc] using this
    · cases hb : b0 with
      | none => exact .inl rfl
      | some g => exact .inr fun e => by injection e with e; have := hb0 g hb; omega
  · rintro D xs W hD hS ⟨v, gb, q1, q2, q3, q4, q6⟩ hdef
    obtain ⟨hc1, hf1⟩ := cell_of_box_a q1
    gi_wp2
    refine ⟨by simp, .inl ⟨_, _, rfl, run_takeDeferred hdef, ?_⟩⟩
    refine ⟨_, results_tmp rfl _ _ _, v, xs, gb, rfl, hS, q2.kept (grownBy_putObj_a _ _ _) ?_, q4.step (grownBy_putObj_a _ _ _) (Nat.le_refl _) (fun r e => .inr (by injection e with e; omega)), q6.step (grownBy_putObj_a _ _ _) ?_⟩
    rcases q2.lies with ⟨h, _⟩ | ⟨g, cap, cur, e', h, _, h2, h3, _⟩
    · exact .inl h
    · refine .inr fun e => ?_
      rw [h] at e; injection e with e; subst e
      rw [hdef] at h3; cases h3
    · cases hb : b0 with
      | none => exact .inl rfl
      | some g => exact .inr fun e => by injection e with e; have := hb0 g hb; omega
end Go.Eng
namespace Go.Eng
open Go.Proofs
attribute [local simp] runL stepL evalG evalOp opLV constLV putEnv dstOk upd upds Res.plain Res.cond Res.fail evalBin evalUn seqQ blockQ argsEnv lookL lookH RetIs memless freshL evalPick evalMin bval bok evalLen evalIn strip whenC guardOps guardC slotsOf
  runM foldS stepI stepM maskE wrIn lk renO lookN evalCall evalCallee optAll resLV resObj retLV retObj retsLV retsObj evalLoad evalIndexAddr evalField solid cellsD_agg cellsD_int cellsD_bool cellsD_str cellsD_sl cellsD_ro cellsD_fn cellsL_agg cellsL_dagg cellsL_int cellsL_bool cellsL_str cellsL_sl cellsL_fn cellsL_ow cellsL_bx cellsL_lfn cellsL_nl takeL takeD mkAgg allD eqD eqDs kindsAre kindIs LObj.live TK.isNone TK.agg TK.isBool TK.isStr TK.isStruct Op.operands Call.operands
  evalBuildSlice evalAppend elemsOf evalStore evalBuild fillL lookupF putL evalSlice bound evalConv elemsS freezes frozen loadR
  mkEnv_at mkObs_at close_d close_agg close_ow close_bx close_fn close_nl touch_d touch_agg touch_ow touch_bx touch_fn touch_nl ren_d ren_agg ren_bx ren_rp ren_ow ren_fn ren_nl ren_junk retQ_ret retQ2_ret condQ_bool Nm.d Df.d Ed.d nmsD dfsD strsD edsD retC_ret nm_eq df_eq take_map_len take_map_app
  nm_t nm_d nm_td df_t df_d df_td str_t str_d str_td ed_t ed_d ed_td
  evalAppendIn evalCut evalClear evalCopy evalMake evalWrap evalCap evalNil isNilC lenL isInp gorc
  mapOf findD keyEq keyOk evalMakeMap evalRange zeroD zeroDV argsG shutG outN lenv retG0_ret retG0_normal retG1_ret renO close_mp touch_mp ren_mp optAll_d optAll_d' touch_ds cellsL_mp cellsD_mp cellsL_dmp
  evalMapSet evalPtr TK.isPtr evalToArr firstL retN_ret retsQ rvarL close_bm touch_bm ren_bm cellsD_bm cellsL_bm cellsL_lbm
def entryKey (e : MapEntry) : Nm := match e.key with
  | .agg cs => match cs.toList with
    | [.int _ a, .int _ b] => ⟨a, b⟩
    | _ => default
  | _ => default
theorem rd_nm {w : World} {E : Nat → Prop} {n : Nm} {v : Value} (h : RD w E n.d v) : v = keyV n := (nmAgg n w E v).1 h
theorem row_len {l : List Nm} : (l.map Nm.d).length = l.length := by simp
theorem AppendKeys_ok (l s : List Nm) (ds : List DV) (hN : (l.length + s.length) * 16 ≤ 140737488355328) :
    OkGR Tryz.prog 134 [.ow 0 0 l.length, .d (.fn 160 [.ro [.mp (s.map Nm.d) ds]])] [(0, .row false 2 (l.map Nm.d))]
      (fun fin ret => ∃ p : List Nm, p.Perm s ∧ fin = [(0, .dead), (1, .row false 2 ((l ++ p).map Nm.d))] ∧ ret = .ow 1 0 (l.length + p.length)) := by
  refine ⟨⟨_, Tryz.func134, by kernel_rfl, by rfl⟩, fun w X β vs m hvl hr => ?_⟩
  have hH : mkObs [(0, LObj.row false 2 (l.map Nm.d))] 0 = .row false 2 (l.map Nm.d) := by simp [mkObs, lookH]
  have hH1 : mkObs [(0, LObj.row false 2 (l.map Nm.d))] 1 = .absent := by simp [mkObs, lookH]
  have hfin : ∀ o, mkObs [(0, .dead), (1, o)] = upd (upd (mkObs [(0, LObj.row false 2 (l.map Nm.d))]) 0 .dead) 1 o := fun o => by
    funext j; simp only [mkObs, lookH, upd]; by_cases h0 : j = 0 <;> by_cases h1 : j = 1 <;> simp_all
  generalize hHd : mkObs [(0, LObj.row false 2 (l.map Nm.d))] = H at *
  match vs, hvl with
  | [v0, v1], _ =>
  have r0 := hr 0 _ _ rfl rfl
  have r1 := hr 1 _ _ rfl rfl
  obtain ⟨Bm, ob, b, clock, arr, rfl, hcell, hBm, hblk, hb, hk, hborn, hkey⟩ : ∃ Bm ob b clock arr, v1 = .func (.func 160) #[] #[.pointer (some ⟨Bm, ob, none⟩)] ∧ w.cell? ⟨Bm, ob, none⟩ = some (.map (some b)) ∧ ¬ Ex X β H Bm ∧ w.heap[b]? = some (.map arr clock) ∧ ¬ Ex X β H b ∧
      (s.map Nm.d).length = arr.size ∧ BornOk arr clock ∧ ∀ (i : Nat) (d : DV) (e : MapEntry), (s.map Nm.d)[i]? = some d → arr[i]? = some e → RD w (Ex X β H) d e.key := by
    cases r1 with
    | d _ _ h => cases h with
      | fn _ _ us hl hc =>
        match us, hl with
        | [u], _ =>
        have h0 := hc 0 _ u rfl rfl
        cases h0 with
        | ro _ Bm ob us2 hBm hul _ _ hcell h =>
          match us2, hul with
          | [u2], _ =>
          have h2 := h 0 _ u2 rfl rfl
          have hc2 := hcell 0 u2 rfl
          cases h2 with
          | mp _ _ b clock arr hb _ hblk hk _ hborn hkey _ => exact ⟨Bm, ob, b, clock, arr, rfl, by simpa using hc2, hBm, hblk, hb, hk, hborn, hkey⟩
  rw [row_len] at hk
  have hkeys : ∀ (i : Nat) (h1 : i < s.length) (h2 : i < arr.size), arr[i].key = keyV s[i] := fun i h1 h2 => rd_nm (hkey i _ _ (by simp [h1]) (Array.getElem?_eq_getElem h2))
  have hk2 : ∀ e ∈ arr.toList, e.key = keyV (entryKey e) := fun e he => by
    obtain ⟨i, hi, rfl⟩ := List.getElem_of_mem he
    have hi' : i < arr.size := by simpa using hi
    have := hkeys i (by omega) hi'
    simp only [Array.getElem_toList]
    simp [entryKey, this, keyV]
  have hmap : arr.toList.map entryKey = s := by
    apply List.ext_getElem (by simpa using hk.symm)
    intro i h1 h2
    have := hkeys i h2 (by omega)
    simp [entryKey, this, keyV]
  have hmut : (H 0).mut = true := by rw [hH]; rfl
  have finish : ∀ (b0 : Option Nat), ((b0 = none ∧ l = []) ∨ (∃ g, b0 = some g ∧ β 0 = some g ∧ ∃ cur e, w.heap[g]? = some (.cells cur e (0, 0)) ∧ cur.toList.take (l.length * 2) = l.flatMap Nm.enc)) → RowAt 2 b0 w.heap.size w v0 l.length (l.flatMap Nm.enc) b0 →
      Calls Tryz.prog 134 #[v0, .func (.func 160) #[] #[.pointer (some ⟨Bm, ob, none⟩)]] w fun e w' => ∃ v β' fin ret, (∃ p : List Nm, p.Perm s ∧ fin = [(0, .dead), (1, .row false 2 ((l ++ p).map Nm.d))] ∧ ret = .ow 1 0 (l.length + p.length)) ∧ e = .returned v ∧
        Mem ⟨w, β, H, [(0, LObj.row false 2 (l.map Nm.d))].map (·.1)⟩ X (mkObs fin) β' w' ∧ R w' (Ex X β' (mkObs fin)) β' (mkObs fin) ret v := by
    intro b0 hb0 hrow
    have hE : ∀ x, ¬ Ex X β H x → some x ≠ b0 := fun x hx e => by
      rcases hb0 with ⟨h, _⟩ | ⟨g, h, hg, _⟩
      · rw [h] at e; cases e
      · rw [h] at e; injection e with e; subst e; exact hx (.inr ⟨0, hmut, hg⟩)
    refine (appendSeqNm w v0 l b0 hrow (fun g hg => ?_) hcell (hE _ hBm) hblk (hE _ hb) hborn entryKey hk2 (by rw [← hk]; exact hN)).mono ?_
    · rcases hb0 with ⟨h, _⟩ | ⟨g', h, _, cur, e, hc, _⟩
      · rw [h] at hg; cases hg
      · rw [h] at hg; injection hg with hg; subst hg; exact (Array.getElem?_eq_some_iff.1 hc).1
    · rintro e w' ⟨v, ss, gb, rfl, hp, hr', hst, hhd⟩
      rw [hmap] at hp
      obtain ⟨β', hm, hR⟩ := m.appended nmCells (id := 0) (new := 1) hH hH1 hb0 hr' hst hhd
      exact ⟨v, β', _, _, ⟨ss, hp, rfl, rfl⟩, rfl, by rw [hfin]; exact hm, by rw [hfin]; exact hR⟩
  rcases ow_cases m hH r0 with ⟨g, c, cur, e, rfl, hg, hkn, hn, hc, hblk', hroom, hcap⟩ | ⟨p, rfl, hz, _⟩
  · have hob := m.obj 0
    simp only [ObjR, hH] at hob
    obtain ⟨hpos, hall, hob⟩ := hob
    rcases hob with ⟨hnone, _⟩ | ⟨b', e', cur', hb', hblk2, hlen', hpo⟩
    · rw [hnone] at hg; cases hg
    rw [hg] at hb'; injection hb' with hb'; subst hb'
    rw [hblk'] at hblk2; injection hblk2 with hblk2; injection hblk2 with p1 p2; subst p1; subst p2
    rw [row_len] at hlen'
    have htk := nmCells.holds hlen' (fun i c v hc hv => (hpo i c v hc hv).2)
    refine finish (some g) (.inr ⟨g, rfl, hg, cur, e, hblk', htk⟩) ⟨nmCells.flat_len l, fun u hu => ?_, .inr ⟨g, c, cur, e, rfl, by simp, .inl rfl, hblk', hn, hc, by simpa using hroom, htk⟩⟩
    obtain ⟨x, _, hx⟩ := List.mem_flatMap.1 hu
    exact nmCells.one x u hx
  · have hl0 : l = [] := List.eq_nil_of_length_eq_zero hz
    subst hl0
    exact finish none (.inl ⟨rfl, rfl⟩) ⟨rfl, by simp, .inl ⟨rfl, rfl, p, rfl⟩⟩
theorem KeysNm_ok (ks vs : List DV) : Ok Tryz.prog 135 [.mp ks vs] ⟨.d (.fn 160 [.ro [.mp ks vs]]), false⟩ := by
  refine Ok.ret Tryz.func135 (by kernel_rfl) (c := _) rfl Tryz.ntmps135 (by simp) Tryz.results135 (by intro _ h; cases h) fun w0 X hp => ?_
  refine LWp.seq ?_
  refine LWp.rz hT hW ?_
  simp
  refine LWp.seq ?_
  refine LWp.rz hT hW ?_
  simp
  refine LWp.ret ?_
  simp
theorem nodup_le' {α : Type} [DecidableEq α] : ∀ {l m : List α}, l.Nodup → (∀ x ∈ l, x ∈ m) → l.length ≤ m.length
  | [], _, _, _ => Nat.zero_le _
  | a :: l, m, h, hs => by
    simp only [List.nodup_cons] at h
    have ha : a ∈ m := hs a (List.mem_cons_self ..)
    have := nodup_le' h.2 (m := m.erase a) (fun x hx => (List.mem_erase_of_ne (show x ≠ a from fun e => by subst e; exact h.1 hx)).2 (hs x (List.mem_cons_of_mem _ hx)))
    rw [List.length_erase_of_mem ha] at this
    have := List.length_pos_of_mem ha
    simp only [List.length_cons]; omega
theorem reach_all {l : List Ed} {n m : Nm} (h : Reach l n m) : m ∈ allNeeds l := by
  induction h with
  | one h => exact needs_all h
  | next _ _ ih => exact ih
theorem aboveL_len (l : List Ed) (n : Nm) : (aboveL l n).length ≤ (allNeeds l).length := nodup_le' (aboveL_nodup l n) fun x hx => reach_all (mem_aboveL.1 hx)
theorem EClosure_ok (l : List Ed) (set : List Nm) (hl : set.length ≤ 1100000) (hn : (allNeeds l).length ≤ 1100000) : Ok Tryz.prog 95 [edsD l, nmsD set] ⟨.tup [.own 2 ((closureV l set).1.map Nm.d), .d (I64 (closureV l set).2)], true⟩ := by
  refine Ok.two Tryz.func95 (by kernel_rfl) (c := _) rfl Tryz.ntmps95 (by simp) Tryz.results95 rfl fun w0 X hp => ?_
  refine LWp.seq ?_
  refine LWp.rz hT hW ?_
  simp
  refine LWp.seq ?_
  refine LWp.ro hT hW (fun | 10 => some <| .plain ⟨.own 2 (set.map Nm.d), true⟩ | _ => none) ?_
  simp
  refine ⟨CloneNm_ok set (by omega), ?_⟩
  refine LWp.seq ?_
  refine LWp.seq ?_
  refine LWp.rz hT hW ?_
  simp
  refine LWp.block ?_
  refine LWp.loopW (ι := Nat × List Nm) (fun ⟨i, out⟩ => mkEnv [(0, .d (edsD l)), (6, .ow 6 0 out.length), (11, .d (nmsD set)), (12, .d (I64 set.length)), (13, .d (I64 i))]) (fun ⟨i, out⟩ => mkObs [(6, .row false 2 (out.map Nm.d))]) (fun ⟨i, out⟩ => i ≤ set.length ∧ out.length ≤ set.length + i * 1100000 ∧ out.Perm (set ++ (set.take i).flatMap (aboveL l))) (fun ⟨i, out⟩ => set.length - i) (0, set) (Weak.to [0, 6, 11, 12, 13] [(10, 6)] (by decide) (by decide) (by simp [hp]) (by simp) (by simp)) (by simp) fun ⟨i, out⟩ hi3 => ?_
  refine LWp.seq ?_
  refine LWp.rz hT hW ?_
  simp
  refine LWp.seq ?_
  refine LWp.iff ?_
  simp
  refine ⟨fun h3 => ?_, fun h3 => ?_⟩
  · refine LWp.skip ?_
    simp
    refine LWp.seq ?_
    refine LWp.block ?_
    refine LWp.seq ?_
    refine LWp.rz hT hW ?_
    simp [h3]
    obtain ⟨q1, q2, q3⟩ := hi3
    have hab := aboveL_len l set[i]
    have hip : i * 1100000 ≤ set.length * 1100000 := Nat.mul_le_mul_right _ q1
    refine LWp.regGenR hT hW 22 [(6, 0)] [(1, 22)] [1] (fun fin ret => ∃ p : List Nm, p.Perm (aboveL l set[i]) ∧ fin = [(0, .dead), (1, .row false 2 ((out ++ p).map Nm.d))] ∧ ret = .ow 1 0 (out.length + p.length)) _ _ ⟨aboveL l set[i], List.Perm.refl _, rfl, rfl⟩ (fun | 20 => some <| .plain ⟨.d (.mp (List.map Nm.d (aboveL l set[i])) (List.map (fun _ => .bool true) (aboveL l set[i]))), false⟩ | 21 => some <| .plain ⟨.d (.fn 160 [.ro [.mp (List.map Nm.d (aboveL l set[i])) (List.map (fun _ => .bool true) (aboveL l set[i]))]]), false⟩ | _ => none) (by intro d; first | exact ⟨rfl, fun _ h => h⟩ | (split <;> exact ⟨rfl, fun _ h => h⟩)) (by kernel_rfl) fun r5 hr5 => ?_
    obtain ⟨fin5, ret5⟩ := r5
    obtain ⟨p, hp5, rfl, rfl⟩ := hr5
    simp
    refine ⟨⟨⟨above_ok l set[i], KeysNm_ok _ _⟩, by simpa using AppendKeys_ok out (aboveL l set[i]) _ (by omega)⟩, ?_⟩
    refine LWp.rz hT hW ?_
    simp
    refine ⟨by omega, ?_⟩
    refine loopQ.mk (i + 1, out ++ p) (Weak.to [0, 6, 11, 12, 13] [(22, 6)] (by decide) (by decide) (by simp [hp]) (by simp) (by simp)) ?_ ?_
    · refine ⟨h3, ?_, ?_⟩
      · have := hp5.length_eq
        simp only [List.length_append, Nat.add_mul]; omega
      · rw [List.take_succ_eq_append_getElem h3, List.flatMap_append]
        simp only [List.flatMap_cons, List.flatMap_nil, List.append_nil]
        rw [← List.append_assoc]
        exact q3.append hp5
    · omega
  · refine LWp.exit ?_
    simp
    refine LWp.seq ?_
    refine LWp.seq ?_
    obtain ⟨q1, q2, q3⟩ := hi3
    have hi' : i = set.length := by omega
    rw [hi', List.take_length] at q3
    have hcv := closureV_perm q3
    have hil : i * 1100000 ≤ 1100000 * 1100000 := Nat.mul_le_mul_right _ (by omega)
    refine LWp.ro hT hW (fun | 26 => some <| .plain ⟨.d (.bool (closedB l out)), true⟩ | _ => none) ?_
    simp
    refine ⟨EClosed_ok l out, ?_⟩
    refine LWp.iff ?_
    simp
    refine ⟨fun h7 => ?_, fun h7 => ?_⟩
    · refine LWp.seq ?_
      refine LWp.rz hT hW ?_
      simp
      refine LWp.ret ?_
      simp [hcv, h7]
    · refine LWp.skip ?_
      simp
      refine LWp.seq ?_
      refine LWp.ro hT hW (fun | 29 => some <| .plain ⟨.own 2 ((sortN out).map Nm.d), true⟩ | _ => none) ?_
      simp
      refine ⟨ESort_ok out (by omega), ?_⟩
      refine LWp.ret ?_
      simp [hcv, h7]
open Go.Proofs
def IsAbove (l : List Ed) (n : Nm) (o : List Nm) : Prop := (∀ x, x ∈ o ↔ Reach l n x) ∧ o.length ≤ 2 * (allNeeds l).length
theorem flat_mem_len : ∀ {l : List Ed} {e : Ed}, e ∈ l → e.needs.length ≤ (l.flatMap Ed.needs).length
  | a :: l, e, h => by
    simp only [List.flatMap_cons, List.length_append]
    rcases List.mem_cons.1 h with rfl | h
    · omega
    · have := flat_mem_len h; omega
theorem needsOf_len {l : List Ed} {n : Nm} : (needsOf l n).length ≤ (allNeeds l).length := by
  unfold needsOf
  split
  · rename_i i h
    obtain ⟨hi, _, _⟩ := find_at h
    simp only [List.getD_eq_getElem?_getD, List.getElem?_eq_getElem hi, Option.getD_some]
    exact flat_mem_len (List.getElem_mem hi)
  · simp
theorem mu_nil (l : List Ed) (M : List Nm) : mu l M ≤ (allNeeds l).length := List.length_filter_le _ _
structure Sofar (l : List Ed) (n : Nm) (out : List Nm) (i : Nat) : Prop where
  reach : ∀ x ∈ out, Reach l n x
  first : ∀ x ∈ needsOf l n, x ∈ out
  done : ∀ (j : Nat) (h : j < out.length), j < i → ∀ x ∈ needsOf l out[j], x ∈ out
  size : mu l out + out.length ≤ 2 * (allNeeds l).length
theorem Sofar.start (l : List Ed) (n : Nm) : Sofar l n (needsOf l n) 0 :=
  ⟨fun x h => .one h, fun x h => h, fun j _ h => absurd h (Nat.not_lt_zero _), by have := mu_nil l (needsOf l n); have := needsOf_len (l := l) (n := n); omega⟩
theorem Sofar.step {l : List Ed} {n : Nm} {out o : List Nm} {i : Nat} (h : Sofar l n out i) (hi : i < out.length) (hp : out <+: o) (hr : ∀ x ∈ o, Reach l n x) (hd : ∀ x ∈ needsOf l out[i], x ∈ o) (hs : mu l o + o.length ≤ mu l out + out.length) : Sofar l n o (i + 1) := by
  have hsub : ∀ x ∈ out, x ∈ o := fun x hx => hp.subset hx
  refine ⟨hr, fun x hx => hsub x (h.first x hx), fun j hj hji x hx => ?_, by have := h.size; omega⟩
  have hjo : j < out.length := by omega
  have e : o[j] = out[j] := (List.IsPrefix.getElem hp hjo).symm
  rw [e] at hx
  by_cases hj2 : j < i
  · exact hsub x (h.done j hjo hj2 x hx)
  · have : j = i := by omega
    subst this
    exact hd x hx
theorem Sofar.above {l : List Ed} {n : Nm} {out : List Nm} {i : Nat} (h : Sofar l n out i) (hi : out.length ≤ i) : IsAbove l n out := by
  refine ⟨fun x => ⟨h.reach x, fun hr => ?_⟩, by have := h.size; omega⟩
  have key : ∀ {m k : Nm}, Reach l m k → (m = n ∨ m ∈ out) → k ∈ out := by
    intro m k hr
    induction hr with
    | one hm =>
      rintro (rfl | hmo)
      · exact h.first _ hm
      · obtain ⟨j, hj, rfl⟩ := List.getElem_of_mem hmo
        exact h.done j hj (by omega) _ hm
    | next hm _ ih =>
      rintro (rfl | hmo)
      · exact ih (.inr (h.first _ hm))
      · obtain ⟨j, hj, rfl⟩ := List.getElem_of_mem hmo
        exact ih (.inr (h.done j hj (by omega) _ hm))
  exact key hr (.inl rfl)
theorem Above_ok (l : List Ed) (n : Nm) (hn : (allNeeds l).length ≤ 1100000) : OkR Tryz.prog 97 [edsD l, n.d] (fun r => (fun v => ∃ o : List Nm, IsAbove l n o ∧ v = .d (nmsD o)) r.v ∧ r.fresh = true) := by
  refine OkR.ret (Rel := fun v => ∃ o : List Nm, IsAbove l n o ∧ v = .d (nmsD o)) Tryz.func97 (by kernel_rfl) (c := _) rfl Tryz.ntmps97 (by simp) Tryz.results97 fun w0 X hp => ?_
  have hnl := needsOf_len (l := l) (n := n)
  refine LWp.seq ?_
  refine LWp.rz hT hW ?_
  simp
  refine LWp.seq ?_
  refine LWp.ro hT hW (fun | 12 => some <| .plain ⟨.d (nmsD (needsOf l n)), false⟩ | _ => none) ?_
  simp
  refine ⟨⟨Needs_ok l n, by omega⟩, ?_⟩
  refine LWp.seq ?_
  refine LWp.seq ?_
  refine LWp.rz hT hW ?_
  simp
  refine LWp.block ?_
  refine LWp.loopW (ι := Nat × List Nm) (fun ⟨i, out⟩ => mkEnv [(0, .d (edsD l)), (5, .ow 5 0 out.length), (6, .d (I64 i))]) (fun ⟨i, out⟩ => mkObs [(5, .row false 2 (out.map Nm.d))]) (fun ⟨i, out⟩ => Sofar l n out i) (fun ⟨i, out⟩ => mu l out + (out.length - i)) (0, needsOf l n) (Weak.to [0, 5, 6] [(13, 5)] (by decide) (by decide) (by simp [hp]) (by simp) (by simp)) (Sofar.start l n) fun ⟨i, out⟩ hi3 => ?_
  refine LWp.seq ?_
  refine LWp.seq ?_
  refine LWp.rz hT hW ?_
  simp
  refine LWp.iff ?_
  simp
  refine ⟨fun h3 => ?_, fun h3 => ?_⟩
  · refine LWp.skip ?_
    simp
    refine LWp.seq ?_
    refine LWp.block ?_
    refine LWp.seq ?_
    refine LWp.ro hT hW (fun | 25 => some <| .plain ⟨.d (nmsD (needsOf l out[i])), false⟩ | _ => none) ?_
    simp [h3]
    refine ⟨Needs_ok l out[i], ?_⟩
    refine LWp.seq ?_
    refine LWp.rz hT hW ?_
    simp
    refine LWp.block ?_
    refine LWp.loopW (ι := Nat × List Nm) (fun ⟨k, o⟩ => mkEnv [(0, .d (edsD l)), (5, .ow 5 0 o.length), (6, .d (I64 i)), (7, .d (nmsD (needsOf l out[i]))), (8, .d (I64 k))]) (fun ⟨k, o⟩ => mkObs [(5, .row false 2 (o.map Nm.d))]) (fun ⟨k, o⟩ => k ≤ (needsOf l out[i]).length ∧ out <+: o ∧ (∀ x ∈ o, Reach l n x) ∧ (∀ (j : Nat) (h : j < (needsOf l out[i]).length), j < k → (needsOf l out[i])[j] ∈ o) ∧ mu l o + o.length ≤ mu l out + out.length) (fun ⟨k, o⟩ => (needsOf l out[i]).length - k) (0, out) (Weak.to [0, 5, 6, 7, 8] [(5, 5)] (by decide) (by decide) (by simp [hp]) (by simp) (by simp)) (⟨Nat.zero_le _, List.prefix_refl _, hi3.reach, fun j _ h => absurd h (Nat.not_lt_zero _), Nat.le_refl _⟩) fun ⟨k, o⟩ hi7 => ?_
    refine LWp.seq ?_
    refine LWp.seq ?_
    refine LWp.rz hT hW ?_
    simp
    refine LWp.iff ?_
    simp
    refine ⟨fun h7 => ?_, fun h7 => ?_⟩
    · refine LWp.skip ?_
      simp
      refine LWp.seq ?_
      refine LWp.block ?_
      refine LWp.seq ?_
      refine LWp.ro hT hW (fun | 37 => some <| .plain ⟨.d (.bool (decide ((needsOf l out[i])[k] ∈ o))), true⟩ | _ => none) ?_
      simp [h7]
      refine ⟨Has_ok o _, ?_⟩
      refine LWp.iff ?_
      simp
      refine ⟨fun h9 => ?_, fun h9 => ?_⟩
      · refine LWp.rz hT hW ?_
        simp [h7]
        have hb1 := hi7.2.2.2.2
        have hb2 := hi3.size
        refine ⟨by omega, ?_⟩
        refine LWp.rz hT hW ?_
        simp
        have hk := needsOf_len (l := l) (n := out[i])
        refine ⟨by omega, ?_⟩
        refine loopQ.mk (k + 1, o ++ [(needsOf l out[i])[k]]) (Weak.to [0, 5, 6, 7, 8] [(45, 5)] (by decide) (by decide) (by simp [hp]) (by simp) (by simp)) ?_ ?_
        · obtain ⟨q1, q2, q3, q4, q5⟩ := hi7
          have hm : (needsOf l out[i])[k] ∈ needsOf l out[i] := List.getElem_mem h7
          refine ⟨h7, q2.trans (List.prefix_append _ _), fun x hx => ?_, fun j hj hjk => ?_, ?_⟩
          · rcases List.mem_append.1 hx with hx | hx
            · exact q3 x hx
            · simp at hx; subst hx; exact (hi3.reach _ (List.getElem_mem h3)).snoc hm
          · by_cases e : j = k
            · subst e; simp
            · exact List.mem_append_left _ (q4 j hj (by omega))
          · have := mu_lt (needs_all hm) h9
            simp only [List.length_append, List.length_singleton]; omega
        · omega
      · refine LWp.skip ?_
        simp
        refine LWp.rz hT hW ?_
        simp
        have hk := needsOf_len (l := l) (n := out[i])
        refine ⟨by omega, ?_⟩
        refine loopQ.mk (k + 1, o) (Weak.to [0, 5, 6, 7, 8] [(5, 5)] (by decide) (by decide) (by simp [hp]) (by simp) (by simp)) ?_ ?_
        · obtain ⟨q1, q2, q3, q4, q5⟩ := hi7
          refine ⟨h7, q2, q3, fun j hj hjk => ?_, q5⟩
          by_cases e : j = k
          · subst e; exact h9
          · exact q4 j hj (by omega)
        · omega
    · refine LWp.exit ?_
      simp
      refine LWp.rz hT hW ?_
      simp
      have hb2 := hi3.size
      refine ⟨by omega, ?_⟩
      refine loopQ.mk (i + 1, o) (Weak.to [0, 5, 6] [(5, 5)] (by decide) (by decide) (by simp [hp]) (by simp) (by simp)) ?_ ?_
      · exact hi3.step h3 hi7.2.1 hi7.2.2.1 (fun x hx => by obtain ⟨j, hj, rfl⟩ := List.getElem_of_mem hx; exact hi7.2.2.2.1 j hj (by omega)) hi7.2.2.2.2
      · have := hi7.2.2.2.2
        have := (hi7.2.1).length_le
        dsimp only
        omega
  · refine LWp.exit ?_
    simp
    refine LWp.seq ?_
    refine LWp.rz hT hW ?_
    simp
    refine LWp.ret ?_
    simp only [retR_ret]
    refine ⟨_, ⟨out, hi3.above (by omega), rfl⟩, by simp, ?_⟩
    simp
theorem Before_ok (l : List Ed) (a b : Nm) (hn : (allNeeds l).length ≤ 1100000) : Ok Tryz.prog 57 [edsD l, a.d, b.d] ⟨.d (.bool (decide (a ∈ aboveL l b))), true⟩ := by
  refine Ok.ret Tryz.func57 (by kernel_rfl) (c := _) rfl Tryz.ntmps57 (by simp) Tryz.results57 (by intro _ h; cases h) fun w0 X hp => ?_
  refine LWp.seq ?_
  refine LWp.rz hT hW ?_
  simp
  refine LWp.seq ?_
  refine LWp.anyRel hT hW hMixed (lk [[],[],[0,1],[],[0,1,2,3],[0,1,2,3,4]]) (lk [[],[],[],[9],[],[]]) (lk [[],[],[9],[],[11],[]]) (by kernel_rfl) 9 (fun r => (∃ o : List Nm, IsAbove l b o ∧ r.v = .d (nmsD o)) ∧ r.fresh = true) true ⟨.d (nmsD (aboveL l b)), true⟩ ⟨⟨⟨aboveL l b, ⟨fun x => mem_aboveL, by have := aboveL_len l b; omega⟩, rfl⟩, rfl⟩, rfl⟩ (fun | 11 => some <| .plain ⟨.d (.bool (decide (a ∈ aboveL l b))), true⟩ | _ => none) (by intro d; first | exact ⟨rfl, fun _ h => h⟩ | (split <;> exact ⟨rfl, fun _ h => h⟩)) (by kernel_rfl) fun r1 hr1 => ?_
  obtain ⟨v1, f1⟩ := r1
  obtain ⟨⟨o, ho, hv⟩, hf⟩ := hr1
  dsimp only at hv hf
  subst hv; subst hf
  have hmo : decide (a ∈ o) = decide (a ∈ aboveL l b) := by rw [decide_eq_decide, ho.1, mem_aboveL]
  simp
  refine ⟨⟨Above_ok l b hn, by rw [← hmo]; exact Has_ok o a⟩, ?_⟩
  refine LWp.ret ?_
  simp
theorem Closed_ok (l : List Ed) (set : List Nm) (hn : (allNeeds l).length ≤ 1100000) (hs : set.length ≤ 1000000000000) : Ok Tryz.prog 98 [edsD l, nmsD set] ⟨.d (.bool (closedB l set)), true⟩ := by
  refine Ok.ret Tryz.func98 (by kernel_rfl) (c := _) rfl Tryz.ntmps98 (by simp) Tryz.results98 (by intro _ h; cases h) fun w0 X hp => ?_
  refine LWp.seq ?_
  refine LWp.rz hT hW ?_
  simp
  refine LWp.seq ?_
  refine LWp.seq ?_
  refine LWp.rz hT hW ?_
  simp
  refine LWp.block ?_
  refine LWp.loopW (ι := Nat) (fun i => mkEnv [(0, .d (edsD l)), (1, .d (nmsD set)), (5, .d (I64 i))]) (fun i => mkObs []) (fun i => i ≤ set.length ∧ Pre (fun n => !closedAt l set n) set i) (fun i => set.length - i) 0 (Weak.to [0, 1, 5] [] (by decide) (by decide) (by simp [hp]) (by simp) (by simp)) (⟨Nat.zero_le _, Pre.zero⟩) fun i hi2 => ?_
  refine LWp.seq ?_
  refine LWp.seq ?_
  refine LWp.rz hT hW ?_
  simp
  refine LWp.iff ?_
  simp
  refine ⟨fun h2 => ?_, fun h2 => ?_⟩
  · refine LWp.skip ?_
    simp
    refine LWp.seq ?_
    refine LWp.block ?_
    refine LWp.seq ?_
    refine LWp.seq ?_
    refine LWp.ro hT hW (fun | 19 => some <| .plain ⟨.d (I64 (findI l set[i])), true⟩ | _ => none) ?_
    simp [h2]
    refine ⟨Find_ok l _, ?_⟩
    refine LWp.iff ?_
    simp
    refine ⟨fun h4 => ?_, fun h4 => ?_⟩
    · refine LWp.seq ?_
      refine LWp.rz hT hW ?_
      simp
      refine LWp.ret ?_
      simp
      exact closedB_false h2 (by simp [closedAt, h4])
    · refine LWp.skip ?_
      simp
      refine LWp.seq ?_
      refine LWp.ro hT hW (fun | 26 => some <| .plain ⟨.d (nmsD (needsOf l set[i])), false⟩ | _ => none) ?_
      simp [h2]
      refine ⟨Needs_ok l _, ?_⟩
      refine LWp.seq ?_
      refine LWp.rz hT hW ?_
      simp
      refine LWp.block ?_
      refine LWp.loopW (ι := Nat) (fun k => mkEnv [(0, .d (edsD l)), (1, .d (nmsD set)), (5, .d (I64 i)), (6, .d (nmsD (needsOf l set[i]))), (7, .d (I64 k))]) (fun k => mkObs []) (fun k => k ≤ (needsOf l set[i]).length ∧ Pre (fun m => !decide (m ∈ set)) (needsOf l set[i]) k) (fun k => (needsOf l set[i]).length - k) 0 (Weak.to [0, 1, 5, 6, 7] [] (by decide) (by decide) (by simp [hp]) (by simp) (by simp)) (⟨Nat.zero_le _, Pre.zero⟩) fun k hi8 => ?_
      refine LWp.seq ?_
      refine LWp.seq ?_
      refine LWp.rz hT hW ?_
      simp
      refine LWp.iff ?_
      simp
      refine ⟨fun h8 => ?_, fun h8 => ?_⟩
      · refine LWp.skip ?_
        simp
        refine LWp.seq ?_
        refine LWp.block ?_
        refine LWp.seq ?_
        refine LWp.ro hT hW (fun | 38 => some <| .plain ⟨.d (.bool (decide ((needsOf l set[i])[k] ∈ set))), true⟩ | _ => none) ?_
        simp [h8]
        refine ⟨Has_ok set _, ?_⟩
        refine LWp.iff ?_
        simp
        refine ⟨fun h10 => ?_, fun h10 => ?_⟩
        · refine LWp.seq ?_
          refine LWp.rz hT hW ?_
          simp
          refine LWp.ret ?_
          simp
          refine closedB_false h2 ?_
          simp only [closedAt, Bool.and_eq_false_iff]
          refine .inr ?_
          rw [List.all_eq_false]
          exact ⟨_, List.getElem_mem h8, by simpa using h10⟩
        · refine LWp.skip ?_
          simp
          refine LWp.rz hT hW ?_
          simp
          have hk := needsOf_len (l := l) (n := set[i])
          refine ⟨by omega, ?_⟩
          refine loopQ.mk (k + 1) (Weak.to [0, 1, 5, 6, 7] [] (by decide) (by decide) (by simp [hp]) (by simp) (by simp)) ?_ ?_
          · exact ⟨h8, hi8.2.succ h8 (by simpa using h10)⟩
          · omega
      · refine LWp.exit ?_
        simp
        refine LWp.rz hT hW ?_
        simp
        refine ⟨by omega, ?_⟩
        refine loopQ.mk (i + 1) (Weak.to [0, 1, 5] [] (by decide) (by decide) (by simp [hp]) (by simp) (by simp)) ?_ ?_
        · refine ⟨h2, hi2.2.succ h2 ?_⟩
          have hneg : ¬ findI l set[i] < 0 := by omega
          simp [closedAt, hneg]
          intro m hm
          obtain ⟨j, hj, rfl⟩ := List.getElem_of_mem hm
          have := hi8.2 j hj (by omega)
          simpa using this
        · omega
  · refine LWp.exit ?_
    simp
    refine LWp.seq ?_
    refine LWp.rz hT hW ?_
    simp
    refine LWp.ret ?_
    simp
    exact closedB_true hi2.2 h2
theorem Closure_ok (l : List Ed) (set : List Nm) (hn : (allNeeds l).length ≤ 1000) (hs : set.length ≤ 400) : Ok Tryz.prog 43 [edsD l, nmsD set] ⟨.tup [.d (nmsD (closureV l set).1), .d (I64 (closureV l set).2)], false⟩ := by
  refine Ok.two Tryz.func43 (by kernel_rfl) (c := _) rfl Tryz.ntmps43 (by simp) Tryz.results43 rfl fun w0 X hp => ?_
  refine LWp.seq ?_
  refine LWp.rz hT hW ?_
  simp
  refine LWp.seq ?_
  refine LWp.rz hT hW ?_
  simp
  refine ⟨by omega, ?_⟩
  refine LWp.seq ?_
  refine LWp.seq ?_
  refine LWp.rz hT hW ?_
  simp
  refine LWp.block ?_
  refine LWp.loopW (ι := Nat × List Nm) (fun ⟨i, out⟩ => mkEnv [(0, .d (edsD l)), (1, .d (nmsD set)), (6, .ow 6 0 out.length), (7, .d (I64 i))]) (fun ⟨i, out⟩ => mkObs [(6, .row false 2 (out.map Nm.d))]) (fun ⟨i, out⟩ => i ≤ set.length ∧ out.length ≤ set.length + i * 2000 ∧ ∀ x, x ∈ out ↔ x ∈ set ++ (set.take i).flatMap (aboveL l)) (fun ⟨i, out⟩ => set.length - i) (0, set) (Weak.to [0, 1, 6, 7] [(10, 6)] (by decide) (by decide) (by simp [hp]) (by simp) (by simp)) (by simp) fun ⟨i, out⟩ hi3 => ?_
  refine LWp.seq ?_
  refine LWp.seq ?_
  refine LWp.rz hT hW ?_
  simp
  refine LWp.iff ?_
  simp
  refine ⟨fun h3 => ?_, fun h3 => ?_⟩
  · refine LWp.skip ?_
    simp
    refine LWp.seq ?_
    refine LWp.block ?_
    obtain ⟨q1, q2, q3⟩ := hi3
    have hip : i * 2000 ≤ set.length * 2000 := Nat.mul_le_mul_right _ q1
    have hab := aboveL_len l set[i]
    refine LWp.regRel hT hW 23 (fun r => (∃ o : List Nm, IsAbove l set[i] o ∧ r.v = .d (nmsD o)) ∧ r.fresh = true) true ⟨.d (nmsD (aboveL l set[i])), true⟩ ⟨⟨⟨aboveL l set[i], ⟨fun x => mem_aboveL, by omega⟩, rfl⟩, rfl⟩, rfl⟩ (fun | 99 => none | _ => none) (by intro d; first | exact ⟨rfl, fun _ h => h⟩ | (split <;> exact ⟨rfl, fun _ h => h⟩)) (by kernel_rfl) fun r5 hr5 => ?_
    obtain ⟨v1, f1⟩ := r5
    obtain ⟨⟨o, ho, hv⟩, hf⟩ := hr5
    dsimp only at hv hf
    subst hv; subst hf
    have hol := ho.2
    simp [h3]
    refine ⟨⟨Above_ok l set[i] (by omega), by omega⟩, ?_⟩
    refine LWp.rz hT hW ?_
    simp
    refine ⟨by omega, ?_⟩
    refine loopQ.mk (i + 1, out ++ o) (Weak.to [0, 1, 6, 7] [(24, 6)] (by decide) (by decide) (by simp [hp]) (by simp) (by simp)) ?_ ?_
    · refine ⟨h3, ?_, fun x => ?_⟩
      · have := ho.2
        simp only [List.length_append, Nat.add_mul]; omega
      · have e : set ++ (set.take (i + 1)).flatMap (aboveL l) = (set ++ (set.take i).flatMap (aboveL l)) ++ aboveL l set[i] := by
          rw [List.take_succ_eq_append_getElem h3, List.flatMap_append]; simp
        have h5 : x ∈ out ++ o ↔ x ∈ set ++ (set.take (i + 1)).flatMap (aboveL l) := by
          rw [e, List.mem_append, List.mem_append (s := set ++ _), q3 x, ho.1 x, mem_aboveL]
        simpa using h5
    · omega
  · refine LWp.exit ?_
    simp
    refine LWp.seq ?_
    refine LWp.seq ?_
    obtain ⟨q1, q2, q3⟩ := hi3
    have hi' : i = set.length := by omega
    rw [hi', List.take_length] at q3
    have hcl : closedB l out = closedB l (set ++ set.flatMap (aboveL l)) := closedB_mem q3
    have hso : sortN out = sortN (set ++ set.flatMap (aboveL l)) := sortN_mem q3
    have hil : i * 2000 ≤ 400 * 2000 := Nat.mul_le_mul_right _ (by omega)
    refine LWp.ro hT hW (fun | 27 => some <| .plain ⟨.d (.bool (closedB l out)), true⟩ | _ => none) ?_
    simp
    refine ⟨Closed_ok l out (by omega) (by omega), ?_⟩
    refine LWp.iff ?_
    simp
    refine ⟨fun h6 => ?_, fun h6 => ?_⟩
    · refine LWp.seq ?_
      refine LWp.rz hT hW ?_
      simp
      refine LWp.ret ?_
      have e : closureV l set = ([], 6) := by unfold closureV; rw [← hcl, if_pos (by simpa using h6)]
      simp [e]
    · refine LWp.skip ?_
      simp
      refine LWp.seq ?_
      refine LWp.ro hT hW (fun | 30 => some <| .plain ⟨.d (nmsD (sortN out)), true⟩ | _ => none) ?_
      simp
      refine ⟨Sort_ok out (by omega), ?_⟩
      refine LWp.ret ?_
      have e : closureV l set = (sortN out, 0) := by unfold closureV; rw [← hcl, ← hso, if_neg (by simpa using h6)]
      simp [e]
end Go.Eng
namespace Go.Eng
open Go.RowKit Go.Maps Go.Sort Go.Shelf Go.Proofs
open Go.ChangeMaps (setBlock)
def keyS (x : Str) : Value := .string ⟨x.toArray⟩
def Str.enc (x : Str) : List Value := [keyS x]
set_option maxRecDepth 100000 in
set_option maxHeartbeats 2000000 in
theorem keysStr_gives (F : Fence) (n : Nat) (hf : F.fn 130) (hro : F.round = none) (hn : 1 ≤ n) {Bm ob b clock : Nat} {es : Array MapEntry} (W : World) (hm' : W.cell? ⟨Bm, ob, none⟩ = some (.map (some b)))
    (hb' : W.heap[b]? = some (.map es clock)) (hborn : BornOk es clock) (key : MapEntry → Str) (hkey : ∀ e ∈ es.toList, e.key = keyS (key e)) (l : Nat) (J : List Str → World → Prop) (hJ : AbW W.heap.size J)
    (hY : ∀ pre x W1, J pre W1 → pre.length < es.size → YieldAt F (n - 1) Tryz.prog l #[keyS x] W1 fun e W' => e = .returned (.bool true) ∧ J (pre ++ [x]) W' ∧ KeepsWalks W1 W') (h0 : J [] W) :
    CallsIn F n Tryz.prog 130 #[.func (.yield l) #[] #[], .pointer (some ⟨Bm, ob, none⟩)] W fun e W' => (∃ v, e = .returned v) ∧ ∃ ss : List Str, ss.Perm (es.toList.map key) ∧ J ss W' := by
  have hbW : b < W.heap.size := (Array.getElem?_eq_some_iff.1 hb').1
  refine callsIn_of_wp Tryz.func130 rfl hf ?_ hro
  simp only [Tryz.ntmps130, List.size_toArray, List.length_cons, List.length_nil, Nat.reduceAdd, Nat.reduceSub, Array.replicate_succ, Array.replicate_zero, List.push_toArray, List.append_toArray, List.nil_append, List.cons_append]
  gi_wp2_with (first
    | (gi_at_range; refine wpListIn_range_map _ rfl _ _ rfl _ _ Tryz.underlying122 rfl hb' ?_)
    | gi_in)
  have hg0 : W.grownBy (W.alloc (.mapIter (some b) clock #[] clock)) none := World.grownBy_alloc W _ none
  have hr0 : (W.alloc (.mapIter (some b) clock #[] clock)).heap[W.heap.size]? = some (.mapIter (some b) clock #[] clock) := heap_alloc_new W _
  have hb0 : (W.alloc (.mapIter (some b) clock #[] clock)).heap[b]? = some (.map es clock) := (hg0.block b hbW (by simp)).trans hb'
  have hJ0 := hJ [] W _ none h0 hg0 (Nat.le_refl _) (fun r e => by cases e)
  generalize W.alloc (.mapIter (some b) clock #[] clock) = w0 at *
  try go_frame
  gi_loopw [3] (fun _ wr => ∃ (vs : List MapEntry) (seen : Array Nat) (c0 : Nat), wr.heap[W.heap.size]? = some (.mapIter (some b) clock seen c0) ∧ wr.heap[b]? = some (.map es clock) ∧ clock ≤ c0 ∧ Came es vs seen ∧ J (vs.map key) wr)
    (fun _ wr => toCome es.size W.heap.size wr)
  case atStart =>
    exact ⟨[], #[], clock, hr0, hb0, Nat.le_refl _, ⟨by simp, by simp, by simp⟩, hJ0⟩
  case round =>
    obtain ⟨vs, seen, c0, hr, hbr, hcc, hC, hJs⟩ := hrel
    gi_wp2_with (first
      | (gi_at_next; refine wpListIn_next_map _ rfl _ rfl (Nat.ne_of_gt hbW) rfl hr hbr hborn hcc (Nat.le_refl _) hC ?_ ?_)
      | gi_in)
    · intro hp
      gi_wp2
      go_end0
      exact ⟨⟨_, rfl⟩, vs.map key, hp.map key, hJs⟩
    · intro e w2 he hC2 hr2 hg2 hd2 hen
      have hJ2 : J (vs.map key) w2 := hJ _ wr w2 (some W.heap.size) hJs hg2 hd2 (fun r e => by cases e; exact ⟨Nat.le_refl _, _, hr, rfl⟩)
      have hb2 : w2.heap[b]? = some (.map es clock) := (hg2.block b (Array.getElem?_eq_some_iff.1 hbr).1 (fun e => by injection e with e; omega)).trans hbr
      have hsz := hC2.size hborn
      have hvs : seen.size = vs.length := by have := congrArg List.length hC.seen; simpa using this
      obtain ⟨fn, tmps, assign, body, hy, hR⟩ := hY (vs.map key) (key e) _ hJ2 (by simp at hsz ⊢; omega)
      rw [hkey e (by simpa using he)] at hen ⊢
      unfold keyS at hen hy ⊢
      gi_wp2
      refine hR.mono ?_
      rintro e' W3 ⟨rfl, hJ3, hk3⟩
      gi_wp2
      have hr4 := hk3.same _ _ hr2 rfl
      have hb4 := hk3.same _ _ hb2 rfl
      go_roundw
      case rel => exact ⟨vs ++ [e], seen.push e.born, clock, hr4, hb4, Nat.le_refl _, hC2, by simpa using hJ3⟩
      case measure => rw [toCome_eq hr4, toCome_eq hr]; simp at hsz ⊢; omega
def AppS (b0 : Option Nat) (W0 : World) (l : List Str) (ss : List Str) (W : World) : Prop :=
  ∃ v gb, W.heap[W0.heap.size]? = some (.cells #[v] 27 (0, 0)) ∧ RowAt 1 b0 W0.heap.size W v (l.length + ss.length) ((l ++ ss).flatMap Str.enc) gb ∧ gb ≠ some W0.heap.size ∧ Still b0 W0 W ∧ Head0 (l.length * 1) b0 W0 W
theorem appS_abW (b0 : Option Nat) (W0 : World) (l : List Str) (hb0 : ∀ b, b0 = some b → b < W0.heap.size) : AbW (W0.heap.size + 1) (AppS b0 W0 l) := by
  rintro ss W W' row ⟨v, gb, h1, h2, h3, h4, h5⟩ hg hd hr
  have hrow : ∀ {k : Nat} {cur : Array Value} {e : TypeId}, W.heap[k]? = some (.cells cur e (0, 0)) → some k ≠ row := fun hk e => by
    obtain ⟨_, o, ho, hc⟩ := hr _ e.symm
    rw [hk] at ho; cases ho; cases hc
  refine ⟨v, gb, (hg.block _ (Array.getElem?_eq_some_iff.1 h1).1 (hrow h1)).trans h1, h2.kept hg ?_, h3, h4.step hg hd (fun r e => .inr (by have := (hr r e).1; omega)), h5.step hg ?_⟩
  rcases h2.lies with ⟨rfl, _⟩ | ⟨g, cap, cur, e, rfl, _, _, hb, _⟩
  · exact .inl rfl
  · exact .inr (hrow hb)
  · cases hb : b0 with
    | none => exact .inl rfl
    | some g => exact .inr fun e => by have := (hr g e.symm).1; have := hb0 g hb; omega
set_option maxRecDepth 100000 in
set_option maxHeartbeats 4000000 in
theorem appendSeqStr (W0 : World) (v0 : Value) (l : List Str) (b0 : Option Nat) (hrow : RowAt 1 b0 W0.heap.size W0 v0 l.length (l.flatMap Str.enc) b0) (hb0 : ∀ b, b0 = some b → b < W0.heap.size) {Bm ob b clock : Nat} {es : Array MapEntry} (hm : W0.cell? ⟨Bm, ob, none⟩ = some (.map (some b))) (hBm : some Bm ≠ b0)
    (hb : W0.heap[b]? = some (.map es clock)) (hbb : some b ≠ b0) (hborn : BornOk es clock) (key : MapEntry → Str) (hkey : ∀ e ∈ es.toList, e.key = keyS (key e)) (hN : (l.length + es.size) * 16 ≤ 140737488355328) :
    Calls Tryz.prog 137 #[v0, .func (.func 130) #[] #[.pointer (some ⟨Bm, ob, none⟩)]] W0 fun e W' =>
      ∃ v ss gb, e = .returned v ∧ List.Perm ss (es.toList.map key) ∧ RowAt 1 b0 W0.heap.size W' v (l.length + ss.length) ((l ++ ss).flatMap Str.enc) gb ∧ Still b0 W0 W' ∧ Head0 (l.length * 1) b0 W0 W' := by
  refine (callsIn_wide (n := 6)).1 ?_
  obtain ⟨ba, bn, bc, hv0⟩ : ∃ ba bn bc, v0 = .slice ba bn bc := by
    rcases hrow.lies with ⟨_, _, a, rfl⟩ | ⟨g, cap, cur, e, _, rfl, _⟩
    · exact ⟨_, _, _, rfl⟩
    · exact ⟨_, _, _, rfl⟩
  subst hv0
  have hBml : Bm < W0.heap.size := World.block_lt_of_cell? W0 _ hm
  have hbl : b < W0.heap.size := (Array.getElem?_eq_some_iff.1 hb).1
  refine callsIn_of_wp_marks Tryz.func137 rfl trivial ?_ rfl
  simp only [Tryz.ntmps137, List.size_toArray, List.length_cons, List.length_nil, Nat.reduceAdd, Nat.reduceSub, Array.replicate_succ, Array.replicate_zero, List.push_toArray, List.append_toArray, List.nil_append, List.cons_append]
  gi_wp2
  obtain ⟨W1, hW1⟩ : ∃ W1, W0.alloc (.cells #[.slice ba bn bc] 27) = W1 := ⟨_, rfl⟩
  have hs1 : W1.heap.size = W0.heap.size + 1 := by rw [← hW1]; simp
  have hg1 : W0.grownBy W1 none := by rw [← hW1]; exact World.grownBy_alloc W0 _ none
  have hd1 : W0.drawn ≤ W1.drawn := by rw [← hW1]; exact Nat.le_refl _
  have hv1 : W1.heap[W0.heap.size]? = some (.cells #[.slice ba bn bc] 27 (0, 0)) := by rw [← hW1]; exact heap_alloc_new W0 _
  rw [hW1]
  clear hW1
  refine wpIn_rangeFunc_gives (enc := keyS) (N := es.size) (S := fun ss => List.Perm ss (es.toList.map key)) rfl (by omega) rfl trivial (enters_of Tryz.func130 (by kernel_rfl) rfl) (AppS b0 W0 l) (by rw [hs1]; exact appS_abW b0 W0 l hb0)
    ⟨.slice ba bn bc, b0, hv1, by simpa using hrow.kept hg1 (by cases b0 <;> simp), fun e => by have := hb0 _ e; omega, (Still.refl b0 W0).step hg1 hd1 (fun r e => by cases e), (Head0.refl _ b0 W0).step hg1 (by cases b0 <;> simp)⟩ ?_
    (fun x a' W => a' = ⟨#[.slice ba bn bc, .func (.func 130) #[] #[.pointer (some ⟨Bm, ob, none⟩)], .pointer (some ⟨W0.heap.size, 0, none⟩), undef, .slice none 0 0, .string ⟨x.toArray⟩, .func (.func 130) #[] #[.pointer (some ⟨Bm, ob, none⟩)], keyS x, undef, undef, undef, undef, undef], []⟩) ?_ ?_ ?_ ?_
  · intro l' J W2 hI hsz hJ hY hJ0
    obtain ⟨v, gb, q1, q2, q3, q4, q6⟩ := hI
    exact keysStr_gives _ 5 trivial rfl (by omega) W2 ((World.cell?_of_block (q4.block Bm hBml hBm)).trans hm) ((q4.block b hbl hbb).trans hb) hborn key hkey l' J hJ hY hJ0
  · exact fun x a' s W W' row h _ _ _ => h
  · intro l' pre x W K hI hK
    change Code.wpIn (Fence.wide.inRound l') (6 - 1 - 1) Tryz.prog _ _ ⟨#[.slice ba bn bc, .func (.func 130) #[] #[.pointer (some ⟨Bm, ob, none⟩)], .pointer (some ⟨W0.heap.size, 0, none⟩), undef, .slice none 0 0, undef, .func (.func 130) #[] #[.pointer (some ⟨Bm, ob, none⟩)], keyS x, undef, undef, undef, undef, undef], []⟩ W
    have hK' := hK _ W ⟨rfl, rfl, rfl, Nat.le_refl _, fun _ _ _ => rfl⟩ (Nat.le_refl _) rfl
    clear hK
    unfold keyS at hK' ⊢
    gi_wp2_with gi_round_op_a
    exact hK'
  · rintro l' pre x a' W ⟨v, gb, q1, q2, q3, q4, q6⟩ rfl hlen
    obtain ⟨hc1, hf1⟩ := cell_of_box_a q1
    obtain ⟨inf, d, z, i1, i2, i3, i4, i5, i6, i7⟩ := hT.parts (t := 9) (by simp [TK.isNone])
    simp at i4 i5 i7
    obtain ⟨va, vn, vc, hv⟩ : ∃ va vn vc, v = .slice va vn vc := by
      rcases q2.lies with ⟨_, _, a, rfl⟩ | ⟨g, cap, cur, e, _, rfl, _⟩
      · exact ⟨_, _, _, rfl⟩
      · exact ⟨_, _, _, rfl⟩
    subst hv
    have hWs : W0.heap.size < W.heap.size := (Array.getElem?_eq_some_iff.1 q1).1
    have q5 : RowAt 1 b0 W0.heap.size (W.alloc (.cells #[.string ⟨x.toArray⟩] 9)) (.slice va vn vc) (l.length + pre.length) ((l ++ pre).flatMap Str.enc) gb := q2.kept (World.grownBy_alloc W _ none) (by cases gb <;> simp)
    have hnew : ∀ (j : Nat) (u : Value), [Value.string ⟨x.toArray⟩][j]? = some u → (W.alloc (.cells #[.string ⟨x.toArray⟩] 9)).cell? ⟨W.heap.size, j, none⟩ = some u := fun j u hj => by
      have := heap_alloc_new W (.cells #[.string ⟨x.toArray⟩] 9)
      simp only [World.cell?, this]
      simpa using hj
    gi_wp2_with (first
      | (gi_at_builtin; refine wpListIn_append_row _ rfl _ _ 27 rfl Tryz.underlying27 i1 i6 i4 (by rw [← Array.length_toList, i7]; rfl) (by decide) rfl q5 (by simp; omega) rfl (news := [.string ⟨x.toArray⟩]) rfl (by simp [Value.oneCell']) hnew (by rw [i5]; omega) (by omega) ?_; intro v' W3 g' r1 r2 r3 r4 r5
         have hv3 : W3.heap[W0.heap.size]? = some (.cells #[.slice va vn vc] 27 (0, 0)) := (r2.block _ (by simp; omega) (fun e => q3 e.symm)).trans ((heap_alloc_old W _ hWs).trans q1)
         obtain ⟨hc3, hf3⟩ := cell_of_box_a hv3
         obtain ⟨cap', cur', e', rfl, s2, s3, s4, s5, s6, s7⟩ : ∃ cap' cur' e', v' = .slice (some ⟨g', 0, none⟩) (l.length + pre.length + 1) cap' ∧ (b0 = some g' ∨ W0.heap.size ≤ g') ∧ W3.heap[g']? = some (.cells cur' e' (0, 0)) ∧ l.length + pre.length + 1 ≤ cap' ∧ cap' ≤ maxLen ∧ cap' * 1 = cur'.size ∧ cur'.toList.take ((l.length + pre.length + 1) * 1) = (l ++ pre).flatMap Str.enc ++ [.string ⟨x.toArray⟩] := by
           rcases r1.lies with ⟨h, _⟩ | ⟨g, cap, cur, e, h, h1, h2, h3, h4, h5, h6, h7⟩
           · cases h
           · injection h with h; subst h; exact ⟨cap, cur, e, h1, h2, h3, h4, h5, h6, h7⟩
         go_frame)
      | gi_round_op_a)
    have hg0 : W.grownBy (W.alloc (.cells #[.string ⟨x.toArray⟩] 9)) none := World.grownBy_alloc W _ none
    have hd0 : W.drawn ≤ (W.alloc (.cells #[.string ⟨x.toArray⟩] 9)).drawn := Nat.le_refl _
    have hgb : ∀ r, gb = some r → (b0 = some r ∨ W0.heap.size ≤ r) ∧ ∃ cur e, W.heap[r]? = some (.cells cur e (0, 0)) := fun r e => by
      rcases q2.lies with ⟨h, _⟩ | ⟨g, cap, cur, e', h, _, h2, h3, _⟩
      · rw [h] at e; cases e
      · rw [h] at e; injection e with e; subst e; exact ⟨h2, cur, e', h3⟩
    have hgne : g' ≠ W0.heap.size := by
      rcases r4 with h | h
      · exact fun e => q3 (by rw [h, e])
      · rw [h]; simp; omega
    generalize W.alloc (.cells #[.string ⟨x.toArray⟩] 9) = W2 at *
    have hg4 : W3.grownBy (W3.setCell ⟨W0.heap.size, 0, none⟩ (.slice (some ⟨g', 0, none⟩) (l.length + pre.length + 1) cap')) (some W0.heap.size) := grownBy_setCell0_a _ _ _
    refine ⟨⟨Nat.le_trans hg0.size (Nat.le_trans r2.size hg4.size), fun k o hk ho hcell => ?_⟩, ((KeepsWalks.of_grownBy hg0 (fun j o e => by cases e)).trans (KeepsWalks.of_grownBy r2 (fun j o e ho => ?_))).trans (KeepsWalks.setCell _ _ _),
      .slice (some ⟨g', 0, none⟩) (l.length + pre.length + 1) cap', some g', heap_setCell_box_a _ hv3, ?_, fun e => hgne (by injection e), ((q4.step hg0 hd0 (fun r e => by cases e)).step r2 r3 (fun r e => (hgb r e).1)).step hg4 (Nat.le_refl _) (fun r e => .inr (by injection e with e; omega)), ((q6.step hg0 (by cases b0 <;> simp)).write (by rw [Nat.add_mul]; omega) r2 r5).step hg4 ?_⟩
    · have h2 := (hg0.block k (Array.getElem?_eq_some_iff.1 ho).1 (by simp)).trans ho
      have h3 := (r2.block k (Array.getElem?_eq_some_iff.1 h2).1 (fun e => by
        obtain ⟨_, cur, e', h⟩ := hgb k e.symm
        rw [ho] at h; cases h; cases hcell)).trans h2
      exact (hg4.block k (Array.getElem?_eq_some_iff.1 h3).1 (fun e => by injection e with e; omega)).trans h3
    · obtain ⟨_, cur, e', h⟩ := hgb j e
      have h2 := (hg0.block j (Array.getElem?_eq_some_iff.1 h).1 (by simp)).trans h
      rw [ho] at h2; cases h2; rfl
    · have := r1.kept hg4 (.inr (fun e => hgne (by injection e)))
      simpa [Str.enc, keyS, Nat.add_assoc] using this
    · cases hb : b0 with
      | none => exact .inl rfl
      | some g => exact .inr fun e => by injection e with e; have := hb0 g hb; omega
  · rintro D xs W hD hS ⟨v, gb, q1, q2, q3, q4, q6⟩ hdef
    obtain ⟨hc1, hf1⟩ := cell_of_box_a q1
    gi_wp2
    refine ⟨by simp, .inl ⟨_, _, rfl, run_takeDeferred hdef, ?_⟩⟩
    refine ⟨_, results_tmp rfl _ _ _, v, xs, gb, rfl, hS, q2.kept (grownBy_putObj_a _ _ _) ?_, q4.step (grownBy_putObj_a _ _ _) (Nat.le_refl _) (fun r e => .inr (by injection e with e; omega)), q6.step (grownBy_putObj_a _ _ _) ?_⟩
    rcases q2.lies with ⟨h, _⟩ | ⟨g, cap, cur, e', h, _, h2, h3, _⟩
    · exact .inl h
    · refine .inr fun e => ?_
      rw [h] at e; injection e with e; subst e
      rw [hdef] at h3; cases h3
    · cases hb : b0 with
      | none => exact .inl rfl
      | some g => exact .inr fun e => by injection e with e; have := hb0 g hb; omega
end Go.Eng
namespace Go.Proofs
open Go.Shelf
def Tryz.sortStr_ren : Go.Shelf.Ren := ⟨fun | 6 => 102 | 8 => 139 | 9 => 138 | 19 => 170 | 20 => 171 | 21 => 161 | 22 => 162 | 23 => 163 | 24 => 164 | 25 => 165 | 26 => 166 | 27 => 167 | 28 => 168 | 29 => 169 | 36 => 183 | 31 => 184 | 32 => 185 | 37 => 186 | 38 => 187 | 39 => 188 | 41 => 193 | n => n, fun | 27 => 27 | 29 => 9 | 3 => 3 | 32 => 56 | 26 => 27 | 0 => 0 | 44 => 177 | 46 => 179 | 4 => 4 | 36 => 169 | 35 => 168 | 41 => 174 | 5 => 5 | 9 => 9 | 53 => 187 | 57 => 191 | 63 => 195 | 64 => 196 | n => n, fun | n => n⟩
theorem Tryz.sortStr : Go.Proofs.SlLaysM.n6 Tryz.prog Tryz.sortStr_ren := {
  mixed := by kernel_rfl,
  f6 := ⟨Tryz.f102.name, by decide, Tryz.func102.trans (congrArg some (by kernel_rfl))⟩,
  f8 := Tryz.func139.trans (congrArg some (by kernel_rfl)),
  f9 := ⟨Tryz.f138.name, by decide, Tryz.func138.trans (congrArg some (by kernel_rfl))⟩,
  f19 := Tryz.func170.trans (congrArg some (by kernel_rfl)),
  f20 := Tryz.func171.trans (congrArg some (by kernel_rfl)),
  f21 := ⟨Tryz.f161.name, by decide, Tryz.func161.trans (congrArg some (by kernel_rfl))⟩,
  f22 := ⟨Tryz.f162.name, by decide, Tryz.func162.trans (congrArg some (by kernel_rfl))⟩,
  f23 := ⟨Tryz.f163.name, by decide, Tryz.func163.trans (congrArg some (by kernel_rfl))⟩,
  f24 := ⟨Tryz.f164.name, by decide, Tryz.func164.trans (congrArg some (by kernel_rfl))⟩,
  f25 := ⟨Tryz.f165.name, by decide, Tryz.func165.trans (congrArg some (by kernel_rfl))⟩,
  f26 := ⟨Tryz.f166.name, by decide, Tryz.func166.trans (congrArg some (by kernel_rfl))⟩,
  f27 := ⟨Tryz.f167.name, by decide, Tryz.func167.trans (congrArg some (by kernel_rfl))⟩,
  f28 := ⟨Tryz.f168.name, by decide, Tryz.func168.trans (congrArg some (by kernel_rfl))⟩,
  f29 := ⟨Tryz.f169.name, by decide, Tryz.func169.trans (congrArg some (by kernel_rfl))⟩,
  f31 := Tryz.func184.trans (congrArg some (by kernel_rfl)),
  f32 := Tryz.func185.trans (congrArg some (by kernel_rfl)),
  f36 := ⟨Tryz.f183.name, by decide, Tryz.func183.trans (congrArg some (by kernel_rfl))⟩,
  f37 := ⟨Tryz.f186.name, by decide, Tryz.func186.trans (congrArg some (by kernel_rfl))⟩,
  f38 := ⟨Tryz.f187.name, by decide, Tryz.func187.trans (congrArg some (by kernel_rfl))⟩,
  f39 := ⟨Tryz.f188.name, by decide, Tryz.func188.trans (congrArg some (by kernel_rfl))⟩,
  f41 := ⟨Tryz.f193.name, by decide, Tryz.func193.trans (congrArg some (by kernel_rfl))⟩,
  t0 := Tryz.underlying0,
  a0 := Tryz.isAgg0,
  z0 := Tryz.sizeOf0,
  v0 := Tryz.zeroValue0,
  t3 := Tryz.underlying3,
  a3 := Tryz.isAgg3,
  z3 := Tryz.sizeOf3,
  v3 := Tryz.zeroValue3,
  t4 := Tryz.underlying4,
  a4 := Tryz.isAgg4,
  z4 := Tryz.sizeOf4,
  v4 := Tryz.zeroValue4,
  t5 := Tryz.underlying5,
  a5 := Tryz.isAgg5,
  z5 := Tryz.sizeOf5,
  v5 := Tryz.zeroValue5,
  t9 := Tryz.underlying9,
  a9 := Tryz.isAgg9,
  z9 := Tryz.sizeOf9,
  v9 := Tryz.zeroValue9,
  t26 := Tryz.underlying27,
  a26 := Tryz.isAgg27,
  z26 := Tryz.sizeOf27,
  v26 := Tryz.zeroValue27,
  t27 := Tryz.underlying27,
  a27 := Tryz.isAgg27,
  z27 := Tryz.sizeOf27,
  v27 := Tryz.zeroValue27,
  t29 := Tryz.underlying9,
  a29 := Tryz.isAgg9,
  z29 := Tryz.sizeOf9,
  v29 := Tryz.zeroValue9,
  t32 := Tryz.underlying56,
  a32 := Tryz.isAgg56,
  z32 := Tryz.sizeOf56,
  v32 := Tryz.zeroValue56,
  t35 := Tryz.underlying168,
  a35 := Tryz.isAgg168,
  z35 := Tryz.sizeOf168,
  v35 := Tryz.zeroValue168,
  t36 := Tryz.underlying169,
  a36 := Tryz.isAgg169,
  z36 := Tryz.sizeOf169,
  v36 := Tryz.zeroValue169,
  t41 := Tryz.underlying174,
  a41 := Tryz.isAgg174,
  z41 := Tryz.sizeOf174,
  v41 := Tryz.zeroValue174,
  t44 := Tryz.underlying177,
  a44 := Tryz.isAgg177,
  z44 := Tryz.sizeOf177,
  v44 := Tryz.zeroValue177,
  t46 := Tryz.underlying179,
  a46 := Tryz.isAgg179,
  z46 := Tryz.sizeOf179,
  v46 := Tryz.zeroValue179,
  t53 := Tryz.underlying187,
  a53 := Tryz.isAgg187,
  z53 := Tryz.sizeOf187,
  v53 := Tryz.zeroValue187,
  t57 := Tryz.underlying191,
  a57 := Tryz.isAgg191,
  z57 := Tryz.sizeOf191,
  v57 := Tryz.zeroValue191,
  t63 := Tryz.underlying195,
  a63 := Tryz.isAgg195,
  z63 := Tryz.sizeOf195,
  v63 := Tryz.zeroValue195,
  t64 := Tryz.underlying196,
  a64 := Tryz.isAgg196,
  z64 := Tryz.sizeOf196,
  v64 := Tryz.zeroValue196 }
end Go.Proofs
namespace Go.Eng
open Go.Proofs Go.Sort Go.Shelf Go.RowKit
attribute [local simp] runL stepL evalG evalOp opLV constLV putEnv dstOk upd upds Res.plain Res.cond Res.fail evalBin evalUn seqQ blockQ argsEnv lookL lookH RetIs memless freshL evalPick evalMin bval bok evalLen evalIn strip whenC guardOps guardC slotsOf
  runM foldS stepI stepM maskE wrIn lk renO lookN evalCall evalCallee optAll resLV resObj retLV retObj retsLV retsObj evalLoad evalIndexAddr evalField solid cellsD_agg cellsD_int cellsD_bool cellsD_str cellsD_sl cellsD_ro cellsD_fn cellsL_agg cellsL_dagg cellsL_int cellsL_bool cellsL_str cellsL_sl cellsL_fn cellsL_ow cellsL_bx cellsL_lfn cellsL_nl takeL takeD mkAgg allD eqD eqDs kindsAre kindIs LObj.live TK.isNone TK.agg TK.isBool TK.isStr TK.isStruct Op.operands Call.operands
  evalBuildSlice evalAppend elemsOf evalStore evalBuild fillL lookupF putL evalSlice bound evalConv elemsS freezes frozen loadR
  mkEnv_at mkObs_at close_d close_agg close_ow close_bx close_fn close_nl touch_d touch_agg touch_ow touch_bx touch_fn touch_nl ren_d ren_agg ren_bx ren_rp ren_ow ren_fn ren_nl ren_junk retQ_ret retQ2_ret condQ_bool Nm.d Df.d Ed.d nmsD dfsD strsD edsD retC_ret nm_eq df_eq take_map_len take_map_app
  nm_t nm_d nm_td df_t df_d df_td str_t str_d str_td ed_t ed_d ed_td
  evalAppendIn evalCut evalClear evalCopy evalMake evalWrap evalCap evalNil isNilC lenL isInp gorc
  mapOf findD keyEq keyOk evalMakeMap evalRange zeroD zeroDV argsG shutG outN lenv retG0_ret retG0_normal retG1_ret renO close_mp touch_mp ren_mp optAll_d optAll_d' touch_ds cellsL_mp cellsD_mp cellsL_dmp
  evalMapSet evalPtr TK.isPtr evalToArr firstL retN_ret retsQ rvarL close_bm touch_bm ren_bm cellsD_bm cellsL_bm cellsL_lbm
theorem strCells : Cells 1 DV.str Str.enc where
  pos := by decide
  len := fun _ => rfl
  lenD := fun _ => rfl
  one := fun x v hv => by simp [Str.enc] at hv; subst hv; rfl
  cell := fun x i c v hc hv w E u => by
    match i, hc, hv with
    | 0, hc, hv => simp [Str.enc, cellsD] at hc hv; subst hc; subst hv; exact ⟨fun h => by cases h; rfl, fun h => h ▸ .str _⟩
theorem rd_str {w : World} {E : Nat → Prop} {s : Str} {v : Value} (h : RD w E (.str s) v) : v = keyS s := by cases h; rfl
def entryStr (e : MapEntry) : Str := match e.key with
  | .string b => b.data.toList
  | _ => []
theorem AppendStr_ok (s : List Str) (ds : List DV) (hN : s.length * 16 ≤ 140737488355328) :
    OkGR Tryz.prog 137 [.nl, .d (.fn 130 [.ro [.mp (s.map .str) ds]])] []
      (fun fin ret => ∃ p : List Str, p.Perm s ∧ fin = [(0, .dead), (1, .row false 1 (p.map .str))] ∧ ret = .ow 1 0 p.length) := by
  refine ⟨⟨_, Tryz.func137, by kernel_rfl, by rfl⟩, fun w X β vs m0 hvl hr => ?_⟩
  match vs, hvl with
  | [v0, v1], _ =>
  have r0 := hr 0 _ _ rfl rfl
  have r1 := hr 1 _ _ rfl rfl
  obtain ⟨a0, rfl⟩ : ∃ a, v0 = .slice a 0 0 := by cases r0 with | nl a => exact ⟨a, rfl⟩
  obtain ⟨Bm, ob, b, clock, arr, rfl, hcell, hblk, hk, hborn, hkey⟩ : ∃ Bm ob b clock arr, v1 = .func (.func 130) #[] #[.pointer (some ⟨Bm, ob, none⟩)] ∧ w.cell? ⟨Bm, ob, none⟩ = some (.map (some b)) ∧ w.heap[b]? = some (.map arr clock) ∧
      (s.map DV.str).length = arr.size ∧ BornOk arr clock ∧ ∀ (i : Nat) (d : DV) (e : MapEntry), (s.map DV.str)[i]? = some d → arr[i]? = some e → RD w (Ex X β (mkObs [])) d e.key := by
    cases r1 with
    | d _ _ h => cases h with
      | fn _ _ us hl hc =>
        match us, hl with
        | [u], _ =>
        have h0 := hc 0 _ u rfl rfl
        cases h0 with
        | ro _ Bm ob us2 hBm hul _ _ hcell h =>
          match us2, hul with
          | [u2], _ =>
          have h2 := h 0 _ u2 rfl rfl
          have hc2 := hcell 0 u2 rfl
          cases h2 with
          | mp _ _ b clock arr hb _ hblk hk _ hborn hkey _ => exact ⟨Bm, ob, b, clock, arr, rfl, by simpa using hc2, hblk, hk, hborn, hkey⟩
  rw [List.length_map] at hk
  have hkeys : ∀ (i : Nat) (h1 : i < s.length) (h2 : i < arr.size), arr[i].key = keyS s[i] := fun i h1 h2 => rd_str (hkey i _ _ (by simp [h1]) (Array.getElem?_eq_getElem h2))
  have hk2 : ∀ e ∈ arr.toList, e.key = keyS (entryStr e) := fun e he => by
    obtain ⟨i, hi, rfl⟩ := List.getElem_of_mem he
    have hi' : i < arr.size := by simpa using hi
    have := hkeys i (by omega) hi'
    simp only [Array.getElem_toList]
    simp [entryStr, this, keyS]
  have hmap : arr.toList.map entryStr = s := by
    apply List.ext_getElem (by simpa using hk.symm)
    intro i h1 h2
    have := hkeys i h2 (by omega)
    simp [entryStr, this, keyS]
  obtain ⟨m, _⟩ := new_none m0 (d := 0) (by simp [mkObs, lookH]) (s := 1) (by decide)
  refine (appendSeqStr w (.slice a0 0 0) [] none ⟨rfl, by simp, .inl ⟨rfl, rfl, a0, rfl⟩⟩ (fun g hg => by cases hg) hcell (by simp) hblk (by simp) hborn entryStr hk2 (by rw [← hk]; simpa using hN)).mono ?_
  rintro e w' ⟨v, ss, gb, rfl, hp, hr', hst, hhd⟩
  rw [hmap] at hp
  obtain ⟨β', hm, hR⟩ := m.appended strCells (id := 0) (new := 1) (l := []) (by rw [upd_same]; rfl) (by rw [upd_ne _ _ (by decide)]; simp [mkObs, lookH]) (.inl ⟨rfl, rfl⟩) hr' hst hhd
  have hfin : mkObs [(0, .dead), (1, .row false 1 (ss.map .str))] = upd (upd (upd (mkObs []) 0 (.row false 1 [])) 0 .dead) 1 (.row false 1 (ss.map .str)) := by
    funext j; simp only [mkObs, lookH, upd]; by_cases h0 : j = 0 <;> by_cases h1 : j = 1 <;> simp_all
  exact ⟨v, β', _, _, ⟨ss, hp, rfl, rfl⟩, rfl, by rw [hfin]; simpa using hm, by rw [hfin]; simpa using hR⟩
theorem Collect_ok (s : List Str) (ds : List DV) (hN : s.length * 16 ≤ 140737488355328) : OkR Tryz.prog 101 [.fn 130 [.ro [.mp (s.map .str) ds]]] (fun r => (fun v => ∃ p : List Str, p.Perm s ∧ v = .own 1 (p.map .str)) r.v ∧ r.fresh = true) := by
  refine OkR.ret (Rel := fun v => ∃ p : List Str, p.Perm s ∧ v = .own 1 (p.map .str)) Tryz.func101 (by kernel_rfl) (c := _) rfl Tryz.ntmps101 (by simp) Tryz.results101 fun w0 X hp => ?_
  refine LWp.seq ?_
  refine LWp.rz hT hW ?_
  simp
  refine LWp.seq ?_
  refine LWp.regGenR hT hW 4 [] [(1, 4)] [1] (fun fin ret => ∃ p : List Str, p.Perm s ∧ fin = [(0, .dead), (1, .row false 1 (p.map .str))] ∧ ret = .ow 1 0 p.length) _ _ ⟨s, List.Perm.refl _, rfl, rfl⟩ (fun | 99 => none | _ => none) (by intro d; first | exact ⟨rfl, fun _ h => h⟩ | (split <;> exact ⟨rfl, fun _ h => h⟩)) (by kernel_rfl) fun r1 hr1 => ?_
  obtain ⟨fin1, ret1⟩ := r1
  obtain ⟨p, hp1, rfl, rfl⟩ := hr1
  simp
  refine ⟨AppendStr_ok s ds hN, ?_⟩
  refine LWp.ret ?_
  simp only [retR_ret]
  refine ⟨_, ⟨p, hp1, rfl⟩, by simp, ?_⟩
  simp
def ssort (l : List Str) : List Str := l.mergeSort fun x y => decide (x ≤ y)
theorem ssort_len (l : List Str) : (ssort l).length = l.length := List.length_mergeSort _
theorem putCells_str {cur : Array Value} {s : List Str} (h : s.length ≤ cur.size) : putCells encStr 0 s.toArray cur = (putL 0 cur.toList (s.flatMap Str.enc)).toArray := by
  have hsf : (s.flatMap Str.enc).length = s.length := by have := strCells.flat_len s; simpa using this
  apply Array.ext_getElem?
  intro i
  rw [show (putL 0 cur.toList (s.flatMap Str.enc)).toArray[i]? = (putL 0 cur.toList (s.flatMap Str.enc))[i]? from by simp, putL_get (by rw [Nat.zero_add, hsf]; simpa using h)]
  simp only [putCells, Array.getElem?_mapIdx, Nat.not_lt_zero, if_false, Nat.zero_add, List.size_toArray, hsf, Nat.sub_zero, Nat.zero_le, true_and]
  by_cases hi : i < s.length
  · have hic : i < cur.size := by omega
    have hm : s.flatMap Str.enc = s.map keyS := by
      clear h hsf hi
      induction s with
      | nil => rfl
      | cons x t ih => simp [Str.enc, ih]
    simp only [hi, if_true, Array.getElem?_eq_getElem hic, Option.map_some]
    rw [hm]
    simp [hi, getElem!_def, encStr, keyS]
  · simp only [hi, if_false]
    rw [Array.getElem?_toList]
    cases cur[i]? <;> rfl
theorem SortStr_ok (l : List Str) (hl : l.length ≤ 8000000000000) : OkG Tryz.prog 102 [.ow 0 0 l.length] [(0, .row false 1 (l.map .str))] [(0, .row false 1 ((ssort l).map .str))] (.tup []) := by
  refine ⟨⟨_, Tryz.func102, by kernel_rfl, by rfl⟩, fun w X β vs m hvl hr => ?_⟩
  have hH : mkObs [(0, LObj.row false 1 (l.map DV.str))] 0 = .row false 1 (l.map .str) := by simp [mkObs, lookH]
  have hfin : ∀ o, mkObs [(0, o)] = upd (mkObs [(0, LObj.row false 1 (l.map DV.str))]) 0 o := fun o => by
    funext j; simp only [mkObs, lookH, upd]; split <;> rfl
  generalize hHd : mkObs [(0, LObj.row false 1 (l.map DV.str))] = H at *
  match vs, hvl with
  | [v0], _ =>
  have r0 := hr 0 _ _ rfl rfl
  rcases ow_cases m hH r0 with ⟨b, c, cur, e, rfl, hb, hkn, hn, hc, hblk, hroom, hcap⟩ | ⟨p, rfl, hz, _⟩
  · have hob := m.obj 0
    simp only [ObjR, hH] at hob
    obtain ⟨hpos, hall, hob⟩ := hob
    rcases hob with ⟨hnone, _⟩ | ⟨b', e', cur', hb', hblk2, hlen', hpo⟩
    · rw [hnone] at hb; cases hb
    rw [hb] at hb'; injection hb' with hb'; subst hb'
    rw [hblk] at hblk2; injection hblk2 with hblk2; injection hblk2 with p1 p2; subst p1; subst p2
    rw [List.length_map] at hlen'
    have htk := strCells.holds hlen' (fun i c v hc hv => (hpo i c v hc hv).2)
    have hfl : (l.flatMap Str.enc).length = l.length := by have := strCells.flat_len l; simpa using this
    have hmap : ∀ l : List Str, l.flatMap Str.enc = l.map keyS := fun l => by
      induction l with
      | nil => rfl
      | cons x t ih => simp [Str.enc, ih]
    have hlb := (Array.getElem?_eq_some_iff.1 hblk).1
    have hhold : Holds encStr w b 0 l.toArray := by
      intro j hj
      simp only [List.size_toArray] at hj
      have hjc : j < cur.size := by omega
      refine ⟨?_, by simp [World.frozen?, hblk]⟩
      rw [cell_of_row w b _ cur e (0, 0) hblk, Nat.zero_add, Array.getElem?_eq_getElem hjc]
      have h1 : (cur.toList.take (l.length * 1))[j]? = some cur[j] := by rw [List.getElem?_take, if_pos (by omega)]; simp [hjc]
      rw [htk, hmap] at h1
      simp [hj] at h1
      rw [← h1]
      simp [encStr, keyS, hj]
    have hcon := AnyM.slices_Sort_string Tryz.sortStr b 0 c l w hhold hlb (by omega)
    rw [show #[Value.slice (some ⟨b, 0, none⟩) l.length c] = [Value.slice (some ⟨b, 0 * 1, none⟩) l.length c].toArray from rfl] at hcon
    refine hcon.mono ?_
    rintro ee w' ⟨rfl, n, os, rfl⟩
    have hsl := ssort_len l
    change ∃ v β', _ ∧ Mem _ X _ β' (grow (putRow encStr (Sort.ahead w n) b 0 (ssort l).toArray) os) ∧ R (grow (putRow encStr (Sort.ahead w n) b 0 (ssort l).toArray) os) _ _ _ _ v
    generalize ssort l = s at *
    have hsf : (s.flatMap Str.enc).length = s.length := by have := strCells.flat_len s; simpa using this
    have hput : (putRow encStr (Sort.ahead w n) b 0 s.toArray).heap[b]? = some (.cells (putL 0 cur.toList (s.flatMap Str.enc)).toArray e (0, 0)) := by
      rw [← putCells_str (by omega)]
      unfold putRow mapBlock
      simp only [heap_ahead, Array.getElem?_modify, if_pos, hblk, Option.map_some]
      rfl
    have hother : ∀ j, j ≠ b → (putRow encStr (Sort.ahead w n) b 0 s.toArray).heap[j]? = w.heap[j]? := fun j hj => by
      unfold putRow mapBlock
      simp only [heap_ahead, Array.getElem?_modify, Ne.symm hj, if_false]
    have hsize : (putRow encStr (Sort.ahead w n) b 0 s.toArray).heap.size = w.heap.size := by simp
    have hcl : cur.toList.length = cur.size := by simp
    have hpl : (putL 0 cur.toList (s.flatMap Str.enc)).toArray.size = cur.size := by rw [List.size_toArray, putL_len (by rw [Nat.zero_add, hsf, hcl]; omega)]; exact hcl
    have hstk : (putL 0 cur.toList (s.flatMap Str.enc)).toArray.toList.take (s.length * 1) = s.flatMap Str.enc := by
      unfold putL
      simp [hsf]
    obtain ⟨m1, g1⟩ := m.rewriteG (id := 0) (b := b) (o' := .row false 1 (s.map .str)) (w' := putRow encStr (Sort.ahead w n) b 0 s.toArray) (by rw [hH]; rfl) hb rfl rfl rfl (Nat.le_add_right _ _) hsize hother (by
        unfold Passes
        rw [hH, upd_same]
        refine .inr ⟨⟨false, s.map .str, rfl, by simp [hsl]⟩, rfl, fun b' c' t hbb hblk' => ?_⟩
        rw [hb] at hbb; injection hbb with hbb; subst hbb
        rw [hblk] at hblk'; injection hblk' with hblk'; injection hblk' with q1 q2; subst q1; subst q2
        exact ⟨_, e, hput, hpl⟩) (fun _ _ => by
        unfold ObjR
        rw [upd_same]
        obtain ⟨z1, z2⟩ := strCells.reads hstk
        exact ⟨hpos, strCells.all s, .inr ⟨b, e, _, hb, hput, by simpa using z1, z2 _ _⟩⟩)
    obtain ⟨m2, g2⟩ := m1.grow (w' := grow (putRow encStr (Sort.ahead w n) b 0 s.toArray) os) ⟨rfl, rfl, rfl, by simp, fun j hj => heap_grow_old _ _ hj, Nat.le_refl _⟩
    refine ⟨_, β, rfl, ?_, .tup [] [] rfl (by simp)⟩
    rw [hfin]
    exact m2
  · have hl0 : l = [] := List.eq_nil_of_length_eq_zero hz
    subst hl0
    refine (AnyM.slices_Sort_string_none Tryz.sortStr p 0 w).mono ?_
    rintro e w' ⟨rfl, rfl⟩
    refine ⟨_, β, rfl, ?_, .tup [] [] rfl (by simp)⟩
    rw [hfin, show ssort [] = [] from by simp [ssort], upd_id hH]
    exact m
theorem ssort_sorted (l : List Str) : (ssort l).Pairwise fun x y => x ≤ y := by
  have := List.pairwise_mergeSort (le := fun x y : Str => decide (x ≤ y)) (fun a b c h1 h2 => by simp at *; exact List.le_trans h1 h2) (fun a b => by simp; exact List.le_total a b) l
  exact this.imp fun h => by simpa using h
theorem ssort_perm {p s : List Str} (h : p.Perm s) : ssort p = ssort s :=
  List.Perm.eq_of_pairwise (le := fun x y : Str => x ≤ y) (fun a b _ _ h1 h2 => List.le_antisymm h1 h2) (ssort_sorted p) (ssort_sorted s) (((List.mergeSort_perm p _).trans h).trans (List.mergeSort_perm s _).symm)
theorem Sorted_ok (s : List Str) (ds : List DV) (hN : s.length ≤ 1100000) : Ok Tryz.prog 49 [.fn 130 [.ro [.mp (s.map .str) ds]]] ⟨.own 1 ((ssort s).map .str), true⟩ := by
  refine Ok.ret Tryz.func49 (by kernel_rfl) (c := _) rfl Tryz.ntmps49 (by simp) Tryz.results49 (by intro _ h; cases h) fun w0 X hp => ?_
  refine LWp.seq ?_
  refine LWp.rz hT hW ?_
  simp
  refine LWp.seq ?_
  refine LWp.regRel hT hW 5 (fun r => (∃ p : List Str, p.Perm s ∧ r.v = .own 1 (p.map .str)) ∧ r.fresh = true) true ⟨.own 1 (s.map .str), true⟩ ⟨⟨⟨s, List.Perm.refl _, rfl⟩, rfl⟩, rfl⟩ (fun | 99 => none | _ => none) (by intro d; first | exact ⟨rfl, fun _ h => h⟩ | (split <;> exact ⟨rfl, fun _ h => h⟩)) (by kernel_rfl) fun r1 hr1 => ?_
  obtain ⟨v1, f1⟩ := r1
  obtain ⟨⟨p, hp1, hv⟩, hf⟩ := hr1
  dsimp only at hv hf
  subst hv; subst hf
  have hpl := hp1.length_eq
  simp
  refine ⟨Collect_ok s ds (by omega), ?_⟩
  refine LWp.seq ?_
  refine LWp.ro hT hW (fun | 7 => some (.gen ⟨[(5, 0)], [], [], [(0, .row false 1 ((ssort p).map .str))], .tup []⟩) | _ => none) ?_
  simp
  refine ⟨by simpa using SortStr_ok p (by omega), ?_⟩
  refine LWp.seq ?_
  refine LWp.rz hT hW ?_
  simp
  refine LWp.ret ?_
  rw [← ssort_perm hp1]
  simp [ssort_len]
  rw [List.take_of_length_le (by simp [ssort_len])]
theorem KeysStr_ok (ks vs : List DV) : Ok Tryz.prog 91 [.mp ks vs] ⟨.d (.fn 130 [.ro [.mp ks vs]]), false⟩ := by
  refine Ok.ret Tryz.func91 (by kernel_rfl) (c := _) rfl Tryz.ntmps91 (by simp) Tryz.results91 (by intro _ h; cases h) fun w0 X hp => ?_
  refine LWp.seq ?_
  refine LWp.rz hT hW ?_
  simp
  refine LWp.seq ?_
  refine LWp.rz hT hW ?_
  simp
  refine LWp.ret ?_
  simp
end Go.Eng
namespace Go.Eng
theorem bless_iff : ∀ {a b : Str}, bless a b = true ↔ a < b
  | [], [] => by simp [bless, Op.bytesLess]
  | [], _ :: _ => by simp [bless, Op.bytesLess]
  | _ :: _, [] => by simp [bless, Op.bytesLess]
  | a :: x, b :: y => by
    have ih := bless_iff (a := x) (b := y)
    unfold bless at *
    simp only [Op.bytesLess, List.cons_lt_cons_iff]
    by_cases h1 : a < b
    · simp [h1]
    · by_cases h2 : b < a
      · have hne : a ≠ b := fun e => by subst e; exact h1 h2
        simp [h1, h2, hne]
      · have e : a = b := by
          have h1' : ¬ a.toNat < b.toNat := h1
          have h2' : ¬ b.toNat < a.toNat := h2
          exact UInt8.toNat_inj.1 (by omega)
        subst e
        simp [h1, ih]
theorem bless_sto : STO bless := by
  refine ⟨fun a => ?_, fun a b c h1 h2 => ?_, fun a b h1 h2 => ?_⟩
  · cases q : bless a a with
    | false => rfl
    | true => exact absurd (bless_iff.1 q) (List.lt_irrefl a)
  · exact bless_iff.2 (List.lt_trans (bless_iff.1 h1) (bless_iff.1 h2))
  · have h1' : ¬ a < b := fun h => by rw [bless_iff.2 h] at h1; cases h1
    have h2' : ¬ b < a := fun h => by rw [bless_iff.2 h] at h2; cases h2
    exact List.le_antisymm (List.not_lt.1 h2') (List.not_lt.1 h1')
def upsert (m : List Df) (d : Df) : List Df := match m.findIdx? (fun x => decide (d.name = x.name)) with | some j => m.set j d | none => m ++ [d]
def removeN (m : List Df) (s : Str) : List Df := match m.findIdx? (fun x => decide (s = x.name)) with | some j => m.eraseIdx j | none => m
def lookD (m : List Df) (s : Str) : Df := match m.findIdx? (fun x => decide (s = x.name)) with | some j => m.getD j default | none => ⟨[], []⟩
def nameLt (a b : Df) : Bool := bless a.name b.name
structure Rep (m L : List Df) : Prop where
  nd : (m.map Df.name).Nodup
  ri : Rising nameLt L
  mem : ∀ d, d ∈ m ↔ d ∈ L
theorem Rep.nil : Rep [] [] := ⟨by simp, by simp [Rising], by simp⟩
theorem rising_names {L : List Df} (h : Rising nameLt L) : (L.map Df.name).Nodup := by
  rw [List.Nodup, List.pairwise_map]
  exact h.imp fun {a b} hab e => by unfold nameLt at hab; rw [e, bless_sto.irrefl] at hab; cases hab
theorem name_inj {m : List Df} (h : (m.map Df.name).Nodup) {a b : Df} (ha : a ∈ m) (hb : b ∈ m) (e : a.name = b.name) : a = b := by
  obtain ⟨i, hi, rfl⟩ := List.getElem_of_mem ha
  obtain ⟨j, hj, rfl⟩ := List.getElem_of_mem hb
  rw [List.Nodup, List.pairwise_map, List.pairwise_iff_getElem] at h
  rcases Nat.lt_trichotomy i j with hij | hij | hij
  · exact absurd e (h i j hi hj hij)
  · subst hij; rfl
  · exact absurd e.symm (h j i hj hi hij)
theorem find_name_none {m : List Df} {s : Str} (h : m.findIdx? (fun x => decide (s = x.name)) = none) : ∀ x ∈ m, x.name ≠ s := fun x hx e => by
  have := List.findIdx?_eq_none_iff.1 h x hx; simp at this; exact this e.symm
theorem find_name_some {m : List Df} {s : Str} {j : Nat} (h : m.findIdx? (fun x => decide (s = x.name)) = some j) : ∃ hj : j < m.length, m[j].name = s := by
  obtain ⟨hj, h1, _⟩ := List.findIdx?_eq_some_iff_getElem.1 h
  exact ⟨hj, (of_decide_eq_true h1).symm⟩
theorem upsert_names {m : List Df} {d : Df} (h : (m.map Df.name).Nodup) : ((upsert m d).map Df.name).Nodup ∧ ∀ x, x ∈ upsert m d ↔ x = d ∨ (x ∈ m ∧ x.name ≠ d.name) := by
  unfold upsert
  cases q : m.findIdx? (fun x => decide (d.name = x.name)) with
  | none =>
    have hn := find_name_none q
    refine ⟨?_, fun x => ?_⟩
    · rw [List.map_append, List.nodup_append]
      refine ⟨h, by simp, fun a ha b hb e => ?_⟩
      simp at hb; subst hb; subst e
      obtain ⟨x, hx, hxe⟩ := List.mem_map.1 ha
      exact hn x hx hxe
    · rw [List.mem_append, List.mem_singleton]
      constructor
      · rintro (hx | rfl)
        · exact .inr ⟨hx, hn x hx⟩
        · exact .inl rfl
      · rintro (rfl | ⟨hx, _⟩)
        · exact .inr rfl
        · exact .inl hx
  | some j =>
    obtain ⟨hj, hjn⟩ := find_name_some q
    simp only
    have hset : (m.set j d).map Df.name = m.map Df.name := by
      rw [List.map_set]
      apply List.ext_getElem?
      intro i
      rw [List.getElem?_set]
      by_cases e : j = i
      · subst e; simp [hj, hjn]
      · simp [e]
    refine ⟨by rw [hset]; exact h, fun x => ?_⟩
    constructor
    · intro hx
      obtain ⟨i, hi, rfl⟩ := List.getElem_of_mem hx
      simp at hi
      rw [List.getElem_set]
      by_cases e : j = i
      · simp [e]
      · simp only [e, if_false]
        refine .inr ⟨List.getElem_mem hi, fun en => e ?_⟩
        rw [List.Nodup, List.pairwise_map, List.pairwise_iff_getElem] at h
        rcases Nat.lt_trichotomy i j with hij | hij | hij
        · exact absurd (en.trans hjn.symm) (h i j hi hj hij)
        · exact hij.symm
        · exact absurd (hjn.trans en.symm) (h j i hj hi hij)
    · rintro (rfl | ⟨hx, hne⟩)
      · exact List.mem_iff_getElem.2 ⟨j, by simpa using hj, by simp⟩
      · obtain ⟨i, hi, rfl⟩ := List.getElem_of_mem hx
        have e : j ≠ i := fun e => by subst e; exact hne hjn
        exact List.mem_iff_getElem.2 ⟨i, by simpa using hi, by rw [List.getElem_set]; simp [e]⟩
theorem removeN_names {m : List Df} {s : Str} (h : (m.map Df.name).Nodup) : ((removeN m s).map Df.name).Nodup ∧ ∀ x, x ∈ removeN m s ↔ x ∈ m ∧ x.name ≠ s := by
  unfold removeN
  cases q : m.findIdx? (fun x => decide (s = x.name)) with
  | none => exact ⟨h, fun x => ⟨fun hx => ⟨hx, find_name_none q x hx⟩, fun hx => hx.1⟩⟩
  | some j =>
    obtain ⟨hj, hjn⟩ := find_name_some q
    simp only
    refine ⟨h.sublist ((List.eraseIdx_sublist m j).map Df.name), fun x => ?_⟩
    rw [List.mem_eraseIdx_iff_getElem]
    constructor
    · rintro ⟨i, hi, hij, rfl⟩
      refine ⟨List.getElem_mem hi, fun en => ?_⟩
      rw [List.Nodup, List.pairwise_map, List.pairwise_iff_getElem] at h
      rcases Nat.lt_trichotomy i j with hlt | he | hlt
      · exact h i j hi hj hlt (en.trans hjn.symm)
      · exact hij he
      · exact h j i hj hi hlt (hjn.trans en.symm)
    · rintro ⟨hx, hne⟩
      obtain ⟨i, hi, rfl⟩ := List.getElem_of_mem hx
      exact ⟨i, hi, fun e => by subst e; exact hne hjn, rfl⟩
theorem ins_rising' {α : Type} {lt : α → α → Bool} (tr : ∀ a b c, lt a b = true → lt b c = true → lt a c = true) {out : List α} {x : α} (h : Rising lt out) (ht : ∀ y ∈ out, lt x y = false → lt y x = true) : Rising lt (insAt (rpos (fun y => lt x y) out out.length) x out) := by
  obtain ⟨h1, h2⟩ := rpos_spec (p := fun y => lt x y) (out := out) out.length (Nat.le_refl _)
  have hle := rpos_le (p := fun y => lt x y) (out := out) out.length
  generalize rpos (fun y => lt x y) out out.length = k at *
  have hout := List.pairwise_iff_getElem.1 h
  have below : ∀ i (hi : i < out.length), i < k → lt out[i] x = true := by
    intro i hi hik
    have hk1 : k - 1 < out.length := by omega
    have hlast : lt out[k - 1] x = true := ht _ (List.getElem_mem hk1) (h2 (k - 1) hk1 (by omega))
    by_cases e : i = k - 1
    · subst e; exact hlast
    · exact tr _ _ _ (hout i (k - 1) hi hk1 (by omega)) hlast
  unfold insAt
  refine List.pairwise_append.2 ⟨h.sublist (List.take_sublist _ _), List.pairwise_cons.2 ⟨fun y hy => ?_, h.sublist (List.drop_sublist _ _)⟩, fun y hy z hz => ?_⟩
  · obtain ⟨i, hi, rfl⟩ := List.getElem_of_mem hy
    simp at hi
    simp only [List.getElem_drop]
    exact h1 (k + i) (by omega) (by omega) (by omega)
  · obtain ⟨i, hi, rfl⟩ := List.getElem_of_mem hy
    simp at hi
    simp only [List.getElem_take]
    rcases List.mem_cons.1 hz with rfl | hz
    · exact below i (by omega) (by omega)
    · obtain ⟨j, hj, rfl⟩ := List.getElem_of_mem hz
      simp at hj
      simp only [List.getElem_drop]
      exact hout i (k + j) (by omega) (by omega) (by omega)
theorem mem_dropD {L : List Df} {s : Str} {x : Df} : x ∈ dropD L s ↔ x ∈ L ∧ x.name ≠ s := by simp [dropD]
theorem Rep.drop {m L : List Df} (h : Rep m L) (s : Str) : Rep (removeN m s) (dropD L s) :=
  ⟨(removeN_names h.nd).1, h.ri.sublist List.filter_sublist, fun d => by rw [(removeN_names h.nd).2, mem_dropD, h.mem]⟩
theorem Rep.put {m L : List Df} (h : Rep m L) (d : Df) : Rep (upsert m d) (putD L d) := by
  refine ⟨(upsert_names h.nd).1, ?_, fun x => ?_⟩
  · refine ins_rising' (lt := nameLt) (fun a b c h1 h2 => bless_sto.trans _ _ _ h1 h2) (h.ri.sublist List.filter_sublist) fun y hy hf => ?_
    have hne := (mem_dropD.1 hy).2
    unfold nameLt at *
    cases q : bless y.name d.name with
    | true => rfl
    | false => exact absurd (bless_sto.total _ _ q hf) hne
  · rw [(upsert_names h.nd).2]
    unfold putD
    rw [mem_insAt, mem_dropD, h.mem]
theorem Rep.has {m L : List Df} (h : Rep m L) (s : Str) : (m.any fun x => decide (x.name = s)) = (L.any fun x => decide (x.name = s)) := by
  rw [Bool.eq_iff_iff, List.any_eq_true, List.any_eq_true]
  constructor
  · rintro ⟨x, hx, e⟩; exact ⟨x, (h.mem x).1 hx, e⟩
  · rintro ⟨x, hx, e⟩; exact ⟨x, (h.mem x).2 hx, e⟩
theorem lookD_mem {m : List Df} (h : (m.map Df.name).Nodup) {d : Df} (hd : d ∈ m) : lookD m d.name = d := by
  unfold lookD
  cases q : m.findIdx? (fun x => decide (d.name = x.name)) with
  | none => exact absurd rfl (find_name_none q d hd)
  | some j =>
    obtain ⟨hj, hjn⟩ := find_name_some q
    simp only [List.getD_eq_getElem?_getD, List.getElem?_eq_getElem hj, Option.getD_some]
    exact name_inj h (List.getElem_mem hj) hd hjn
theorem Rep.out {m L : List Df} (h : Rep m L) {ns : List Str} (hp : ns.Perm (m.map Df.name)) (hs : ns.Pairwise fun x y => x ≤ y) : ns.map (lookD m) = L := by
  have hL : ns = L.map Df.name := by
    refine List.Perm.eq_of_pairwise (le := fun x y : Str => x ≤ y) (fun a b _ _ h1 h2 => List.le_antisymm h1 h2) hs ?_ (hp.trans ?_)
    · rw [List.pairwise_map]
      exact h.ri.imp fun {a b} hab => List.le_of_lt (bless_iff.1 hab)
    · refine (List.perm_ext_iff_of_nodup h.nd (rising_names h.ri)).2 fun s => ?_
      simp only [List.mem_map]
      constructor
      · rintro ⟨x, hx, e⟩; exact ⟨x, (h.mem x).1 hx, e⟩
      · rintro ⟨x, hx, e⟩; exact ⟨x, (h.mem x).2 hx, e⟩
  rw [hL, List.map_map]
  conv => rhs; rw [← List.map_id L]
  apply List.map_congr_left
  intro d hd
  exact lookD_mem h.nd ((h.mem d).2 hd)
end Go.Eng
namespace Go.Eng
open Go.Proofs
attribute [local simp] runL stepL evalG evalOp opLV constLV putEnv dstOk upd upds Res.plain Res.cond Res.fail evalBin evalUn seqQ blockQ argsEnv lookL lookH RetIs memless freshL evalPick evalMin bval bok evalLen evalIn strip whenC guardOps guardC slotsOf
  runM foldS stepI stepM maskE wrIn lk renO lookN evalCall evalCallee optAll resLV resObj retLV retObj retsLV retsObj evalLoad evalIndexAddr evalField solid cellsD_agg cellsD_int cellsD_bool cellsD_str cellsD_sl cellsD_ro cellsD_fn cellsL_agg cellsL_dagg cellsL_int cellsL_bool cellsL_str cellsL_sl cellsL_fn cellsL_ow cellsL_bx cellsL_lfn cellsL_nl takeL takeD mkAgg allD eqD eqDs kindsAre kindIs LObj.live TK.isNone TK.agg TK.isBool TK.isStr TK.isStruct Op.operands Call.operands
  evalBuildSlice evalAppend elemsOf evalStore evalBuild fillL lookupF putL evalSlice bound evalConv elemsS freezes frozen loadR
  mkEnv_at mkObs_at close_d close_agg close_ow close_bx close_fn close_nl touch_d touch_agg touch_ow touch_bx touch_fn touch_nl ren_d ren_agg ren_bx ren_rp ren_ow ren_fn ren_nl ren_junk retQ_ret retQ2_ret condQ_bool Nm.d Df.d Ed.d nmsD dfsD strsD edsD retC_ret nm_eq df_eq take_map_len take_map_app
  nm_t nm_d nm_td df_t df_d df_td str_t str_d str_td ed_t ed_d ed_td
  evalAppendIn evalCut evalClear evalCopy evalMake evalWrap evalCap evalNil isNilC lenL isInp gorc
  mapOf findD keyEq keyOk evalMakeMap evalRange zeroD zeroDV argsG shutG outN lenv retG0_ret retG0_normal retG1_ret renO close_mp touch_mp ren_mp optAll_d optAll_d' touch_ds cellsL_mp cellsD_mp cellsL_dmp
  evalMapSet evalPtr TK.isPtr evalToArr firstL retN_ret retsQ rvarL close_bm touch_bm ren_bm cellsD_bm cellsL_bm cellsL_lbm
def km (m : List Df) : List DV := m.map fun d => .str d.name
def vm (m : List Df) : List DV := m.map Df.d
theorem findD_str {s : Str} : ∀ {m : List Df} {i : Nat}, findD (.str s) (km m) i = some ((m.findIdx? fun x => decide (s = x.name)).map (· + i))
  | [], i => by simp [findD, km]
  | x :: m, i => by
    have ih := findD_str (s := s) (m := m) (i := i + 1)
    simp only [km, List.map_cons, findD] at *
    have e : keyEq (.str s) (.str x.name) = some (decide (s = x.name)) := by simp only [keyEq, eqD]; congr 1; rw [Bool.eq_iff_iff]; simp
    rw [e, List.findIdx?_cons]
    cases q : decide (s = x.name) with
    | true => simp
    | false =>
      simp only [ih, Bool.false_eq_true, if_false]
      cases (m.findIdx? fun x => decide (s = x.name)) with
      | none => rfl
      | some j => simp; omega
theorem any_name {m : List Df} {s : Str} : (m.any fun x => decide (x.name = s)) = (m.findIdx? fun x => decide (s = x.name)).isSome := by
  rw [Bool.eq_iff_iff, List.any_eq_true, List.findIdx?_isSome, List.any_eq_true]
  constructor
  · rintro ⟨x, hx, e⟩; exact ⟨x, hx, by simpa using (of_decide_eq_true e).symm⟩
  · rintro ⟨x, hx, e⟩; exact ⟨x, hx, by simpa using (of_decide_eq_true e).symm⟩
theorem look_df (m : List Df) {H : Obs} {x : LV} {s : Str} {ok : Bool} (h : mapOf H x = some (km m, vm m)) :
    evalLookup T H 122 x (.d (.str s)) ok = ⟨if ok then .tup [.d (lookD m s).d, .d (.bool (m.any fun x => decide (x.name = s)))] else .d (lookD m s).d, True, []⟩ := by
  unfold evalLookup lookD
  simp only [t122, h, findD_str, any_name]
  cases q : m.findIdx? fun x => decide (s = x.name) with
  | none => cases ok <;> simp [keyOk, kindIs, zeroD, zeroDV, TK.isNone, TK.agg, Df.d]
  | some j =>
    obtain ⟨hj, _⟩ := find_name_some q
    cases ok <;> simp [keyOk, kindIs, vm, hj]
theorem put_df (m : List Df) {H : Obs} {id : Nat} {d : Df} (h : H id = .map false (km m) (vm m)) :
    evalMapUpdate T H 122 (.mp id) (.d (.str d.name)) (.d (.agg [.str d.name, .str d.text])) = ⟨.junk, True, [(id, .map false (km (upsert m d)) (vm (upsert m d)))]⟩ := by
  unfold evalMapUpdate upsert
  simp only [t122, h, findD_str]
  cases q : m.findIdx? fun x => decide (d.name = x.name) with
  | none => simp [keyOk, kindIs, km, vm, Df.d]
  | some j =>
    obtain ⟨hj, hjn⟩ := find_name_some q
    have hk : km m = km (m.set j d) := by
      unfold km
      apply List.ext_getElem?
      intro i
      rw [List.map_set, List.getElem?_set]
      by_cases e : j = i
      · subst e; simp [hj, hjn]
      · simp [e]
    simp [keyOk, kindIs, ← hk]
    simp [vm, List.map_set, Df.d]
theorem del_df (m : List Df) {H : Obs} {id : Nat} {s : Str} (h : H id = .map false (km m) (vm m)) :
    evalDelete T H 122 (.mp id) (.d (.str s)) = ⟨.junk, True, [(id, .map false (km (removeN m s)) (vm (removeN m s)))]⟩ := by
  unfold evalDelete removeN
  simp only [t122, h, findD_str]
  cases q : m.findIdx? fun x => decide (s = x.name) with
  | none => simp [keyOk, kindIs]
  | some j => simp [keyOk, kindIs, km, vm, map_erase]
def baseD : List Df → List Df → Option (List Df)
  | L, [] => some L
  | L, d :: r => if L.any (fun x => decide (x.name = d.name)) = true then none else baseD (putD L d) r
def doneD (defs : List Df) (e : Ed) : List Df := e.drops.foldl dropD (e.puts.foldl putD defs)
def clashAny (l : List Ed) (set names : List Nm) : Bool := (List.range names.length).any fun i => (names.take i).any fun a => clashB l set a (names.getD i default)
def programV (base : List Df) (l : List Ed) (set : List Nm) : List Df × Int :=
  if (validV l).2 ≠ 0 then ([], (validV l).2) else match baseD [] base with
    | none => ([], 7)
    | some defs => if closedB l set = false then ([], 10) else if clashAny l set (orderN l set) = true then ([], 14) else ((orderN l set).foldl (fun ds n => doneD ds (edAt l n)) defs, 0)
def NoClash (l : List Ed) (set names : List Nm) (j : Nat) : Prop := ∀ i', i' < j → ((names.take i').any fun a => clashB l set a (names.getD i' default)) = false
theorem NoClash.step {l : List Ed} {set names : List Nm} {j : Nat} (h : NoClash l set names j) (hj : j < names.length) (hp : Pre (fun a => clashB l set a names[j]) names j) : NoClash l set names (j + 1) := fun i' hi => by
  by_cases e : i' = j
  · subst e
    rw [List.any_eq_false]
    intro a ha
    obtain ⟨q, hq, rfl⟩ := List.getElem_of_mem ha
    simp at hq
    have := hp q (by omega) (by omega)
    simp only [List.getElem_take, List.getD_eq_getElem?_getD, List.getElem?_eq_getElem hj, Option.getD_some]
    simpa using this
  · exact h i' (by omega)
theorem clashAny_no {l : List Ed} {set names : List Nm} (h : NoClash l set names names.length) : clashAny l set names = false := by
  unfold clashAny
  rw [List.any_eq_false]
  intro i hi
  rw [h i (by simpa using hi)]
  simp
theorem clashAny_yes {l : List Ed} {set names : List Nm} {j k : Nat} (hj : j < names.length) (hk : k < j) (h : clashB l set (names[k]'(by omega)) names[j] = true) : clashAny l set names = true := by
  unfold clashAny
  refine List.any_eq_true.2 ⟨j, by simpa using hj, List.any_eq_true.2 ⟨names[k]'(by omega), ?_, ?_⟩⟩
  · exact List.mem_iff_getElem.2 ⟨k, by simp; omega, by simp⟩
  · simpa [hj] using h
theorem proper_len {e : Ed} (h : properE e = true) : e.puts.length + e.drops.length ≤ 24 := by
  unfold properE at h
  simp only [Bool.and_eq_true, decide_eq_true_eq] at h
  have := h.1.1.1.1.1.1.2
  unfold touches at this
  simpa using this
theorem upsert_len (m : List Df) (d : Df) : (upsert m d).length ≤ m.length + 1 := by
  unfold upsert; split <;> simp
theorem removeN_len (m : List Df) (s : Str) : (removeN m s).length ≤ m.length := by
  unfold removeN; split
  · exact (List.eraseIdx_sublist _ _).length_le
  · exact Nat.le_refl _
theorem km_names (m : List Df) : km m = (m.map Df.name).map .str := by simp [km]
theorem orderF_sub {l : List Ed} : ∀ (f : Nat) (rest out : List Nm) {x : Nm}, x ∈ orderF l f rest out → x ∈ rest ∨ x ∈ out
  | 0, rest, out, x, h => .inr h
  | f + 1, rest, out, x, h => by
    cases q : rest.findIdx? (readyN l out) with
    | none => simp only [orderF, q] at h; exact .inr h
    | some k =>
      have hk := (List.findIdx?_eq_some_iff_getElem.1 q).1
      rw [orderF_succ q hk] at h
      rcases orderF_sub f _ _ h with h | h
      · exact .inl (List.mem_of_mem_eraseIdx h)
      · rcases List.mem_append.1 h with h | h
        · exact .inr h
        · simp at h; subst h; exact .inl (List.getElem_mem hk)
theorem orderN_sub {l : List Ed} {set names : List Nm} {x : Nm} (h : x ∈ names) (e : names = orderN l set) : x ∈ set := by
  subst e
  rcases orderF_sub _ _ _ h with h | h
  · exact ((sortN_spec set).2 x).1 h
  · cases h
theorem orderF_len {l : List Ed} : ∀ (f : Nat) (rest out : List Nm), (orderF l f rest out).length ≤ out.length + f
  | 0, rest, out => Nat.le_refl _
  | f + 1, rest, out => by
    cases q : rest.findIdx? (readyN l out) with
    | none => simp only [orderF, q]; omega
    | some k =>
      have hk := (List.findIdx?_eq_some_iff_getElem.1 q).1
      rw [orderF_succ q hk]
      have := orderF_len (l := l) f (rest.eraseIdx k) (out ++ [rest[k]])
      simp at this; omega
theorem orderN_len (l : List Ed) (set : List Nm) : (orderN l set).length ≤ set.length := by
  have := orderF_len (l := l) (sortN set).length (sortN set) []
  have := sortN_len set
  unfold orderN
  simp at *; omega
theorem EProgram_ok (base : List Df) (l : List Ed) (set : List Nm) (hs : small l) (hb : base.length ≤ 1000) (hl : set.length ≤ 1000) : Ok Tryz.prog 31 [dfsD base, edsD l, nmsD set] ⟨.tup [.d (dfsD (programV base l set).1), .d (I64 (programV base l set).2)], true⟩ := by
  refine Ok.two Tryz.func31 (by kernel_rfl) (c := _) rfl Tryz.ntmps31 (by simp) Tryz.results31 rfl fun w0 X hp => ?_
  refine LWp.seq ?_
  refine LWp.rz hT hW ?_
  simp
  refine LWp.seq ?_
  refine LWp.seq ?_
  refine LWp.ro hT hW (fun | 32 => some <| .plain ⟨.tup [.d (I64 (validV l).1), .d (I64 (validV l).2)], true⟩ | _ => none) ?_
  simp [evalExtract]
  refine ⟨EValid_ok l hs, ?_⟩
  refine LWp.seq ?_
  refine LWp.rz hT hW ?_
  simp
  refine LWp.iff ?_
  simp
  refine ⟨fun h2 => ?_, fun h2 => ?_⟩
  · refine LWp.seq ?_
    refine LWp.rz hT hW ?_
    simp
    refine LWp.ret ?_
    have e : programV base l set = ([], (validV l).2) := by unfold programV; rw [if_pos h2]
    simp [e]
  · have hv0 : (validV l).2 = 0 := by simpa using h2
    refine LWp.skip ?_
    simp
    refine LWp.seq ?_
    refine LWp.rz hT hW ?_
    simp
    refine LWp.seq ?_
    refine LWp.seq ?_
    refine LWp.rz hT hW ?_
    simp
    refine LWp.block ?_
    refine LWp.loopW (ι := Nat × List Df × List Df) (fun ⟨i, m, L⟩ => mkEnv [(0, .d (dfsD base)), (1, .d (edsD l)), (2, .d (nmsD set)), (10, .mp 10), (39, .d (dfsD base)), (40, .d (I64 base.length)), (41, .d (I64 i))]) (fun ⟨i, m, L⟩ => mkObs [(10, .map false (km m) (vm m))]) (fun ⟨i, m, L⟩ => i ≤ base.length ∧ m.length ≤ i ∧ Rep m L ∧ baseD [] base = baseD L (base.drop i)) (fun ⟨i, m, L⟩ => base.length - i) (0, [], []) (Weak.to [0, 1, 2, 10, 39, 40, 41] [(38, 10)] (by decide) (by decide) (by simp [hp]) (by simp) (by simp [km, vm])) (⟨Nat.zero_le _, Nat.le_refl _, Rep.nil, rfl⟩) fun ⟨i, m, L⟩ hi6 => ?_
    refine LWp.seq ?_
    refine LWp.rz hT hW ?_
    simp
    refine LWp.seq ?_
    refine LWp.iff ?_
    simp
    refine ⟨fun h6 => ?_, fun h6 => ?_⟩
    · refine LWp.skip ?_
      simp
      refine LWp.seq ?_
      refine LWp.block ?_
      refine LWp.seq ?_
      refine LWp.rz hT hW ?_
      simp [h6]
      refine LWp.seq ?_
      refine LWp.seq ?_
      refine LWp.rz hT hW ?_
      simp [look_df m, evalExtract]
      refine LWp.seq ?_
      refine LWp.rz hT hW ?_
      simp
      refine LWp.iff ?_
      simp
      refine ⟨fun x9 hx9 he9 => ?_, fun h9 => ?_⟩
      · refine LWp.seq ?_
        refine LWp.rz hT hW ?_
        simp
        refine LWp.ret ?_
        obtain ⟨q1, q2, q3, q4⟩ := hi6
        have ht : (L.any fun x => decide (x.name = base[i].name)) = true := by
          rw [← q3.has]
          exact List.any_eq_true.2 ⟨x9, hx9, by simpa using he9⟩
        have hbn : baseD [] base = none := by
          rw [q4, List.drop_eq_getElem_cons h6]
          simp [baseD, ht]
        have e : programV base l set = ([], 7) := by unfold programV; rw [if_neg (by simpa using hv0), hbn]
        simp [e]
      · refine LWp.skip ?_
        simp
        refine LWp.rz hT hW ?_
        simp [put_df m]
        refine LWp.rz hT hW ?_
        simp
        refine ⟨by omega, ?_⟩
        refine loopQ.mk (i + 1, upsert m base[i], putD L base[i]) (Weak.to [0, 1, 2, 10, 39, 40, 41] [(10, 10)] (by decide) (by decide) (by simp [hp]) (by simp) (by simp)) ?_ ?_
        · obtain ⟨q1, q2, q3, q4⟩ := hi6
          refine ⟨h6, Nat.le_trans (upsert_len m base[i]) (by omega), q3.put _, ?_⟩
          rw [q4, List.drop_eq_getElem_cons h6]
          have hf : (L.any fun x => decide (x.name = base[i].name)) = false := by
            rw [← q3.has, List.any_eq_false]
            intro x hx
            simpa using h9 x hx
          simp [baseD, hf]
        · omega
    · refine LWp.exit ?_
      simp
      refine LWp.seq ?_
      refine LWp.seq ?_
      obtain ⟨q1, q2, q3, q4⟩ := hi6
      have hbs : baseD [] base = some L := by rw [q4, List.drop_eq_nil_of_le (by omega)]; rfl
      refine LWp.ro hT hW (fun | 60 => some <| .plain ⟨.d (.bool (closedB l set)), true⟩ | _ => none) ?_
      simp
      refine ⟨EClosed_ok l set, ?_⟩
      refine LWp.iff ?_
      simp
      refine ⟨fun h13 => ?_, fun h13 => ?_⟩
      · refine LWp.seq ?_
        refine LWp.rz hT hW ?_
        simp
        refine LWp.ret ?_
        have e : programV base l set = ([], 10) := by unfold programV; rw [if_neg (by simpa using hv0), hbs]; simp [h13]
        simp [e]
      · refine LWp.skip ?_
        simp
        refine LWp.seq ?_
        have hcl : closedB l set = true := by simpa using h13
        obtain ⟨names, hnames⟩ : ∃ names, names = orderN l set := ⟨_, rfl⟩
        have hnl : names.length ≤ 1000 := by rw [hnames]; exact Nat.le_trans (orderN_len l set) hl
        have hfound : ∀ n ∈ names, 0 ≤ findI l n := fun n hn => (closedB_iff.1 hcl n (orderN_sub hn (by rw [← hnames]))).1
        refine LWp.ro hT hW (fun | 64 => some <| .plain ⟨.own 2 (names.map Nm.d), true⟩ | _ => none) ?_
        simp
        refine ⟨by rw [hnames]; exact order_ok l set (by omega) (valid_acyc hv0) hcl, ?_⟩
        refine LWp.seq ?_
        refine LWp.seq ?_
        refine LWp.rz hT hW ?_
        simp
        refine LWp.block ?_
        refine LWp.loopW (ι := Nat) (fun j => mkEnv [(0, .d (dfsD base)), (1, .d (edsD l)), (2, .d (nmsD set)), (10, .mp 10), (15, .ow 15 0 names.length), (65, .ow 15 0 names.length), (66, .d (I64 names.length)), (67, .d (I64 j))]) (fun j => mkObs [(10, .map false (km m) (vm m)), (15, .row false 2 (names.map Nm.d))]) (fun j => j ≤ names.length ∧ NoClash l set names j) (fun j => names.length - j) 0 (Weak.to [0, 1, 2, 10, 15, 65, 66, 67] [(10, 10), (64, 15)] (by decide) (by decide) (by simp [hp]) (by simp) (by simp)) (⟨Nat.zero_le _, fun _ h => absurd h (Nat.not_lt_zero _)⟩) fun j hi17 => ?_
        refine LWp.seq ?_
        refine LWp.rz hT hW ?_
        simp
        refine LWp.seq ?_
        refine LWp.iff ?_
        simp
        refine ⟨fun h17 => ?_, fun h17 => ?_⟩
        · refine LWp.skip ?_
          simp
          refine LWp.seq ?_
          refine LWp.block ?_
          refine LWp.seq ?_
          refine LWp.rz hT hW ?_
          simp [h17]
          refine LWp.seq ?_
          refine LWp.rz hT hW ?_
          simp
          refine ⟨by omega, ?_⟩
          refine LWp.block ?_
          refine LWp.loopW (ι := Nat) (fun k => mkEnv [(0, .d (dfsD base)), (1, .d (edsD l)), (2, .d (nmsD set)), (10, .mp 10), (15, .ow 15 0 names.length), (17, .bx 17 0), (65, .ow 15 0 names.length), (66, .d (I64 names.length)), (67, .d (I64 j)), (74, .ow 15 0 j), (75, .d (I64 j)), (76, .d (I64 k))]) (fun k => mkObs [(10, .map false (km m) (vm m)), (15, .row false 2 (names.map Nm.d)), (17, .box false [.d (I64 names[j].who), .d (I64 names[j].seq)])]) (fun k => k ≤ j ∧ Pre (fun a => clashB l set a names[j]) names k) (fun k => j - k) 0 (Weak.to [0, 1, 2, 10, 15, 17, 65, 66, 67, 74, 75, 76] [(10, 10), (15, 15), (17, 17)] (by decide) (by decide) (by simp [hp]) (by simp) (by simp)) (⟨Nat.zero_le _, Pre.zero⟩) fun k hi20 => ?_
          refine LWp.seq ?_
          refine LWp.rz hT hW ?_
          simp
          refine LWp.seq ?_
          refine LWp.iff ?_
          simp
          refine ⟨fun h20 => ?_, fun h20 => ?_⟩
          · refine LWp.skip ?_
            simp
            refine LWp.seq ?_
            refine LWp.block ?_
            refine LWp.seq ?_
            have hkn : k < names.length := by omega
            refine LWp.rz hT hW ?_
            simp [h20, hkn]
            refine LWp.seq ?_
            refine LWp.ro hT hW (fun | 84 => some <| .plain ⟨.d (.bool (clashB l set names[k] names[j])), true⟩ | _ => none) ?_
            simp
            refine ⟨eclash_ok l set _ _ hs (fun c hc => (closedB_iff.1 hcl c hc).1) (hfound _ (List.getElem_mem hkn)) (hfound _ (List.getElem_mem h17)), ?_⟩
            refine LWp.iff ?_
            simp
            refine ⟨fun h22 => ?_, fun h22 => ?_⟩
            · refine LWp.seq ?_
              refine LWp.rz hT hW ?_
              simp
              refine LWp.ret ?_
              have hc : clashAny l set (orderN l set) = true := by rw [← hnames]; exact clashAny_yes h17 (by omega) h22
              have e : programV base l set = ([], 14) := by unfold programV; rw [if_neg (by simpa using hv0), hbs]; simp [hcl, hc]
              simp [e]
            · refine LWp.skip ?_
              simp
              refine LWp.rz hT hW ?_
              simp
              refine ⟨by omega, ?_⟩
              refine loopQ.mk (k + 1) (Weak.to [0, 1, 2, 10, 15, 17, 65, 66, 67, 74, 75, 76] [(10, 10), (15, 15), (17, 17)] (by decide) (by decide) (by simp [hp]) (by simp) (by simp)) ?_ ?_
              · exact ⟨h20, hi20.2.succ (by omega) (by simpa using h22)⟩
              · omega
          · refine LWp.exit ?_
            simp
            refine LWp.rz hT hW ?_
            simp
            refine ⟨by omega, ?_⟩
            refine loopQ.mk (j + 1) (Weak.to [0, 1, 2, 10, 15, 65, 66, 67] [(10, 10), (15, 15)] (by decide) (by decide) (by simp [hp]) (by simp) (by simp)) ?_ ?_
            · exact ⟨h17, hi17.2.step h17 (fun q hq hqj => hi20.2 q hq (by omega))⟩
            · omega
        · refine LWp.exit ?_
          simp
          refine LWp.seq ?_
          refine LWp.seq ?_
          refine LWp.rz hT hW ?_
          simp
          refine LWp.block ?_
          refine LWp.loopW (ι := Nat × List Df × List Df) (fun ⟨q, m2, L2⟩ => mkEnv [(0, .d (dfsD base)), (1, .d (edsD l)), (10, .mp 10), (87, .ow 15 0 names.length), (88, .d (I64 names.length)), (89, .d (I64 q))]) (fun ⟨q, m2, L2⟩ => mkObs [(10, .map false (km m2) (vm m2)), (15, .row false 2 (names.map Nm.d))]) (fun ⟨q, m2, L2⟩ => q ≤ names.length ∧ m2.length ≤ base.length + q * 24 ∧ Rep m2 L2 ∧ L2 = (names.take q).foldl (fun ds n => doneD ds (edAt l n)) L) (fun ⟨q, m2, L2⟩ => names.length - q) (0, m, L) (Weak.to [0, 1, 10, 87, 88, 89] [(10, 10), (15, 15)] (by decide) (by decide) (by simp [hp]) (by simp) (by simp)) (⟨Nat.zero_le _, by omega, q3, by simp⟩) fun ⟨q, m2, L2⟩ hi27 => ?_
          refine LWp.seq ?_
          refine LWp.rz hT hW ?_
          simp
          refine LWp.seq ?_
          refine LWp.iff ?_
          simp
          refine ⟨fun h27 => ?_, fun h27 => ?_⟩
          · refine LWp.skip ?_
            simp
            refine LWp.seq ?_
            refine LWp.block ?_
            refine LWp.seq ?_
            refine LWp.rz hT hW ?_
            simp [h27]
            refine LWp.seq ?_
            obtain ⟨i0, hi0, hfe, hee⟩ := edAt_of (hfound names[q] (List.getElem_mem h27))
            have hpl := proper_len (errE_zero ((valid_err hv0).2 i0 hi0)).1
            refine LWp.ro hT hW (fun | 96 => some <| .plain ⟨.d (I64 (findI l names[q])), true⟩ | _ => none) ?_
            simp [hfe, hi0]
            refine ⟨by rw [← hfe]; exact EFind_ok l names[q], ?_⟩
            refine LWp.seq ?_
            refine LWp.seq ?_
            refine LWp.rz hT hW ?_
            simp
            refine LWp.block ?_
            refine LWp.loopW (ι := Nat × List Df × List Df) (fun ⟨j, m3, L3⟩ => mkEnv [(0, .d (dfsD base)), (1, .d (edsD l)), (10, .mp 10), (22, .bx 22 0), (87, .ow 15 0 names.length), (88, .d (I64 names.length)), (89, .d (I64 q)), (100, .d (dfsD l[i0].puts)), (101, .d (I64 l[i0].puts.length)), (102, .d (I64 j))]) (fun ⟨j, m3, L3⟩ => mkObs [(10, .map false (km m3) (vm m3)), (15, .row false 2 (names.map Nm.d)), (22, .box false ((cellsD l[i0].d).map .d))]) (fun ⟨j, m3, L3⟩ => j ≤ l[i0].puts.length ∧ m3.length ≤ m2.length + j ∧ Rep m3 L3 ∧ L3 = (l[i0].puts.take j).foldl putD L2) (fun ⟨j, m3, L3⟩ => l[i0].puts.length - j) (0, m2, L2) (Weak.to [0, 1, 10, 22, 87, 88, 89, 100, 101, 102] [(10, 10), (15, 15), (22, 22)] (by decide) (by decide) (by simp [hp]) (by simp) (by simp)) (⟨Nat.zero_le _, Nat.le_refl _, hi27.2.2.1, by simp⟩) fun ⟨j, m3, L3⟩ hi31 => ?_
            refine LWp.seq ?_
            refine LWp.rz hT hW ?_
            simp
            refine LWp.seq ?_
            refine LWp.iff ?_
            simp
            refine ⟨fun h31 => ?_, fun h31 => ?_⟩
            · refine LWp.skip ?_
              simp
              refine LWp.seq ?_
              refine LWp.block ?_
              refine LWp.seq ?_
              refine LWp.rz hT hW ?_
              simp [h31]
              refine LWp.rz hT hW ?_
              simp [put_df m3]
              refine LWp.rz hT hW ?_
              simp
              refine ⟨by omega, ?_⟩
              refine loopQ.mk (j + 1, upsert m3 l[i0].puts[j], putD L3 l[i0].puts[j]) (Weak.to [0, 1, 10, 22, 87, 88, 89, 100, 101, 102] [(10, 10), (15, 15), (22, 22)] (by decide) (by decide) (by simp [hp]) (by simp) (by simp)) ?_ ?_
              · refine ⟨h31, ?_, hi31.2.2.1.put _, ?_⟩
                · have z1 := hi31.2.1
                  have z2 := upsert_len m3 l[i0].puts[j]
                  dsimp only
                  omega
                · rw [List.take_succ_eq_append_getElem h31, List.foldl_append, ← hi31.2.2.2]
                  simp
              · omega
            · refine LWp.exit ?_
              simp
              refine LWp.seq ?_
              refine LWp.rz hT hW ?_
              simp
              refine LWp.block ?_
              refine LWp.loopW (ι := Nat × List Df × List Df) (fun ⟨j', m4, L4⟩ => mkEnv [(0, .d (dfsD base)), (1, .d (edsD l)), (10, .mp 10), (87, .ow 15 0 names.length), (88, .d (I64 names.length)), (89, .d (I64 q)), (112, .d (strsD l[i0].drops)), (113, .d (I64 l[i0].drops.length)), (114, .d (I64 j'))]) (fun ⟨j', m4, L4⟩ => mkObs [(10, .map false (km m4) (vm m4)), (15, .row false 2 (names.map Nm.d))]) (fun ⟨j', m4, L4⟩ => j' ≤ l[i0].drops.length ∧ m4.length ≤ m3.length ∧ Rep m4 L4 ∧ L4 = (l[i0].drops.take j').foldl dropD L3) (fun ⟨j', m4, L4⟩ => l[i0].drops.length - j') (0, m3, L3) (Weak.to [0, 1, 10, 87, 88, 89, 112, 113, 114] [(10, 10), (15, 15)] (by decide) (by decide) (by simp [hp]) (by simp) (by simp)) (⟨Nat.zero_le _, Nat.le_refl _, hi31.2.2.1, by simp⟩) fun ⟨j', m4, L4⟩ hi36 => ?_
              refine LWp.seq ?_
              refine LWp.rz hT hW ?_
              simp
              refine LWp.seq ?_
              refine LWp.iff ?_
              simp
              refine ⟨fun h36 => ?_, fun h36 => ?_⟩
              · refine LWp.skip ?_
                simp
                refine LWp.seq ?_
                refine LWp.block ?_
                refine LWp.seq ?_
                refine LWp.rz hT hW ?_
                simp [h36]
                refine LWp.rz hT hW ?_
                simp [del_df m4]
                refine LWp.rz hT hW ?_
                simp
                refine ⟨by omega, ?_⟩
                refine loopQ.mk (j' + 1, removeN m4 l[i0].drops[j'], dropD L4 l[i0].drops[j']) (Weak.to [0, 1, 10, 87, 88, 89, 112, 113, 114] [(10, 10), (15, 15)] (by decide) (by decide) (by simp [hp]) (by simp) (by simp)) ?_ ?_
                · refine ⟨h36, ?_, hi36.2.2.1.drop _, ?_⟩
                  · have z1 := hi36.2.1
                    have z2 := removeN_len m4 l[i0].drops[j']
                    dsimp only
                    omega
                  · rw [List.take_succ_eq_append_getElem h36, List.foldl_append, ← hi36.2.2.2]
                    simp
                · omega
              · refine LWp.exit ?_
                simp
                refine LWp.rz hT hW ?_
                simp
                refine ⟨by omega, ?_⟩
                refine loopQ.mk (q + 1, m4, L4) (Weak.to [0, 1, 10, 87, 88, 89] [(10, 10), (15, 15)] (by decide) (by decide) (by simp [hp]) (by simp) (by simp)) ?_ ?_
                · refine ⟨h27, ?_, hi36.2.2.1, ?_⟩
                  · have z1 := hi36.2.1
                    have z2 := hi31.2.1
                    have z3 := hi27.2.1
                    have z4 := hi31.1
                    dsimp only
                    omega
                  · rw [List.take_succ_eq_append_getElem h27, List.foldl_append, ← hi27.2.2.2, hi36.2.2.2, hi31.2.2.2, List.take_of_length_le (by omega), List.take_of_length_le (by omega)]
                    simp [doneD, hee]
                · omega
          · refine LWp.exit ?_
            simp
            refine LWp.seq ?_
            refine LWp.rz hT hW ?_
            simp
            refine LWp.seq ?_
            refine LWp.seq ?_
            obtain ⟨ns, hns⟩ : ∃ ns, ns = ssort (m2.map Df.name) := ⟨_, rfl⟩
            have hqn : q = names.length := by have := hi27.1; omega
            have hm2 : m2.length ≤ 100000 := by have z1 := hi27.2.1; have z2 : q * 24 ≤ 1000 * 24 := Nat.mul_le_mul_right _ (by omega); omega
            have hnsl : ns.length = m2.length := by rw [hns, ssort_len]; simp
            refine LWp.ro hT hW (fun | 123 => some <| .plain ⟨.d (.fn 130 [.ro [.mp (km m2) (vm m2)]]), false⟩ | 124 => some <| .plain ⟨.own 1 (ns.map .str), true⟩ | _ => none) ?_
            simp
            refine ⟨⟨KeysStr_ok _ _, by rw [hns, km_names]; exact Sorted_ok (m2.map Df.name) (vm m2) (by simp; omega)⟩, ?_⟩
            refine LWp.block ?_
            refine LWp.loopW (ι := Nat × List Df) (fun ⟨t, out⟩ => mkEnv [(10, .mp 10), (27, .ow 27 0 out.length), (124, .ow 124 0 ns.length), (125, .d (I64 ns.length)), (126, .d (I64 t))]) (fun ⟨t, out⟩ => mkObs [(10, .map true (km m2) (vm m2)), (27, .row false 2 (out.map Df.d)), (124, .row false 1 (ns.map .str))]) (fun ⟨t, out⟩ => t ≤ ns.length ∧ out.length = t ∧ out = (ns.map (lookD m2)).take t) (fun ⟨t, out⟩ => ns.length - t) (0, []) (Weak.to [10, 27, 124, 125, 126] [(10, 10), (27, 27), (124, 124)] (by decide) (by decide) (by simp [hp]) (by simp) (by simp)) (by simp) fun ⟨t, out⟩ hi43 => ?_
            refine LWp.seq ?_
            refine LWp.rz hT hW ?_
            simp
            refine LWp.seq ?_
            refine LWp.iff ?_
            simp
            refine ⟨fun h43 => ?_, fun h43 => ?_⟩
            · refine LWp.skip ?_
              simp
              refine LWp.seq ?_
              refine LWp.block ?_
              refine LWp.seq ?_
              refine LWp.rz hT hW ?_
              simp [h43]
              refine LWp.rz hT hW ?_
              simp [look_df m2]
              have z1 := hi43.2.1
              refine ⟨by omega, ?_⟩
              refine LWp.rz hT hW ?_
              simp
              refine ⟨by omega, ?_⟩
              refine loopQ.mk (t + 1, out ++ [lookD m2 ns[t]]) (Weak.to [10, 27, 124, 125, 126] [(10, 10), (135, 27), (124, 124)] (by decide) (by decide) (by simp [hp]) (by simp) (by simp)) ?_ ?_
              · refine ⟨h43, by simp [hi43.2.1], ?_⟩
                dsimp only
                rw [map_take_succ h43, ← hi43.2.2]
              · omega
            · refine LWp.exit ?_
              simp
              refine LWp.seq ?_
              refine LWp.rz hT hW ?_
              simp
              refine LWp.ret ?_
              have ho : out = L2 := by
                rw [hi43.2.2, List.take_of_length_le (by simp; omega), hns]
                exact hi27.2.2.1.out (List.mergeSort_perm _ _) (ssort_sorted _)
              have hnc : clashAny l set (orderN l set) = false := by rw [← hnames]; exact clashAny_no (by have := hi17.1; rw [show names.length = j by omega]; exact hi17.2)
              have e : programV base l set = (out, 0) := by
                unfold programV
                rw [if_neg (by simpa using hv0), hbs]
                simp only [hcl, hnc, Bool.true_eq_false, Bool.false_eq_true, if_false]
                rw [ho, hi27.2.2.2, hqn, List.take_length, ← hnames]
              simp [e]
end Go.Eng
