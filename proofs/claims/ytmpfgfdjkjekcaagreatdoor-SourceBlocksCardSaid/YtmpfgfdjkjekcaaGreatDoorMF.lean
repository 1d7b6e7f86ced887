/-
  Texts of the proofs of this seat, part 6. No condition.
-/
import Derived.Test.YtmpfgfdjkjekcaaGreatDoorME
import Derived.OpenShut
import Derived.Shelf.Strconv.Atoi
import Derived.Test.YtmpfgfdjkjekcaaGreatDoorProg
set_option linter.unusedVariables false
set_option linter.unusedSimpArgs false
namespace Go.Eng
open Go.RowKit
def IsRow (k : IntKind) (w : World) (a : Option Addr) (len cap : Nat) (zs : List Int) : Prop :=
  (a = none ∧ len = 0 ∧ cap = 0 ∧ zs = []) ∨
  ∃ x, a = some x ∧ len ≤ cap ∧ cap ≤ maxLen ∧ zs.length = cap ∧ (∀ i, i < zs.length → w.cell? (x.add i) = some (.int k (zs.getD i 0))) ∧ ∀ n ∈ zs, (Lit.int k n).wf = true
theorem int_rng {n : Int} (h : (Lit.int .i64 n).wf = true) : -9223372036854775808 ≤ n ∧ n ≤ 9223372036854775807 := by
  simp only [Lit.wf, Bool.and_eq_true, decide_eq_true_eq, IntKind.min, IntKind.max, IntKind.signed, IntKind.bits] at h
  exact ⟨h.1, h.2⟩
theorem row_rng {w : World} {a : Option Addr} {len cap : Nat} {zs : List Int} (h : IsRow .i64 w a len cap zs) : ∀ n ∈ zs.take len, -9223372036854775808 ≤ n ∧ n ≤ 9223372036854775807 := fun n hn => by
  have hn := List.mem_of_mem_take hn
  rcases h with ⟨_, _, _, rfl⟩ | ⟨x, _, _, _, _, _, h⟩
  · cases hn
  · exact int_rng (h n hn)
theorem row_rd {w : World} {k : IntKind} {a : Option Addr} {len cap : Nat} {zs : List Int} (h : IsRow k w a len cap zs) : RD w (fun _ => False) (.sl ((zs.take len).map (.int k))) (.slice a len cap) := by
  rcases h with ⟨rfl, rfl, rfl, rfl⟩ | ⟨x, rfl, h1, h2, h3, h4, h5⟩
  · exact .sl0 _ 0 (Nat.zero_le _)
  · by_cases h0 : len = 0
    · subst h0
      rw [List.take_zero]
      exact .sl0 _ cap h2
    · obtain ⟨b, o, rfl, hc⟩ := ints_at h4 (by omega)
      have hl : ((zs.take len).map (DV.int k)).length = len := by simp; omega
      have hfl : flatD ((zs.take len).map (DV.int k)) = (zs.take len).map (DV.int k) := by
        unfold flatD
        rw [List.flatMap_map]
        induction zs.take len with
        | nil => rfl
        | cons a l ih => rw [List.flatMap_cons, ih]; rfl
      have := RD.sl (w := w) (E := fun _ => False) ((zs.take len).map (.int k)) b o cap 1 ((zs.take len).map (.int k)) (fun e => by rw [e] at hl; simp at hl; omega) (fun h => h) (fun x hx => by obtain ⟨n, _, rfl⟩ := List.mem_map.1 hx; rfl)
        (by rw [hl]; exact h1) h2 (by simp) (fun u hu => by obtain ⟨n, _, rfl⟩ := List.mem_map.1 hu; rfl) (cell_lt (hc 0 (by omega))) (fun j u hj => by
          have hj' : j < len := by
            have := (List.getElem?_eq_some_iff.1 hj).1
            simp at this; omega
          have hz : j < zs.length := by omega
          have := hc j hz
          rw [this]
          simp [hj', hz] at hj
          simp [hz, hj]) (fun i d v hd hv => by
          rw [hfl] at hd
          simp only [List.getElem?_map] at hd hv
          cases q : (zs.take len)[i]? with
          | none => rw [q] at hd; cases hd
          | some n => rw [q] at hd hv; cases hd; cases hv; exact .int k n)
      rw [hl] at this
      exact this
theorem RDs.nil {w : World} {E : Nat → Prop} : RDs w E [] [] := ⟨rfl, fun i c v h => by simp at h⟩
theorem RDs.cons {w : World} {E : Nat → Prop} {d : DV} {v : Value} {ds : List DV} {vs : List Value} (h : RD w E d v) (hs : RDs w E ds vs) : RDs w E (d :: ds) (v :: vs) :=
  ⟨by simp [hs.1], fun i c u hc hu => by
    cases i with
    | zero => simp at hc hu; subst hc; subst hu; exact h
    | succ i => exact hs.2 i c u (by simpa using hc) (by simpa using hu)⟩
theorem law_calls {P : Program} {f : FuncId} {args : List DV} {fr : Bool} (h : Ok P f args ⟨.d (.bool true), fr⟩) (w : World) (vs : List Value) (hr : RDs w (fun _ => False) args vs) (hg : Glob w (fun _ => False) := by intro n cs h; simp [Go.Eng.globD] at h) :
    Calls P f vs.toArray w fun e w' => e = .returned (.bool true) ∧ Below w.heap.size w w' :=
  (h.2 w (fun _ => False) vs ⟨fun _ h => h.elim, hg⟩ hr).mono fun _ _ ⟨v, h1, h2, h3⟩ => by
    obtain ⟨_, h4⟩ := h3
    cases h4
    exact ⟨h1, h2.below⟩
theorem RVok.own_d {w w' : World} {E E' : Nat → Prop} {B : Option Nat} {s : Nat} {xs : List DV} {v : Value} (h : RVok w w' E B (.own s xs) v) (hE : ∀ k, E' k → k < w.heap.size) (hEE : ∀ k, E' k → E k) : RD w' E' (.sl xs) v := by
  obtain ⟨hs, hxs, h⟩ := h
  rcases h with ⟨_, rfl, a, rfl⟩ | ⟨b, c, cur, e, _, rfl, hb, hblk, hl, hc, hcs, hcell⟩
  · exact .sl0 a 0 (Nat.zero_le _)
  · by_cases hx : xs = []
    · subst hx; exact .sl0 _ c hc
    · have hfl := flat_len hxs
      have hle : xs.length * s ≤ cur.size := by rw [← hcs]; exact Nat.mul_le_mul_right _ hl
      have hlt : b < w'.heap.size := (Array.getElem?_eq_some_iff.1 hblk).1
      refine .sl xs b 0 c s (cur.toList.take (xs.length * s)) hx (fun q => by have := hE b q; omega) hxs hl hc (by simp; omega) (fun u hu => ?_) hlt (fun j u hj => ?_) (fun i d v hd hv => ?_)
      · obtain ⟨j, hj, rfl⟩ := List.getElem_of_mem hu
        simp only [List.length_take, Array.length_toList] at hj
        have hjc : j < cur.size := by omega
        have hjf : j < (flatD xs).length := by rw [hfl]; omega
        simp only [List.getElem_take, Array.getElem_toList]
        exact (hcell j _ _ (List.getElem?_eq_getElem hjf) (Array.getElem?_eq_getElem hjc)).1
      · rw [cell_of_row w' b _ cur e (0, 0) hblk, Nat.zero_add]
        rw [List.getElem?_take] at hj
        split at hj
        · simpa using hj
        · cases hj
      · rw [List.getElem?_take] at hv
        split at hv
        · exact ((hcell i d v hd (by simpa using hv)).2).anti hEE
        · cases hv
theorem Ok.own_d {P : Program} {f : FuncId} {args : List DV} {s : Nat} {xs : List DV} {fr : Bool} (h : Ok P f args ⟨.own s xs, fr⟩) : Ok P f args ⟨.d (.sl xs), fr⟩ :=
  ⟨h.1, fun w X vs hX hr => (h.2 w X vs hX hr).mono fun _ _ ⟨v, h1, h2, B, h3⟩ =>
    ⟨v, h1, h2, none, h3.own_d (fun k q => by
      rcases q with (q | ⟨_, q⟩) | q
      · exact hX.1 k q
      · exact q
      · cases q) (fun k q => by
      rcases q with q | q
      · exact .inl q
      · cases q)⟩⟩
theorem Ok.own2_d {P : Program} {f : FuncId} {args : List DV} {s : Nat} {xs : List DV} {y : DV} {fr : Bool} (h : Ok P f args ⟨.tup [.own s xs, .d y], fr⟩) : Ok P f args ⟨.tup [.d (.sl xs), .d y], fr⟩ :=
  ⟨h.1, fun w X vs hX hr => (h.2 w X vs hX hr).mono fun _ _ ⟨v, h1, h2, us, B, h3, h4, h5, h6⟩ =>
    ⟨v, h1, h2, us, fun _ => none, h3, h4, fun _ _ _ q => (by cases q), fun i r u hi hu => by
      match i, hi with
      | 0, hi =>
        cases hi
        exact (h6 0 _ u rfl hu).own_d (fun k q => by
          rcases q with (q | ⟨_, q⟩) | ⟨_, q⟩
          · exact hX.1 k q
          · exact q
          · cases q) (fun k q => by
          rcases q with q | ⟨_, q⟩
          · exact .inl q
          · cases q)
      | 1, hi =>
        cases hi
        exact RD.anti (fun k q => by
          rcases q with q | ⟨_, q⟩
          · exact .inl q
          · cases q) (h6 1 _ u rfl hu)⟩⟩
end Go.Eng
namespace Go.Eng
open Go.Proofs
attribute [local simp] runL stepL evalG evalOp opLV constLV putEnv dstOk upd upds Res.plain Res.cond Res.fail evalBin evalUn seqQ blockQ argsEnv lookL lookH RetIs memless freshL evalPick evalMin bval bok evalLen evalIn strip whenC guardOps guardC slotsOf
 runM foldS stepI stepM maskE wrIn lk renO lookN evalCall evalCallee optAll resLV resObj retLV retObj retsLV retsObj evalLoad evalIndexAddr evalField solid cellsD_agg cellsD_int cellsD_bool cellsD_str cellsD_sl cellsD_ro cellsD_fn cellsL_agg cellsL_dagg cellsL_int cellsL_bool cellsL_str cellsL_sl cellsL_fn cellsL_ow cellsL_bx cellsL_lfn cellsL_nl takeL takeD mkAgg allD eqD eqDs kindsAre kindIs LObj.live TK.isNone TK.agg TK.isBool TK.isStr TK.isStruct Op.operands Call.operands
 evalBuildSlice evalAppend elemsOf evalStore evalBuild fillL lookupF putL evalSlice bound evalConv elemsS freezes frozen loadR
 mkEnv_at mkObs_at close_d close_agg close_ow close_bx close_fn close_nl touch_d touch_agg touch_ow touch_bx touch_fn touch_nl ren_d ren_agg ren_bx ren_rp ren_ow ren_fn ren_nl ren_junk retQ_ret retQ2_ret condQ_bool Nm.d Df.d Ed.d nmsD dfsD strsD edsD retC_ret nm_eq df_eq take_map_len take_map_app
 nm_t nm_d nm_td df_t df_d df_td str_t str_d str_td ed_t ed_d ed_td
 evalAppendIn evalBuildSliceC evalCopyC shortL evalApart evalAppendC evalAppendZ evalAppendG evalCapC isOc TK.isInt close_oc touch_oc ren_oc cellsL_oc evalCut evalClear evalCopy evalMake evalWrap evalCap evalNil isNilC lenL isInp gorc gorc2
 mapOf findD keyEq keyOk evalMakeMap evalRange zeroD zeroDV argsG shutG outN lenv retG0_ret retG0_normal retG1_ret retGR_ret renO close_mp touch_mp ren_mp optAll_d optAll_d' touch_ds cellsL_mp cellsD_mp cellsL_dmp
 evalMapSet evalPtr TK.isPtr evalToArr firstL retN_ret retsQ rvarL close_bm touch_bm ren_bm cellsD_bm cellsL_bm cellsL_lbm
attribute [local simp] cutQ_normal cutQ_ret cutQ_exit
section
attribute [local simp] Res.cond Nd.d_eq nd_t nd_dr nd_td ndsD evalIndex
theorem scanF_fuel : ∀ (f : Nat) (s : Str) (i : Int), s.length ≤ f → scanF f s i = scanF s.length s i
 | 0, s, i, h => by
  have : s = [] := List.eq_nil_of_length_eq_zero (by omega)
  subst this; rfl
 | f + 1, [], i, _ => by simp [scanF]
 | f + 1, c :: r, i, h => by
  have e1 := scanF_fuel f r (i + 1) (by simpa using h)
  simp only [List.length_cons, scanF]
  by_cases q : c = 32 ∨ c = 10
  ·rw [if_pos q, if_pos q, e1]
  ·rw [if_neg q, if_neg q]
   by_cases z : nextN (c :: r) = 0
   ·rw [if_pos z, if_pos z]
   ·rw [if_neg z, if_neg z]
    have hl : ((c :: r).drop (nextN (c :: r))).length ≤ r.length := by rw [List.length_drop, List.length_cons]; omega
    have h' : r.length ≤ f := by simpa using h
    have e2 := scanF_fuel f ((c :: r).drop (nextN (c :: r))) (i + nextN (c :: r)) (by omega)
    have e3 := scanF_fuel r.length ((c :: r).drop (nextN (c :: r))) (i + nextN (c :: r)) hl
    rw [e2, e3]
termination_by f _ _ _ => f
def scanA (s : Str) (k : Nat) : List Tk × Int := scanF (s.drop k).length (s.drop k) k
theorem scanA_end {s : Str} {k : Nat} (h : s.length ≤ k) : scanA s k = ([], (k : Int)) := by
 unfold scanA
 rw [List.drop_eq_nil_of_le h]; rfl
theorem scanA_blank {s : Str} {k : Nat} (h : k < s.length) (hc : s[k] = 32 ∨ s[k] = 10) : scanA s k = scanA s (k + 1) := by
 unfold scanA
 rw [List.drop_eq_getElem_cons h, List.length_cons, scanF, if_pos hc]
 rfl
theorem scanA_stop {s : Str} {k : Nat} (h : k < s.length) (hc : ¬ (s[k] = 32 ∨ s[k] = 10)) (hn : nextN (s.drop k) = 0) : scanA s k = ([], (k : Int)) := by
 unfold scanA
 rw [List.drop_eq_getElem_cons h] at hn ⊢
 rw [List.length_cons, scanF, if_neg hc, if_pos hn]
theorem scanA_tok {s : Str} {k : Nat} (h : k < s.length) (hc : ¬ (s[k] = 32 ∨ s[k] = 10)) (hn : nextN (s.drop k) ≠ 0) :
  scanA s k = (⟨(s.drop k).take (nextN (s.drop k)), k⟩ :: (scanA s (k + nextN (s.drop k))).1, (scanA s (k + nextN (s.drop k))).2) := by
 have hl := nextN_le (s.drop k)
 have e : (s.drop k).drop (nextN (s.drop k)) = s.drop (k + nextN (s.drop k)) := by rw [List.drop_drop]
 unfold scanA
 rw [← e]
 generalize hm : nextN (s.drop k) = m at hn hl e ⊢
 rw [List.drop_eq_getElem_cons h] at hm hl ⊢
 rw [List.length_cons, scanF, if_neg hc, if_neg (by rw [hm]; exact hn), hm]
 rw [scanF_fuel _ _ _ (by rw [List.length_drop, List.length_cons]; omega)]
 push_cast
 rfl
theorem u8_eq {c : UInt8} {n : Nat} (hn : n < 256) : ((c.toNat : Int) = n) ↔ c = UInt8.ofNat n := by
 rw [← UInt8.toNat_inj]
 have : (UInt8.ofNat n).toNat = n := by simp [UInt8.toNat_ofNat']; omega
 omega
theorem blank_iff {s : Str} {k : Nat} (hk : k < s.length) : (((s[k]?.getD 0).toNat : Int) = 32 ∨ ((s[k]?.getD 0).toNat : Int) = 10) ↔ (s[k] = 32 ∨ s[k] = 10) := by
 rw [List.getElem?_eq_getElem hk, Option.getD_some]
 have e1 := u8_eq (c := s[k]) (n := 32) (by decide)
 have e2 := u8_eq (c := s[k]) (n := 10) (by decide)
 exact ⟨fun q => q.imp e1.1 e2.1, fun q => q.imp e1.2 e2.2⟩
theorem tok_cut (s : Str) (k n : Nat) : List.drop k (List.take ((k : Int) + (n : Int)).toNat s) = List.take n (List.drop k s) := by
 rw [show ((k : Int) + (n : Int)).toNat = k + n by omega, List.drop_take, show k + n - k = n by omega]
structure ScS where
 k : Nat
 L : List Tk
 deriving Inhabited
theorem scan_own (s : Str) (hl : s.length ≤ 1000000000) : Ok Tryz.prog 51 [.str s] ⟨.tup [.own 2 ((scanS s).1.map Tk.d), .d (I64 (scanS s).2)], true⟩ := by
 refine Ok.two Tryz.func51 (by kernel_rfl) (c := _) rfl Tryz.ntmps51 (by simp) Tryz.results51 rfl fun w0 X hp => ?_
 refine LWp.sz hT hW ?_
 simp
 refine LWp.scope ?_
 refine LWp.sz hT hW ?_
 simp
 refine LWp.sz hT hW ?_
 simp
 refine LWp.seq ?_
 refine LWp.label ?_
 simp
 refine LWp.seq ?_
 refine LWp.block ?_
 refine LWp.loopW (ι := ScS) (fun ⟨k, L⟩ => mkEnv [(0, .d (.str s)), (4, .ow 4 0 L.length), (5, .d (I64 k))]) (fun ⟨k, L⟩ => mkObs [(4, .row false 2 (L.map Tk.d))]) (fun ⟨k, L⟩ => L.length ≤ k ∧ k ≤ s.length ∧ scanS s = (L ++ (scanA s k).1, (scanA s k).2)) (fun ⟨k, L⟩ => s.length - k) ⟨0, []⟩ (Weak.to [0, 4, 5] [(4, 4)] (by decide) (by decide) (by simp [hp]) (by simp) (by simp)) (⟨Nat.le_refl _, Nat.zero_le _, by simp [scanA, scanS]⟩) fun ⟨k, L⟩ hi3 => ?_
 refine LWp.seq ?_
 refine LWp.sz hT hW ?_
 simp
 refine LWp.iff ?_
 simp
 refine ⟨fun h3 => ?_, fun h3 => ?_⟩
 ·refine LWp.skip ?_
  simp
  refine LWp.block ?_
  refine LWp.seq ?_
  refine LWp.seq ?_
  have hk : k < s.length := by omega
  refine LWp.rz hT hW ?_
  simp
  refine ⟨hk, ?_⟩
  refine LWp.block ?_
  refine LWp.seqCut (ι := BC) (fun ⟨b⟩ => mkEnv [(0, .d (.str s)), (4, .ow 4 0 L.length), (5, .d (I64 k)), (14, .d (.bool b))]) (fun ⟨b⟩ => mkObs [(4, .row false 2 (L.map Tk.d))]) (fun ⟨b⟩ => b = true ↔ (((s[k]?.getD 0).toNat : Int) = 32 ∨ ((s[k]?.getD 0).toNat : Int) = 10)) ?_ fun ⟨b⟩ hc7 => ?_
  ·refine LWp.sz hT hW ?_
   simp
   refine LWp.iff ?_
   simp
   refine ⟨fun h5 => ?_, fun h5 => ?_⟩
   ·refine LWp.skip ?_
    simp
    refine cutQ.mk ⟨decide (((s[k]?.getD 0).toNat : Int) = 32)⟩ (Weak.to [0, 4, 5, 14] [(4, 4)] (by decide) (by decide) (by simp [hp]) (by simp) (by simp)) ?_
    simp [h5]
   ·refine LWp.rz hT hW ?_
    simp
    refine cutQ.mk ⟨decide (((s[k]?.getD 0).toNat : Int) = 10)⟩ (Weak.to [0, 4, 5, 14] [(4, 4)] (by decide) (by decide) (by simp [hp]) (by simp) (by simp)) ?_
    simp only [decide_eq_true_eq]; omega
  ·refine LWp.iff ?_
   simp
   refine ⟨fun h7 => ?_, fun h7 => ?_⟩
   ·have q7 := (blank_iff hk).1 (hc7.1 h7)
    refine LWp.sz hT hW ?_
    simp
    refine ⟨by omega, ?_⟩
    refine LWp.exit ?_
    simp
    refine loopQ.mk ⟨k + 1, L⟩ (Weak.to [0, 4, 5] [(4, 4)] (by decide) (by decide) (by simp [hp]) (by simp) (by simp)) ?_ ?_
    ·refine ⟨Nat.le_succ_of_le hi3.1, hk, ?_⟩
     rw [hi3.2.2, scanA_blank hk q7]
    ·show s.length - (k + 1) < s.length - k
     omega
   ·have q7 : ¬ (s[k] = 32 ∨ s[k] = 10) := fun q => by simp [hc7.2 ((blank_iff hk).2 q)] at h7
    refine LWp.skip ?_
    simp
    refine LWp.seq ?_
    have hn := next_ok s[k] (s.drop (k + 1)) (by simp; omega)
    rw [← List.drop_eq_getElem_cons hk] at hn
    refine LWp.ro hT hW (fun | 22 => some <| .plain ⟨.d (I64 (nextN (s.drop k))), true⟩ | _ => none) ?_
    simp
    refine ⟨⟨by omega, hn⟩, ?_⟩
    refine LWp.seq ?_
    refine LWp.sz hT hW ?_
    simp
    refine LWp.iff ?_
    simp
    refine ⟨fun h9 => ?_, fun h9 => ?_⟩
    ·refine LWp.exit ?_
     simp
     refine LWp.sz hT hW ?_
     simp
     refine LWp.ret ?_
     simp
     have e := hi3.2.2
     rw [scanA_stop hk q7 h9] at e
     rw [e]
     exact ⟨⟨by simp, fun a _ c hc => by simp [Tk.d, cellsD] at hc; rcases hc with rfl | rfl <;> rfl⟩, rfl⟩
    ·refine LWp.skip ?_
     simp
     refine LWp.seq ?_
     have hnl := nextN_le (s.drop k)
     rw [List.length_drop] at hnl
     refine LWp.rz hT hW ?_
     simp
     refine ⟨⟨⟨⟨by omega, by omega⟩, by omega, by omega⟩, by omega, by omega⟩, ?_⟩
     refine LWp.rz hT hW ?_
     simp
     refine ⟨by omega, ?_⟩
     refine loopQ.mk ⟨k + nextN (s.drop k), L ++ [⟨(s.drop k).take (nextN (s.drop k)), k⟩]⟩ (Weak.to [0, 4, 5] [(35, 4)] (by decide) (by decide) (by simp [hp]) (by simp) (by simp [Tk.d, tok_cut])) ?_ ?_
     ·refine ⟨?_, ?_, ?_⟩
      ·show (L ++ [_]).length ≤ k + nextN (s.drop k)
       rw [List.length_append, List.length_singleton]; omega
      ·show k + nextN (s.drop k) ≤ s.length
       omega
      ·rw [hi3.2.2, scanA_tok hk q7 h9]
       simp
     ·show s.length - (k + nextN (s.drop k)) < s.length - k
      omega
 ·refine LWp.exit ?_
  simp
  refine LWp.sz hT hW ?_
  simp
  refine LWp.ret ?_
  simp
  have e := hi3.2.2
  rw [scanA_end h3] at e
  rw [e]
  exact ⟨⟨by simp, fun a _ c hc => by simp [Tk.d, cellsD] at hc; rcases hc with rfl | rfl <;> rfl⟩, rfl⟩
theorem scan_ok (s : Str) (hl : s.length ≤ 1000000000) : Ok Tryz.prog 51 [.str s] ⟨.tup [.d (.sl ((scanS s).1.map Tk.d)), .d (I64 (scanS s).2)], true⟩ := Ok.own2_d (scan_own s hl)
end
end Go.Eng
namespace Go.Eng
open Go.RowKit
section
variable {P : Program} {T : TypeId → TyI} {w0 : Base} {X : Nat → Prop} {env : Env} {H : Obs}
def retGC (w0 : Base) (T : TypeId → TyI) (t : Nat) (ty : TypeId) (fin : List (Nat × LObj)) (ret : LV) (x : LX) (env : Env) (H : Obs) : Prop :=
  (match x with | .exit _ => False | _ => True) ∧ (loadR T H ty (env t)).ok ∧ Weak w0 (mkEnv [(0, (loadR T H ty (env t)).v)]) H (mkEnv [(0, ret)]) (mkObs fin)
theorem retGC_ret {t : Nat} {ty : TypeId} {fin : List (Nat × LObj)} {ret : LV} : retGC w0 T t ty fin ret .ret env H ↔ (loadR T H ty (env t)).ok ∧ Weak w0 (mkEnv [(0, (loadR T H ty (env t)).v)]) H (mkEnv [(0, ret)]) (mkObs fin) := by simp [retGC]
theorem OkG.cell (hT : TOk P T) {f : FuncId} {fn : Func} {c : Code} {args : List LV} {h fin : List (Nat × LObj)} {ret : LV} {n t : Nat} {ty : TypeId} (hf : P.funcs[f]? = some fn) (hname : (fn.name == "runtime.NumGoroutine") = false) (hb : fn.body = some c) (hn : fn.ntmps = n) (hargs : args.length ≤ n) (hres : fn.results = #[.cell t ty])
    (hw : ∀ w0 X, w0.pins = h.map (·.1) → LWp P n w0 X c (retGC w0 T t ty fin ret) (lenv args) (mkObs h)) : OkG P f args h fin ret :=
  OkG.of_body hf hname hb hn hargs fun w0 X hp => (hw w0 X hp).mono fun x env H ⟨h1, h2, h3⟩ => ⟨h1, fun β a w s => by
    obtain ⟨v, hv, hr⟩ := loadR_sound hT s h2
    have s1 : Sim 1 w0 X (mkEnv [(0, (loadR T H ty (env t)).v)]) H β ⟨#[v], []⟩ w := by
      refine ⟨rfl, rfl, s.ext, s.xold, s.fresh, s.inj, fun t' => ?_, s.obj, s.pin⟩
      cases t' with
      | zero => exact hr
      | succ t' => exact .junk _
    obtain ⟨β', s'⟩ := h3 _ _ _ _ _ s1
    have e := s'.env 0
    rw [show mkEnv [(0, ret)] 0 = ret by simp [mkEnv, lookL]] at e
    refine ⟨v, β', ?_, s'.mem, e⟩
    simp only [results, hres]
    simpa [Sem.run_bind, Result.andThen] using hv⟩
theorem Weak.closed {l : LV} {x : DV} {env' : Env} {H' : Obs} (h : Eng.close H 8 l = some x) (k : Weak w0 (mkEnv [(0, .d x)]) (upds H (freezes H (touch H 8 l))) env' H') : Weak w0 (mkEnv [(0, l)]) H env' H' := by
  have e : upd (mkEnv [(0, l)]) 0 (.d x) = mkEnv [(0, .d x)] := by
    funext j
    by_cases q : j = 0
    · subst q; rfl
    · rw [upd_ne _ _ q]; simp [mkEnv, lookL, q, Ne.symm q]
  have z : mkEnv [(0, l)] 0 = l := by simp [mkEnv, lookL]
  have c := Weak.close (w0 := w0) (H := H) (env := mkEnv [(0, l)]) 0 (x := x) (by rw [z]; exact h)
  rw [e, z] at c
  exact c.trans k
theorem ex_not {β : Nat → Option Nat} {w : World} (m : Mem w0 X H β w) {id b : Nat} (hl : (H id).live = true) (hm : (H id).mut = false) (hb : β id = some b) : ¬ Ex X β H b := fun he => by
  have hf := m.fresh id b hl hb
  rcases he with he | ⟨i, h1, h2⟩
  · rcases hf.1 with h1 | h1
    · have := (m.xold.1 b he).1; omega
    · exact (m.xold.1 b he).2 h1.1
  · have := m.inj i id b (LObj.live_of_mut h1) hl h2 hb
    subst this
    rw [hm] at h1; cases h1
theorem Weak.freeze (ids : List Nat) : Weak w0 env H env (upds H (freezes H ids)) := fun N X β a w s => by
  obtain ⟨m, g⟩ := s.mem.freeze ids
  exact ⟨β, s.defers, s.size, m.ext, m.xold, m.fresh, m.inj, fun u => g.R (s.env u), m.obj, m.pin⟩
theorem Weak.shut (b : Nat) {fz : Bool} {cs : List LV} {ds : List DV} (hH : H b = .box fz cs) (h : optAll (cs.map (Eng.close H 8)) = some ds) (ht : ∀ c ∈ cs, ∀ id ∈ touch H 8 c, (H id).mut = false) : Weak w0 env H env (upd H b (.box fz (ds.map .d))) := fun N X β a w s => by
  obtain ⟨e1, e2⟩ := optAll_map h
  obtain ⟨m2, g2⟩ := s.mem.rebox (cs' := ds.map .d) hH (by simp [e1]) (fun i c c' v hc hc' hr => by
    obtain ⟨d, hd, rfl⟩ := map_get hc'
    have hcl := e2 i _ _ hc hd
    exact .d _ _ (close_sound s.mem.obj (fun _ _ h => h) 8 c d v hcl (fun id hid b hb => ex_not s.mem (close_live 8 c d hcl id hid) (ht c (List.mem_of_getElem? hc) id hid) hb) hr))
  exact ⟨β, s.defers, s.size, m2.ext, m2.xold, m2.fresh, m2.inj, fun u => g2.R (s.env u), m2.obj, m2.pin⟩
theorem Weak.shutBox (b : Nat) (ids : List Nat) {fz : Bool} {cs : List LV} {ds : List DV} (hH : H b = .box fz cs) (hb : b ∉ ids) (h : optAll (cs.map (Eng.close (upds H (freezes H ids)) 8)) = some ds)
    (ht : ∀ c ∈ cs, ∀ id ∈ touch (upds H (freezes H ids)) 8 c, (upds H (freezes H ids) id).mut = false) : Weak w0 env H env (upd (upds H (freezes H ids)) b (.box fz (ds.map .d))) :=
  (Weak.freeze ids).trans (Weak.shut b (by rw [upds_freezes, if_neg hb]; exact hH) h ht)
theorem loopQ.weak {ι : Type} {E : ι → Env} {O : ι → Obs} {I : ι → Prop} {μ : ι → Nat} {i : ι} {env' : Env} {H' : Obs} (h : Weak w0 env H env' H') (k : loopQ w0 E O I μ i env' H') : loopQ w0 E O I μ i env H := by
  obtain ⟨j, hw, r⟩ := k
  exact ⟨j, h.trans hw, r⟩
theorem exWeak {ι : Type} {E : ι → Env} {O : ι → Obs} {I : ι → Prop} {env' : Env} {H' : Obs} (h : Weak w0 env H env' H') (k : ∃ i, Weak w0 env' H' (E i) (O i) ∧ I i) : ∃ i, Weak w0 env H (E i) (O i) ∧ I i := by
  obtain ⟨i, hw, r⟩ := k
  exact ⟨i, h.trans hw, r⟩
end
end Go.Eng
namespace Go.Eng
open Go.Proofs
attribute [local simp] runL stepL evalG evalOp opLV constLV putEnv dstOk upd upds Res.plain Res.cond Res.fail evalBin evalUn seqQ blockQ argsEnv lookL lookH RetIs memless freshL evalPick evalMin bval bok evalLen evalIn strip whenC guardOps guardC slotsOf
 runM foldS stepI stepM maskE wrIn lk renO lookN evalCall evalCallee optAll resLV resObj retLV retObj retsLV retsObj evalLoad evalIndexAddr evalField solid cellsD_agg cellsD_int cellsD_bool cellsD_str cellsD_sl cellsD_ro cellsD_fn cellsL_agg cellsL_dagg cellsL_int cellsL_bool cellsL_str cellsL_sl cellsL_fn cellsL_ow cellsL_bx cellsL_lfn cellsL_nl takeL takeD mkAgg allD eqD eqDs kindsAre kindIs LObj.live TK.isNone TK.agg TK.isBool TK.isStr TK.isStruct Op.operands Call.operands
 evalBuildSlice evalAppend elemsOf evalStore evalBuild fillL lookupF putL evalSlice bound evalConv elemsS freezes frozen loadR
 mkEnv_at mkObs_at close_d close_agg close_ow close_bx close_fn close_nl touch_d touch_agg touch_ow touch_bx touch_fn touch_nl ren_d ren_agg ren_bx ren_rp ren_ow ren_fn ren_nl ren_junk retQ_ret retQ2_ret condQ_bool Nm.d Df.d Ed.d nmsD dfsD strsD edsD retC_ret nm_eq df_eq take_map_len take_map_app
 nm_t nm_d nm_td df_t df_d df_td str_t str_d str_td ed_t ed_d ed_td
 evalAppendIn evalBuildSliceC evalCopyC shortL evalApart evalAppendC evalAppendZ evalAppendG evalCapC isOc TK.isInt close_oc touch_oc ren_oc cellsL_oc evalCut evalClear evalCopy evalMake evalWrap evalCap evalNil isNilC lenL isInp gorc gorc2
 mapOf findD keyEq keyOk evalMakeMap evalRange zeroD zeroDV argsG shutG outN lenv retG0_ret retG0_normal retG1_ret retGR_ret renO close_mp touch_mp ren_mp optAll_d optAll_d' touch_ds cellsL_mp cellsD_mp cellsL_dmp
 evalMapSet evalPtr TK.isPtr evalToArr firstL retN_ret retsQ rvarL close_bm touch_bm ren_bm cellsD_bm cellsL_bm cellsL_lbm
attribute [local simp] cutQ_normal cutQ_ret cutQ_exit
section
attribute [local simp] Res.cond Nd.d_eq nd_t nd_dr nd_td ndsD evalIndex retGC_ret
def tksD (l : List Tk) : DV := .sl (l.map Tk.d)
theorem tk_t : ∀ t : Tk, (cellsD t.d).length = 2 := fun _ => rfl
def psH (p : PS) : List (Nat × LObj) := [(0, .box false [.d (tksD p.l), .d (I64 p.e)])]
attribute [local simp] tksD psH
theorem upds_same (c : Prop) [Decidable c] (A B : LObj) (x : Nat) : upds (fun x => if x = 0 then A else B) (if c then [] else [(0, A)]) x = if x = 0 then A else B := by
 by_cases h : c <;> by_cases q : x = 0 <;> simp [h, q, upds, upd]
attribute [local simp] upds_same
theorem peek_none {p : PS} (h : ¬ p.e = 0 ∨ p.l = []) : p.peek = [] := by
 unfold PS.peek
 by_cases q : p.e = 0
 ·rcases h with h | h
  ·exact absurd q h
  ·rw [if_neg (by simpa using q), h]
 ·rw [if_pos q]
theorem peek_cons {p : PS} {t : Tk} {r : List Tk} (h : p.e = 0) (hl : p.l = t :: r) : p.peek = t.text := by
 unfold PS.peek
 rw [if_neg (by simpa using h), hl]
theorem is_iff {p : PS} {s : Str} : p.is s = true ↔ s ≠ [] ∧ p.peek = s := by simp [PS.is]
theorem took_is {p : PS} {s : Str} (h : p.is s = true) : p.took s = p.skip := if_pos h
theorem took_not {p : PS} {s : Str} (h : ¬ p.is s = true) : p.took s = p := if_neg h
theorem peek_ok (p : PS) : OkG Tryz.prog 73 [.bx 0 0] (psH p) (psH p) (.d (.str p.peek)) := by
 unfold psH
 refine OkG.one Tryz.func73 (by kernel_rfl) (c := _) rfl Tryz.ntmps73 (by simp) Tryz.results73 fun w0 X hp => ?_
 refine LWp.sz hT hW ?_
 simp
 refine LWp.seq ?_
 refine LWp.sz hT hW ?_
 simp
 refine LWp.iff ?_
 simp
 refine ⟨fun g => ?_, fun g1 g2 => ?_⟩
 ·refine LWp.sz hT hW ?_
  simp
  refine LWp.ret ?_
  simp
  exact Weak.to [2] [(0, 0)] (by decide) (by decide) (by simp [hp]) (by simp [peek_none g]) (by simp)
 ·refine LWp.skip ?_
  simp
  refine LWp.seq ?_
  obtain ⟨t, r, htr⟩ := List.exists_cons_of_ne_nil g2
  refine LWp.rz hT hW ?_
  simp [htr, Tk.d]
  refine LWp.ret ?_
  simp
  exact Weak.to [2] [(0, 0)] (by decide) (by decide) (by simp [hp]) (by simp [peek_cons g1 htr]) (by simp [htr])
theorem fail_ok (p : PS) (e : Int) : OkG Tryz.prog 74 [.bx 0 0, .d (I64 e)] (psH p) (psH (p.fail e)) (.tup []) := by
 unfold psH
 refine OkG.unit Tryz.func74 (by kernel_rfl) (c := _) rfl Tryz.ntmps74 (by simp) Tryz.results74 fun w0 X hp => ?_
 refine LWp.sz hT hW ?_
 simp
 refine LWp.iff ?_
 simp
 refine ⟨fun h0 => ?_, fun h0 => ?_⟩
 ·refine LWp.rz hT hW ?_
  simp
  exact Weak.to [] [(0, 0)] (by decide) (by decide) (by simp [hp]) (by simp) (by simp [PS.fail, h0])
 ·refine LWp.skip ?_
  simp
  exact Weak.to [] [(0, 0)] (by decide) (by decide) (by simp [hp]) (by simp) (by simp [PS.fail, h0])
theorem take_ok (p : PS) (s : Str) : OkG Tryz.prog 75 [.bx 0 0, .d (.str s)] (psH p) (psH (p.took s)) (.d (.bool (p.is s))) := by
 unfold psH
 refine OkG.one Tryz.func75 (by kernel_rfl) (c := _) rfl Tryz.ntmps75 (by simp) Tryz.results75 fun w0 X hp => ?_
 refine LWp.sz hT hW ?_
 simp
 refine LWp.seq ?_
 refine LWp.so hT hW (fun | 9 => some (.gen ⟨[(0, 0)], [], [], psH p, .d (.str p.peek)⟩) | _ => none) ?_
 simp
 refine ⟨fun _ => peek_ok p, ?_⟩
 refine LWp.iff ?_
 simp
 refine ⟨fun g => ?_, fun g1 g2 => ?_⟩
 ·refine LWp.sz hT hW ?_
  simp
  refine LWp.ret ?_
  simp
  have hn : ¬ p.is s = true := fun q => by
   obtain ⟨q1, q2⟩ := is_iff.1 q
   rcases g with g | g
   ·exact q1 g
   ·exact g q2
  exact Weak.to [4] [(0, 0)] (by decide) (by decide) (by simp [hp]) (by simp [hn]) (by simp [took_not hn])
 ·refine LWp.skip ?_
  simp
  refine LWp.seq ?_
  have hs : p.is s = true := is_iff.2 ⟨g1, by simpa using g2⟩
  have hl := is_len hs
  refine LWp.rz hT hW ?_
  simp
  refine ⟨⟨by omega, fun t _ => tk_t t⟩, ?_⟩
  refine LWp.sz hT hW ?_
  simp
  refine LWp.ret ?_
  simp
  exact Weak.to [4] [(0, 0)] (by decide) (by decide) (by simp [hp]) (by simp [hs]) (by simp [took_is hs, PS.skip])
theorem need_is {p : PS} {s : Str} (h : p.is s = true) : p.need s = p.took s := by unfold PS.need PS.took; rw [if_pos h, if_pos h]
theorem need_not {p : PS} {s : Str} (h : p.is s = false) : p.need s = (p.took s).fail 2 := by
 have h' : ¬ p.is s = true := by simp [h]
 rw [took_not h']; unfold PS.need; rw [if_neg h']
theorem name_is {p : PS} (h : isNameB p.peek = true) : nameP p = (p.peek, p.took p.peek) := by
 have : p.is p.peek = true := is_iff.2 ⟨fun e => (by rw [e] at h; cases h), rfl⟩
 rw [took_is this]; unfold nameP; rw [if_pos h]
theorem name_not {p : PS} (h : isNameB p.peek = false) : nameP p = ([], p.fail 2) := by unfold nameP; rw [if_neg (by simp [h])]
theorem need_ok (p : PS) (s : Str) : OkG Tryz.prog 78 [.bx 0 0, .d (.str s)] (psH p) (psH (p.need s)) (.tup []) := by
 unfold psH
 refine OkG.unit Tryz.func78 (by kernel_rfl) (c := _) rfl Tryz.ntmps78 (by simp) Tryz.results78 fun w0 X hp => ?_
 refine LWp.so hT hW (fun | 6 => some (.gen ⟨[(0, 0)], [], [], psH (p.took s), .d (.bool (p.is s))⟩) | _ => none) ?_
 simp
 refine ⟨take_ok p s, ?_⟩
 refine LWp.iff ?_
 simp
 refine ⟨fun h0 => ?_, fun h0 => ?_⟩
 ·have en := need_not h0
  refine LWp.ro hT hW (fun | 9 => some (.gen ⟨[(0, 0)], [], [], psH ((p.took s).fail 2), .tup []⟩) | _ => none) ?_
  simp
  refine ⟨fail_ok (p.took s) 2, ?_⟩
  exact Weak.to [] [(0, 0)] (by decide) (by decide) (by simp [hp]) (by simp) (by simp [en])
 ·have en := need_is h0
  refine LWp.skip ?_
  simp
  exact Weak.to [] [(0, 0)] (by decide) (by decide) (by simp [hp]) (by simp) (by simp [en])
theorem name_ok (p : PS) : OkG Tryz.prog 76 [.bx 0 0] (psH p) (psH (nameP p).2) (.d (.str (nameP p).1)) := by
 unfold psH
 refine OkG.one Tryz.func76 (by kernel_rfl) (c := _) rfl Tryz.ntmps76 (by simp) Tryz.results76 fun w0 X hp => ?_
 refine LWp.sz hT hW ?_
 simp
 refine LWp.so hT hW (fun | 5 => some (.gen ⟨[(0, 0)], [], [], psH p, .d (.str p.peek)⟩) | _ => none) ?_
 simp
 refine ⟨peek_ok p, ?_⟩
 refine LWp.seq ?_
 refine LWp.so hT hW (fun | 7 => some <| .plain ⟨.d (.bool (isNameB p.peek)), true⟩ | _ => none) ?_
 simp
 refine ⟨isName_ok p.peek, ?_⟩
 refine LWp.iff ?_
 simp
 refine ⟨fun h2 => ?_, fun h2 => ?_⟩
 ·refine LWp.so hT hW (fun | 10 => some (.gen ⟨[(0, 0)], [], [], psH (p.fail 2), .tup []⟩) | _ => none) ?_
  simp
  refine ⟨fail_ok p 2, ?_⟩
  refine LWp.sz hT hW ?_
  simp
  refine LWp.ret ?_
  simp
  exact Weak.to [2] [(0, 0)] (by decide) (by decide) (by simp [hp]) (by simp [name_not h2]) (by simp [name_not h2])
 ·refine LWp.skip ?_
  simp
  refine LWp.so hT hW (fun | 13 => some (.gen ⟨[(0, 0)], [], [], psH (p.took p.peek), .d (.bool (p.is p.peek))⟩) | _ => none) ?_
  simp
  refine ⟨take_ok p p.peek, ?_⟩
  refine LWp.sz hT hW ?_
  simp
  refine LWp.ret ?_
  simp
  exact Weak.to [2] [(0, 0)] (by decide) (by decide) (by simp [hp]) (by simp [name_is h2]) (by simp [name_is h2])
end
end Go.Eng
namespace Go.Proofs
open Go.Shelf
def Tryz.atoiLay_ren : Go.Shelf.Ren := ⟨fun | 172 => 115 | 244 => 144 | 245 => 145 | 247 => 165 | 279 => 166 | 280 => 167 | 281 => 168 | 282 => 169 | 287 => 187 | 316 => 188 | 171 => 66 | 205 => 189 | 321 => 196 | 322 => 197 | 243 => 102 | 246 => 134 | 283 => 156 | 284 => 157 | 285 => 158 | 286 => 159 | 129 => 130 | 317 => 178 | 318 => 179 | 319 => 180 | 320 => 181 | 337 => 193 | 338 => 194 | n => n, fun | 9 => 9 | 3 => 3 | 75 => 111 | 76 => 112 | 4 => 4 | 5 => 5 | 167 => 149 | 37 => 67 | 0 => 0 | 85 => 150 | 2 => 2 | 168 => 152 | 53 => 125 | 175 => 164 | 46 => 94 | 210 => 168 | 127 => 173 | 145 => 176 | 143 => 174 | 21 => 21 | 171 => 143 | 173 => 145 | 212 => 158 | 51 => 123 | 20 => 20 | 213 => 159 | 232 => 177 | 233 => 178 | 80 => 56 | n => n, fun | 15 => 5 | 16 => 6 | 17 => 4 | 18 => 7 | 19 => 8 | n => n⟩
theorem Tryz.atoiLay : Go.Proofs.Lays.n172 Tryz.prog Tryz.atoiLay_ren := {
  mixed := by kernel_rfl,
  f129 := Tryz.func130.trans (congrArg some (by kernel_rfl)),
  f171 := Tryz.func66.trans (congrArg some (by kernel_rfl)),
  f172 := Tryz.func115.trans (congrArg some (by kernel_rfl)),
  f205 := Tryz.func189.trans (congrArg some (by kernel_rfl)),
  f243 := Tryz.func102.trans (congrArg some (by kernel_rfl)),
  f244 := Tryz.func144.trans (congrArg some (by kernel_rfl)),
  f245 := Tryz.func145.trans (congrArg some (by kernel_rfl)),
  f246 := Tryz.func134.trans (congrArg some (by kernel_rfl)),
  f247 := Tryz.func165.trans (congrArg some (by kernel_rfl)),
  f279 := Tryz.func166.trans (congrArg some (by kernel_rfl)),
  f280 := Tryz.func167.trans (congrArg some (by kernel_rfl)),
  f281 := Tryz.func168.trans (congrArg some (by kernel_rfl)),
  f282 := Tryz.func169.trans (congrArg some (by kernel_rfl)),
  f283 := Tryz.func156.trans (congrArg some (by kernel_rfl)),
  f284 := Tryz.func157.trans (congrArg some (by kernel_rfl)),
  f285 := Tryz.func158.trans (congrArg some (by kernel_rfl)),
  f286 := Tryz.func159.trans (congrArg some (by kernel_rfl)),
  f287 := Tryz.func187.trans (congrArg some (by kernel_rfl)),
  f316 := Tryz.func188.trans (congrArg some (by kernel_rfl)),
  f317 := Tryz.func178.trans (congrArg some (by kernel_rfl)),
  f318 := Tryz.func179.trans (congrArg some (by kernel_rfl)),
  f319 := Tryz.func180.trans (congrArg some (by kernel_rfl)),
  f320 := Tryz.func181.trans (congrArg some (by kernel_rfl)),
  f321 := Tryz.func196.trans (congrArg some (by kernel_rfl)),
  f322 := Tryz.func197.trans (congrArg some (by kernel_rfl)),
  f337 := Tryz.func193.trans (congrArg some (by kernel_rfl)),
  f338 := Tryz.func194.trans (congrArg some (by kernel_rfl)),
  t0 := Tryz.underlying0,
  a0 := Tryz.isAgg0,
  z0 := Tryz.sizeOf0,
  v0 := Tryz.zeroValue0,
  t2 := Tryz.underlying2,
  a2 := Tryz.isAgg2,
  z2 := Tryz.sizeOf2,
  v2 := Tryz.zeroValue2,
  t3 := Tryz.underlying3,
  a3 := Tryz.isAgg3,
  z3 := Tryz.sizeOf3,
  v3 := Tryz.zeroValue3,
  t4 := Tryz.underlying4,
  a4 := Tryz.isAgg4,
  z4 := Tryz.sizeOf4,
  v4 := Tryz.zeroValue4,
  t5 := Tryz.underlying5,
  a5 := Tryz.isAgg5,
  z5 := Tryz.sizeOf5,
  v5 := Tryz.zeroValue5,
  t9 := Tryz.underlying9,
  a9 := Tryz.isAgg9,
  z9 := Tryz.sizeOf9,
  v9 := Tryz.zeroValue9,
  t20 := Tryz.underlying20,
  a20 := Tryz.isAgg20,
  z20 := Tryz.sizeOf20,
  v20 := Tryz.zeroValue20,
  t21 := Tryz.underlying21,
  a21 := Tryz.isAgg21,
  z21 := Tryz.sizeOf21,
  v21 := Tryz.zeroValue21,
  t37 := Tryz.underlying67,
  a37 := Tryz.isAgg67,
  z37 := Tryz.sizeOf67,
  v37 := Tryz.zeroValue67,
  t46 := Tryz.underlying94,
  a46 := Tryz.isAgg94,
  z46 := Tryz.sizeOf94,
  v46 := Tryz.zeroValue94,
  t51 := Tryz.underlying123,
  a51 := Tryz.isAgg123,
  z51 := Tryz.sizeOf123,
  v51 := Tryz.zeroValue123,
  t53 := Tryz.underlying125,
  a53 := Tryz.isAgg125,
  z53 := Tryz.sizeOf125,
  v53 := Tryz.zeroValue125,
  t75 := Tryz.underlying111,
  a75 := Tryz.isAgg111,
  z75 := Tryz.sizeOf111,
  v75 := Tryz.zeroValue111,
  t76 := Tryz.underlying112,
  a76 := Tryz.isAgg112,
  z76 := Tryz.sizeOf112,
  v76 := Tryz.zeroValue112,
  t85 := Tryz.underlying150,
  a85 := Tryz.isAgg150,
  z85 := Tryz.sizeOf150,
  v85 := Tryz.zeroValue150,
  t127 := Tryz.underlying173,
  a127 := Tryz.isAgg173,
  z127 := Tryz.sizeOf173,
  v127 := Tryz.zeroValue173,
  t143 := Tryz.underlying174,
  a143 := Tryz.isAgg174,
  z143 := Tryz.sizeOf174,
  v143 := Tryz.zeroValue174,
  t145 := Tryz.underlying176,
  a145 := Tryz.isAgg176,
  z145 := Tryz.sizeOf176,
  v145 := Tryz.zeroValue176,
  t167 := Tryz.underlying149,
  a167 := Tryz.isAgg149,
  z167 := Tryz.sizeOf149,
  v167 := Tryz.zeroValue149,
  t168 := Tryz.underlying152,
  a168 := Tryz.isAgg152,
  z168 := Tryz.sizeOf152,
  v168 := Tryz.zeroValue152,
  t171 := Tryz.underlying143,
  a171 := Tryz.isAgg143,
  z171 := Tryz.sizeOf143,
  v171 := Tryz.zeroValue143,
  t173 := Tryz.underlying145,
  a173 := Tryz.isAgg145,
  z173 := Tryz.sizeOf145,
  v173 := Tryz.zeroValue145,
  t175 := Tryz.underlying164,
  a175 := Tryz.isAgg164,
  z175 := Tryz.sizeOf164,
  v175 := Tryz.zeroValue164,
  t210 := Tryz.underlying168,
  a210 := Tryz.isAgg168,
  z210 := Tryz.sizeOf168,
  v210 := Tryz.zeroValue168,
  t212 := Tryz.underlying158,
  a212 := Tryz.isAgg158,
  z212 := Tryz.sizeOf158,
  v212 := Tryz.zeroValue158,
  t213 := Tryz.underlying159,
  a213 := Tryz.isAgg159,
  z213 := Tryz.sizeOf159,
  t232 := Tryz.underlying177,
  a232 := Tryz.isAgg177,
  z232 := Tryz.sizeOf177,
  v232 := Tryz.zeroValue177,
  t233 := Tryz.underlying178,
  a233 := Tryz.isAgg178,
  z233 := Tryz.sizeOf178,
  v233 := Tryz.zeroValue178,
  g15 := by kernel_rfl,
  g16 := by kernel_rfl,
  g17 := by kernel_rfl,
  g18 := by kernel_rfl,
  g19 := by kernel_rfl }
end Go.Proofs
namespace Go.Eng
open Go.Proofs
attribute [local simp] runL stepL evalG evalOp opLV constLV putEnv dstOk upd upds Res.plain Res.cond Res.fail evalBin evalUn seqQ blockQ argsEnv lookL lookH RetIs memless freshL evalPick evalMin bval bok evalLen evalIn strip whenC guardOps guardC slotsOf
 runM foldS stepI stepM maskE wrIn lk renO lookN evalCall evalCallee optAll resLV resObj retLV retObj retsLV retsObj evalLoad evalIndexAddr evalField solid cellsD_agg cellsD_int cellsD_bool cellsD_str cellsD_sl cellsD_ro cellsD_fn cellsL_agg cellsL_dagg cellsL_int cellsL_bool cellsL_str cellsL_sl cellsL_fn cellsL_ow cellsL_bx cellsL_lfn cellsL_nl takeL takeD mkAgg allD eqD eqDs kindsAre kindIs LObj.live TK.isNone TK.agg TK.isBool TK.isStr TK.isStruct Op.operands Call.operands
 evalBuildSlice evalAppend elemsOf evalStore evalBuild fillL lookupF putL evalSlice bound evalConv elemsS freezes frozen loadR
 mkEnv_at mkObs_at close_d close_agg close_ow close_bx close_fn close_nl touch_d touch_agg touch_ow touch_bx touch_fn touch_nl ren_d ren_agg ren_bx ren_rp ren_ow ren_fn ren_nl ren_junk retQ_ret retQ2_ret condQ_bool Nm.d Df.d Ed.d nmsD dfsD strsD edsD retC_ret nm_eq df_eq take_map_len take_map_app
 nm_t nm_d nm_td df_t df_d df_td str_t str_d str_td ed_t ed_d ed_td
 evalAppendIn evalBuildSliceC evalCopyC shortL evalApart evalAppendC evalAppendZ evalAppendG evalCapC isOc TK.isInt close_oc touch_oc ren_oc cellsL_oc evalCut evalClear evalCopy evalMake evalWrap evalCap evalNil isNilC lenL isInp gorc gorc2
 mapOf findD keyEq keyOk evalMakeMap evalRange zeroD zeroDV argsG shutG outN lenv retG0_ret retG0_normal retG1_ret retGR_ret renO close_mp touch_mp ren_mp optAll_d optAll_d' touch_ds cellsL_mp cellsD_mp cellsL_dmp
 evalMapSet evalPtr TK.isPtr evalToArr firstL retN_ret retsQ rvarL close_bm touch_bm ren_bm cellsD_bm cellsL_bm cellsL_lbm
attribute [local simp] cutQ_normal cutQ_ret cutQ_exit
section
attribute [local simp] Res.cond Nd.d_eq nd_t nd_dr nd_td ndsD evalIndex retGC_ret tksD psH upds_same
theorem digit_val {c : UInt8} (h : digitB c = true) : Lib.digitVal c = some (c.toNat - 48) ∧ 48 ≤ c.toNat ∧ c.toNat ≤ 57 := by
 rw [digitB_eq] at h
 simp only [Bool.and_eq_true, decide_eq_true_eq] at h
 have h1 : 48 ≤ c.toNat := by omega
 have h2 : c.toNat ≤ 57 := by omega
 exact ⟨by unfold Lib.digitVal; rw [if_pos ⟨h1, h2⟩], h1, h2⟩
theorem dec_fold : ∀ (s : Str) (acc : Nat), (∀ c ∈ s, digitB c = true) → ∃ m : Nat, Lib.decFrom acc s = some m ∧ (m : Int) = s.foldl (fun n c => 10 * n + ((c.toNat : Int) - 48)) (acc : Int)
 | [], acc, _ => ⟨acc, rfl, rfl⟩
 | c :: r, acc, h => by
  obtain ⟨h1, h2, h3⟩ := digit_val (h c (List.mem_cons_self ..))
  obtain ⟨m, e1, e2⟩ := dec_fold r (acc * 10 + (c.toNat - 48)) fun x hx => h x (List.mem_cons_of_mem _ hx)
  refine ⟨m, ?_, ?_⟩
  ·unfold Lib.decFrom; rw [h1]; exact e1
  ·rw [e2, List.foldl_cons]
   congr 1
   omega
theorem atoi_digits {s : Str} (h0 : s ≠ []) (h : ∀ c ∈ s, digitB c = true) : Lib.atoi s = some (valS s) := by
 cases s with
 | nil => exact absurd rfl h0
 | cons c r =>
  obtain ⟨m, e1, e2⟩ := dec_fold (c :: r) 0 h
  obtain ⟨_, d1, d2⟩ := digit_val (h c (List.mem_cons_self ..))
  have n1 : ¬ (c == 45) = true := fun q => (by have e : c = 45 := (by simpa using q); subst e; exact absurd d1 (by decide))
  have n2 : ¬ (c == 43) = true := fun q => (by have e : c = 43 := (by simpa using q); subst e; exact absurd d1 (by decide))
  show (if (c == 45) = true then (Lib.decNat r).map (fun m : Nat => -(m : Int)) else if (c == 43) = true then (Lib.decNat r).map (fun m : Nat => (m : Int)) else (Lib.decNat (c :: r)).map (fun m : Nat => (m : Int))) = some (valS (c :: r))
  rw [if_neg n1, if_neg n2]
  unfold Lib.decNat
  rw [if_neg (by simp), e1, Option.map_some, e2]
  rfl
theorem tok_digits {s : Str} (h : tokB s) (hd : digitB (s[0]?.getD 0) = true) : s.length ≤ 3 ∧ ∀ c ∈ s, digitB c = true := by
 obtain ⟨h0, h1⟩ := h
 cases s with
 | nil => exact absurd rfl h0
 | cons c r =>
  have hd : digitB c = true := hd
  obtain ⟨_, d1, d2⟩ := digit_val hd
  have nl : ¬ letterB c = true := fun q => by
   rw [letterB_eq] at q
   simp only [Bool.and_eq_true, decide_eq_true_eq] at q
   omega
  have n36 : ¬ c = 36 := fun q => by subst q; exact absurd d1 (by decide)
  rw [next_eq, if_neg nl, if_neg n36, if_pos hd] at h1
  by_cases q : runP digitB (c :: r) ≤ 3
  ·rw [if_pos q] at h1
   refine ⟨by omega, fun x hx => ?_⟩
   obtain ⟨i, hi, rfl⟩ := List.getElem_of_mem hx
   exact runP_all hi (by omega)
  ·rw [if_neg q] at h1; simp at h1
theorem tok_len {s : Str} (h : tokB s) : s.length ≤ 17 := by
 obtain ⟨h0, h1⟩ := h
 cases s with
 | nil => simp
 | cons c r =>
  rw [← h1, next_eq]
  have hw : ∀ t : Str, wordN t ≤ 16 := fun t => by
   rcases Nat.eq_zero_or_pos (wordN t) with q | q
   ·omega
   ·obtain ⟨_, _, _, _, _, q2⟩ := wordN_pos q
    exact q2
  have a1 := hw (c :: r)
  have a2 := hw r
  repeat' split
  all_goals omega
theorem peek_tl {p : PS} (h : GoodT p.l) : p.peek.length ≤ 17 := by
 by_cases q : p.peek = []
 ·rw [q]; simp
 ·exact tok_len (peek_tok h q)
theorem Atoi_ok (s : Str) (n : Int) (hl : s.length ≤ 18) (h : Lib.atoi s = some n) : Ok Tryz.prog 115 [.str s] ⟨.tup [.d (I64 n), .d (.val .nilIface)], true⟩ := by
 refine ⟨⟨_, Tryz.func115, by kernel_rfl, rfl⟩, fun w X vs hX hr => ?_⟩
 match vs, hr.1 with
 | [u], _ =>
  have h1 := hr.2 0 _ _ rfl rfl
  cases h1
  refine (Go.Proofs.Any.strconv_Atoi Tryz.atoiLay ⟨s.toArray⟩ n (by simpa [ByteArray.size] using hl) (by simpa using h) w).mono ?_
  rintro e w' ⟨rfl, t, rfl⟩
  refine ⟨_, rfl, ?_, ?_⟩
  ·refine ⟨by unfold Lib.bytesWorld World.freeze; split <;> rfl, by unfold Lib.bytesWorld World.freeze; split <;> rfl, by unfold Lib.bytesWorld World.freeze; split <;> rfl, by rw [Lib.bytesWorld_size]; omega, fun k hk => Lib.bytesWorld_at_old _ _ _ k hk, ?_⟩
   unfold Lib.bytesWorld World.freeze
   split <;> exact Nat.le_succ w.drawn
  ·refine ⟨[.int .i64 n, .nilIface], fun _ => none, rfl, rfl, fun _ _ _ q => (by cases q), fun i r v hi hv => ?_⟩
   match i, hi with
   | 0, hi => cases hi; cases hv; exact .int _ _
   | 1, hi => cases hi; cases hv; exact .val _ rfl
theorem CutPrefix1_ok (s t : Str) (hl : s.length ≤ 9223372036854775807) (ht : t.length ≤ 9223372036854775807) : Ok Tryz.prog 186 [.str s, .str t] ⟨.tup [.d (.str (if s.take t.length = t then s.drop t.length else s)), .d (.bool (decide (s.take t.length = t)))], true⟩ := by
 refine Ok.two Tryz.func186 (by kernel_rfl) (c := _) rfl Tryz.ntmps186 (by simp) Tryz.results186 rfl fun w0 X hp => ?_
 refine LWp.sz hT hW ?_
 simp
 refine LWp.seq ?_
 refine LWp.seq ?_
 have h := HasPrefix1_ok s t hl ht
 refine LWp.ro hT hW (fun | 8 => some <| .plain ⟨.d (.bool (decide (s.take t.length = t))), true⟩ | _ => none) ?_
 simp
 refine ⟨h, ?_⟩
 refine LWp.iff ?_
 simp
 refine ⟨fun h1 => ?_, fun h1 => ?_⟩
 ·refine LWp.sz hT hW ?_
  simp
  refine LWp.ret ?_
  simp
  exact ⟨fun q => absurd q h1, h1⟩
 ·refine LWp.skip ?_
  simp
  refine LWp.seq ?_
  have hle : t.length ≤ s.length := by have e := congrArg List.length h1; rw [List.length_take] at e; omega
  refine LWp.rz hT hW ?_
  simp
  refine ⟨by omega, ?_⟩
  refine LWp.ret ?_
  simp
  exact ⟨fun q => absurd h1 q, h1⟩
theorem CutPrefix_ok (s t : Str) (hl : s.length ≤ 9223372036854775807) (ht : t.length ≤ 9223372036854775807) : Ok Tryz.prog 164 [.str s, .str t] ⟨.tup [.d (.str (if s.take t.length = t then s.drop t.length else s)), .d (.bool (decide (s.take t.length = t)))], true⟩ := by
 refine Ok.two Tryz.func164 (by kernel_rfl) (c := _) rfl Tryz.ntmps164 (by simp) Tryz.results164 rfl fun w0 X hp => ?_
 refine LWp.sz hT hW ?_
 simp
 refine LWp.seq ?_
 have h := CutPrefix1_ok s t hl ht
 refine LWp.ro hT hW (fun | 8 => some <| .plain ⟨.tup [.d (.str (if s.take t.length = t then s.drop t.length else s)), .d (.bool (decide (s.take t.length = t)))], true⟩ | _ => none) ?_
 simp [evalExtract]
 refine ⟨h, ?_⟩
 refine LWp.ret ?_
 simp
theorem local_is {p : PS} (h : p.peek.take 1 = [36]) : p.peek = 36 :: p.peek.drop 1 ∧ localP p = (p.peek.drop 1, p.took p.peek) := by
 cases e : p.peek with
 | nil => rw [e] at h; cases h
 | cons c r =>
  rw [e] at h
  have hc : c = 36 := by simpa using h
  subst hc
  have hi : p.is (36 :: r) = true := is_iff.2 ⟨by simp, e⟩
  refine ⟨rfl, ?_⟩
  rw [took_is hi]
  unfold localP
  rw [e]
  rfl
theorem local_not {p : PS} (h : ¬ p.peek.take 1 = [36]) : localP p = ([], p.fail 2) := by
 unfold localP
 split
 ·rename_i r e
  rw [e] at h; exact absurd rfl h
 ·rfl
theorem num_not {k : Int} {p : PS} (h : p.peek = [] ∨ digitB (p.peek[0]?.getD 0) = false) : numeralP k p = (0, p.fail 2) := by
 unfold numeralP
 split
 ·rfl
 ·rename_i c r e
  rw [e] at h
  rcases h with h | h
  ·cases h
  ·have h : digitB c = false := h
   rw [if_neg (by simp [h])]
theorem num_out {k : Int} {p : PS} (h0 : ¬ p.peek = []) (h1 : digitB (p.peek[0]?.getD 0) = true) (h2 : valS p.peek < loAt k ∨ hiAt k < valS p.peek) : numeralP k p = (0, p.fail 5) := by
 unfold numeralP
 split
 ·rename_i e; exact absurd e h0
 ·rename_i c r e
  rw [e] at h1 h2
  have h1 : digitB c = true := h1
  rw [if_pos h1, if_pos h2]
theorem num_in {k : Int} {p : PS} (h0 : ¬ p.peek = []) (h1 : digitB (p.peek[0]?.getD 0) = true) (h2 : ¬ (valS p.peek < loAt k ∨ hiAt k < valS p.peek)) : numeralP k p = (valS p.peek, p.took p.peek) := by
 have hi : p.is p.peek = true := is_iff.2 ⟨h0, rfl⟩
 rw [took_is hi]
 unfold numeralP
 split
 ·rename_i e; exact absurd e h0
 ·rename_i c r e
  rw [e] at h1 h2
  have h1 : digitB c = true := h1
  rw [if_pos h1, if_neg h2, e]
theorem local_ok (p : PS) (hg : GoodT p.l) : OkG Tryz.prog 142 [.bx 0 0] (psH p) (psH (localP p).2) (.d (.str (localP p).1)) := by
 unfold psH
 refine OkG.one Tryz.func142 (by kernel_rfl) (c := _) rfl Tryz.ntmps142 (by simp) Tryz.results142 fun w0 X hp => ?_
 refine LWp.sz hT hW ?_
 simp
 refine LWp.seq ?_
 have hk := peek_tl hg
 have hc := CutPrefix_ok p.peek [36] (by omega) (by decide)
 refine LWp.ro hT hW (fun | 7 => some (.gen ⟨[(0, 0)], [], [], psH p, .d (.str p.peek)⟩) | 8 => some <| .plain ⟨.tup [.d (.str (if p.peek.take 1 = [36] then p.peek.drop 1 else p.peek)), .d (.bool (decide (p.peek.take 1 = [36])))], true⟩ | _ => none) ?_
 simp [evalExtract]
 refine ⟨⟨peek_ok p, by simpa using hc⟩, ?_⟩
 refine LWp.seq ?_
 refine LWp.sz hT hW ?_
 simp
 refine LWp.iff ?_
 simp
 refine ⟨fun h2 => ?_, fun h2 => ?_⟩
 ·refine LWp.so hT hW (fun | 14 => some (.gen ⟨[(0, 0)], [], [], psH (p.fail 2), .tup []⟩) | _ => none) ?_
  simp
  refine ⟨fail_ok p 2, ?_⟩
  refine LWp.sz hT hW ?_
  simp
  refine LWp.ret ?_
  simp
  exact Weak.to [2] [(0, 0)] (by decide) (by decide) (by simp [hp]) (by simp [local_not h2]) (by simp [local_not h2])
 ·refine LWp.skip ?_
  simp
  refine LWp.seq ?_
  obtain ⟨e1, e2⟩ := local_is h2
  have e3 : 36 :: p.peek.tail = p.peek := by rw [← List.drop_one]; exact e1.symm
  have ht := take_ok p p.peek
  have hl3 := congrArg List.length e3
  refine LWp.ro hT hW (fun | 18 => some (.gen ⟨[(0, 0)], [], [], psH (p.took p.peek), .d (.bool (p.is p.peek))⟩) | _ => none) ?_
  simp [h2]
  refine ⟨⟨by simp at hl3; omega, by rw [e3]; exact ht⟩, ?_⟩
  refine LWp.sz hT hW ?_
  simp
  refine LWp.ret ?_
  simp
  exact Weak.to [2] [(0, 0)] (by decide) (by decide) (by simp [hp]) (by simp [h2, e2]) (by simp [e2])
theorem numeral_ok (p : PS) (k : Int) (hg : GoodT p.l) (hk : 0 ≤ k ∧ k < 37) : OkG Tryz.prog 80 [.bx 0 0, .d (I64 k)] (psH p) (psH (numeralP k p).2) (.d (I64 (numeralP k p).1)) := by
 unfold psH
 refine OkG.one Tryz.func80 (by kernel_rfl) (c := _) rfl Tryz.ntmps80 (by simp) Tryz.results80 fun w0 X hp => ?_
 refine LWp.sz hT hW ?_
 simp
 refine LWp.so hT hW (fun | 9 => some (.gen ⟨[(0, 0)], [], [], psH p, .d (.str p.peek)⟩) | _ => none) ?_
 simp
 refine ⟨peek_ok p, ?_⟩
 refine LWp.seq ?_
 refine LWp.seq ?_
 have hd := digit_ok (p.peek[0]?.getD 0)
 refine LWp.ro hT hW (fun | 15 => some <| .plain ⟨.d (.bool (digitB (p.peek[0]?.getD 0))), true⟩ | _ => none) ?_
 simp
 refine ⟨⟨fun h => List.length_pos_iff.2 h, fun _ => hd⟩, ?_⟩
 refine LWp.iff ?_
 simp
 refine ⟨fun g => ?_, fun g1 g2 => ?_⟩
 ·refine LWp.so hT hW (fun | 19 => some (.gen ⟨[(0, 0)], [], [], psH (p.fail 2), .tup []⟩) | _ => none) ?_
  simp
  refine ⟨fail_ok p 2, ?_⟩
  refine LWp.sz hT hW ?_
  simp
  refine LWp.ret ?_
  simp
  have e := num_not (k := k) g
  exact Weak.to [4] [(0, 0)] (by decide) (by decide) (by simp [hp]) (by simp [e]) (by simp [e])
 ·refine LWp.skip ?_
  simp
  refine LWp.seq ?_
  obtain ⟨hl, hds⟩ := tok_digits (peek_tok hg g1) g2
  have ha := Atoi_ok p.peek (valS p.peek) (by omega) (atoi_digits g1 hds)
  refine LWp.ro hT hW (fun | 22 => some <| .plain ⟨.tup [.d (I64 (valS p.peek)), .d (.val .nilIface)], true⟩ | _ => none) ?_
  simp [evalExtract]
  refine ⟨ha, ?_⟩
  refine LWp.seq ?_
  refine LWp.seq ?_
  have hg1 := glob1_lo hk
  have hg2 := glob1_hi hk
  have hg3 := glob1_len
  refine LWp.rz hT hW ?_
  simp [hg1, hg2]
  refine ⟨⟨⟨⟨hk, by omega⟩, fun _ => hk⟩, fun _ => by omega⟩, ?_⟩
  refine LWp.iff ?_
  simp
  refine ⟨fun b => ?_, fun b1 b2 => ?_⟩
  ·refine LWp.so hT hW (fun | 40 => some (.gen ⟨[(0, 0)], [], [], psH (p.fail 5), .tup []⟩) | _ => none) ?_
   simp
   refine ⟨fail_ok p 5, ?_⟩
   refine LWp.sz hT hW ?_
   simp
   refine LWp.ret ?_
   simp
   have e := num_out (k := k) g1 g2 b
   exact Weak.to [4] [(0, 0)] (by decide) (by decide) (by simp [hp]) (by simp [e]) (by simp [e])
  ·refine LWp.skip ?_
   simp
   refine LWp.so hT hW (fun | 43 => some (.gen ⟨[(0, 0)], [], [], psH (p.took p.peek), .d (.bool (p.is p.peek))⟩) | _ => none) ?_
   simp
   refine ⟨take_ok p p.peek, ?_⟩
   refine LWp.sz hT hW ?_
   simp
   refine LWp.ret ?_
   simp
   have e := num_in (k := k) g1 g2 (by omega)
   exact Weak.to [4] [(0, 0)] (by decide) (by decide) (by simp [hp]) (by simp [e]) (by simp [e])
theorem num_range {k : Int} {p : PS} (h : GoodT p.l) (hk : loAt k ≤ 0 ∧ 0 ≤ hiAt k ∧ -999 ≤ loAt k ∧ hiAt k ≤ 999) : -999 ≤ (numeralP k p).1 ∧ (numeralP k p).1 ≤ 999 := by
 by_cases q1 : p.peek = [] ∨ digitB (p.peek[0]?.getD 0) = false
 ·rw [num_not q1]; simp
 ·have q2 : ¬ p.peek = [] := fun e => q1 (.inl e)
  have q3 : digitB (p.peek[0]?.getD 0) = true := by
   cases e : digitB (p.peek[0]?.getD 0) with
   | true => rfl
   | false => exact absurd (.inr e) q1
  by_cases q4 : valS p.peek < loAt k ∨ hiAt k < valS p.peek
  ·rw [num_out q2 q3 q4]; simp
  ·rw [num_in q2 q3 q4]; simp only; omega
theorem number_neg {p : PS} (h : p.is [45] = true) : numberP p = (-(numeralP 0 (p.took [45])).1, (numeralP 0 (p.took [45])).2) := by
 rw [took_is h]; unfold numberP; rw [if_pos h]
theorem number_pos {p : PS} (h : p.is [45] = false) : numberP p = numeralP 0 (p.took [45]) := by
 have h' : ¬ p.is [45] = true := by simp [h]
 rw [took_not h']; unfold numberP; rw [if_neg h']
theorem good_took {p : PS} {s : Str} (h : GoodT p.l) : GoodT (p.took s).l := by
 unfold PS.took; split
 ·exact good_skip h
 ·exact h
theorem number_ok (p : PS) (hg : GoodT p.l) : OkG Tryz.prog 79 [.bx 0 0] (psH p) (psH (numberP p).2) (.d (I64 (numberP p).1)) := by
 unfold psH
 refine OkG.one Tryz.func79 (by kernel_rfl) (c := _) rfl Tryz.ntmps79 (by simp) Tryz.results79 fun w0 X hp => ?_
 refine LWp.sz hT hW ?_
 simp
 refine LWp.seq ?_
 refine LWp.so hT hW (fun | 4 => some (.gen ⟨[(0, 0)], [], [], psH (p.took [45]), .d (.bool (p.is [45]))⟩) | _ => none) ?_
 simp
 refine ⟨take_ok p [45], ?_⟩
 refine LWp.iff ?_
 simp
 refine ⟨fun h1 => ?_, fun h1 => ?_⟩
 ·refine LWp.seq ?_
  have hn := numeral_ok (p.took [45]) 0 (good_took hg) (by decide)
  have hr := num_range (k := 0) (good_took (s := [45]) hg) (by decide)
  refine LWp.ro hT hW (fun | 6 => some (.gen ⟨[(0, 0)], [], [], psH (numeralP 0 (p.took [45])).2, .d (I64 (numeralP 0 (p.took [45])).1)⟩) | _ => none) ?_
  simp
  refine ⟨⟨hn, by omega⟩, ?_⟩
  refine LWp.ret ?_
  simp
  have e := number_neg h1
  exact Weak.to [2] [(0, 0)] (by decide) (by decide) (by simp [hp]) (by simp [e]) (by simp [e])
 ·refine LWp.skip ?_
  simp
  refine LWp.seq ?_
  have hn := numeral_ok (p.took [45]) 0 (good_took hg) (by decide)
  refine LWp.ro hT hW (fun | 9 => some (.gen ⟨[(0, 0)], [], [], psH (numeralP 0 (p.took [45])).2, .d (I64 (numeralP 0 (p.took [45])).1)⟩) | _ => none) ?_
  simp
  refine ⟨hn, ?_⟩
  refine LWp.ret ?_
  simp
  have e := number_pos h1
  exact Weak.to [2] [(0, 0)] (by decide) (by decide) (by simp [hp]) (by simp [e]) (by simp [e])
end
open Go.Proofs
section
attribute [local simp] Res.cond Nd.d_eq nd_t nd_dr nd_td ndsD evalIndex retGC_ret tksD psH upds_same
theorem place_dot {p : PS} (h : (nameP p).2.is [46] = true) : placeP p = (.mk 35 ((nameP p).1 ++ 46 :: (nameP ((nameP p).2.took [46])).1) 0 [], (nameP ((nameP p).2.took [46])).2) := by
 rw [took_is h]; unfold placeP; rw [if_pos h]
theorem place_plain {p : PS} (h : (nameP p).2.is [46] = false) : placeP p = (.mk 34 (nameP p).1 0 [], (nameP p).2.took [46]) := by
 have h' : ¬ (nameP p).2.is [46] = true := by simp [h]
 rw [took_not h']; unfold placeP; rw [if_neg h']
theorem name_tl {p : PS} (h : GoodT p.l) : (nameP p).1.length ≤ 17 := by
 unfold nameP; split
 ·exact peek_tl h
 ·simp
theorem place_ok (p : PS) (hg : GoodT p.l) : OkG Tryz.prog 143 [.bx 0 0] (psH p) (psH (placeP p).2) (.d (placeP p).1.d) := by
 unfold psH
 refine OkG.cell hT Tryz.func143 (by kernel_rfl) (c := _) rfl Tryz.ntmps143 (by simp) Tryz.results143 fun w0 X hp => ?_
 refine LWp.sz hT hW ?_
 simp
 refine LWp.so hT hW (fun | 5 => some (.gen ⟨[(0, 0)], [], [], psH (nameP p).2, .d (.str (nameP p).1)⟩) | _ => none) ?_
 simp
 refine ⟨name_ok p, ?_⟩
 refine LWp.seq ?_
 refine LWp.so hT hW (fun | 8 => some (.gen ⟨[(0, 0)], [], [], psH ((nameP p).2.took [46]), .d (.bool ((nameP p).2.is [46]))⟩) | _ => none) ?_
 simp
 refine ⟨take_ok (nameP p).2 [46], ?_⟩
 refine LWp.iff ?_
 simp
 refine ⟨fun h2 => ?_, fun h2 => ?_⟩
 ·have l1 := name_tl hg
  have l2 := name_tl (p := (nameP p).2.took [46]) (good_took (nameP_good hg).2.1)
  refine LWp.regAny hT hW hMixed (lk [[],[0],[0,1],[],[3],[0,1,2,3,4],[0,1,2,3,4,5],[0,1,2,3,4,5,6]]) (lk [[0],[0],[0],[],[],[],[],[]]) (lk [[],[],[],[],[0],[],[],[3]]) (by kernel_rfl) (fun | 13 => some (.gen ⟨[(0, 0)], [], [], psH (nameP ((nameP p).2.took [46])).2, .d (.str (nameP ((nameP p).2.took [46])).1)⟩) | _ => none) (by intro d; first | exact ⟨rfl, fun _ h => h⟩ | (split <;> exact ⟨rfl, fun _ h => h⟩)) ?_
  simp
  refine ⟨⟨⟨by omega, name_ok _⟩, by omega⟩, ?_⟩
  refine LWp.sz hT hW ?_
  simp
  refine LWp.ret ?_
  simp
  have e := place_dot h2
  refine Weak.closed (x := (placeP p).1.d) (by simp [e]) ?_
  simp
  exact Weak.to [0] [(0, 0)] (by decide) (by decide) (by simp [hp]) (by simp) (by simp [e])
 ·refine LWp.skip ?_
  simp
  refine LWp.sz hT hW ?_
  simp
  refine LWp.ret ?_
  simp
  have e := place_plain h2
  refine Weak.closed (x := (placeP p).1.d) (by simp [e]) ?_
  simp
  exact Weak.to [0] [(0, 0)] (by decide) (by decide) (by simp [hp]) (by simp) (by simp [e])
def opD (o : Str × Int) : DV := .agg [.str o.1, I64 o.2]
theorem ops_chunks : chunksD 6 2 glob2 = opsL.map opD := by kernel_rfl
def opH (p : PS) (lv : Int) : List (Nat × LObj) := [(0, .box false [.d (tksD p.l), .d (I64 p.e)]), (1, .box false [.d (I64 lv)]), (2, .box false [.bx 0 0])]
def opQ (p : PS) (lv : Int) (o : Str × Int) : Bool := decide (o.2 = lv) && decide (o.1 = p.peek)
attribute [local simp] opH opD
theorem op1_ok (p : PS) (lv : Int) (o : Str × Int) : OkG Tryz.prog 185 [.d (opD o), .bx 1 0, .bx 2 0] (opH p lv) (opH p lv) (.d (.bool (opQ p lv o))) := by
 unfold opH
 refine OkG.one Tryz.func185 (by kernel_rfl) (c := _) rfl Tryz.ntmps185 (by simp) Tryz.results185 fun w0 X hp => ?_
 refine LWp.sz hT hW ?_
 simp
 refine LWp.seq ?_
 refine LWp.regAny hT hW hMixed (lk [[],[0],[],[0,1,2],[0,1,2,3],[0,1,2,3,4],[0,1,2,3,4,5],[0,1,2,3,4],[0,1,2,3,4,7],[0,1,2,3,4,5,6,7,8],[0,1,2,3,4,5,6,7,8,9],[0,1,2,3,4,5,6,7,8,9,10]]) (lk [[],[],[],[],[],[0],[0],[],[],[],[],[]]) (lk [[],[],[],[],[],[],[],[],[0],[],[],[]]) (by kernel_rfl) (fun | 13 => some (.gen ⟨[(0, 0)], [], [], psH p, .d (.str p.peek)⟩) | _ => none) (by intro d; first | exact ⟨rfl, fun _ h => h⟩ | (split <;> exact ⟨rfl, fun _ h => h⟩)) ?_
 simp
 refine ⟨fun _ => peek_ok p, ?_⟩
 refine LWp.ret ?_
 simp
 by_cases hq : o.2 = lv
 ·exact Weak.to [4] [(0, 0), (1, 1), (2, 2)] (by decide) (by decide) (by simp [hp]) (by simp [hq, opQ, Bool.beq_eq_decide_eq]) (by simp [hq])
 ·exact Weak.to [4] [(0, 0), (1, 1), (2, 2)] (by decide) (by decide) (by simp [hp]) (by simp [hq, opQ]) (by simp [hq])
theorem IndexOp_ok (p : PS) (lv : Int) (l : List (Str × Int)) : OkG Tryz.prog 184 [.d (.sl (l.map opD)), .fn 185 [.bx 1 0, .bx 2 0]] (opH p lv) (opH p lv) (.d (I64 (idxI (opQ p lv) l))) := by
 unfold opH
 refine OkG.one Tryz.func184 (by kernel_rfl) (c := _) rfl Tryz.ntmps184 (by simp) Tryz.results184 fun w0 X hp => ?_
 refine LWp.len (t := 0) rfl fun hlen => ?_
 simp at hlen
 refine LWp.sz hT hW ?_
 simp
 refine LWp.seq ?_
 refine LWp.sz hT hW ?_
 simp
 refine LWp.block ?_
 refine LWp.loopW (ι := Nat) (fun i => mkEnv [(0, .d (.sl (l.map opD))), (1, .fn 185 [.bx 1 0, .bx 2 0]), (7, .d (I64 l.length)), (8, .d (I64 i))]) (fun i => mkObs [(0, .box false [.d (tksD p.l), .d (I64 p.e)]), (1, .box false [.d (I64 lv)]), (2, .box false [.bx 0 0])]) (fun i => i ≤ l.length ∧ Pre (opQ p lv) l i) (fun i => l.length - i) 0 (Weak.to [0, 1, 7, 8] [(0, 0), (1, 1), (2, 2)] (by decide) (by decide) (by simp [hp]) (by simp) (by simp)) (⟨Nat.zero_le _, Pre.zero⟩) fun i hi2 => ?_
 refine LWp.sz hT hW ?_
 simp
 refine LWp.seq ?_
 refine LWp.iff ?_
 simp
 refine ⟨fun h2 => ?_, fun h2 => ?_⟩
 ·refine LWp.skip ?_
  simp
  refine LWp.seq ?_
  refine LWp.block ?_
  refine LWp.sz hT hW ?_
  simp
  refine LWp.seq ?_
  have h2' : i < l.length := by omega
  have ho := op1_ok p lv l[i]
  refine LWp.ro hT hW (fun | 16 => some (.gen ⟨[(0, 0), (1, 1), (2, 2)], [], [], opH p lv, .d (.bool (opQ p lv l[i]))⟩) | _ => none) ?_
  simp [h2', evalCallee]
  refine ⟨ho, ?_⟩
  refine LWp.iff ?_
  simp
  refine ⟨fun h4 => ?_, fun h4 => ?_⟩
  ·refine LWp.sz hT hW ?_
   simp
   refine LWp.ret ?_
   simp
   exact Weak.to [4] [(0, 0), (1, 1), (2, 2)] (by decide) (by decide) (by simp [hp]) (by simp [idxI_some (hi2.2.found h2 h4)]) (by simp)
  ·refine LWp.skip ?_
   simp
   refine LWp.rz hT hW ?_
   simp
   refine ⟨by omega, ?_⟩
   refine loopQ.mk (i + 1) (Weak.to [0, 1, 7, 8] [(0, 0), (1, 1), (2, 2)] (by decide) (by decide) (by simp [hp]) (by simp) (by simp)) ?_ ?_
   ·exact ⟨h2, hi2.2.succ h2 h4⟩
   ·omega
 ·refine LWp.exit ?_
  simp
  refine LWp.sz hT hW ?_
  simp
  refine LWp.ret ?_
  simp
  exact Weak.to [4] [(0, 0), (1, 1), (2, 2)] (by decide) (by decide) (by simp [hp]) (by simp [idxI_none (hi2.2.none (by omega))]) (by simp)
theorem find_ops (q : Str × Int → Bool) : (List.range 6).find? (fun i => q (opsL.getD i ([], 0))) = opsL.findIdx? q := by
 rw [show List.range 6 = [0, 1, 2, 3, 4, 5] from rfl]
 unfold opsL
 simp only [List.find?_cons, List.findIdx?_cons, List.getD_cons_zero, List.getD_cons_succ, List.find?_nil, List.findIdx?_nil]
 cases q ([60], 1) <;> cases q ([60, 61], 1) <;> cases q ([61, 61], 1) <;> cases q ([43], 2) <;> cases q ([45], 2) <;> cases q ([42], 3) <;> rfl
theorem opI_idx (p : PS) (lv : Int) : opI lv p.peek = idxI (opQ p lv) opsL := by
 unfold opI idxI
 rw [← find_ops (opQ p lv)]
 rfl
def opsD (l : List (Str × Int)) : List DV := l.flatMap fun o => [.str o.1, I64 o.2]
theorem glob2_eq : glob2 = opsD opsL := by kernel_rfl
theorem opsD_at : ∀ (l : List (Str × Int)) (k : Nat) (h : k < l.length), (opsD l)[k * 2]?.getD default = .str l[k].1
 | o :: l, 0, _ => rfl
 | o :: l, k + 1, h => by
  have ih := opsD_at l k (by simpa using h)
  have e : opsD (o :: l) = .str o.1 :: I64 o.2 :: opsD l := rfl
  rw [e, show (k + 1) * 2 = k * 2 + 1 + 1 by omega]
  exact ih
theorem op_sign {p : PS} {lv : Int} (h : 0 ≤ opI lv p.peek) : glob2[(opI lv p.peek).toNat * 2]?.getD default = .str p.peek ∧ p.is p.peek = true ∧ opI lv p.peek < 6 := by
 rw [opI_idx] at h ⊢
 unfold idxI at h ⊢
 split at h
 ·rename_i i hi
  obtain ⟨h1, h2, _⟩ := List.findIdx?_eq_some_iff_getElem.1 hi
  simp only [opQ, Bool.and_eq_true, decide_eq_true_eq] at h2
  have hne : ∀ o ∈ opsL, o.1 ≠ [] := by decide
  have hn := hne _ (List.getElem_mem h1)
  rw [glob2_eq, Int.toNat_natCast, opsD_at opsL i h1, h2.2]
  rw [h2.2] at hn
  have : i < 6 := h1
  exact ⟨rfl, is_iff.2 ⟨hn, rfl⟩, by omega⟩
 ·omega
theorem op_yes {p : PS} {lv : Int} (h : 0 ≤ opI lv p.peek) : opP lv p = (opI lv p.peek, p.took p.peek) := by
 rw [took_is (op_sign h).2.1]; unfold opP; rw [if_pos h]
theorem op_no {p : PS} {lv : Int} (h : opI lv p.peek < 0) : opP lv p = (opI lv p.peek, p) := by
 unfold opP; rw [if_neg (by omega)]
theorem operation_ok (p : PS) (lv : Int) : OkG Tryz.prog 163 [.bx 0 0, .d (I64 lv)] (psH p) (psH (opP lv p).2) (.d (I64 (opP lv p).1)) := by
 unfold psH
 refine OkG.one Tryz.func163 (by kernel_rfl) (c := _) rfl Tryz.ntmps163 (by simp) Tryz.results163 fun w0 X hp => ?_
 refine LWp.sz hT hW ?_
 simp
 refine LWp.seq ?_
 have ho := IndexOp_ok p lv opsL
 have hgl := glob2_len
 rw [← opI_idx] at ho
 refine LWp.ro hT hW (fun | 8 => some (.gen ⟨[(0, 0), (3, 1), (2, 2)], [], [], opH p lv, .d (I64 (opI lv p.peek))⟩) | _ => none) ?_
 simp [ops_chunks]
 refine ⟨⟨by omega, ho⟩, ?_⟩
 refine LWp.seq ?_
 refine LWp.sz hT hW ?_
 simp
 refine LWp.iff ?_
 simp
 refine ⟨fun h2 => ?_, fun h2 => ?_⟩
 ·have eo := op_yes h2
  obtain ⟨s1, s2, s3⟩ := op_sign h2
  refine LWp.regAny hT hW hMixed (lk [[],[],[1],[1,2],[1,2,3],[0,1,2,3,4]]) (lk [[],[],[],[],[],[]]) (lk [[],[],[],[],[],[0]]) (by kernel_rfl) (fun | 16 => some (.gen ⟨[(0, 0)], [], [], psH (p.took p.peek), .d (.bool (p.is p.peek))⟩) | _ => none) (by intro d; first | exact ⟨rfl, fun _ h => h⟩ | (split <;> exact ⟨rfl, fun _ h => h⟩)) ?_
  simp [s1]
  refine ⟨⟨⟨⟨h2, s3⟩, by omega⟩, take_ok p p.peek⟩, ?_⟩
  refine LWp.sz hT hW ?_
  simp
  refine LWp.ret ?_
  simp
  exact Weak.to [4] [(0, 0)] (by decide) (by decide) (by simp [hp]) (by simp [eo]) (by simp [eo])
 ·have eo := op_no h2
  refine LWp.skip ?_
  simp
  refine LWp.sz hT hW ?_
  simp
  refine LWp.ret ?_
  simp
  exact Weak.to [4] [(0, 0)] (by decide) (by decide) (by simp [hp]) (by simp [eo]) (by simp [eo])
end
open Go.Proofs
section
attribute [local simp] Res.cond Nd.d_eq nd_t nd_dr nd_td ndsD evalIndex retGC_ret tksD psH upds_same
structure Reads (n : Nat) (g : FuncId) (x : PS → Nd × PS) : Prop where
 ok : ∀ q : PS, q.l.length < n → GoodT q.l → OkG Tryz.prog g [.bx 0 0] (psH q) (psH (x q).2) (.d (x q).1.d)
 le : ∀ q : PS, q.l.length < n → GoodT q.l → (x q).2.l.length ≤ q.l.length ∧ GoodT (x q).2.l
structure ChS where
 f : Nat
 n : Nd
 q : PS
theorem chain_err {lv : Int} {x : PS → Nd × PS} {f : Nat} {n : Nd} {q : PS} (hf : q.l.length < f) (h : ¬ q.e = 0) : chainF lv x f n q = (n, q) := by
 obtain ⟨k, rfl⟩ : ∃ k, f = k + 1 := ⟨f - 1, by omega⟩
 rw [chainF, if_pos h]
theorem chain_stop {lv : Int} {x : PS → Nd × PS} {f : Nat} {n : Nd} {q : PS} (hf : q.l.length < f) (h : q.e = 0) (ho : (opP lv q).1 < 0) : chainF lv x f n q = (n, (opP lv q).2) := by
 obtain ⟨k, rfl⟩ : ∃ k, f = k + 1 := ⟨f - 1, by omega⟩
 rw [chainF, if_neg (by simp [h]), if_pos ho]
theorem chain_go {lv : Int} {x : PS → Nd × PS} {f : Nat} {n : Nd} {q : PS} (hf : q.l.length < f) (h : q.e = 0) (ho : 0 ≤ (opP lv q).1) :
  chainF lv x f n q = chainF lv x (f - 1) (.mk (26 + (opP lv q).1) [] 0 [n, (x (opP lv q).2).1]) (x (opP lv q).2).2 := by
 obtain ⟨k, rfl⟩ : ∃ k, f = k + 1 := ⟨f - 1, by omega⟩
 rw [chainF, if_neg (by simp [h]), if_neg (by omega)]
 rfl
theorem op_less {lv : Int} {q : PS} (ho : 0 ≤ (opP lv q).1) : (opP lv q).2.l.length + 1 = q.l.length ∧ (opP lv q).1 ≤ 5 := by
 have h : 0 ≤ opI lv q.peek := ho
 obtain ⟨_, h2, h3⟩ := op_sign h
 rw [op_yes h, took_is h2]
 exact ⟨is_len h2, by simp only; omega⟩
theorem chain_ok (p : PS) (lv : Int) (x : PS → Nd × PS) (g : FuncId) (m : Nat) (hx : Reads m g x) (hm : p.l.length < m) (hg : GoodT p.l) : OkG Tryz.prog 182 [.bx 0 0, .d (I64 lv), .bm g [.bx 0 0]] (psH p) (psH (chainP lv x p).2) (.d (chainP lv x p).1.d) := by
 unfold psH
 refine OkG.cell hT Tryz.func182 (by kernel_rfl) (c := _) rfl Tryz.ntmps182 (by simp) Tryz.results182 fun w0 X hp => ?_
 refine LWp.sz hT hW ?_
 simp
 refine LWp.seq ?_
 have h1 := hx.ok p hm hg
 refine LWp.ro hT hW (fun | 10 => some (.gen ⟨[(0, 0)], [], [], psH (x p).2, .d (x p).1.d⟩) | _ => none) ?_
 simp [evalCallee]
 refine ⟨by simpa using h1, ?_⟩
 refine LWp.seq ?_
 refine LWp.block ?_
 refine LWp.loopW (ι := ChS) (fun ⟨f, n, q⟩ => mkEnv [(0, .bx 0 0), (1, .d (I64 lv)), (2, .bm g [.bx 0 0]), (6, .bx 6 0), (7, .bx 7 0)]) (fun ⟨f, n, q⟩ => mkObs [(0, .box false [.d (tksD q.l), .d (I64 q.e)]), (6, .box false [.d (I64 0), .d (.str []), .d (I64 0), .nl]), (7, .box false [.d (I64 n.kind), .d (.str n.text), .d (I64 n.n), .d (ndsD n.kids)])]) (fun ⟨f, n, q⟩ => q.l.length < f ∧ GoodT q.l ∧ q.l.length ≤ p.l.length ∧ chainP lv x p = chainF lv x f n q) (fun ⟨f, n, q⟩ => q.l.length) ⟨(x p).2.l.length + 1, (x p).1, (x p).2⟩ (Weak.to [0, 1, 2, 6, 7] [(0, 0), (6, 6), (7, 7)] (by decide) (by decide) (by simp [hp]) (by simp) (by simp)) (⟨Nat.lt_succ_self _, (hx.le p hm hg).2, (hx.le p hm hg).1, rfl⟩) fun ⟨f, n, q⟩ hi2 => ?_
 refine LWp.seq ?_
 refine LWp.sz hT hW ?_
 simp
 refine LWp.iff ?_
 simp
 refine ⟨fun h2 => ?_, fun h2 => ?_⟩
 ·refine LWp.skip ?_
  simp
  refine LWp.block ?_
  refine LWp.seq ?_
  have ho := operation_ok q lv
  refine LWp.ro hT hW (fun | 18 => some (.gen ⟨[(0, 0)], [], [], psH (opP lv q).2, .d (I64 (opP lv q).1)⟩) | _ => none) ?_
  simp
  refine ⟨ho, ?_⟩
  refine LWp.seq ?_
  refine LWp.sz hT hW ?_
  simp
  refine LWp.iff ?_
  simp
  refine ⟨fun h4 => ?_, fun h4 => ?_⟩
  ·refine LWp.exit ?_
   simp
   refine LWp.sz hT hW ?_
   simp
   refine LWp.ret ?_
   simp
   have e : chainP lv x p = (n, (opP lv q).2) := by rw [hi2.2.2.2]; exact chain_stop hi2.1 h2 h4
   exact Weak.to [0] [(0, 0)] (by decide) (by decide) (by simp [hp]) (by simp [e]) (by simp [e])
  ·refine LWp.skip ?_
   simp
   obtain ⟨ol, or⟩ := op_less h4
   have gg := good_op (lv := lv) hi2.2.1
   have hc := hx.ok (opP lv q).2 (by omega) gg.2
   refine LWp.regAny hT hW hMixed (lk [[],[0],[],[],[3],[2,3,4],[0,1,2,3,4,5],[0,1,2,3,4,5,6]]) (lk [[0,26],[0,26],[0],[],[],[],[],[]]) (lk [[],[],[],[],[0],[26],[],[7]]) (by kernel_rfl) (fun | 25 => some (.gen ⟨[(0, 0)], [], [], psH (x (opP lv q).2).2, .d (x (opP lv q).2).1.d⟩) | _ => none) (by intro d; first | exact ⟨rfl, fun _ h => h⟩ | (split <;> exact ⟨rfl, fun _ h => h⟩)) ?_
   simp [evalCallee]
   refine ⟨⟨⟨⟨by omega, by omega⟩, by simpa using hc⟩, by decide⟩, ?_⟩
   refine loopQ.weak (Weak.shutBox 7 [26] (fz := false) (cs := [.d (I64 (26 + (opP lv q).1)), .d (.str []), .d (I64 0), .ow 26 0 2]) (ds := [I64 (26 + (opP lv q).1), .str [], I64 0, .sl [n.d, (x (opP lv q).2).1.d]]) (by simp) (by simp) (by simp) (by simp [LObj.mut])) ?_
   simp
   refine loopQ.mk ⟨f - 1, .mk (26 + (opP lv q).1) [] 0 [n, (x (opP lv q).2).1], (x (opP lv q).2).2⟩ (Weak.to [0, 1, 2, 6, 7] [(0, 0), (6, 6), (7, 7)] (by decide) (by decide) (by simp [hp]) (by simp) (by simp)) ?_ ?_
   ·have le := hx.le (opP lv q).2 (by omega) gg.2
    have i1 := hi2.1
    have i3 := hi2.2.2.1
    refine ⟨?_, le.2, ?_, ?_⟩
    ·show (x (opP lv q).2).2.l.length < f - 1
     omega
    ·show (x (opP lv q).2).2.l.length ≤ p.l.length
     omega
    ·rw [hi2.2.2.2]; exact chain_go hi2.1 h2 h4
   ·have le := hx.le (opP lv q).2 (by omega) gg.2
    show (x (opP lv q).2).2.l.length < q.l.length
    omega
 ·refine LWp.exit ?_
  simp
  refine LWp.sz hT hW ?_
  simp
  refine LWp.ret ?_
  simp
  have e : chainP lv x p = (n, q) := by rw [hi2.2.2.2]; exact chain_err hi2.1 h2
  exact Weak.to [0] [(0, 0)] (by decide) (by decide) (by simp [hp]) (by simp [e]) (by simp [e])
end
open Go.Proofs
section
attribute [local simp] Res.cond Nd.d_eq nd_t nd_dr nd_td ndsD evalIndex retGC_ret tksD psH upds_same
theorem factP_paren {ex : PS → Nd × PS} {p : PS} (h : p.is [40] = true) : factP ex p = ((ex (p.took [40])).1, (ex (p.took [40])).2.need [41]) := by
 rw [took_is h]; unfold factP; rw [if_pos h]
theorem factP_kind {ex : PS → Nd × PS} {p : PS} (h1 : p.is [40] = false) (h2 : p.is sKind = true) : factP ex p = (.mk 36 [] 0 [], p.took sKind) := by
 rw [took_is h2]; unfold factP; rw [if_neg (by simp [h1]), if_pos h2]
theorem factP_digit {ex : PS → Nd × PS} {p : PS} (h1 : p.is [40] = false) (h2 : p.is sKind = false) (h3 : ¬ p.peek = []) (h4 : digitB (p.peek[0]?.getD 0) = true) : factP ex p = (.mk 32 [] (numeralP 32 p).1 [], (numeralP 32 p).2) := by
 unfold factP; rw [if_neg (by simp [h1]), if_neg (by simp [h2])]
 cases e : p.peek with
 | nil => exact absurd e h3
 | cons c r =>
  rw [e] at h4
  have h4 : digitB c = true := h4
  simp only [h4, if_true]
theorem factP_local {ex : PS → Nd × PS} {p : PS} (h1 : p.is [40] = false) (h2 : p.is sKind = false) (h3 : ¬ p.peek = [] → digitB (p.peek[0]?.getD 0) = false) (h4 : p.peek.take 1 = [36]) : factP ex p = (.mk 33 (localP p).1 0 [], (localP p).2) := by
 unfold factP; rw [if_neg (by simp [h1]), if_neg (by simp [h2])]
 cases e : p.peek with
 | nil => rw [e] at h4; cases h4
 | cons c r =>
  rw [e] at h3 h4
  have h3 : digitB c = false := h3 (by simp)
  have h4 : c = 36 := by simpa using h4
  simp [h4]
  decide
theorem factP_place {ex : PS → Nd × PS} {p : PS} (h1 : p.is [40] = false) (h2 : p.is sKind = false) (h3 : ¬ p.peek = [] → digitB (p.peek[0]?.getD 0) = false) (h4 : ¬ p.peek.take 1 = [36]) : factP ex p = placeP p := by
 unfold factP; rw [if_neg (by simp [h1]), if_neg (by simp [h2])]
 cases e : p.peek with
 | nil => rfl
 | cons c r =>
  rw [e] at h3 h4
  have h3 : digitB c = false := h3 (by simp)
  have h4 : ¬ c = 36 := by simpa using h4
  simp [h3, h4]
theorem fact_ok (p : PS) (n : Nat) (ex : PS → Nd × PS) (hE : Reads n 140 ex) (hn : p.l.length < n + 1) (hg : GoodT p.l) : OkG Tryz.prog 195 [.bx 0 0] (psH p) (psH (factP ex p).2) (.d (factP ex p).1.d) := by
 unfold psH
 refine OkG.cell hT Tryz.func195 (by kernel_rfl) (c := _) rfl Tryz.ntmps195 (by simp) Tryz.results195 fun w0 X hp => ?_
 refine LWp.sz hT hW ?_
 simp
 refine LWp.so hT hW (fun | 6 => some (.gen ⟨[(0, 0)], [], [], psH p, .d (.str p.peek)⟩) | _ => none) ?_
 simp
 refine ⟨peek_ok p, ?_⟩
 refine LWp.seq ?_
 refine LWp.block ?_
 refine LWp.so hT hW (fun | 9 => some (.gen ⟨[(0, 0)], [], [], psH (p.took [40]), .d (.bool (p.is [40]))⟩) | _ => none) ?_
 simp
 refine ⟨take_ok p [40], ?_⟩
 refine LWp.iff ?_
 simp
 refine ⟨fun h2 => ?_, fun h2 => ?_⟩
 ·refine LWp.seq ?_
  have hl := is_len h2
  rw [← took_is h2] at hl
  have hx := hE.ok (p.took [40]) (by omega) (good_took hg)
  refine LWp.ro hT hW (fun | 11 => some (.gen ⟨[(0, 0)], [], [], psH (ex (p.took [40])).2, .d (ex (p.took [40])).1.d⟩) | _ => none) ?_
  simp
  refine ⟨by simpa using hx, ?_⟩
  refine LWp.seq ?_
  have hn4 := need_ok (ex (p.took [40])).2 [41]
  refine LWp.ro hT hW (fun | 13 => some (.gen ⟨[(0, 0)], [], [], psH ((ex (p.took [40])).2.need [41]), .tup []⟩) | _ => none) ?_
  simp
  refine ⟨hn4, ?_⟩
  refine LWp.sz hT hW ?_
  simp
  refine LWp.ret ?_
  simp
  have e := factP_paren (ex := ex) h2
  exact Weak.to [0] [(0, 0)] (by decide) (by decide) (by simp [hp]) (by simp [e]) (by simp [e])
 ·have e2 : p.took [40] = p := took_not (by simp [h2])
  simp only [e2]
  refine LWp.so hT hW (fun | 17 => some (.gen ⟨[(0, 0)], [], [], psH (p.took [107, 105, 110, 100]), .d (.bool (p.is [107, 105, 110, 100]))⟩) | _ => none) ?_
  simp
  refine ⟨take_ok p [107, 105, 110, 100], ?_⟩
  refine LWp.iff ?_
  simp
  refine ⟨fun h6 => ?_, fun h6 => ?_⟩
  ·refine LWp.sz hT hW ?_
   simp
   refine LWp.ret ?_
   simp
   have e := factP_kind (ex := ex) h2 h6
   refine Weak.closed (x := (factP ex p).1.d) (by simp [e]) ?_
   simp
   exact Weak.to [0] [(0, 0)] (by decide) (by decide) (by simp [hp]) (by simp) (by simp [e, sKind])
  ·have e6 : p.took [107, 105, 110, 100] = p := took_not (by simp [h6])
   simp only [e6]
   refine LWp.seq ?_
   have hd := digit_ok (p.peek[0]?.getD 0)
   refine LWp.ro hT hW (fun | 25 => some <| .plain ⟨.d (.bool (digitB (p.peek[0]?.getD 0))), true⟩ | _ => none) ?_
   simp
   refine ⟨⟨fun h => List.length_pos_iff.2 h, fun _ => hd⟩, ?_⟩
   refine LWp.iff ?_
   simp
   refine ⟨fun g1 g2 => ?_, fun g => ?_⟩
   ·refine LWp.seq ?_
    have hnu := numeral_ok p 32 hg (by decide)
    refine LWp.ro hT hW (fun | 28 => some (.gen ⟨[(0, 0)], [], [], psH (numeralP 32 p).2, .d (I64 (numeralP 32 p).1)⟩) | _ => none) ?_
    simp
    refine ⟨hnu, ?_⟩
    refine LWp.ret ?_
    simp
    have e := factP_digit (ex := ex) h2 h6 g1 g2
    refine Weak.closed (x := (factP ex p).1.d) (by simp [e]) ?_
    simp
    exact Weak.to [0] [(0, 0)] (by decide) (by decide) (by simp [hp]) (by simp) (by simp [e])
   ·refine LWp.seq ?_
    have hpf := HasPrefix_ok p.peek [36] (by have := peek_tl hg; omega) (by decide)
    refine LWp.ro hT hW (fun | 32 => some <| .plain ⟨.d (.bool (decide (p.peek.take 1 = [36]))), true⟩ | _ => none) ?_
    simp
    refine ⟨hpf, ?_⟩
    refine LWp.iff ?_
    simp
    refine ⟨fun h10 => ?_, fun h10 => ?_⟩
    ·refine LWp.seq ?_
     have hlo := local_ok p hg
     refine LWp.ro hT hW (fun | 34 => some (.gen ⟨[(0, 0)], [], [], psH (localP p).2, .d (.str (localP p).1)⟩) | _ => none) ?_
     simp
     refine ⟨hlo, ?_⟩
     refine LWp.ret ?_
     simp
     have e := factP_local (ex := ex) h2 h6 g h10
     refine Weak.closed (x := (factP ex p).1.d) (by simp [e]) ?_
     simp
     exact Weak.to [0] [(0, 0)] (by decide) (by decide) (by simp [hp]) (by simp) (by simp [e])
    ·refine LWp.skip ?_
     simp
     refine LWp.seq ?_
     have hpl := place_ok p hg
     refine LWp.ro hT hW (fun | 37 => some (.gen ⟨[(0, 0)], [], [], psH (placeP p).2, .d (placeP p).1.d⟩) | _ => none) ?_
     simp
     refine ⟨by simpa using hpl, ?_⟩
     refine LWp.ret ?_
     simp
     have e := factP_place (ex := ex) h2 h6 g h10
     exact Weak.to [0] [(0, 0)] (by decide) (by decide) (by simp [hp]) (by simp [e]) (by simp [e])
theorem Rt.le {n : Nat} {cls : Int → Bool} {x : PS → Nd × PS} (h : Rt n cls x) (q : PS) (hq : q.l.length < n) (hg : GoodT q.l) : (x q).2.l.length ≤ q.l.length ∧ GoodT (x q).2.l := ⟨(h q hq hg).1, (h q hq hg).2.1⟩
theorem Reads.fact {n : Nat} {ex : PS → Nd × PS} (hE : Reads n 140 ex) (hR : Rt n isExprK ex) : Reads (n + 1) 195 (factP ex) :=
 ⟨fun q hq hg => fact_ok q n ex hE hq hg, fun q hq hg => (factP_rt hR).le q hq hg⟩
theorem prod_ok (p : PS) (n : Nat) (ex : PS → Nd × PS) (hE : Reads n 140 ex) (hR : Rt n isExprK ex) (hn : p.l.length < n + 1) (hg : GoodT p.l) : OkG Tryz.prog 183 [.bx 0 0] (psH p) (psH (prodP ex p).2) (.d (prodP ex p).1.d) := by
 unfold psH
 refine OkG.cell hT Tryz.func183 (by kernel_rfl) (c := _) rfl Tryz.ntmps183 (by simp) Tryz.results183 fun w0 X hp => ?_
 refine LWp.sz hT hW ?_
 simp
 refine LWp.seq ?_
 have hc := chain_ok p 3 (factP ex) 195 (n + 1) (hE.fact hR) hn hg
 refine LWp.ro hT hW (fun | 6 => some (.gen ⟨[(0, 0)], [], [], psH (prodP ex p).2, .d (prodP ex p).1.d⟩) | _ => none) ?_
 simp
 refine ⟨by simpa [prodP] using hc, ?_⟩
 refine LWp.ret ?_
 simp
 exact Weak.to [0] [(0, 0)] (by decide) (by decide) (by simp [hp]) (by simp) (by simp)
theorem Reads.prod {n : Nat} {ex : PS → Nd × PS} (hE : Reads n 140 ex) (hR : Rt n isExprK ex) : Reads (n + 1) 183 (prodP ex) :=
 ⟨fun q hq hg => prod_ok q n ex hE hR hq hg, fun q hq hg => (chainP_rt (factP_rt hR)).le q hq hg⟩
theorem sum_ok (p : PS) (n : Nat) (ex : PS → Nd × PS) (hE : Reads n 140 ex) (hR : Rt n isExprK ex) (hn : p.l.length < n + 1) (hg : GoodT p.l) : OkG Tryz.prog 162 [.bx 0 0] (psH p) (psH (sumP ex p).2) (.d (sumP ex p).1.d) := by
 unfold psH
 refine OkG.cell hT Tryz.func162 (by kernel_rfl) (c := _) rfl Tryz.ntmps162 (by simp) Tryz.results162 fun w0 X hp => ?_
 refine LWp.sz hT hW ?_
 simp
 refine LWp.seq ?_
 have hc := chain_ok p 2 (prodP ex) 183 (n + 1) (hE.prod hR) hn hg
 refine LWp.ro hT hW (fun | 6 => some (.gen ⟨[(0, 0)], [], [], psH (sumP ex p).2, .d (sumP ex p).1.d⟩) | _ => none) ?_
 simp
 refine ⟨by simpa [sumP] using hc, ?_⟩
 refine LWp.ret ?_
 simp
 exact Weak.to [0] [(0, 0)] (by decide) (by decide) (by simp [hp]) (by simp) (by simp)
theorem exprB_bin {ex : PS → Nd × PS} {p : PS} (h : 0 ≤ (opP 1 (sumP ex p).2).1) : exprB ex p = (.mk (26 + (opP 1 (sumP ex p).2).1) [] 0 [(sumP ex p).1, (sumP ex (opP 1 (sumP ex p).2).2).1], (sumP ex (opP 1 (sumP ex p).2).2).2) := by
 unfold exprB; simp only []; rw [if_pos h]
theorem exprB_one {ex : PS → Nd × PS} {p : PS} (h : (opP 1 (sumP ex p).2).1 < 0) : exprB ex p = ((sumP ex p).1, (opP 1 (sumP ex p).2).2) := by
 unfold exprB; simp only []; rw [if_neg (by omega)]
theorem pexpr_step (p : PS) (n : Nat) (ex : PS → Nd × PS) (hE : Reads n 140 ex) (hR : Rt n isExprK ex) (hn : p.l.length < n + 1) (hg : GoodT p.l) : OkG Tryz.prog 140 [.bx 0 0] (psH p) (psH (exprB ex p).2) (.d (exprB ex p).1.d) := by
 unfold psH
 refine OkG.cell hT Tryz.func140 (by kernel_rfl) (c := _) rfl Tryz.ntmps140 (by simp) Tryz.results140 fun w0 X hp => ?_
 refine LWp.sz hT hW ?_
 simp
 refine LWp.seq ?_
 have hc := sum_ok p n ex hE hR hn hg
 have hl1 := (sumP_rt hR).le p hn hg
 refine LWp.ro hT hW (fun | 6 => some (.gen ⟨[(0, 0)], [], [], psH (sumP ex p).2, .d (sumP ex p).1.d⟩) | _ => none) ?_
 simp
 refine ⟨by simpa using hc, ?_⟩
 refine LWp.seq ?_
 refine LWp.seq ?_
 have ho := operation_ok (sumP ex p).2 1
 refine LWp.ro hT hW (fun | 8 => some (.gen ⟨[(0, 0)], [], [], psH (opP 1 (sumP ex p).2).2, .d (I64 (opP 1 (sumP ex p).2).1)⟩) | _ => none) ?_
 simp
 refine ⟨ho, ?_⟩
 refine LWp.sz hT hW ?_
 simp
 refine LWp.iff ?_
 simp
 refine ⟨fun h3 => ?_, fun h3 => ?_⟩
 ·refine LWp.seq ?_
  have hol := op_less h3
  have hog := good_op (lv := 1) hl1.2
  have hc4 := sum_ok (opP 1 (sumP ex p).2).2 n ex hE hR (by omega) hog.2
  refine LWp.regAny hT hW hMixed (lk [[],[0],[],[],[3],[2,3,4],[0,1,2,3,4,5],[0,1,2,3,4,5,6]]) (lk [[0,16],[0,16],[0],[],[],[],[],[]]) (lk [[],[],[],[],[0],[16],[],[2]]) (by kernel_rfl) (fun | 15 => some (.gen ⟨[(0, 0)], [], [], psH (sumP ex (opP 1 (sumP ex p).2).2).2, .d (sumP ex (opP 1 (sumP ex p).2).2).1.d⟩) | _ => none) (by intro d; first | exact ⟨rfl, fun _ h => h⟩ | (split <;> exact ⟨rfl, fun _ h => h⟩)) ?_
  simp
  refine ⟨⟨⟨⟨by omega, by omega⟩, by simpa using hc4⟩, by decide⟩, ?_⟩
  refine LWp.ret ?_
  simp
  have e := exprB_bin h3
  refine Weak.closed (x := (exprB ex p).1.d) (by simp [e]) ?_
  simp
  exact Weak.to [0] [(0, 0)] (by decide) (by decide) (by simp [hp]) (by simp) (by simp [e])
 ·refine LWp.skip ?_
  simp
  refine LWp.sz hT hW ?_
  simp
  refine LWp.ret ?_
  simp
  have e := exprB_one h3
  exact Weak.to [0] [(0, 0)] (by decide) (by decide) (by simp [hp]) (by simp [e]) (by simp [e])
theorem Reads.expr : ∀ n : Nat, Reads n 140 (exprP false n)
 | 0 => ⟨fun q h _ => absurd h (Nat.not_lt_zero _), fun q h _ => absurd h (Nat.not_lt_zero _)⟩
 | n + 1 => by
  have e : ∀ q, exprP false (n + 1) q = exprB (exprP false n) q := fun q => by rw [exprP, if_neg (by simp)]
  refine ⟨fun q hq hg => ?_, fun q hq hg => (exprP_rt (n + 1)).le q hq hg⟩
  rw [e]
  exact pexpr_step q n (exprP false n) (Reads.expr n) (exprP_rt n) hq hg
end
end Go.Eng
namespace Go.Eng
open Go.RowKit
section
variable {P : Program} {N : Nat} {w0 : Base} {X : Nat → Prop} {Q : LX → Env → Obs → Prop} {env : Env} {H : Obs}
theorem LWp.nlCell {c : Code} (b j id s : Nat) {fz : Bool} {cs : List LV} (hs : 0 < s) (h : H b = .box fz cs ∧ cs[j]? = some .nl ∧ H id = .absent ∧ LWp P N w0 X c Q env (upd (upd H id (.row false s [])) b (.box fz (cs.set j (.ow id 0 0))))) : LWp P N w0 X c Q env H := by
  obtain ⟨hb, hj, hid, h⟩ := h
  have hne : b ≠ id := fun e => by rw [e, hid] at hb; cases hb
  intro β a w sm
  obtain ⟨m1, g1⟩ := new_none sm.mem hid hs
  obtain ⟨m2, g2⟩ := m1.rebox (b := b) (fz := fz) (cs := cs) (cs' := cs.set j (.ow id 0 0)) (by rw [upd_ne _ _ hne]; exact hb) (by simp) fun i c c' v hc hc' hr => by
    rw [List.getElem?_set] at hc'
    by_cases e : j = i
    · subst e
      rw [hj] at hc; injection hc with hc; subst hc
      have hl := (List.getElem?_eq_some_iff.1 hj).1
      simp [hl] at hc'
      subst hc'
      cases hr with | nl p => exact .ow0 id 0 p false s [] (by rw [upd_same]) (.inl ⟨by rw [upd_same], rfl⟩)
    · simp only [e, if_false] at hc'
      rw [hc] at hc'; injection hc' with hc'; subst hc'
      exact hr
  exact h _ a w ⟨sm.defers, sm.size, m2.ext, m2.xold, m2.fresh, m2.inj, fun t => g2.R (g1.R (sm.env t)), m2.obj, m2.pin⟩
end
end Go.Eng
namespace Go.Eng
open Go.Proofs
attribute [local simp] runL stepL evalG evalOp opLV constLV putEnv dstOk upd upds Res.plain Res.cond Res.fail evalBin evalUn seqQ blockQ argsEnv lookL lookH RetIs memless freshL evalPick evalMin bval bok evalLen evalIn strip whenC guardOps guardC slotsOf
 runM foldS stepI stepM maskE wrIn lk renO lookN evalCall evalCallee optAll resLV resObj retLV retObj retsLV retsObj evalLoad evalIndexAddr evalField solid cellsD_agg cellsD_int cellsD_bool cellsD_str cellsD_sl cellsD_ro cellsD_fn cellsL_agg cellsL_dagg cellsL_int cellsL_bool cellsL_str cellsL_sl cellsL_fn cellsL_ow cellsL_bx cellsL_lfn cellsL_nl takeL takeD mkAgg allD eqD eqDs kindsAre kindIs LObj.live TK.isNone TK.agg TK.isBool TK.isStr TK.isStruct Op.operands Call.operands
 evalBuildSlice evalAppend elemsOf evalStore evalBuild fillL lookupF putL evalSlice bound evalConv elemsS freezes frozen loadR
 mkEnv_at mkObs_at close_d close_agg close_ow close_bx close_fn close_nl touch_d touch_agg touch_ow touch_bx touch_fn touch_nl ren_d ren_agg ren_bx ren_rp ren_ow ren_fn ren_nl ren_junk retQ_ret retQ2_ret condQ_bool Nm.d Df.d Ed.d nmsD dfsD strsD edsD retC_ret nm_eq df_eq take_map_len take_map_app
 nm_t nm_d nm_td df_t df_d df_td str_t str_d str_td ed_t ed_d ed_td
 evalAppendIn evalBuildSliceC evalCopyC shortL evalApart evalAppendC evalAppendZ evalAppendG evalCapC isOc TK.isInt close_oc touch_oc ren_oc cellsL_oc evalCut evalClear evalCopy evalMake evalWrap evalCap evalNil isNilC lenL isInp gorc gorc2
 mapOf findD keyEq keyOk evalMakeMap evalRange zeroD zeroDV argsG shutG outN lenv retG0_ret retG0_normal retG1_ret retGR_ret renO close_mp touch_mp ren_mp optAll_d optAll_d' touch_ds cellsL_mp cellsD_mp cellsL_dmp
 evalMapSet evalPtr TK.isPtr evalToArr firstL retN_ret retsQ rvarL close_bm touch_bm ren_bm cellsD_bm cellsL_bm cellsL_lbm
attribute [local simp] cutQ_normal cutQ_ret cutQ_exit
section
attribute [local simp] Res.cond Nd.d_eq nd_t nd_dr nd_td ndsD evalIndex retGC_ret tksD psH upds_same
theorem upds_then {c : Prop} [Decidable c] {f : Nat → LObj} {A : LObj} {x : Nat} (h : f 0 = A) : upds f (if c then [(0, A)] else []) x = f x := by
 by_cases hc : c
 ·rw [if_pos hc]
  subst h
  simp only [upds, upd]
  split
  ·rename_i e; rw [e]
  ·rfl
 ·rw [if_neg hc]; rfl
def Eats (n : Nat) (x : PS → Nd × PS) : Prop := ∀ q : PS, q.l.length < n → GoodT q.l → q.e = 0 → (x q).2.e ≠ 0 ∨ (x q).2.l.length < q.l.length
structure BlS where
 f : Nat
 ks : List Nd
 q : PS
theorem stmts_end {st : PS → Nd × PS} {ks : List Nd} {q : PS} (h : q.e = 0 → q.peek = [125]) : ∀ f, stmtsF st f ks q = (ks, q)
 | 0 => rfl
 | f + 1 => by
  rw [stmtsF, if_pos]
  by_cases e : q.e = 0
  ·exact .inr (h e)
  ·exact .inl e
theorem stmts_go {st : PS → Nd × PS} {ks : List Nd} {q : PS} {f : Nat} (hf : q.l.length < f) (h : q.e = 0) (hp : ¬ q.peek = [125]) : stmtsF st f ks q = stmtsF st (f - 1) (ks ++ [(st q).1]) (st q).2 := by
 obtain ⟨k, rfl⟩ : ∃ k, f = k + 1 := ⟨f - 1, by omega⟩
 rw [stmtsF, if_neg]
 ·rfl
 ·rintro (e | e)
  ·exact e h
  ·exact hp e
theorem block_ok (p : PS) (n : Nat) (st : PS → Nd × PS) (hS : Reads n 114 st) (hE : Eats n st) (hn : p.l.length < n) (hg : GoodT p.l) (hb : p.l.length ≤ 1100000) : OkG Tryz.prog 77 [.bx 0 0] (psH p) (psH (blockB st p).2) (.d (blockB st p).1.d) := by
 unfold psH
 refine OkG.cell hT Tryz.func77 (by kernel_rfl) (c := _) rfl Tryz.ntmps77 (by simp) Tryz.results77 fun w0 X hp => ?_
 refine LWp.sz hT hW ?_
 simp
 refine LWp.sz hT hW ?_
 simp
 refine LWp.nlCell (fz := false) (cs := [.d (I64 8), .d (.str []), .d (I64 0), .nl]) 3 3 1022 4 (by decide) ⟨by simp, by simp, by simp, ?_⟩
 simp
 refine LWp.seq ?_
 have hn2 := need_ok p [123]
 have gl := good_need (s := [123]) hg
 refine LWp.ro hT hW (fun | 6 => some (.gen ⟨[(0, 0)], [], [], psH (p.need [123]), .tup []⟩) | _ => none) ?_
 simp
 refine ⟨hn2, ?_⟩
 refine LWp.seq ?_
 refine LWp.block ?_
 refine LWp.loopW (ι := BlS) (fun ⟨f, ks, q⟩ => mkEnv [(0, .bx 0 0), (2, .bx 2 0), (3, .bx 3 0)]) (fun ⟨f, ks, q⟩ => mkObs [(0, .box false [.d (tksD q.l), .d (I64 q.e)]), (2, .box false [.d (I64 0), .d (.str []), .d (I64 0), .nl]), (3, .box false [.d (I64 8), .d (.str []), .d (I64 0), .ow 1022 0 ks.length]), (1022, .row false 4 (ks.map Nd.d))]) (fun ⟨f, ks, q⟩ => (q.e = 0 → q.l.length < f) ∧ GoodT q.l ∧ q.l.length ≤ p.l.length ∧ ks.length + q.l.length ≤ p.l.length + (if q.e = 0 then 0 else 1) ∧ stmtsF st ((p.need [123]).l.length + 1) [] (p.need [123]) = stmtsF st f ks q) (fun ⟨f, ks, q⟩ => 2 * q.l.length + (if q.e = 0 then 1 else 0)) ⟨(p.need [123]).l.length + 1, [], p.need [123]⟩ (Weak.to [0, 2, 3] [(0, 0), (2, 2), (3, 3), (1022, 1022)] (by decide) (by decide) (by simp [hp]) (by simp) (by simp)) (⟨fun _ => Nat.lt_succ_self _, gl.2, gl.1, by have := gl.1; simp only [List.length_nil]; omega, rfl⟩) fun ⟨f, ks, q⟩ hi3 => ?_
 refine LWp.seq ?_
 refine LWp.seq ?_
 have hpk := peek_ok q
 refine LWp.ro hT hW (fun | 14 => some (.gen ⟨[(0, 0)], [], [], psH q, .d (.str q.peek)⟩) | _ => none) ?_
 simp [upds_then]
 refine ⟨fun _ => hpk, ?_⟩
 refine LWp.iff ?_
 simp
 refine ⟨fun g1 g2 => ?_, fun g => ?_⟩
 ·refine LWp.skip ?_
  simp
  refine LWp.block ?_
  have ha : q.l.length ≤ p.l.length := hi3.2.2.1
  have hk : ks.length + q.l.length ≤ p.l.length := by have z := hi3.2.2.2.1; simp only [g1, if_true] at z; omega
  have hs := hS.ok q (by omega) hi3.2.1
  have hle := hS.le q (by omega) hi3.2.1
  have heat := hE q (by omega) hi3.2.1 g1
  refine LWp.regAny hT hW hMixed (lk [[],[0],[],[2],[2,3],[0,1,2,3,4],[0,1,2,3,4,5],[0,1,2,3,4,5,6]]) (lk [[0,21],[0,21],[],[],[],[],[],[]]) (lk [[],[],[],[0],[21],[22,1022],[],[3]]) (by kernel_rfl) (fun | 20 => some (.gen ⟨[(0, 0)], [], [], psH (st q).2, .d (st q).1.d⟩) | _ => none) (by intro d; first | exact ⟨rfl, fun _ h => h⟩ | (split <;> exact ⟨rfl, fun _ h => h⟩)) ?_
  simp
  refine ⟨⟨by simpa using hs, by omega, by omega⟩, ?_⟩
  refine loopQ.mk ⟨f - 1, ks ++ [(st q).1], (st q).2⟩ (Weak.to [0, 2, 3] [(0, 0), (2, 2), (3, 3), (22, 1022)] (by decide) (by decide) (by simp [hp]) (by simp) (by simp)) ?_ ?_
  ·refine ⟨fun e => ?_, hle.2, ?_, ?_, ?_⟩
   ·show (st q).2.l.length < f - 1
    have z := hi3.1 g1
    rcases heat with h | h
    ·exact absurd e h
    ·omega
   ·show (st q).2.l.length ≤ p.l.length
    omega
   ·show (ks ++ [(st q).1]).length + (st q).2.l.length ≤ p.l.length + (if (st q).2.e = 0 then 0 else 1)
    rw [List.length_append, List.length_singleton]
    by_cases e : (st q).2.e = 0
    ·rw [if_pos e]
     rcases heat with h | h
     ·exact absurd e h
     ·omega
    ·rw [if_neg e]; omega
   ·rw [hi3.2.2.2.2]; exact stmts_go (hi3.1 g1) g1 g2
  ·show 2 * (st q).2.l.length + (if (st q).2.e = 0 then 1 else 0) < 2 * q.l.length + (if q.e = 0 then 1 else 0)
   rw [if_pos g1]
   by_cases e : (st q).2.e = 0
   ·rw [if_pos e]
    rcases heat with h | h
    ·exact absurd e h
    ·omega
   ·rw [if_neg e]; omega
 ·refine LWp.exit ?_
  simp
  refine LWp.seq ?_
  have hn5 := need_ok q [125]
  refine LWp.ro hT hW (fun | 25 => some (.gen ⟨[(0, 0)], [], [], psH (q.need [125]), .tup []⟩) | _ => none) ?_
  simp
  refine ⟨hn5, ?_⟩
  refine LWp.sz hT hW ?_
  simp
  refine LWp.ret ?_
  simp
  have e : blockB st p = (.mk 8 [] 0 ks, q.need [125]) := by unfold blockB; simp only []; rw [hi3.2.2.2.2, stmts_end g]
  refine Weak.closed (x := (blockB st p).1.d) (by simp [e]) ?_
  simp
  exact Weak.to [0] [(0, 0)] (by decide) (by decide) (by simp [hp]) (by simp) (by simp [e])
end
open Go.Proofs
section
attribute [local simp] Res.cond Nd.d_eq nd_t nd_dr nd_td ndsD evalIndex retGC_ret tksD psH upds_same
def cmdA (k : Int) (p : PS) : Str × PS := if k = 19 ∨ k = 20 then localP p else if k = 21 ∨ k = 25 ∨ k = 24 then ([], p) else nameP p
theorem cmdA_good {k : Int} {p : PS} (h : GoodT p.l) : (cmdA k p).2.l.length ≤ p.l.length ∧ GoodT (cmdA k p).2.l := by
 unfold cmdA
 split
 ·exact ⟨(localP_good h).1, (localP_good h).2.1⟩
 ·split
  ·exact ⟨Nat.le_refl _, h⟩
  ·exact ⟨(nameP_good h).1, (nameP_good h).2.1⟩
theorem cmd_ex {ex : PS → Nd × PS} {k : Int} {p : PS} (h : k = 15 ∨ k = 22 ∨ k = 24) : cmdP ex k p = (.mk k (cmdA k p).1 0 [(ex (cmdA k p).2).1], (ex (cmdA k p).2).2) := by
 unfold cmdP; simp only []; rw [if_pos h]; rfl
theorem cmd_loc {ex : PS → Nd × PS} {k : Int} {p : PS} (h0 : ¬ (k = 15 ∨ k = 22 ∨ k = 24)) (h : k = 16 ∨ k = 23) : cmdP ex k p = (.mk k (cmdA k p).1 0 [.mk 33 (localP (cmdA k p).2).1 0 []], (localP (cmdA k p).2).2) := by
 unfold cmdP; simp only []; rw [if_neg h0, if_pos h]; rfl
theorem cmd_num {ex : PS → Nd × PS} {k : Int} {p : PS} (h0 : ¬ (k = 15 ∨ k = 22 ∨ k = 24)) (h1 : ¬ (k = 16 ∨ k = 23)) (h : k = 19 ∨ k = 21 ∨ k = 25) : cmdP ex k p = (.mk k (cmdA k p).1 (numeralP k (cmdA k p).2).1 [], (numeralP k (cmdA k p).2).2) := by
 unfold cmdP; simp only []; rw [if_neg h0, if_neg h1, if_pos h]; rfl
theorem cmd_plain {ex : PS → Nd × PS} {k : Int} {p : PS} (h0 : ¬ (k = 15 ∨ k = 22 ∨ k = 24)) (h1 : ¬ (k = 16 ∨ k = 23)) (h : ¬ (k = 19 ∨ k = 21 ∨ k = 25)) : cmdP ex k p = (.mk k (cmdA k p).1 0 [], (cmdA k p).2) := by
 unfold cmdP; simp only []; rw [if_neg h0, if_neg h1, if_neg h]; rfl
def cdH (p : PS) (x : Nd) : List (Nat × LObj) := [(0, .box false [.d (tksD p.l), .d (I64 p.e)]), (1, .box false [.d (I64 x.kind), .d (.str x.text), .d (I64 x.n), .d (ndsD x.kids)])]
structure SPS where
 s : Str
 q : PS
theorem command_ok (p : PS) (n : Nat) (ex : PS → Nd × PS) (k : Int) (hk : 0 ≤ k ∧ k < 37) (hE : Reads n 140 ex) (hn : p.l.length < n) (hg : GoodT p.l) : OkG Tryz.prog 141 [.bx 0 0, .bx 1 0] [(0, .box false [.d (tksD p.l), .d (I64 p.e)]), (1, .box false [.d (I64 k), .d (.str []), .d (I64 0), .nl])] (cdH (cmdP ex k p).2 (cmdP ex k p).1) (.tup []) := by
 unfold cdH
 refine OkG.unit Tryz.func141 (by kernel_rfl) (c := _) rfl Tryz.ntmps141 (by simp) Tryz.results141 fun w0 X hp => ?_
 refine LWp.seqCut (ι := SPS) (fun ⟨s, q⟩ => mkEnv [(0, .bx 0 0), (1, .bx 1 0)]) (fun ⟨s, q⟩ => mkObs [(0, .box false [.d (tksD q.l), .d (I64 q.e)]), (1, .box false [.d (I64 k), .d (.str s), .d (I64 0), .nl])]) (fun ⟨s, q⟩ => cmdA k p = (s, q)) ?_ fun ⟨s, q⟩ hc8 => ?_
 ·refine LWp.sz hT hW ?_
  simp
  refine LWp.block ?_
  refine LWp.seqCut (ι := BC) (fun ⟨b⟩ => mkEnv [(0, .bx 0 0), (1, .bx 1 0), (7, .d (I64 k)), (13, .d (.bool b))]) (fun ⟨b⟩ => mkObs [(0, .box false [.d (tksD p.l), .d (I64 p.e)]), (1, .box false [.d (I64 k), .d (.str []), .d (I64 0), .nl])]) (fun ⟨b⟩ => b = true ↔ (k = 19 ∨ k = 20)) ?_ fun ⟨b⟩ hc4 => ?_
  ·refine LWp.sz hT hW ?_
   simp
   refine LWp.iff ?_
   simp
   refine ⟨fun h2 => ?_, fun h2 => ?_⟩
   ·refine LWp.skip ?_
    simp
    refine cutQ.mk ⟨decide (k = 19)⟩ (Weak.to [0, 1, 7, 13] [(0, 0), (1, 1)] (by decide) (by decide) (by simp [hp]) (by simp) (by simp)) ?_
    simp [h2]
   ·refine LWp.rz hT hW ?_
    simp
    refine cutQ.mk ⟨decide (k = 20)⟩ (Weak.to [0, 1, 7, 13] [(0, 0), (1, 1)] (by decide) (by decide) (by simp [hp]) (by simp) (by simp)) ?_
    simp only [decide_eq_true_eq]; omega
  ·refine LWp.iff ?_
   simp
   refine ⟨fun h4 => ?_, fun h4 => ?_⟩
   ·have q4 := hc4.1 h4
    have hlo := local_ok p hg
    refine LWp.ro hT hW (fun | 18 => some (.gen ⟨[(0, 0)], [], [], psH (localP p).2, .d (.str (localP p).1)⟩) | _ => none) ?_
    simp
    refine ⟨hlo, ?_⟩
    refine cutQ.mk ⟨(localP p).1, (localP p).2⟩ (Weak.to [0, 1] [(0, 0), (1, 1)] (by decide) (by decide) (by simp [hp]) (by simp) (by simp)) ?_
    unfold cmdA; rw [if_pos q4]
   ·have q4 : ¬ (k = 19 ∨ k = 20) := fun q => by simp [hc4.2 q] at h4
    refine LWp.seqCut (ι := BC) (fun ⟨b⟩ => mkEnv [(0, .bx 0 0), (1, .bx 1 0), (7, .d (I64 k)), (21, .d (.bool b))]) (fun ⟨b⟩ => mkObs [(0, .box false [.d (tksD p.l), .d (I64 p.e)]), (1, .box false [.d (I64 k), .d (.str []), .d (I64 0), .nl])]) (fun ⟨b⟩ => b = true ↔ (k = 21 ∨ k = 25 ∨ k = 24)) ?_ fun ⟨b⟩ hc1 => ?_
    ·refine LWp.sz hT hW ?_
     simp
     refine LWp.iff ?_
     simp
     refine ⟨fun h5 => ?_, fun h5 => ?_⟩
     ·refine LWp.skip ?_
      simp
      refine cutQ.mk ⟨decide (k = 21)⟩ (Weak.to [0, 1, 7, 21] [(0, 0), (1, 1)] (by decide) (by decide) (by simp [hp]) (by simp) (by simp)) ?_
      simp [h5]
     ·refine LWp.sz hT hW ?_
      simp
      refine LWp.iff ?_
      simp
      refine ⟨fun h6 => ?_, fun h6 => ?_⟩
      ·refine LWp.skip ?_
       simp
       refine cutQ.mk ⟨decide (k = 25)⟩ (Weak.to [0, 1, 7, 21] [(0, 0), (1, 1)] (by decide) (by decide) (by simp [hp]) (by simp) (by simp)) ?_
       simp [h6]
      ·refine LWp.rz hT hW ?_
       simp
       refine cutQ.mk ⟨decide (k = 24)⟩ (Weak.to [0, 1, 7, 21] [(0, 0), (1, 1)] (by decide) (by decide) (by simp [hp]) (by simp) (by simp)) ?_
       simp only [decide_eq_true_eq]; omega
    ·refine LWp.iff ?_
     simp
     refine ⟨fun h1 => ?_, fun h1 => ?_⟩
     ·have q1 := hc1.1 h1
      refine LWp.skip ?_
      simp
      refine cutQ.mk ⟨[], p⟩ (Weak.to [0, 1] [(0, 0), (1, 1)] (by decide) (by decide) (by simp [hp]) (by simp) (by simp)) ?_
      unfold cmdA; rw [if_neg q4, if_pos q1]
     ·have q1 : ¬ (k = 21 ∨ k = 25 ∨ k = 24) := fun q => by simp [hc1.2 q] at h1
      have hna := name_ok p
      refine LWp.ro hT hW (fun | 10 => some (.gen ⟨[(0, 0)], [], [], psH (nameP p).2, .d (.str (nameP p).1)⟩) | _ => none) ?_
      simp
      refine ⟨hna, ?_⟩
      refine cutQ.mk ⟨(nameP p).1, (nameP p).2⟩ (Weak.to [0, 1] [(0, 0), (1, 1)] (by decide) (by decide) (by simp [hp]) (by simp) (by simp)) ?_
      unfold cmdA; rw [if_neg q4, if_neg q1]
 ·refine LWp.sz hT hW ?_
  simp
  refine LWp.block ?_
  refine LWp.seqCut (ι := BC) (fun ⟨b⟩ => mkEnv [(0, .bx 0 0), (1, .bx 1 0), (28, .d (I64 k)), (29, .d (.bool b))]) (fun ⟨b⟩ => mkObs [(0, .box false [.d (tksD q.l), .d (I64 q.e)]), (1, .box false [.d (I64 k), .d (.str s), .d (I64 0), .nl])]) (fun ⟨b⟩ => b = true ↔ (k = 15 ∨ k = 22 ∨ k = 24)) ?_ fun ⟨b⟩ hc12 => ?_
  ·refine LWp.sz hT hW ?_
   simp
   refine LWp.iff ?_
   simp
   refine ⟨fun h9 => ?_, fun h9 => ?_⟩
   ·refine LWp.skip ?_
    simp
    refine cutQ.mk ⟨decide (k = 15)⟩ (Weak.to [0, 1, 28, 29] [(0, 0), (1, 1)] (by decide) (by decide) (by simp [hp]) (by simp) (by simp)) ?_
    simp [h9]
   ·refine LWp.sz hT hW ?_
    simp
    refine LWp.iff ?_
    simp
    refine ⟨fun h10 => ?_, fun h10 => ?_⟩
    ·refine LWp.skip ?_
     simp
     refine cutQ.mk ⟨decide (k = 22)⟩ (Weak.to [0, 1, 28, 29] [(0, 0), (1, 1)] (by decide) (by decide) (by simp [hp]) (by simp) (by simp)) ?_
     simp [h10]
    ·refine LWp.rz hT hW ?_
     simp
     refine cutQ.mk ⟨decide (k = 24)⟩ (Weak.to [0, 1, 28, 29] [(0, 0), (1, 1)] (by decide) (by decide) (by simp [hp]) (by simp) (by simp)) ?_
     simp only [decide_eq_true_eq]; omega
  ·refine LWp.iff ?_
   simp
   refine ⟨fun h12 => ?_, fun h12 => ?_⟩
   ·have q12 := hc12.1 h12
    have ga := cmdA_good (k := k) hg
    rw [hc8] at ga
    have hx := hE.ok q (by have := ga.1; simp only at this; omega) ga.2
    refine LWp.ro hT hW (fun | 35 => some (.gen ⟨[(0, 0)], [], [], psH (ex q).2, .d (ex q).1.d⟩) | _ => none) ?_
    simp
    refine ⟨by simpa using hx, ?_⟩
    have e := cmd_ex (ex := ex) (p := p) q12
    rw [hc8] at e
    refine Weak.trans (Weak.shutBox 1 [36] (fz := false) (cs := [.d (I64 k), .d (.str s), .d (I64 0), .ow 36 0 1]) (ds := [I64 k, .str s, I64 0, .sl [(ex q).1.d]]) (by simp) (by simp) (by simp) (by simp [LObj.mut])) ?_
    simp
    exact Weak.to [] [(0, 0), (1, 1)] (by decide) (by decide) (by simp [hp]) (by simp) (by simp [e])
   ·have q12 : ¬ (k = 15 ∨ k = 22 ∨ k = 24) := fun q => by simp [hc12.2 q] at h12
    refine LWp.seqCut (ι := BC) (fun ⟨b⟩ => mkEnv [(0, .bx 0 0), (1, .bx 1 0), (28, .d (I64 k)), (39, .d (.bool b))]) (fun ⟨b⟩ => mkObs [(0, .box false [.d (tksD q.l), .d (I64 q.e)]), (1, .box false [.d (I64 k), .d (.str s), .d (I64 0), .nl])]) (fun ⟨b⟩ => b = true ↔ (k = 16 ∨ k = 23)) ?_ fun ⟨b⟩ hc15 => ?_
    ·refine LWp.sz hT hW ?_
     simp
     refine LWp.iff ?_
     simp
     refine ⟨fun h13 => ?_, fun h13 => ?_⟩
     ·refine LWp.skip ?_
      simp
      refine cutQ.mk ⟨decide (k = 16)⟩ (Weak.to [0, 1, 28, 39] [(0, 0), (1, 1)] (by decide) (by decide) (by simp [hp]) (by simp) (by simp)) ?_
      simp [h13]
     ·refine LWp.rz hT hW ?_
      simp
      refine cutQ.mk ⟨decide (k = 23)⟩ (Weak.to [0, 1, 28, 39] [(0, 0), (1, 1)] (by decide) (by decide) (by simp [hp]) (by simp) (by simp)) ?_
      simp only [decide_eq_true_eq]; omega
    ·refine LWp.iff ?_
     simp
     refine ⟨fun h15 => ?_, fun h15 => ?_⟩
     ·have q15 := hc15.1 h15
      have ga := cmdA_good (k := k) hg
      rw [hc8] at ga
      have hlo := local_ok q ga.2
      refine LWp.ro hT hW (fun | 44 => some (.gen ⟨[(0, 0)], [], [], psH (localP q).2, .d (.str (localP q).1)⟩) | _ => none) ?_
      simp
      refine ⟨hlo, ?_⟩
      have e := cmd_loc (ex := ex) (p := p) q12 q15
      rw [hc8] at e
      refine Weak.trans (Weak.shutBox 1 [46] (fz := false) (cs := [.d (I64 k), .d (.str s), .d (I64 0), .ow 46 0 1]) (ds := [I64 k, .str s, I64 0, .sl [(Nd.mk 33 (localP q).1 0 []).d]]) (by simp) (by simp) (by simp) (by simp [LObj.mut])) ?_
      simp
      exact Weak.to [] [(0, 0), (1, 1)] (by decide) (by decide) (by simp [hp]) (by simp) (by simp [e])
     ·have q15 : ¬ (k = 16 ∨ k = 23) := fun q => by simp [hc15.2 q] at h15
      refine LWp.seqCut (ι := BC) (fun ⟨b⟩ => mkEnv [(0, .bx 0 0), (1, .bx 1 0), (28, .d (I64 k)), (49, .d (.bool b))]) (fun ⟨b⟩ => mkObs [(0, .box false [.d (tksD q.l), .d (I64 q.e)]), (1, .box false [.d (I64 k), .d (.str s), .d (I64 0), .nl])]) (fun ⟨b⟩ => b = true ↔ (k = 19 ∨ k = 21 ∨ k = 25)) ?_ fun ⟨b⟩ hc19 => ?_
      ·refine LWp.sz hT hW ?_
       simp
       refine LWp.iff ?_
       simp
       refine ⟨fun h16 => ?_, fun h16 => ?_⟩
       ·refine LWp.skip ?_
        simp
        refine cutQ.mk ⟨decide (k = 19)⟩ (Weak.to [0, 1, 28, 49] [(0, 0), (1, 1)] (by decide) (by decide) (by simp [hp]) (by simp) (by simp)) ?_
        simp [h16]
       ·refine LWp.sz hT hW ?_
        simp
        refine LWp.iff ?_
        simp
        refine ⟨fun h17 => ?_, fun h17 => ?_⟩
        ·refine LWp.skip ?_
         simp
         refine cutQ.mk ⟨decide (k = 21)⟩ (Weak.to [0, 1, 28, 49] [(0, 0), (1, 1)] (by decide) (by decide) (by simp [hp]) (by simp) (by simp)) ?_
         simp [h17]
        ·refine LWp.rz hT hW ?_
         simp
         refine cutQ.mk ⟨decide (k = 25)⟩ (Weak.to [0, 1, 28, 49] [(0, 0), (1, 1)] (by decide) (by decide) (by simp [hp]) (by simp) (by simp)) ?_
         simp only [decide_eq_true_eq]; omega
      ·refine LWp.iff ?_
       simp
       refine ⟨fun h19 => ?_, fun h19 => ?_⟩
       ·have q19 := hc19.1 h19
        have ga := cmdA_good (k := k) hg
        rw [hc8] at ga
        have hnu := numeral_ok q k ga.2 hk
        refine LWp.ro hT hW (fun | 59 => some (.gen ⟨[(0, 0)], [], [], psH (numeralP k q).2, .d (I64 (numeralP k q).1)⟩) | _ => none) ?_
        simp
        refine ⟨hnu, ?_⟩
        have e := cmd_num (ex := ex) (p := p) q12 q15 q19
        rw [hc8] at e
        refine Weak.trans (Weak.shutBox 1 [] (fz := false) (cs := [.d (I64 k), .d (.str s), .d (I64 (numeralP k q).1), .nl]) (ds := [I64 k, .str s, I64 (numeralP k q).1, .sl []]) (by simp) (by simp) (by simp) (by simp [LObj.mut])) ?_
        simp
        exact Weak.to [] [(0, 0), (1, 1)] (by decide) (by decide) (by simp [hp]) (by simp) (by simp [e])
       ·have q19 : ¬ (k = 19 ∨ k = 21 ∨ k = 25) := fun q => by simp [hc19.2 q] at h19
        refine LWp.skip ?_
        simp
        have e := cmd_plain (ex := ex) (p := p) q12 q15 q19
        rw [hc8] at e
        refine Weak.trans (Weak.shutBox 1 [] (fz := false) (cs := [.d (I64 k), .d (.str s), .d (I64 0), .nl]) (ds := [I64 k, .str s, I64 0, .sl []]) (by simp) (by simp) (by simp) (by simp [LObj.mut])) ?_
        simp
        exact Weak.to [] [(0, 0), (1, 1)] (by decide) (by decide) (by simp [hp]) (by simp) (by simp [e])
end
end Go.Eng
namespace Go.Eng
open Go.Proofs
theorem range_find {α : Type} (q : α → Bool) (d : α) : ∀ l : List α, (List.range l.length).find? (fun i => q (l.getD i d)) = l.findIdx? q
 | [] => rfl
 | x :: l => by
  have ih := range_find q d l
  rw [List.length_cons, List.range_succ_eq_map, List.find?_cons, List.findIdx?_cons]
  have e : (x :: l).getD 0 d = x := rfl
  rw [e]
  cases h : q x with
  | true => simp
  | false =>
   simp only [List.find?_map]
   rw [← ih]
   rfl
theorem kind_eq {s : Str} (h : ¬ s = []) : kindP s = idxI (fun x => decide (s = x)) wordsL := by
 unfold kindP wordI idxI
 rw [if_neg h]
 have e := range_find (fun x => decide (s = x)) [] wordsL
 rw [show wordsL.length = 26 from rfl] at e
 rw [← e]
 have e2 : (fun i => decide (wordsL.getD i [] = s)) = fun i => decide (s = wordsL.getD i []) := by funext i; rw [decide_eq_decide]; exact eq_comm
 rw [e2]
 rfl
theorem kind_nil {s : Str} (h : s = []) : kindP s = -1 := by unfold kindP; rw [if_pos h]
theorem kind_pos {p : PS} (h : 0 ≤ kindP p.peek) : p.is p.peek = true := is_iff.2 ⟨fun e => by rw [kind_nil e] at h; omega, rfl⟩
theorem st_else {ex bl : PS → Nd × PS} {p : PS} {k : Int} (hk : kindP p.peek = k) (h : k = 11) (he : (bl (ex (p.took p.peek)).2).2.is sElse = true) :
  stmtB ex bl p = (.mk k [] 0 [(ex (p.took p.peek)).1, (bl (ex (p.took p.peek)).2).1, (bl ((bl (ex (p.took p.peek)).2).2.took sElse)).1], (bl ((bl (ex (p.took p.peek)).2).2.took sElse)).2) := by
 subst hk
 rw [took_is he]
 rw [took_is (kind_pos (by omega))] at he ⊢
 unfold stmtB; simp only []
 rw [if_pos (by omega), if_pos ⟨h, he⟩]
theorem st_if {ex bl : PS → Nd × PS} {p : PS} {k : Int} (hk : kindP p.peek = k) (h : k = 11 ∨ k = 12) (he : k = 11 → (bl (ex (p.took p.peek)).2).2.is sElse = false) :
  stmtB ex bl p = (.mk k [] 0 [(ex (p.took p.peek)).1, (bl (ex (p.took p.peek)).2).1], (bl (ex (p.took p.peek)).2).2) := by
 subst hk
 rw [took_is (kind_pos (by omega))] at he ⊢
 unfold stmtB; simp only []
 rw [if_pos h, if_neg (fun q => by rw [he q.1] at q; exact absurd q.2 (by simp))]
theorem st_cmd {ex bl : PS → Nd × PS} {p : PS} {k : Int} (hk : kindP p.peek = k) (h : 12 < k) : stmtB ex bl p = ((cmdP ex k (p.took p.peek)).1, (cmdP ex k (p.took p.peek)).2.need [59]) := by
 subst hk
 rw [took_is (kind_pos (by omega))]
 unfold stmtB; simp only []
 rw [if_neg (by omega), if_pos h]
theorem st_local {ex bl : PS → Nd × PS} {p : PS} {k : Int} (hk : kindP p.peek = k) (h0 : ¬ (k = 11 ∨ k = 12)) (h : ¬ 12 < k) (hd : p.peek.take 1 = [36]) : stmtB ex bl p = (.mk 9 (localP p).1 0 [(ex ((localP p).2.need [61])).1], (ex ((localP p).2.need [61])).2.need [59]) := by
 subst hk
 unfold stmtB; simp only []
 rw [if_neg h0, if_neg h]
 rw [(local_is hd).1]
 rfl
theorem st_place {ex bl : PS → Nd × PS} {p : PS} {k : Int} (hk : kindP p.peek = k) (h0 : ¬ (k = 11 ∨ k = 12)) (h : ¬ 12 < k) (hd : ¬ p.peek.take 1 = [36]) : stmtB ex bl p = (.mk 10 [] 0 [(placeP p).1, (ex ((placeP p).2.need [61])).1], (ex ((placeP p).2.need [61])).2.need [59]) := by
 subst hk
 unfold stmtB; simp only []
 rw [if_neg h0, if_neg h]
 split
 ·rename_i r e; rw [e] at hd; exact absurd rfl hd
 ·rfl
theorem need_le {p : PS} {s : Str} : (p.need s).l.length ≤ p.l.length := by
 unfold PS.need
 split
 ·exact skip_len
 ·rw [fail_l]; exact Nat.le_refl _
theorem stmtB_eats {m : Nat} {ex bl : PS → Nd × PS} (hs : Stk ex) (ht : Stk bl) (hx : Rt (m + 1) isExprK ex) (hb : Rt m isBlockK bl) : Eats (m + 1) (stmtB ex bl) := fun p hl h _ => by
 by_cases he : (stmtB ex bl p).2.e = 0
 ·right
  obtain ⟨k, hk⟩ : ∃ k, kindP p.peek = k := ⟨_, rfl⟩
  by_cases h1 : k = 11 ∨ k = 12
  ·have ip := kind_pos (p := p) (by omega)
   have lp := is_len ip
   rw [← took_is ip] at lp
   have gp := good_took (s := p.peek) h
   obtain ⟨e0, e1, _⟩ := hx (p.took p.peek) (by omega) gp
   obtain ⟨b0, b1, _⟩ := hb (ex (p.took p.peek)).2 (by omega) e1
   by_cases h2 : k = 11 ∧ (bl (ex (p.took p.peek)).2).2.is sElse = true
   ·rw [st_else hk h2.1 h2.2]
    have l2 := is_len h2.2
    rw [← took_is h2.2] at l2
    obtain ⟨c0, _, _⟩ := hb ((bl (ex (p.took p.peek)).2).2.took sElse) (by omega) (good_took b1)
    show (bl ((bl (ex (p.took p.peek)).2).2.took sElse)).2.l.length < p.l.length
    omega
   ·rw [st_if hk h1 (fun q => by
     cases z : (bl (ex (p.took p.peek)).2).2.is sElse with
     | false => rfl
     | true => exact absurd ⟨q, z⟩ h2)]
    show (bl (ex (p.took p.peek)).2).2.l.length < p.l.length
    omega
  ·by_cases h3 : 12 < k
   ·have ip := kind_pos (p := p) (by omega)
    have lp := is_len ip
    rw [← took_is ip] at lp
    have gp := good_took (s := p.peek) h
    obtain ⟨c0, _, _⟩ := cmdP_rt (m := m + 1) hs hx (k := k) (hk ▸ kind_range (s := p.peek) (by omega)) (p.took p.peek) (by omega) gp
    rw [st_cmd hk h3]
    have := need_le (p := (cmdP ex k (p.took p.peek)).2) (s := [59])
    show ((cmdP ex k (p.took p.peek)).2.need [59]).l.length < p.l.length
    omega
   ·by_cases h4 : p.peek.take 1 = [36]
    ·obtain ⟨i1, i2⟩ := local_is h4
     have ip : p.is p.peek = true := is_iff.2 ⟨fun e => (by rw [e] at h4; cases h4), rfl⟩
     have lp := is_len ip
     rw [← took_is ip] at lp
     rw [st_local hk h1 h3 h4, i2]
     have n1 := need_le (p := p.took p.peek) (s := [61])
     obtain ⟨e0, _, _⟩ := hx ((p.took p.peek).need [61]) (by omega) (good_need (good_took h)).2
     have n2 := need_le (p := (ex ((p.took p.peek).need [61])).2) (s := [59])
     show ((ex ((p.took p.peek).need [61])).2.need [59]).l.length < p.l.length
     omega
    ·rw [st_place hk h1 h3 h4] at he ⊢
     have he : ((ex ((placeP p).2.need [61])).2.need [59]).e = 0 := he
     have he2 := hs _ (need_e he).2
     have he3 := (need_e he2).2
     have pl : (placeP p).2.l.length < p.l.length := by
      unfold placeP at he3 ⊢
      have nm : (nameP p).2.e = 0 → (nameP p).2.l.length < p.l.length := fun z => by
       cases q : isNameB p.peek with
       | false => rw [name_not q] at z; exact absurd z (fail_e (by decide))
       | true =>
        have ip : p.is p.peek = true := is_iff.2 ⟨fun e => (by rw [e] at q; cases q), rfl⟩
        have lp := is_len ip
        rw [name_is q, took_is ip]
        simp only; omega
      have ng := nameP_good h
      split at he3
      ·rename_i z
       rw [if_pos z]
       have z2 := nameP_stk _ he3
       have z3 : (nameP p).2.e = 0 := z2
       have ll := (nameP_good (p := (nameP p).2.skip) (good_skip ng.2.1)).1
       have l3 := skip_len (p := (nameP p).2)
       have := nm z3
       simp only; omega
      ·rename_i z
       rw [if_neg z]
       exact nm he3
     have n1 := need_le (p := (placeP p).2) (s := [61])
     have pg := (placeP_rt (p.l.length + 1) p (Nat.lt_succ_self _) h).2.1
     obtain ⟨e0, _, _⟩ := hx ((placeP p).2.need [61]) (by omega) (good_need pg).2
     have n2 := need_le (p := (ex ((placeP p).2.need [61])).2) (s := [59])
     show ((ex ((placeP p).2.need [61])).2.need [59]).l.length < p.l.length
     omega
 ·exact .inl he
end Go.Eng
namespace Go.Eng
open Go.Proofs
attribute [local simp] runL stepL evalG evalOp opLV constLV putEnv dstOk upd upds Res.plain Res.cond Res.fail evalBin evalUn seqQ blockQ argsEnv lookL lookH RetIs memless freshL evalPick evalMin bval bok evalLen evalIn strip whenC guardOps guardC slotsOf
 runM foldS stepI stepM maskE wrIn lk renO lookN evalCall evalCallee optAll resLV resObj retLV retObj retsLV retsObj evalLoad evalIndexAddr evalField solid cellsD_agg cellsD_int cellsD_bool cellsD_str cellsD_sl cellsD_ro cellsD_fn cellsL_agg cellsL_dagg cellsL_int cellsL_bool cellsL_str cellsL_sl cellsL_fn cellsL_ow cellsL_bx cellsL_lfn cellsL_nl takeL takeD mkAgg allD eqD eqDs kindsAre kindIs LObj.live TK.isNone TK.agg TK.isBool TK.isStr TK.isStruct Op.operands Call.operands
 evalBuildSlice evalAppend elemsOf evalStore evalBuild fillL lookupF putL evalSlice bound evalConv elemsS freezes frozen loadR
 mkEnv_at mkObs_at close_d close_agg close_ow close_bx close_fn close_nl touch_d touch_agg touch_ow touch_bx touch_fn touch_nl ren_d ren_agg ren_bx ren_rp ren_ow ren_fn ren_nl ren_junk retQ_ret retQ2_ret condQ_bool Nm.d Df.d Ed.d nmsD dfsD strsD edsD retC_ret nm_eq df_eq take_map_len take_map_app
 nm_t nm_d nm_td df_t df_d df_td str_t str_d str_td ed_t ed_d ed_td
 evalAppendIn evalBuildSliceC evalCopyC shortL evalApart evalAppendC evalAppendZ evalAppendG evalCapC isOc TK.isInt close_oc touch_oc ren_oc cellsL_oc evalCut evalClear evalCopy evalMake evalWrap evalCap evalNil isNilC lenL isInp gorc gorc2
 mapOf findD keyEq keyOk evalMakeMap evalRange zeroD zeroDV argsG shutG outN lenv retG0_ret retG0_normal retG1_ret retGR_ret renO close_mp touch_mp ren_mp optAll_d optAll_d' touch_ds cellsL_mp cellsD_mp cellsL_dmp
 evalMapSet evalPtr TK.isPtr evalToArr firstL retN_ret retsQ rvarL close_bm touch_bm ren_bm cellsD_bm cellsL_bm cellsL_lbm
attribute [local simp] cutQ_normal cutQ_ret cutQ_exit
section
attribute [local simp] Res.cond Nd.d_eq nd_t nd_dr nd_td ndsD evalIndex retGC_ret tksD psH upds_same
theorem one_i (k : IntKind) (n : Int) : (Value.int k n).oneCell' = true := rfl
theorem one_s (x : ByteArray) : (Value.string x).oneCell' = true := rfl
theorem one_l (x : Option Addr) (a b : Nat) : (Value.slice x a b).oneCell' = true := rfl
theorem all4 (a b c d : Value) : (∀ (i : Nat) (x : i < 4), ([a, b, c, d][i]'(x)).oneCell' = true) ↔ (a.oneCell' = true ∧ b.oneCell' = true ∧ c.oneCell' = true ∧ d.oneCell' = true) := by
 constructor
 ·intro h
  exact ⟨h 0 (by decide), h 1 (by decide), h 2 (by decide), h 3 (by decide)⟩
 ·rintro ⟨h1, h2, h3, h4⟩ i hi
  match i, hi with
  | 0, _ => exact h1
  | 1, _ => exact h2
  | 2, _ => exact h3
  | 3, _ => exact h4
attribute [local simp] constL1 one_i one_s one_l all4
theorem take_else {c : Prop} [Decidable c] {f : Nat → LObj} {a b : PS} {x : Nat} (h : f 0 = .box false [.d (.sl (b.l.map Tk.d)), .d (I64 b.e)]) :
  upds f (if c then [(0, .box false [.d (.sl (a.l.map Tk.d)), .d (I64 a.e)])] else []) x = if x = 0 then .box false [.d (.sl ((if c then a else b).l.map Tk.d)), .d (I64 (if c then a else b).e)] else f x := by
 by_cases hc : c
 ·simp only [hc, if_true, upds, upd]
 ·simp only [hc, if_false, upds]
  split
  ·rename_i e; rw [e]; exact h
  ·rfl
structure KC where
 k : Int
structure StS where
 x : Nd
 q : PS
theorem stmt_rstep (p : PS) (n : Nat) (ex bl : PS → Nd × PS) (hE : Reads (n + 1) 140 ex) (hB : Reads n 77 bl) (hn : p.l.length < n + 1) (hg : GoodT p.l) : OkG Tryz.prog 114 [.bx 0 0] (psH p) (psH (stmtB ex bl p).2) (.d (stmtB ex bl p).1.d) := by
 unfold psH
 refine OkG.cell hT Tryz.func114 (by kernel_rfl) (c := _) rfl Tryz.ntmps114 (by simp) Tryz.results114 fun w0 X hp => ?_
 refine LWp.sz hT hW ?_
 simp
 refine LWp.so hT hW (fun | 7 => some (.gen ⟨[(0, 0)], [], [], psH p, .d (.str p.peek)⟩) | _ => none) ?_
 simp
 refine ⟨peek_ok p, ?_⟩
 refine LWp.sz hT hW ?_
 simp
 refine LWp.seqCut (ι := KC) (fun ⟨k⟩ => mkEnv [(0, .bx 0 0), (2, .bx 2 0), (3, .d (.str p.peek)), (4, .d (I64 k))]) (fun ⟨k⟩ => mkObs [(0, .box false [.d (tksD p.l), .d (I64 p.e)]), (2, .box false [.d (I64 0), .d (.str []), .d (I64 0), .nl])]) (fun ⟨k⟩ => kindP p.peek = k) ?_ fun ⟨k⟩ hc5 => ?_
 ·refine LWp.sz hT hW ?_
  simp
  refine LWp.iff ?_
  simp
  refine ⟨fun h3 => ?_, fun h3 => ?_⟩
  ·have hi := IndexOfStr_ok wordsL p.peek
   have q2 := glob0_len
   rw [← kind_eq h3] at hi
   refine LWp.ro hT hW (fun | 12 => some <| .plain ⟨.d (I64 (kindP p.peek)), true⟩ | _ => none) ?_
   simp [glob0_take]
   refine ⟨⟨by omega, hi⟩, ?_⟩
   refine cutQ.mk ⟨kindP p.peek⟩ (Weak.to [0, 2, 3, 4] [(0, 0), (2, 2)] (by decide) (by decide) (by simp [hp]) (by simp) (by simp)) ?_
   rfl
  ·refine LWp.skip ?_
   simp
   refine cutQ.mk ⟨-1⟩ (Weak.to [0, 2, 3, 4] [(0, 0), (2, 2)] (by decide) (by decide) (by simp [hp]) (by simp) (by simp)) ?_
   exact kind_nil h3
 ·refine LWp.sz hT hW ?_
  simp
  refine LWp.seqCut (ι := StS) (fun ⟨x, q⟩ => mkEnv [(0, .bx 0 0), (2, .bx 2 0), (5, .bx 5 0)]) (fun ⟨x, q⟩ => mkObs [(0, .box false [.d (tksD q.l), .d (I64 q.e)]), (2, .box false [.d (I64 0), .d (.str []), .d (I64 0), .nl]), (5, .box false [.d (I64 x.kind), .d (.str x.text), .d (I64 x.n), .d (ndsD x.kids)])]) (fun ⟨x, q⟩ => stmtB ex bl p = (x, q.need [59])) ?_ fun ⟨x, q⟩ hc22 => ?_
  ·refine LWp.block ?_
   refine LWp.sz hT hW ?_
   simp
   refine LWp.iff ?_
   simp
   refine ⟨fun g => ?_, fun g1 g2 => ?_⟩
   ·refine LWp.seq ?_
    have ip := kind_pos (p := p) (by omega)
    have lp := is_len ip
    rw [← took_is ip] at lp
    have gp := good_took (s := p.peek) hg
    refine LWp.ro hT hW (fun | 39 => some (.gen ⟨[(0, 0)], [], [], psH (p.took p.peek), .d (.bool (p.is p.peek))⟩) | _ => none) ?_
    simp
    refine ⟨take_ok p p.peek, ?_⟩
    refine LWp.nlCell (fz := false) (cs := [.d (I64 k), .d (.str []), .d (I64 0), .nl]) 5 3 1048 4 (by decide) ⟨by simp, by simp, by simp, ?_⟩
    simp
    refine LWp.seq ?_
    have he := hE.ok (p.took p.peek) (by omega) gp
    have le := hE.le (p.took p.peek) (by omega) gp
    have hb := hB.ok (ex (p.took p.peek)).2 (by omega) le.2
    have lb := hB.le (ex (p.took p.peek)).2 (by omega) le.2
    refine LWp.regAny hT hW hMixed (lk [[],[0],[],[2],[],[2,3,4],[0,1],[],[0,1,2,3,4,5,6,7],[0,1,2,3,4,5,6,7,8],[0,1,2,3,4,5,6,7,8,9],[0,1,6],[0,1,2,3,4,5,6,7,8,9,10,11],[0,1,2,3,4,5,6,7,8,9,10,11,12],[0,1,2,3,4,5,6,7,8],[0,1,2,3,4,5,6,7,8,14]]) (lk [[0,47],[0,47],[47],[47],[0,47],[47],[0,47],[0],[],[5],[5],[0,5,47,48,1048],[5],[5],[48],[48]]) (lk [[],[],[],[0],[],[0],[],[47],[48,1048],[],[48],[],[],[48],[],[5]]) (by kernel_rfl) (fun | 43 => some (.gen ⟨[(0, 0)], [], [], psH (ex (p.took p.peek)).2, .d (ex (p.took p.peek)).1.d⟩) | 45 => some (.gen ⟨[(0, 0)], [], [], psH (bl (ex (p.took p.peek)).2).2, .d (bl (ex (p.took p.peek)).2).1.d⟩) | _ => none) (by intro d; first | exact ⟨rfl, fun _ h => h⟩ | (split <;> exact ⟨rfl, fun _ h => h⟩)) ?_
    simp
    refine ⟨⟨⟨by simpa using he, by simpa using hb⟩, by decide⟩, ?_⟩
    refine LWp.seq ?_
    refine LWp.seq ?_
    have ht := take_ok (bl (ex (p.took p.peek)).2).2 sElse
    refine LWp.ro hT hW (fun | 57 => some (.gen ⟨[(0, 0)], [], [], psH ((bl (ex (p.took p.peek)).2).2.took sElse), .d (.bool ((bl (ex (p.took p.peek)).2).2.is sElse))⟩) | _ => none) ?_
    simp [take_else (b := (bl (ex (p.took p.peek)).2).2)]
    refine ⟨fun _ => ht, ?_⟩
    refine LWp.iff ?_
    simp
    refine ⟨fun g3 g4 => ?_, fun g3 => ?_⟩
    ·simp only [g3, if_true]
     have gt := good_took (s := sElse) lb.2
     have lt : ((bl (ex (p.took p.peek)).2).2.took sElse).l.length ≤ (bl (ex (p.took p.peek)).2).2.l.length := by rw [took_is g4]; exact skip_len
     have hb2 := hB.ok ((bl (ex (p.took p.peek)).2).2.took sElse) (by omega) gt
     refine LWp.regAny hT hW hMixed (lk [[],[0],[],[2],[0,1],[],[0,1,2,3,4,5],[0,1,2,3,4,5,6],[0,1,2,3,4,5,6,7],[0,1,2,3,4,5,6],[0,1,2,3,4,5,6,9]]) (lk [[0,64],[0,64],[64],[64],[0,64],[0],[],[5],[5],[65],[65]]) (lk [[],[],[],[0],[],[64],[65,48],[],[65],[],[5]]) (by kernel_rfl) (fun | 62 => some (.gen ⟨[(0, 0)], [], [], psH (bl ((bl (ex (p.took p.peek)).2).2.took sElse)).2, .d (bl ((bl (ex (p.took p.peek)).2).2.took sElse)).1.d⟩) | _ => none) (by intro d; first | exact ⟨rfl, fun _ h => h⟩ | (split <;> exact ⟨rfl, fun _ h => h⟩)) ?_
     simp
     refine ⟨by simpa using hb2, ?_⟩
     refine LWp.sz hT hW ?_
     simp
     refine LWp.ret ?_
     simp
     have e := st_else (ex := ex) (bl := bl) hc5 g3 g4
     refine Weak.closed (x := (stmtB ex bl p).1.d) (by simp [e, g3]) ?_
     simp
     exact Weak.to [0] [(0, 0)] (by decide) (by decide) (by simp [hp]) (by simp) (by simp [e])
    ·have eq : (if k = 11 then (bl (ex (p.took p.peek)).2).2.took sElse else (bl (ex (p.took p.peek)).2).2) = (bl (ex (p.took p.peek)).2).2 := by
      split
      ·rename_i z
       exact took_not (by simp [g3 z])
      ·rfl
     simp only [eq]
     refine LWp.skip ?_
     simp
     refine LWp.sz hT hW ?_
     simp
     refine LWp.ret ?_
     simp
     have e := st_if (ex := ex) (bl := bl) hc5 g g3
     refine Weak.closed (x := (stmtB ex bl p).1.d) (by simp [e]) ?_
     simp
     exact Weak.to [0] [(0, 0)] (by decide) (by decide) (by simp [hp]) (by simp) (by simp [e])
   ·refine LWp.sz hT hW ?_
    simp
    refine LWp.iff ?_
    simp
    refine ⟨fun h15 => ?_, fun h15 => ?_⟩
    ·refine LWp.seq ?_
     have ip := kind_pos (p := p) (by have := hc5; simp only at this; omega)
     have lp := is_len ip
     rw [← took_is ip] at lp
     have gp := good_took (s := p.peek) hg
     refine LWp.ro hT hW (fun | 74 => some (.gen ⟨[(0, 0)], [], [], psH (p.took p.peek), .d (.bool (p.is p.peek))⟩) | _ => none) ?_
     simp
     refine ⟨take_ok p p.peek, ?_⟩
     have kr := kind_range (s := p.peek) (by have := hc5; simp only at this; omega)
     have hcm := command_ok (p.took p.peek) (n + 1) ex k (by have := hc5; simp only at this; omega) hE (by omega) gp
     refine LWp.ro hT hW (fun | 76 => some (.gen ⟨[(0, 0), (5, 1)], [], [], cdH (cmdP ex k (p.took p.peek)).2 (cmdP ex k (p.took p.peek)).1, .tup []⟩) | _ => none) ?_
     simp [cdH]
     refine ⟨by simpa [cdH] using hcm, ?_⟩
     refine cutQ.mk ⟨(cmdP ex k (p.took p.peek)).1, (cmdP ex k (p.took p.peek)).2⟩ (Weak.to [0, 2, 5] [(0, 0), (2, 2), (5, 5)] (by decide) (by decide) (by simp [hp]) (by simp) (by simp)) ?_
     exact st_cmd hc5 h15
    ·refine LWp.seq ?_
     have hpf := HasPrefix_ok p.peek [36] (by have := peek_tl hg; omega) (by decide)
     refine LWp.ro hT hW (fun | 79 => some <| .plain ⟨.d (.bool (decide (p.peek.take 1 = [36]))), true⟩ | _ => none) ?_
     simp
     refine ⟨hpf, ?_⟩
     refine LWp.iff ?_
     simp
     refine ⟨fun h18 => ?_, fun h18 => ?_⟩
     ·refine LWp.seq ?_
      have hlo := local_ok p hg
      have gl := localP_good hg
      refine LWp.ro hT hW (fun | 81 => some (.gen ⟨[(0, 0)], [], [], psH (localP p).2, .d (.str (localP p).1)⟩) | _ => none) ?_
      simp
      refine ⟨hlo, ?_⟩
      refine LWp.seq ?_
      have hne := need_ok (localP p).2 [61]
      have gn := good_need (s := [61]) gl.2.1
      refine LWp.ro hT hW (fun | 84 => some (.gen ⟨[(0, 0)], [], [], psH ((localP p).2.need [61]), .tup []⟩) | _ => none) ?_
      simp
      refine ⟨hne, ?_⟩
      have hx := hE.ok ((localP p).2.need [61]) (by have := gl.1; omega) gn.2
      refine LWp.ro hT hW (fun | 86 => some (.gen ⟨[(0, 0)], [], [], psH (ex ((localP p).2.need [61])).2, .d (ex ((localP p).2.need [61])).1.d⟩) | _ => none) ?_
      simp
      refine ⟨by simpa using hx, ?_⟩
      refine exWeak (Weak.shutBox 5 [87] (fz := false) (cs := [.d (I64 9), .d (.str (localP p).1), .d (I64 0), .ow 87 0 1]) (ds := [I64 9, .str (localP p).1, I64 0, .sl [(ex ((localP p).2.need [61])).1.d]]) (by simp) (by simp) (by simp) (by simp [LObj.mut])) ?_
      simp
      refine cutQ.mk ⟨.mk 9 (localP p).1 0 [(ex ((localP p).2.need [61])).1], (ex ((localP p).2.need [61])).2⟩ (Weak.to [0, 2, 5] [(0, 0), (2, 2), (5, 5)] (by decide) (by decide) (by simp [hp]) (by simp) (by simp)) ?_
      exact st_local hc5 (by omega) (by omega) h18
     ·refine LWp.seq ?_
      have hpl := place_ok p hg
      have gl := placeP_rt (p.l.length + 1) p (Nat.lt_succ_self _) hg
      refine LWp.ro hT hW (fun | 16 => some (.gen ⟨[(0, 0)], [], [], psH (placeP p).2, .d (placeP p).1.d⟩) | _ => none) ?_
      simp
      refine ⟨by simpa using hpl, ?_⟩
      refine LWp.seq ?_
      have hne := need_ok (placeP p).2 [61]
      have gn := good_need (s := [61]) gl.2.1
      refine LWp.ro hT hW (fun | 20 => some (.gen ⟨[(0, 0)], [], [], psH ((placeP p).2.need [61]), .tup []⟩) | _ => none) ?_
      simp
      refine ⟨hne, ?_⟩
      have hx := hE.ok ((placeP p).2.need [61]) (by have := gl.1; omega) gn.2
      refine LWp.regAny hT hW hMixed (lk [[],[0],[],[2],[0,1],[],[0,1,2,3,4,5],[0,1,2,3,4,5,6],[0,1,2,3,4,5,6,7],[0,1,2,3,4,5,6],[0,1,2,3,4,5,6,9]]) (lk [[0,26],[0,26],[26],[26],[0,26],[0],[],[5],[5],[27],[27]]) (lk [[],[],[],[0],[],[26],[27,17],[],[27],[],[5]]) (by kernel_rfl) (fun | 24 => some (.gen ⟨[(0, 0)], [], [], psH (ex ((placeP p).2.need [61])).2, .d (ex ((placeP p).2.need [61])).1.d⟩) | _ => none) (by intro d; first | exact ⟨rfl, fun _ h => h⟩ | (split <;> exact ⟨rfl, fun _ h => h⟩)) ?_
      simp
      refine ⟨by simpa using hx, ?_⟩
      refine exWeak (Weak.shutBox 5 [27] (fz := false) (cs := [.d (I64 10), .d (.str []), .d (I64 0), .ow 27 0 2]) (ds := [I64 10, .str [], I64 0, .sl [(placeP p).1.d, (ex ((placeP p).2.need [61])).1.d]]) (by simp) (by simp) (by simp) (by simp [LObj.mut])) ?_
      simp
      refine cutQ.mk ⟨.mk 10 [] 0 [(placeP p).1, (ex ((placeP p).2.need [61])).1], (ex ((placeP p).2.need [61])).2⟩ (Weak.to [0, 2, 5] [(0, 0), (2, 2), (5, 5)] (by decide) (by decide) (by simp [hp]) (by simp) (by simp)) ?_
      exact st_place hc5 (by omega) (by omega) h18
  ·refine LWp.seq ?_
   have hne := need_ok q [59]
   refine LWp.ro hT hW (fun | 90 => some (.gen ⟨[(0, 0)], [], [], psH (q.need [59]), .tup []⟩) | _ => none) ?_
   simp
   refine ⟨hne, ?_⟩
   refine LWp.sz hT hW ?_
   simp
   refine LWp.ret ?_
   simp
   exact Weak.to [0] [(0, 0)] (by decide) (by decide) (by simp [hp]) (by simp [hc22]) (by simp [hc22])
end
open Go.Proofs
section
attribute [local simp] Res.cond Nd.d_eq nd_t nd_dr nd_td ndsD evalIndex retGC_ret upds_same constL1 one_i one_s one_l all4 Int.add_assoc
def mkH (L : List Int) (i : Nat) : List (Nat × LObj) := [(0, .box false [.d (.sl (L.map I64)), .d (I64 i)])]
def MkL (L : List Int) : Prop := ∀ n ∈ L, -9223372036854775808 ≤ n ∧ n ≤ 9223372036854775807
attribute [local simp] mkH
theorem atL_range (l : List Int) (i m : Int) (h : 0 < m) : 0 ≤ atL l i m ∧ atL l i m < m := by
 unfold atL
 split
 ·omega
 ·exact around_lt _ _ h
theorem MTake_ok (L : List Int) (i : Nat) (m : Int) (hL : MkL L) (hi : i ≤ 3000000) (hm : m ≠ 0) : OkG Tryz.prog 35 [.bx 0 0, .d (I64 m)] (mkH L i) (mkH L (i + 1)) (.d (I64 (atL L i m))) := by
 unfold mkH
 refine OkG.one Tryz.func35 (by kernel_rfl) (c := _) rfl Tryz.ntmps35 (by simp) Tryz.results35 fun w0 X hp => ?_
 refine LWp.sz hT hW ?_
 simp
 refine LWp.sz hT hW ?_
 simp
 refine ⟨by omega, ?_⟩
 refine LWp.seq ?_
 have ha := At_ok L i m hL hm
 have e1 : (i : Int) + 1 - 1 = i := by omega
 refine LWp.regAny hT hW hMixed (lk [[],[0],[0,1],[0,1,2],[],[4],[4,5],[4,5,6],[4,5,6,7],[],[0,1,2,3,4,5,6,7,8,9],[0,1,2,3,4,5,6,7,8,9,10]]) (lk [[],[],[],[],[],[],[],[],[],[],[],[]]) (lk [[],[],[],[],[],[],[],[],[],[],[22],[]]) (by kernel_rfl) (fun | 22 => some <| .plain ⟨.d (I64 (atL L i m)), true⟩ | _ => none) (by intro d; first | exact ⟨rfl, fun _ h => h⟩ | (split <;> exact ⟨rfl, fun _ h => h⟩)) ?_
 simp [e1]
 refine ⟨⟨by omega, ha⟩, ?_⟩
 refine LWp.ret ?_
 simp
 exact Weak.to [4] [(0, 0)] (by decide) (by decide) (by simp [hp]) (by simp) (by simp)
theorem call_at {L : List Int} {i : Nat} : (callL.map DV.str)[(atL L i 8).toNat]?.getD default = .str (callM L i) := by
 have h := atL_range L i 8 (by decide)
 have hk : (atL L i 8).toNat < callL.length := by show _ < 8; omega
 unfold callM
 rw [List.getElem?_map, List.getElem?_eq_getElem hk]
 simp [List.getD_eq_getElem?_getD, hk]
theorem own_at {L : List Int} {i : Nat} : (ownL.map DV.str)[(atL L i 4).toNat]?.getD default = .str (ownM L i) := by
 have h := atL_range L i 4 (by decide)
 have hk : (atL L i 4).toNat < ownL.length := by show _ < 4; omega
 unfold ownM
 rw [List.getElem?_map, List.getElem?_eq_getElem hk]
 simp [List.getD_eq_getElem?_getD, hk]
theorem num_at {L : List Int} {i : Nat} : (numsM.map I64)[(atL L i 6).toNat]?.getD default = I64 (numsM.getD (atL L i 6).toNat 0) := by
 have h := atL_range L i 6 (by decide)
 have hk : (atL L i 6).toNat < numsM.length := by show _ < 6; omega
 rw [List.getElem?_map, List.getElem?_eq_getElem hk]
 simp [List.getD_eq_getElem?_getD, hk]
theorem MCalled_ok (L : List Int) (i : Nat) (hL : MkL L) (hi : i ≤ 3000000) : OkG Tryz.prog 36 [.bx 0 0] (mkH L i) (mkH L (i + 1)) (.d (.str (callM L i))) := by
 unfold mkH
 refine OkG.one Tryz.func36 (by kernel_rfl) (c := _) rfl Tryz.ntmps36 (by simp) Tryz.results36 fun w0 X hp => ?_
 refine LWp.sz hT hW ?_
 simp
 refine LWp.seq ?_
 have ha := MTake_ok L i 8 hL hi (by decide)
 have hr := atL_range L i 8 (by decide)
 have hc := call_at (L := L) (i := i)
 simp [callL] at hc
 refine LWp.ro hT hW (fun | 5 => some (.gen ⟨[(0, 0)], [], [], mkH L (i + 1), .d (I64 (atL L i 8))⟩) | _ => none) ?_
 simp [hc]
 refine ⟨⟨⟨⟨by decide, by simpa using ha⟩, by omega⟩, by omega⟩, ?_⟩
 refine LWp.ret ?_
 simp
 exact Weak.to [2] [(0, 0)] (by decide) (by decide) (by simp [hp]) (by simp) (by simp)
theorem MOwn_ok (L : List Int) (i : Nat) (hL : MkL L) (hi : i ≤ 3000000) : OkG Tryz.prog 58 [.bx 0 0] (mkH L i) (mkH L (i + 1)) (.d (.str (ownM L i))) := by
 unfold mkH
 refine OkG.one Tryz.func58 (by kernel_rfl) (c := _) rfl Tryz.ntmps58 (by simp) Tryz.results58 fun w0 X hp => ?_
 refine LWp.sz hT hW ?_
 simp
 refine LWp.seq ?_
 have ha := MTake_ok L i 4 hL hi (by decide)
 have hr := atL_range L i 4 (by decide)
 have hc := own_at (L := L) (i := i)
 simp [ownL] at hc
 refine LWp.ro hT hW (fun | 5 => some (.gen ⟨[(0, 0)], [], [], mkH L (i + 1), .d (I64 (atL L i 4))⟩) | _ => none) ?_
 simp [hc]
 refine ⟨⟨⟨⟨by decide, by simpa using ha⟩, by omega⟩, by omega⟩, ?_⟩
 refine LWp.ret ?_
 simp
 exact Weak.to [2] [(0, 0)] (by decide) (by decide) (by simp [hp]) (by simp) (by simp)
theorem callM_len (L : List Int) (i : Nat) : (callM L i).length ≤ 16 := by
 have h := atL_range L i 8 (by decide)
 unfold callM
 have : ∀ k : Nat, (callL.getD k []).length ≤ 16 := fun k => by
  rw [List.getD_eq_getElem?_getD]
  cases e : callL[k]? with
  | none => simp
  | some w =>
   have := List.mem_of_getElem? e
   exact (by decide : ∀ w ∈ callL, w.length ≤ 16) w this
 exact this _
theorem MAt_ok (L : List Int) (i : Nat) (hL : MkL L) (hi : i ≤ 2000000) : OkG Tryz.prog 59 [.bx 0 0] (mkH L i) (mkH L (placeM L i).2) (.d (placeM L i).1.d) := by
 unfold mkH
 refine OkG.cell hT Tryz.func59 (by kernel_rfl) (c := _) rfl Tryz.ntmps59 (by simp) Tryz.results59 fun w0 X hp => ?_
 refine LWp.sz hT hW ?_
 simp
 refine LWp.seq ?_
 refine LWp.seq ?_
 have ha := MTake_ok L i 3 hL (by omega) (by decide)
 refine LWp.ro hT hW (fun | 5 => some (.gen ⟨[(0, 0)], [], [], mkH L (i + 1), .d (I64 (atL L i 3))⟩) | _ => none) ?_
 simp
 refine ⟨by simpa using ha, ?_⟩
 refine LWp.iff ?_
 simp
 refine ⟨fun h1 => ?_, fun h1 => ?_⟩
 ·refine LWp.seq ?_
  have hc := MCalled_ok L (i + 1) hL (by omega)
  refine LWp.ro hT hW (fun | 8 => some (.gen ⟨[(0, 0)], [], [], mkH L (i + 1 + 1), .d (.str (callM L (i + 1)))⟩) | _ => none) ?_
  simp
  refine ⟨by simpa using hc, ?_⟩
  refine LWp.ret ?_
  simp
  have e : placeM L i = (.mk 34 (callM L (i + 1)) 0 [], i + 2) := by unfold placeM; rw [if_pos h1]
  refine Weak.closed (x := (placeM L i).1.d) (by simp [e]) ?_
  simp
  exact Weak.to [0] [(0, 0)] (by decide) (by decide) (by simp [hp]) (by simp) (by simp [e])
 ·refine LWp.skip ?_
  simp
  refine LWp.seq ?_
  have hc := MCalled_ok L (i + 1) hL (by omega)
  refine LWp.ro hT hW (fun | 11 => some (.gen ⟨[(0, 0)], [], [], mkH L (i + 1 + 1), .d (.str (callM L (i + 1)))⟩) | _ => none) ?_
  simp
  refine ⟨by simpa using hc, ?_⟩
  refine LWp.seq ?_
  have hc2 := MCalled_ok L (i + 2) hL (by omega)
  have l1 := callM_len L (i + 1)
  have l2 := callM_len L (i + 2)
  refine LWp.ro hT hW (fun | 15 => some (.gen ⟨[(0, 0)], [], [], mkH L (i + 2 + 1), .d (.str (callM L (i + 2)))⟩) | _ => none) ?_
  simp
  refine ⟨⟨⟨by omega, by simpa using hc2⟩, by omega⟩, ?_⟩
  refine LWp.ret ?_
  simp
  have e : placeM L i = (.mk 35 (callM L (i + 1) ++ 46 :: callM L (i + 2)) 0 [], i + 3) := by unfold placeM; rw [if_neg (by omega)]
  refine Weak.closed (x := (placeM L i).1.d) (by simp [e]) ?_
  simp
  exact Weak.to [0] [(0, 0)] (by decide) (by decide) (by simp [hp]) (by simp) (by simp [e])
end
open Go.Proofs
section
attribute [local simp] Res.cond Nd.d_eq nd_t nd_dr nd_td ndsD evalIndex retGC_ret constL1 Int.add_assoc upds_same one_i one_s one_l all4 mkH
def valK (L : List Int) (d i : Nat) : Int := if d = 0 ∨ L.length < i + 1 then (atL L i 12).tmod 6 else atL L i 12
theorem valK_range (L : List Int) (d i : Nat) : 0 ≤ valK L d i ∧ valK L d i < 12 ∧ (d = 0 → valK L d i < 6) := by
 have h := atL_range L i 12 (by decide)
 unfold valK
 split
 ·have : (atL L i 12).tmod 6 = atL L i 12 % 6 := Int.tmod_eq_emod_of_nonneg h.1
  rw [this]
  omega
 ·omega
theorem value_num {L : List Int} {d i : Nat} (h : valK L d i = 0 ∨ valK L d i = 1) : valueM L d i = (.mk 32 [] (numsM.getD (atL L (i + 1) 6).toNat 0) [], i + 2) := by
 unfold valK at h
 unfold valueM
 simp only []
 rw [if_pos h]
theorem value_loc {L : List Int} {d i : Nat} (h : valK L d i = 2) : valueM L d i = (.mk 33 (ownM L (i + 1)) 0 [], i + 2) := by
 have h0 : ¬ (valK L d i = 0 ∨ valK L d i = 1) := by omega
 unfold valK at h h0
 unfold valueM
 simp only []
 rw [if_neg h0, if_pos h]
theorem value_place {L : List Int} {d i : Nat} (h : valK L d i = 3 ∨ valK L d i = 4) : valueM L d i = placeM L (i + 1) := by
 have h0 : ¬ (valK L d i = 0 ∨ valK L d i = 1) := by omega
 have h1 : ¬ (valK L d i = 2) := by omega
 unfold valK at h h0 h1
 unfold valueM
 simp only []
 rw [if_neg h0, if_neg h1, if_pos h]
theorem value_kind {L : List Int} {d i : Nat} (h : valK L d i = 5) : valueM L d i = (.mk 36 [] 0 [], i + 1) := by
 have h0 : ¬ (valK L d i = 0 ∨ valK L d i = 1) := by omega
 have h1 : ¬ (valK L d i = 2) := by omega
 have h2 : ¬ (valK L d i = 3 ∨ valK L d i = 4) := by omega
 unfold valK at h h0 h1 h2
 unfold valueM
 simp only []
 rw [if_neg h0, if_neg h1, if_neg h2, if_pos h]
theorem value_bin {L : List Int} {e i : Nat} (h : 6 ≤ valK L (e + 1) i) : valueM L (e + 1) i = (.mk (26 + valK L (e + 1) i - 6) [] 0 [(valueM L e (i + 1)).1, (valueM L e (valueM L e (i + 1)).2).1], (valueM L e (valueM L e (i + 1)).2).2) := by
 have h0 : ¬ (valK L (e + 1) i = 0 ∨ valK L (e + 1) i = 1) := by omega
 have h1 : ¬ (valK L (e + 1) i = 2) := by omega
 have h2 : ¬ (valK L (e + 1) i = 3 ∨ valK L (e + 1) i = 4) := by omega
 have h3 : ¬ (valK L (e + 1) i = 5) := by omega
 rw [valueM]
 have hv : (if e + 1 = 0 ∨ L.length < i + 1 then (atL L i 12).tmod 6 else atL L i 12) = valK L (e + 1) i := rfl
 rw [hv, if_neg h0, if_neg h1, if_neg h2, if_neg h3]
theorem place_to (L : List Int) (i : Nat) : (placeM L i).2 ≤ i + 3 := by unfold placeM; split <;> simp
theorem value_to (L : List Int) : ∀ (d i : Nat), (valueM L d i).2 + 1 ≤ i + 5 * 2 ^ d := fun d => by
 induction d with
 | zero =>
  intro i
  obtain ⟨r0, _, r2⟩ := valK_range L 0 i
  have r2 := r2 rfl
  by_cases h0 : valK L 0 i = 0 ∨ valK L 0 i = 1
  ·rw [value_num h0]; simp
  ·by_cases h1 : valK L 0 i = 2
   ·rw [value_loc h1]; simp
   ·by_cases h2 : valK L 0 i = 3 ∨ valK L 0 i = 4
    ·rw [value_place h2]; have := place_to L (i + 1); omega
    ·rw [value_kind (by omega)]; simp
 | succ e ih =>
  intro i
  have hp : 1 ≤ 2 ^ e := Nat.one_le_two_pow
  have h2 : 2 ^ (e + 1) = 2 * 2 ^ e := by rw [Nat.pow_succ, Nat.mul_comm]
  obtain ⟨r0, _, _⟩ := valK_range L (e + 1) i
  by_cases h0 : valK L (e + 1) i = 0 ∨ valK L (e + 1) i = 1
  ·rw [value_num h0]; simp only; omega
  ·by_cases h1 : valK L (e + 1) i = 2
   ·rw [value_loc h1]; simp only; omega
   ·by_cases h3 : valK L (e + 1) i = 3 ∨ valK L (e + 1) i = 4
    ·rw [value_place h3]; have := place_to L (i + 1); omega
    ·by_cases h4 : valK L (e + 1) i = 5
     ·rw [value_kind h4]; simp only; omega
     ·rw [value_bin (by omega)]
      have a := ih (i + 1)
      have b := ih (valueM L e (i + 1)).2
      simp only
      omega
theorem MValue_step (L : List Int) (d i : Nat) (hL : MkL L) (hll : L.length ≤ 1000000) (hi : i + 5 * 2 ^ d ≤ 2000000) (ih : ∀ e, d = e + 1 → ∀ j, j + 5 * 2 ^ e ≤ 2000000 → OkG Tryz.prog 56 [.bx 0 0, .d (I64 (e : Nat))] (mkH L j) (mkH L (valueM L e j).2) (.d (valueM L e j).1.d)) : OkG Tryz.prog 56 [.bx 0 0, .d (I64 (d : Nat))] (mkH L i) (mkH L (valueM L d i).2) (.d (valueM L d i).1.d) := by
 have h2d : 1 ≤ 2 ^ d := Nat.one_le_two_pow
 unfold mkH
 refine OkG.cell hT Tryz.func56 (by kernel_rfl) (c := _) rfl Tryz.ntmps56 (by simp) Tryz.results56 fun w0 X hp => ?_
 refine LWp.sz hT hW ?_
 simp
 refine LWp.seq ?_
 have ha := MTake_ok L i 12 hL (by omega) (by decide)
 refine LWp.ro hT hW (fun | 8 => some (.gen ⟨[(0, 0)], [], [], mkH L (i + 1), .d (I64 (atL L i 12))⟩) | _ => none) ?_
 simp
 refine ⟨by simpa using ha, ?_⟩
 refine LWp.seqCut (ι := KC) (fun ⟨k⟩ => mkEnv [(0, .bx 0 0), (1, .d (I64 (d : Nat))), (4, .bx 4 0), (5, .d (I64 k))]) (fun ⟨k⟩ => mkObs [(0, .box false [.d (.sl (L.map I64)), .d (I64 ((i + 1 : Nat) : Int))]), (4, .box false [.d (I64 0), .d (.str []), .d (I64 0), .nl])]) (fun ⟨k⟩ => valK L d i = k) ?_ fun ⟨k⟩ hc4 => ?_
 ·refine LWp.seq ?_
  refine LWp.regAny hT hW hMixed (lk [[],[0],[0,1],[0,1,2],[0,1,2,3],[0,1,2,3,4],[0,1,2,3,4,5],[0,1,2],[0,1,2,7],[0,1,2,7,8],[0,1,2,7,8,9],[0,1,2,7,8,9,10],[0,1,2,3,4,5,6,7,8,9,10,11],[0,1,2,3,4,5,6,7,8,9,10,11,12]]) (lk [[],[],[],[],[],[],[],[],[],[],[],[],[],[]]) (lk [[],[],[],[],[],[],[],[],[],[],[],[],[],[]]) (by kernel_rfl) (fun _ => none) (fun _ => ⟨rfl, fun _ h => h⟩) ?_
  simp
  refine LWp.iff ?_
  simp
  refine ⟨fun h2 => ?_, fun h2 h2b => ?_⟩
  ·refine LWp.rz hT hW ?_
   simp
   refine cutQ.mk ⟨(atL L i 12).tmod 6⟩ (Weak.to [0, 1, 4, 5] [(0, 0), (4, 4)] (by decide) (by decide) (by simp [hp]) (by simp) (by simp)) ?_
   unfold valK; rw [if_pos (by omega)]
  ·refine LWp.skip ?_
   simp
   refine cutQ.mk ⟨atL L i 12⟩ (Weak.to [0, 1, 4, 5] [(0, 0), (4, 4)] (by decide) (by decide) (by simp [hp]) (by simp) (by simp)) ?_
   unfold valK; rw [if_neg (by omega)]
 ·refine LWp.seq ?_
  refine LWp.sz hT hW ?_
  simp
  refine LWp.block ?_
  refine LWp.seqCut (ι := BC) (fun ⟨b⟩ => mkEnv [(0, .bx 0 0), (1, .d (I64 (d : Nat))), (4, .bx 4 0), (5, .d (I64 k)), (25, .d (I64 (k))), (26, .d (.bool b))]) (fun ⟨b⟩ => mkObs [(0, .box false [.d (.sl (L.map I64)), .d (I64 ((i + 1 : Nat) : Int))]), (4, .box false [.d (I64 0), .d (.str []), .d (I64 0), .nl])]) (fun ⟨b⟩ => b = true ↔ (k = 0 ∨ k = 1)) ?_ fun ⟨b⟩ hc7 => ?_
  ·refine LWp.sz hT hW ?_
   simp
   refine LWp.iff ?_
   simp
   refine ⟨fun h5 => ?_, fun h5 => ?_⟩
   ·refine LWp.skip ?_
    simp
    refine cutQ.mk ⟨decide (k = 0)⟩ (Weak.to [0, 1, 4, 5, 25, 26] [(0, 0), (4, 4)] (by decide) (by decide) (by simp [hp]) (by simp) (by simp)) ?_
    simp [h5]
   ·refine LWp.rz hT hW ?_
    simp
    refine cutQ.mk ⟨decide (k = 1)⟩ (Weak.to [0, 1, 4, 5, 25, 26] [(0, 0), (4, 4)] (by decide) (by decide) (by simp [hp]) (by simp) (by simp)) ?_
    simp only [decide_eq_true_eq]; omega
  ·refine LWp.iff ?_
   simp
   refine ⟨fun h7 => ?_, fun h7 => ?_⟩
   ·have q7 := hc7.1 h7
    refine LWp.seq ?_
    have ha := MTake_ok L (i + 1) 6 hL (by omega) (by decide)
    have hr := atL_range L ((i : Int) + 1) 6 (by decide)
    have hc := num_at (L := L) (i := i + 1)
    simp [numsM] at hc
    refine LWp.ro hT hW (fun | 31 => some (.gen ⟨[(0, 0)], [], [], mkH L (i + 1 + 1), .d (I64 (atL L ((i : Int) + 1) 6))⟩) | _ => none) ?_
    simp [hc]
    refine ⟨⟨⟨⟨by decide, by simpa using ha⟩, by omega⟩, by omega⟩, ?_⟩
    refine LWp.ret ?_
    simp
    have e := value_num (L := L) (d := d) (i := i) (by simp only at hc4; omega)
    refine Weak.closed (x := (valueM L d i).1.d) (by simp [e, numsM]) ?_
    simp
    exact Weak.to [0] [(0, 0)] (by decide) (by decide) (by simp [hp]) (by simp) (by simp [e])
   ·have q7 : ¬ (k = 0 ∨ k = 1) := fun q => by simp [hc7.2 q] at h7
    refine LWp.sz hT hW ?_
    simp
    refine LWp.iff ?_
    simp
    refine ⟨fun h8 => ?_, fun h8 => ?_⟩
    ·refine LWp.seq ?_
     have hc := MOwn_ok L (i + 1) hL (by omega)
     refine LWp.ro hT hW (fun | 38 => some (.gen ⟨[(0, 0)], [], [], mkH L (i + 1 + 1), .d (.str (ownM L (i + 1)))⟩) | _ => none) ?_
     simp
     refine ⟨by simpa using hc, ?_⟩
     refine LWp.ret ?_
     simp
     have e := value_loc (L := L) (d := d) (i := i) (by simp only at hc4; omega)
     refine Weak.closed (x := (valueM L d i).1.d) (by simp [e]) ?_
     simp
     exact Weak.to [0] [(0, 0)] (by decide) (by decide) (by simp [hp]) (by simp) (by simp [e])
    ·refine LWp.seqCut (ι := BC) (fun ⟨b⟩ => mkEnv [(0, .bx 0 0), (1, .d (I64 (d : Nat))), (4, .bx 4 0), (5, .d (I64 k)), (25, .d (I64 (k))), (40, .d (.bool b))]) (fun ⟨b⟩ => mkObs [(0, .box false [.d (.sl (L.map I64)), .d (I64 ((i + 1 : Nat) : Int))]), (4, .box false [.d (I64 0), .d (.str []), .d (I64 0), .nl])]) (fun ⟨b⟩ => b = true ↔ (k = 3 ∨ k = 4)) ?_ fun ⟨b⟩ hc12 => ?_
     ·refine LWp.sz hT hW ?_
      simp
      refine LWp.iff ?_
      simp
      refine ⟨fun h10 => ?_, fun h10 => ?_⟩
      ·refine LWp.skip ?_
       simp
       refine cutQ.mk ⟨decide (k = 3)⟩ (Weak.to [0, 1, 4, 5, 25, 40] [(0, 0), (4, 4)] (by decide) (by decide) (by simp [hp]) (by simp) (by simp)) ?_
       simp [h10]
      ·refine LWp.rz hT hW ?_
       simp
       refine cutQ.mk ⟨decide (k = 4)⟩ (Weak.to [0, 1, 4, 5, 25, 40] [(0, 0), (4, 4)] (by decide) (by decide) (by simp [hp]) (by simp) (by simp)) ?_
       simp only [decide_eq_true_eq]; omega
     ·refine LWp.iff ?_
      simp
      refine ⟨fun h12 => ?_, fun h12 => ?_⟩
      ·have q12 := hc12.1 h12
       refine LWp.seq ?_
       have hc := MAt_ok L (i + 1) hL (by omega)
       refine LWp.ro hT hW (fun | 44 => some (.gen ⟨[(0, 0)], [], [], mkH L (placeM L (i + 1)).2, .d (placeM L (i + 1)).1.d⟩) | _ => none) ?_
       simp
       refine ⟨by simpa using hc, ?_⟩
       refine LWp.ret ?_
       simp
       have e := value_place (L := L) (d := d) (i := i) (by simp only at hc4; omega)
       refine Weak.closed (x := (valueM L d i).1.d) (by simp [e]) ?_
       simp
       exact Weak.to [0] [(0, 0)] (by decide) (by decide) (by simp [hp]) (by simp) (by simp [e])
      ·have q12 : ¬ (k = 3 ∨ k = 4) := fun q => by simp [hc12.2 q] at h12
       refine LWp.sz hT hW ?_
       simp
       refine LWp.iff ?_
       simp
       refine ⟨fun h13 => ?_, fun h13 => ?_⟩
       ·refine LWp.sz hT hW ?_
        simp
        refine LWp.ret ?_
        simp
        have e := value_kind (L := L) (d := d) (i := i) (by simp only at hc4; omega)
        refine Weak.closed (x := (valueM L d i).1.d) (by simp [e]) ?_
        simp
        exact Weak.to [0] [(0, 0)] (by decide) (by decide) (by simp [hp]) (by simp) (by simp [e])
       ·refine LWp.skip ?_
        simp
        refine LWp.seq ?_
        have hk6 : 6 ≤ k ∧ k < 12 := by have := valK_range L d i; simp only at hc4; omega
        obtain ⟨e, rfl⟩ : ∃ e, d = e + 1 := ⟨d - 1, by have := valK_range L d i; simp only at hc4; omega⟩
        have hp2 : 2 ^ (e + 1) = 2 * 2 ^ e := by rw [Nat.pow_succ, Nat.mul_comm]
        have hpe : 1 ≤ 2 ^ e := Nat.one_le_two_pow
        have hlt : e < 2 ^ e := Nat.lt_two_pow_self
        have c1 := ih e rfl (i + 1) (by omega)
        have t1 := value_to L e (i + 1)
        have c2 := ih e rfl (valueM L e (i + 1)).2 (by omega)
        have ez : ((e : Int) + 1) - 1 = e := by omega
        refine LWp.ro hT hW (fun | 51 => some (.gen ⟨[(0, 0)], [], [], mkH L (valueM L e (i + 1)).2, .d (valueM L e (i + 1)).1.d⟩) | _ => none) ?_
        simp [ez]
        refine ⟨⟨by omega, by simpa using c1⟩, ?_⟩
        refine LWp.seq ?_
        refine LWp.regAny hT hW hMixed (lk [[],[0],[0,1],[],[],[],[5],[4,5,6],[3,4,5,6,7],[0,1,2,3,4,5,6,7,8],[0,1,2,3,4,5,6,7,8,9]]) (lk [[0,60],[0,60],[0,60],[0],[],[],[],[],[],[],[]]) (lk [[],[],[],[],[],[],[],[0],[60],[],[4]]) (by kernel_rfl) (fun | 59 => some (.gen ⟨[(0, 0)], [], [], mkH L (valueM L e (valueM L e (i + 1)).2).2, .d (valueM L e (valueM L e (i + 1)).2).1.d⟩) | _ => none) (by intro d; first | exact ⟨rfl, fun _ h => h⟩ | (split <;> exact ⟨rfl, fun _ h => h⟩)) ?_
        simp [ez]
        refine ⟨⟨⟨⟨⟨by omega, by omega⟩, by omega⟩, by simpa using c2⟩, by decide⟩, ?_⟩
        refine LWp.ret ?_
        simp
        have ev := value_bin (L := L) (e := e) (i := i) (by simp only at hc4; omega)
        rw [show valK L (e + 1) i = k from hc4] at ev
        refine Weak.closed (x := (valueM L (e + 1) i).1.d) (by simp [ev]) ?_
        simp
        exact Weak.to [0] [(0, 0)] (by decide) (by decide) (by simp [hp]) (by simp) (by simp [ev])
theorem MValue_ok (L : List Int) (hL : MkL L) (hll : L.length ≤ 1000000) : ∀ (d i : Nat), i + 5 * 2 ^ d ≤ 2000000 → OkG Tryz.prog 56 [.bx 0 0, .d (I64 (d : Nat))] (mkH L i) (mkH L (valueM L d i).2) (.d (valueM L d i).1.d) := fun d => by
 induction d with
 | zero => exact fun i hi => MValue_step L 0 i hL hll hi fun e he => by omega
 | succ d ihd =>
  intro i hi
  refine MValue_step L (d + 1) i hL hll hi fun e he j hj => ?_
  have : e = d := by omega
  subst this
  exact ihd j hj
end
open Go.Proofs
section
attribute [local simp] Res.cond Nd.d_eq nd_t nd_dr nd_td ndsD evalIndex retGC_ret constL1 Int.add_assoc upds_same one_i one_s one_l all4 mkH
def Makes (L : List Int) (g : FuncId) (d : Nat) (b : Nat) (x : Nat → Nd × Nat) : Prop := ∀ j, j ≤ b → OkG Tryz.prog g [.bx 0 0, .d (I64 (d : Nat))] (mkH L j) (mkH L (x j).2) (.d (x j).1.d)
structure SmS where
 c : Nat
 ks : List Nd
 j : Nat
theorem somes_end {L : List Int} {st : Nat → Nd × Nat} {m : Nat} {ks : List Nd} {j : Nat} (h : m = 0 ∨ L.length ≤ j) : somesM L st m ks j = (ks, j) := by
 cases m with
 | zero => rfl
 | succ m =>
  unfold somesM
  rw [if_pos (by omega)]
theorem somes_go {L : List Int} {st : Nat → Nd × Nat} {m : Nat} {ks : List Nd} {j : Nat} (h0 : 0 < m) (h : j < L.length) : somesM L st m ks j = somesM L st (m - 1) (ks ++ [(st j).1]) (st j).2 := by
 obtain ⟨k, rfl⟩ : ∃ k, m = k + 1 := ⟨m - 1, by omega⟩
 rw [somesM, if_neg (by omega)]
 rfl
theorem MSome_step (L : List Int) (d i : Nat) (st : Nat → Nd × Nat) (hL : MkL L) (hll : L.length ≤ 1000000) (b : Nat) (hi : i ≤ b) (hb : b ≤ 1800000) (hS : Makes L 37 d (b + 40000) st) (hle : ∀ j, (st j).2 ≤ j + 10000) : OkG Tryz.prog 60 [.bx 0 0, .d (I64 (d : Nat))] (mkH L i) (mkH L (someM L st i).2) (.d (someM L st i).1.d) := by
 unfold mkH
 refine OkG.cell hT Tryz.func60 (by kernel_rfl) (c := _) rfl Tryz.ntmps60 (by simp) Tryz.results60 fun w0 X hp => ?_
 refine LWp.sz hT hW ?_
 simp
 refine LWp.sz hT hW ?_
 simp
 refine LWp.nlCell (fz := false) (cs := [.d (I64 8), .d (.str []), .d (I64 0), .nl]) 5 3 1034 4 (by decide) ⟨by simp, by simp, by simp, ?_⟩
 simp
 refine LWp.seq ?_
 have ha := MTake_ok L i 4 hL (by omega) (by decide)
 have hr := atL_range L i 4 (by decide)
 obtain ⟨n, hn⟩ : ∃ n : Nat, atL L i 4 = (n : Int) := ⟨(atL L i 4).toNat, by omega⟩
 have hsm : someM L st i = (.mk 8 [] 0 (somesM L st n [] (i + 1)).1, (somesM L st n [] (i + 1)).2) := by unfold someM; simp only []; rw [hn]; rfl
 rw [hn] at ha
 refine LWp.ro hT hW (fun | 10 => some (.gen ⟨[(0, 0)], [], [], mkH L (i + 1), .d (I64 (n : Nat))⟩) | _ => none) ?_
 simp
 refine ⟨by simpa using ha, ?_⟩
 refine LWp.seq ?_
 refine LWp.sz hT hW ?_
 simp
 refine LWp.block ?_
 refine LWp.loopW (ι := SmS) (fun ⟨c, ks, j⟩ => mkEnv [(0, .bx 0 0), (1, .d (I64 (d : Nat))), (4, .bx 4 0), (5, .bx 5 0), (6, .d (I64 (n : Nat))), (7, .d (I64 (c : Nat)))]) (fun ⟨c, ks, j⟩ => mkObs [(0, .box false [.d (.sl (L.map I64)), .d (I64 (j : Nat))]), (4, .box false [.d (I64 0), .d (.str []), .d (I64 0), .nl]), (5, .box false [.d (I64 8), .d (.str []), .d (I64 0), .ow 1034 0 ks.length]), (1034, .row false 4 (ks.map Nd.d))]) (fun ⟨c, ks, j⟩ => c ≤ n ∧ j ≤ i + 1 + c * 10000 ∧ ks.length ≤ c ∧ somesM L st n [] (i + 1) = somesM L st (n - c) ks j) (fun ⟨c, ks, j⟩ => n - c) ⟨0, [], i + 1⟩ (Weak.to [0, 1, 4, 5, 6, 7] [(0, 0), (4, 4), (5, 5), (1034, 1034)] (by decide) (by decide) (by simp [hp]) (by simp) (by simp)) (⟨Nat.zero_le _, by omega, Nat.le_refl _, rfl⟩) fun ⟨c, ks, j⟩ hi4 => ?_
 refine LWp.seq ?_
 refine LWp.seq ?_
 refine LWp.regAny hT hW hMixed (lk [[],[],[0,1],[0,1,2],[0,1,2,3],[0,1,2,3,4],[0,1,2,3,4,5],[0,1,2,3,4,5,6],[0,1,2,3],[0,1,2,3,8],[0,1,2,3,8,9],[0,1,2,3,8,9,10],[0,1,2,3,8,9,10,11],[0,1,2,3,4,5,6,7,8,9,10,11,12],[0,1,2,3,4,5,6,7,8,9,10,11,12,13]]) (lk [[],[],[],[],[],[],[],[],[],[],[],[],[],[],[]]) (lk [[],[],[],[],[],[],[],[],[],[],[],[],[],[],[]]) (by kernel_rfl) (fun _ => none) (fun _ => ⟨rfl, fun _ h => h⟩) ?_
 simp
 refine LWp.iff ?_
 simp
 refine ⟨fun g1 g2 => ?_, fun g => ?_⟩
 ·refine LWp.skip ?_
  simp
  refine LWp.seq ?_
  refine LWp.block ?_
  have hs := hS j (by have := hi4.2.1; omega)
  have hkl := hi4.2.2.1
  refine LWp.regAny hT hW hMixed (lk [[],[0],[],[],[2,3],[2,3,4],[0,1,2,3,4,5],[0,1,2,3,4,5,6],[0,1,2,3,4,5,6,7]]) (lk [[0,33],[0,33],[],[],[],[],[],[],[]]) (lk [[],[],[],[],[0],[33],[34,1034],[],[5]]) (by kernel_rfl) (fun | 32 => some (.gen ⟨[(0, 0)], [], [], mkH L (st j).2, .d (st j).1.d⟩) | _ => none) (by intro d; first | exact ⟨rfl, fun _ h => h⟩ | (split <;> exact ⟨rfl, fun _ h => h⟩)) ?_
  simp
  refine ⟨by (repeat' with_reducible apply And.intro) <;> first | omega | (simpa using hs), ?_⟩
  refine LWp.rz hT hW ?_
  simp
  refine ⟨by omega, ?_⟩
  refine loopQ.mk ⟨c + 1, ks ++ [(st j).1], (st j).2⟩ (Weak.to [0, 1, 4, 5, 6, 7] [(0, 0), (4, 4), (5, 5), (34, 1034)] (by decide) (by decide) (by simp [hp]) (by simp) (by simp)) ?_ ?_
  ·refine ⟨(show c + 1 ≤ n by omega), ?_, ?_, ?_⟩
   ·have := hle j
    show (st j).2 ≤ i + 1 + (c + 1) * 10000
    omega
   ·show (ks ++ [(st j).1]).length ≤ c + 1
    rw [List.length_append, List.length_singleton]
    omega
   ·rw [hi4.2.2.2, somes_go (by omega) (by omega)]
    rfl
  ·show n - (c + 1) < n - c
   omega
 ·refine LWp.exit ?_
  simp
  refine LWp.sz hT hW ?_
  simp
  refine LWp.ret ?_
  simp
  have e : someM L st i = (.mk 8 [] 0 ks, j) := by rw [hsm, hi4.2.2.2, somes_end (by rcases Nat.lt_or_ge c n with q | q; exact .inr (by have := g (by omega); omega); exact .inl (by omega))]
  refine Weak.closed (x := (someM L st i).1.d) (by simp [e]) ?_
  simp
  exact Weak.to [0] [(0, 0)] (by decide) (by decide) (by simp [hp]) (by simp) (by simp [e])
structure NdN where
 x : Nd
 j : Nat
def oneK (L : List Int) (d i : Nat) : Int := if d = 0 ∧ (9 + atL L i 17 = 11 ∨ 9 + atL L i 17 = 12) then 24 else 9 + atL L i 17
def oneC (L : List Int) (bl : Nat → Nd × Nat) (k : Int) (i : Nat) : Nd × Nat :=
 if k = 9 then (.mk k (ownM L i) 0 [(valueM L 2 (i + 1)).1], (valueM L 2 (i + 1)).2)
 else if k = 10 then (.mk k [] 0 [(placeM L i).1, (valueM L 2 (placeM L i).2).1], (valueM L 2 (placeM L i).2).2)
 else if k = 11 ∨ k = 12 then
  (if k = 11 then (if atL L (bl (valueM L 1 i).2).2 2 = 0 then (.mk k [] 0 [(valueM L 1 i).1, (bl (valueM L 1 i).2).1, (bl ((bl (valueM L 1 i).2).2 + 1)).1], (bl ((bl (valueM L 1 i).2).2 + 1)).2) else (.mk k [] 0 [(valueM L 1 i).1, (bl (valueM L 1 i).2).1], (bl (valueM L 1 i).2).2 + 1))
  else (.mk k [] 0 [(valueM L 1 i).1, (bl (valueM L 1 i).2).1], (bl (valueM L 1 i).2).2))
 else if k = 13 ∨ k = 14 ∨ k = 17 ∨ k = 18 then (.mk k (callM L i) 0 [], i + 1)
 else if k = 15 ∨ k = 22 then (.mk k (callM L i) 0 [(valueM L 1 (i + 1)).1], (valueM L 1 (i + 1)).2)
 else if k = 16 ∨ k = 23 then (.mk k (callM L i) 0 [.mk 33 (ownM L (i + 1)) 0 []], i + 2)
 else if k = 19 then (.mk k (ownM L i) (2 + atL L (i + 1) 5) [], i + 2)
 else if k = 20 then (.mk k (ownM L i) 0 [], i + 1)
 else if k = 21 then (.mk k [] (1 + atL L i 9) [], i + 1)
 else if k = 25 then (.mk k [] (1 + atL L i 99) [], i + 1)
 else (.mk k [] 0 [(valueM L 2 i).1], (valueM L 2 i).2)
theorem oneB_eq {L : List Int} {d i : Nat} {bl : Nat → Nd × Nat} {k : Int} (hk : oneK L d i = k) : oneB L d bl i = oneC L bl k (i + 1) := by subst hk; rfl
theorem oneK_range {L : List Int} {d i : Nat} {k : Int} (hk : oneK L d i = k) : 9 ≤ k ∧ k ≤ 25 ∧ (k = 11 ∨ k = 12 → 0 < d) := by
 subst hk
 have h := atL_range L i 17 (by decide)
 unfold oneK
 split <;> omega
theorem upds_mk {c : Prop} [Decidable c] {f : Nat → LObj} {l : DV} {a b : Int} {x : Nat} (h : f 0 = .box false [.d l, .d (I64 b)]) :
  upds f (if c then [(0, .box false [.d l, .d (I64 a)])] else []) x = if x = 0 then .box false [.d l, .d (I64 (if c then a else b))] else f x := by
 by_cases hc : c
 ·simp only [hc, if_true, upds, upd]
 ·simp only [hc, if_false, upds]
  split
  ·rename_i e; rw [e]; exact h
  ·rfl
theorem oneB_to {L : List Int} {d i C : Nat} {bl : Nat → Nd × Nat} (hb : ∀ j, (bl j).2 ≤ j + C) : (oneB L d bl i).2 ≤ i + 40 + 2 * C := by
 rw [oneB_eq rfl]
 have v1 := fun j => value_to L 1 j
 have v2 := fun j => value_to L 2 j
 have pl := place_to L (i + 1)
 unfold oneC
 have a1 := v1 (i + 1)
 have a2 := v1 (i + 2)
 have a3 := v2 (i + 1)
 have a4 := v2 (i + 2)
 have a5 := v2 (placeM L (i + 1)).2
 have b1 := hb (valueM L 1 (i + 1)).2
 have b2 := hb ((bl (valueM L 1 (i + 1)).2).2 + 1)
 simp only [Nat.add_assoc, Nat.reduceAdd, Nat.reducePow, Nat.reduceMul] at *
 split
 ·simp only; omega
 ·split
  ·simp only; omega
  ·split
   ·split
    ·split <;> simp only <;> omega
    ·simp only; omega
   ·split
    ·simp only; omega
    ·split
     ·simp only; omega
     ·split
      ·simp only; omega
      ·split
       ·simp only; omega
       ·split
        ·simp only; omega
        ·split
         ·simp only; omega
         ·split <;> simp only <;> omega
set_option maxHeartbeats 1000000 in
theorem MOne_step (L : List Int) (d i : Nat) (bl : Nat → Nd × Nat) (hL : MkL L) (hll : L.length ≤ 1000000) (m : Nat) (hi : i ≤ m) (hm : m ≤ 1800000) (hd : d ≤ 1000) (hB : ∀ e, d = e + 1 → Makes L 60 e (m + 30000) bl) (hle : ∀ j, (bl j).2 ≤ j + 20000) : OkG Tryz.prog 37 [.bx 0 0, .d (I64 (d : Nat))] (mkH L i) (mkH L (oneB L d bl i).2) (.d (oneB L d bl i).1.d) := by
 unfold mkH
 refine OkG.cell hT Tryz.func37 (by kernel_rfl) (c := _) rfl Tryz.ntmps37 (by simp) Tryz.results37 fun w0 X hp => ?_
 refine LWp.sz hT hW ?_
 simp
 refine LWp.seq ?_
 have ha := MTake_ok L i 17 hL (by omega) (by decide)
 have hr := atL_range L i 17 (by decide)
 refine LWp.ro hT hW (fun | 8 => some (.gen ⟨[(0, 0)], [], [], mkH L (i + 1), .d (I64 (atL L i 17))⟩) | _ => none) ?_
 simp
 refine ⟨by (repeat' with_reducible apply And.intro) <;> first | omega | (simpa using ha), ?_⟩
 refine LWp.seqCut (ι := KC) (fun ⟨k⟩ => mkEnv [(0, .bx 0 0), (1, .d (I64 (d : Nat))), (4, .bx 4 0), (5, .bx 5 0)]) (fun ⟨k⟩ => mkObs [(0, .box false [.d (.sl (L.map I64)), .d (I64 ((i + 1 : Nat) : Int))]), (4, .box false [.d (I64 0), .d (.str []), .d (I64 0), .nl]), (5, .box false [.d (I64 k), .d (.str []), .d (I64 0), .nl])]) (fun ⟨k⟩ => oneK L d i = k) ?_ fun ⟨k⟩ hc4 => ?_
 ·refine LWp.sz hT hW ?_
  simp
  refine ⟨fun a b => ⟨a, b⟩, ?_⟩
  refine LWp.iff ?_
  simp
  refine ⟨fun g1 g2 => ?_, fun g => ?_⟩
  ·refine LWp.rz hT hW ?_
   simp
   refine cutQ.mk ⟨24⟩ (Weak.to [0, 1, 4, 5] [(0, 0), (4, 4), (5, 5)] (by decide) (by decide) (by simp [hp]) (by simp) (by simp)) ?_
   unfold oneK; rw [if_pos ⟨by omega, by omega⟩]
  ·refine LWp.skip ?_
   simp
   refine cutQ.mk ⟨9 + atL L i 17⟩ (Weak.to [0, 1, 4, 5] [(0, 0), (4, 4), (5, 5)] (by decide) (by decide) (by simp [hp]) (by simp) (by simp)) ?_
   unfold oneK; rw [if_neg (by omega)]
 ·refine LWp.seqCut (ι := NdN) (fun ⟨x, j⟩ => mkEnv [(0, .bx 0 0), (1, .d (I64 (d : Nat))), (4, .bx 4 0), (5, .bx 5 0)]) (fun ⟨x, j⟩ => mkObs [(0, .box false [.d (.sl (L.map I64)), .d (I64 (j : Nat))]), (4, .box false [.d (I64 0), .d (.str []), .d (I64 0), .nl]), (5, .box false [.d (I64 x.kind), .d (.str x.text), .d (I64 x.n), .d (ndsD x.kids)])]) (fun ⟨x, j⟩ => oneB L d bl i = (x, j)) ?_ fun ⟨x, j⟩ hc41 => ?_
  ·refine LWp.sz hT hW ?_
   simp
   refine LWp.block ?_
   refine LWp.sz hT hW ?_
   simp
   refine LWp.iff ?_
   simp
   refine ⟨fun h5 => ?_, fun h5 => ?_⟩
   ·refine LWp.seq ?_
    have hc6 := MOwn_ok L (i + 1) hL (by omega)
    refine LWp.ro hT hW (fun | 29 => some (.gen ⟨[(0, 0)], [], [], mkH L (i + 2), .d (.str (ownM L (i + 1)))⟩) | _ => none) ?_
    simp
    refine ⟨by simpa using hc6, ?_⟩
    have hv := MValue_ok L hL hll 2 (i + 2) (by omega)
    refine LWp.ro hT hW (fun | 32 => some (.gen ⟨[(0, 0)], [], [], mkH L (valueM L 2 (i + 2)).2, .d (valueM L 2 (i + 2)).1.d⟩) | _ => none) ?_
    simp
    refine ⟨by simpa using hv, ?_⟩
    refine exWeak (Weak.shutBox 5 [33] (fz := false) (cs := [.d (I64 k), .d (.str (ownM L (i + 1))), .d (I64 (0)), .ow 33 0 1]) (ds := [I64 k, .str (ownM L (i + 1)), I64 (0), .sl [((valueM L 2 (i + 2)).1).d]]) (by simp) (by simp) (by simp) (by simp [LObj.mut])) ?_
    simp
    refine cutQ.mk ⟨.mk k (ownM L (i + 1)) (0) [(valueM L 2 (i + 2)).1], (valueM L 2 (i + 2)).2⟩ (Weak.to [0, 1, 4, 5] [(0, 0), (4, 4), (5, 5)] (by decide) (by decide) (by simp [hp]) (by simp) (by simp)) ?_
    rw [oneB_eq hc4]
    unfold oneC
    repeat (first | rw [if_pos (by omega)] | rw [if_neg (by omega)])
   ·refine LWp.sz hT hW ?_
    simp
    refine LWp.iff ?_
    simp
    refine ⟨fun h8 => ?_, fun h8 => ?_⟩
    ·refine LWp.seq ?_
     have hpl := MAt_ok L (i + 1) hL (by omega)
     have tpl := place_to L (i + 1)
     refine LWp.ro hT hW (fun | 38 => some (.gen ⟨[(0, 0)], [], [], mkH L (placeM L (i + 1)).2, .d (placeM L (i + 1)).1.d⟩) | _ => none) ?_
     simp
     refine ⟨by simpa using hpl, ?_⟩
     have hv := MValue_ok L hL hll 2 (placeM L (i + 1)).2 (by omega)
     refine LWp.regAny hT hW hMixed (lk [[],[],[1],[0,1,2],[0,1,2,3],[0,1,2,3,4]]) (lk [[0],[],[],[],[],[]]) (lk [[],[],[0],[42],[],[5]]) (by kernel_rfl) (fun | 41 => some (.gen ⟨[(0, 0)], [], [], mkH L (valueM L 2 (placeM L (i + 1)).2).2, .d (valueM L 2 (placeM L (i + 1)).2).1.d⟩) | _ => none) (by intro d; first | exact ⟨rfl, fun _ h => h⟩ | (split <;> exact ⟨rfl, fun _ h => h⟩)) ?_
     simp
     refine ⟨⟨by simpa using hv, by decide⟩, ?_⟩
     refine exWeak (Weak.shutBox 5 [42] (fz := false) (cs := [.d (I64 k), .d (.str ([])), .d (I64 (0)), .ow 42 0 2]) (ds := [I64 k, .str ([]), I64 (0), .sl [((placeM L (i + 1)).1).d, ((valueM L 2 (placeM L (i + 1)).2).1).d]]) (by simp) (by simp) (by simp) (by simp [LObj.mut])) ?_
     simp
     refine cutQ.mk ⟨.mk k ([]) (0) [(placeM L (i + 1)).1, (valueM L 2 (placeM L (i + 1)).2).1], (valueM L 2 (placeM L (i + 1)).2).2⟩ (Weak.to [0, 1, 4, 5] [(0, 0), (4, 4), (5, 5)] (by decide) (by decide) (by simp [hp]) (by simp) (by simp)) ?_
     rw [oneB_eq hc4]
     unfold oneC
     repeat (first | rw [if_pos (by omega)] | rw [if_neg (by omega)])
    ·refine LWp.seqCut (ι := BC) (fun ⟨b⟩ => mkEnv [(0, .bx 0 0), (1, .d (I64 (d : Nat))), (4, .bx 4 0), (5, .bx 5 0), (25, .d (I64 (k))), (44, .d (.bool b))]) (fun ⟨b⟩ => mkObs [(0, .box false [.d (.sl (L.map I64)), .d (I64 ((i + 1 : Nat) : Int))]), (4, .box false [.d (I64 0), .d (.str []), .d (I64 0), .nl]), (5, .box false [.d (I64 k), .d (.str []), .d (I64 0), .nl])]) (fun ⟨b⟩ => b = true ↔ (k = 11 ∨ k = 12)) ?_ fun ⟨b⟩ hc13 => ?_
     ·refine LWp.sz hT hW ?_
      simp
      refine LWp.iff ?_
      simp
      refine ⟨fun h11 => ?_, fun h11 => ?_⟩
      ·refine LWp.skip ?_
       simp
       refine cutQ.mk ⟨decide (k = 11)⟩ (Weak.to [0, 1, 4, 5, 25, 44] [(0, 0), (4, 4), (5, 5)] (by decide) (by decide) (by simp [hp]) (by simp) (by simp)) ?_
       simp [h11]
      ·refine LWp.rz hT hW ?_
       simp
       refine cutQ.mk ⟨decide (k = 12)⟩ (Weak.to [0, 1, 4, 5, 25, 44] [(0, 0), (4, 4), (5, 5)] (by decide) (by decide) (by simp [hp]) (by simp) (by simp)) ?_
       simp only [decide_eq_true_eq]; omega
     ·refine LWp.iff ?_
      simp
      refine ⟨fun h13 => ?_, fun h13 => ?_⟩
      ·have q13 := hc13.1 h13
       refine LWp.seq ?_
       obtain ⟨e, hde⟩ : ∃ e, d = e + 1 := ⟨d - 1, by have := (oneK_range hc4).2.2 q13; omega⟩
       have hBe := hB e hde
       subst hde
       have hv := MValue_ok L hL hll 1 (i + 1) (by omega)
       have tv := value_to L 1 (i + 1)
       obtain ⟨a, ha1⟩ : ∃ a, a = valueM L 1 (i + 1) := ⟨_, rfl⟩
       rw [← ha1] at hv tv
       have hs1 := hBe a.2 (by omega)
       obtain ⟨b, hb1⟩ : ∃ b, b = bl a.2 := ⟨_, rfl⟩
       have tb := hle a.2
       rw [← hb1] at hs1 tb
       have hs2 := hBe (b.2 + 1) (by omega)
       obtain ⟨c, hc1⟩ : ∃ c, c = bl (b.2 + 1) := ⟨_, rfl⟩
       rw [← hc1] at hs2
       have ht2 := MTake_ok L b.2 2 hL (by omega) (by decide)
       have ez : ((e : Int) + 1) - 1 = e := by omega
       refine LWp.ro hT hW (fun | 48 => some (.gen ⟨[(0, 0)], [], [], mkH L a.2, .d a.1.d⟩) | _ => none) ?_
       simp
       refine ⟨by simpa using hv, ?_⟩
       refine LWp.seq ?_
       refine LWp.regAny hT hW hMixed (lk [[],[0],[],[],[3],[2,3,4],[2,3,4,5],[0,1,2,3,4,5,6],[0,1,2,3,4,5,6,7],[0,1,2,3,4,5,6,7,8]]) (lk [[0,57],[0,57],[],[],[],[],[],[],[],[]]) (lk [[],[],[],[],[],[0],[57],[58,49],[],[5]]) (by kernel_rfl) (fun | 56 => some (.gen ⟨[(0, 0)], [], [], mkH L b.2, .d b.1.d⟩) | _ => none) (by intro d; first | exact ⟨rfl, fun _ h => h⟩ | (split <;> exact ⟨rfl, fun _ h => h⟩)) ?_
       simp [ez]
       refine ⟨by (repeat' with_reducible apply And.intro) <;> first | omega | (simpa using hs1) | decide, ?_⟩
       refine LWp.so hT hW (fun | 65 => some (.gen ⟨[(0, 0)], [], [], mkH L (b.2 + 1), .d (I64 (atL L b.2 2))⟩) | _ => none) ?_
       simp [upds_mk (b := (b.2 : Int))]
       refine ⟨fun _ => by simpa using ht2, ?_⟩
       refine LWp.iff ?_
       simp
       refine ⟨fun g3 g4 => ?_, fun g3 => ?_⟩
       ·simp only [if_pos g3]
        refine LWp.regAny hT hW hMixed (lk [[],[0],[],[],[3],[2,3,4],[2,3,4,5],[0,1,2,3,4,5,6],[0,1,2,3,4,5,6,7],[0,1,2,3,4,5,6,7,8]]) (lk [[0,74],[0,74],[],[],[],[],[],[],[],[]]) (lk [[],[],[],[],[],[0],[74],[75,58],[],[5]]) (by kernel_rfl) (fun | 73 => some (.gen ⟨[(0, 0)], [], [], mkH L c.2, .d c.1.d⟩) | _ => none) (by intro d; first | exact ⟨rfl, fun _ h => h⟩ | (split <;> exact ⟨rfl, fun _ h => h⟩)) ?_
        simp [ez]
        refine ⟨by (repeat' with_reducible apply And.intro) <;> first | omega | (simpa using hs2) | decide, ?_⟩
        refine exWeak (Weak.shutBox 5 [75] (fz := false) (cs := [.d (I64 k), .d (.str ([])), .d (I64 (0)), .ow 75 0 3]) (ds := [I64 k, .str ([]), I64 (0), .sl [(a.1).d, (b.1).d, (c.1).d]]) (by simp) (by simp) (by simp) (by simp [LObj.mut])) ?_
        simp
        refine cutQ.mk ⟨.mk k ([]) (0) [a.1, b.1, c.1], c.2⟩ (Weak.to [0, 1, 4, 5] [(0, 0), (4, 4), (5, 5)] (by decide) (by decide) (by simp [hp]) (by simp) (by simp [g3])) ?_
        rw [oneB_eq hc4]
        unfold oneC
        rw [← ha1, ← hb1, ← hc1, if_neg (by omega), if_neg (by omega), if_pos (by omega), if_pos g3, if_pos g4]
       ·refine LWp.skip ?_
        simp
        refine exWeak (Weak.shutBox 5 [58] (fz := false) (cs := [.d (I64 k), .d (.str ([])), .d (I64 (0)), .ow 58 0 2]) (ds := [I64 k, .str ([]), I64 (0), .sl [(a.1).d, (b.1).d]]) (by simp) (by simp) (by simp) (by simp [LObj.mut])) ?_
        simp
        refine cutQ.mk ⟨.mk k ([]) (0) [a.1, b.1], if k = 11 then b.2 + 1 else b.2⟩ (Weak.to [0, 1, 4, 5] [(0, 0), (4, 4), (5, 5)] (by decide) (by decide) (by simp [hp]) (by simp) (by by_cases hk : k = 11 <;> simp [hk])) ?_
        rw [oneB_eq hc4]
        unfold oneC
        rw [← ha1, ← hb1]
        by_cases hk : k = 11
        ·rw [if_neg (by omega), if_neg (by omega), if_pos (by omega), if_pos hk, if_neg (g3 hk)]
         simp [hk]
        ·rw [if_neg (by omega), if_neg (by omega), if_pos (by omega), if_neg hk]
         simp [hk]
      ·have q13 : ¬ (k = 11 ∨ k = 12) := fun q => by simp [hc13.2 q] at h13
       refine LWp.seqCut (ι := BC) (fun ⟨b⟩ => mkEnv [(0, .bx 0 0), (1, .d (I64 (d : Nat))), (4, .bx 4 0), (5, .bx 5 0), (25, .d (I64 (k))), (77, .d (.bool b))]) (fun ⟨b⟩ => mkObs [(0, .box false [.d (.sl (L.map I64)), .d (I64 ((i + 1 : Nat) : Int))]), (4, .box false [.d (I64 0), .d (.str []), .d (I64 0), .nl]), (5, .box false [.d (I64 k), .d (.str []), .d (I64 0), .nl])]) (fun ⟨b⟩ => b = true ↔ (k = 13 ∨ k = 14 ∨ k = 17 ∨ k = 18)) ?_ fun ⟨b⟩ hc21 => ?_
       ·refine LWp.sz hT hW ?_
        simp
        refine LWp.iff ?_
        simp
        refine ⟨fun h17 => ?_, fun h17 => ?_⟩
        ·refine LWp.skip ?_
         simp
         refine cutQ.mk ⟨decide (k = 13)⟩ (Weak.to [0, 1, 4, 5, 25, 77] [(0, 0), (4, 4), (5, 5)] (by decide) (by decide) (by simp [hp]) (by simp) (by simp)) ?_
         simp [h17]
        ·refine LWp.sz hT hW ?_
         simp
         refine LWp.iff ?_
         simp
         refine ⟨fun h18 => ?_, fun h18 => ?_⟩
         ·refine LWp.skip ?_
          simp
          refine cutQ.mk ⟨decide (k = 14)⟩ (Weak.to [0, 1, 4, 5, 25, 77] [(0, 0), (4, 4), (5, 5)] (by decide) (by decide) (by simp [hp]) (by simp) (by simp)) ?_
          simp [h18]
         ·refine LWp.sz hT hW ?_
          simp
          refine LWp.iff ?_
          simp
          refine ⟨fun h19 => ?_, fun h19 => ?_⟩
          ·refine LWp.skip ?_
           simp
           refine cutQ.mk ⟨decide (k = 17)⟩ (Weak.to [0, 1, 4, 5, 25, 77] [(0, 0), (4, 4), (5, 5)] (by decide) (by decide) (by simp [hp]) (by simp) (by simp)) ?_
           simp [h19]
          ·refine LWp.rz hT hW ?_
           simp
           refine cutQ.mk ⟨decide (k = 18)⟩ (Weak.to [0, 1, 4, 5, 25, 77] [(0, 0), (4, 4), (5, 5)] (by decide) (by decide) (by simp [hp]) (by simp) (by simp)) ?_
           simp only [decide_eq_true_eq]; omega
       ·refine LWp.iff ?_
        simp
        refine ⟨fun h21 => ?_, fun h21 => ?_⟩
        ·have q21 := hc21.1 h21
         have hc6 := MCalled_ok L (i + 1) hL (by omega)
         refine LWp.ro hT hW (fun | 83 => some (.gen ⟨[(0, 0)], [], [], mkH L (i + 2), .d (.str (callM L (i + 1)))⟩) | _ => none) ?_
         simp
         refine ⟨by simpa using hc6, ?_⟩
         refine exWeak (Weak.shutBox 5 [] (fz := false) (cs := [.d (I64 k), .d (.str (callM L (i + 1))), .d (I64 (0)), .nl]) (ds := [I64 k, .str (callM L (i + 1)), I64 (0), .sl []]) (by simp) (by simp) (by simp) (by simp [LObj.mut])) ?_
         simp
         refine cutQ.mk ⟨.mk k (callM L (i + 1)) (0) [], i + 2⟩ (Weak.to [0, 1, 4, 5] [(0, 0), (4, 4), (5, 5)] (by decide) (by decide) (by simp [hp]) (by simp) (by simp)) ?_
         rw [oneB_eq hc4]
         unfold oneC
         repeat (first | rw [if_pos (by omega)] | rw [if_neg (by omega)])
        ·have q21 : ¬ (k = 13 ∨ k = 14 ∨ k = 17 ∨ k = 18) := fun q => by simp [hc21.2 q] at h21
         refine LWp.seqCut (ι := BC) (fun ⟨b⟩ => mkEnv [(0, .bx 0 0), (1, .d (I64 (d : Nat))), (4, .bx 4 0), (5, .bx 5 0), (25, .d (I64 (k))), (85, .d (.bool b))]) (fun ⟨b⟩ => mkObs [(0, .box false [.d (.sl (L.map I64)), .d (I64 ((i + 1 : Nat) : Int))]), (4, .box false [.d (I64 0), .d (.str []), .d (I64 0), .nl]), (5, .box false [.d (I64 k), .d (.str []), .d (I64 0), .nl])]) (fun ⟨b⟩ => b = true ↔ (k = 15 ∨ k = 22)) ?_ fun ⟨b⟩ hc24 => ?_
         ·refine LWp.sz hT hW ?_
          simp
          refine LWp.iff ?_
          simp
          refine ⟨fun h22 => ?_, fun h22 => ?_⟩
          ·refine LWp.skip ?_
           simp
           refine cutQ.mk ⟨decide (k = 15)⟩ (Weak.to [0, 1, 4, 5, 25, 85] [(0, 0), (4, 4), (5, 5)] (by decide) (by decide) (by simp [hp]) (by simp) (by simp)) ?_
           simp [h22]
          ·refine LWp.rz hT hW ?_
           simp
           refine cutQ.mk ⟨decide (k = 22)⟩ (Weak.to [0, 1, 4, 5, 25, 85] [(0, 0), (4, 4), (5, 5)] (by decide) (by decide) (by simp [hp]) (by simp) (by simp)) ?_
           simp only [decide_eq_true_eq]; omega
         ·refine LWp.iff ?_
          simp
          refine ⟨fun h24 => ?_, fun h24 => ?_⟩
          ·have q24 := hc24.1 h24
           refine LWp.seq ?_
           have hc6 := MCalled_ok L (i + 1) hL (by omega)
           refine LWp.ro hT hW (fun | 89 => some (.gen ⟨[(0, 0)], [], [], mkH L (i + 2), .d (.str (callM L (i + 1)))⟩) | _ => none) ?_
           simp
           refine ⟨by simpa using hc6, ?_⟩
           have hv := MValue_ok L hL hll 1 (i + 2) (by omega)
           refine LWp.ro hT hW (fun | 92 => some (.gen ⟨[(0, 0)], [], [], mkH L (valueM L 1 (i + 2)).2, .d (valueM L 1 (i + 2)).1.d⟩) | _ => none) ?_
           simp
           refine ⟨by simpa using hv, ?_⟩
           refine exWeak (Weak.shutBox 5 [93] (fz := false) (cs := [.d (I64 k), .d (.str (callM L (i + 1))), .d (I64 (0)), .ow 93 0 1]) (ds := [I64 k, .str (callM L (i + 1)), I64 (0), .sl [((valueM L 1 (i + 2)).1).d]]) (by simp) (by simp) (by simp) (by simp [LObj.mut])) ?_
           simp
           refine cutQ.mk ⟨.mk k (callM L (i + 1)) (0) [(valueM L 1 (i + 2)).1], (valueM L 1 (i + 2)).2⟩ (Weak.to [0, 1, 4, 5] [(0, 0), (4, 4), (5, 5)] (by decide) (by decide) (by simp [hp]) (by simp) (by simp)) ?_
           rw [oneB_eq hc4]
           unfold oneC
           repeat (first | rw [if_pos (by omega)] | rw [if_neg (by omega)])
          ·have q24 : ¬ (k = 15 ∨ k = 22) := fun q => by simp [hc24.2 q] at h24
           refine LWp.seqCut (ι := BC) (fun ⟨b⟩ => mkEnv [(0, .bx 0 0), (1, .d (I64 (d : Nat))), (4, .bx 4 0), (5, .bx 5 0), (25, .d (I64 (k))), (95, .d (.bool b))]) (fun ⟨b⟩ => mkObs [(0, .box false [.d (.sl (L.map I64)), .d (I64 ((i + 1 : Nat) : Int))]), (4, .box false [.d (I64 0), .d (.str []), .d (I64 0), .nl]), (5, .box false [.d (I64 k), .d (.str []), .d (I64 0), .nl])]) (fun ⟨b⟩ => b = true ↔ (k = 16 ∨ k = 23)) ?_ fun ⟨b⟩ hc28 => ?_
           ·refine LWp.sz hT hW ?_
            simp
            refine LWp.iff ?_
            simp
            refine ⟨fun h26 => ?_, fun h26 => ?_⟩
            ·refine LWp.skip ?_
             simp
             refine cutQ.mk ⟨decide (k = 16)⟩ (Weak.to [0, 1, 4, 5, 25, 95] [(0, 0), (4, 4), (5, 5)] (by decide) (by decide) (by simp [hp]) (by simp) (by simp)) ?_
             simp [h26]
            ·refine LWp.rz hT hW ?_
             simp
             refine cutQ.mk ⟨decide (k = 23)⟩ (Weak.to [0, 1, 4, 5, 25, 95] [(0, 0), (4, 4), (5, 5)] (by decide) (by decide) (by simp [hp]) (by simp) (by simp)) ?_
             simp only [decide_eq_true_eq]; omega
           ·refine LWp.iff ?_
            simp
            refine ⟨fun h28 => ?_, fun h28 => ?_⟩
            ·have q28 := hc28.1 h28
             refine LWp.seq ?_
             have hc6 := MCalled_ok L (i + 1) hL (by omega)
             refine LWp.ro hT hW (fun | 99 => some (.gen ⟨[(0, 0)], [], [], mkH L (i + 2), .d (.str (callM L (i + 1)))⟩) | _ => none) ?_
             simp
             refine ⟨by simpa using hc6, ?_⟩
             have hc7 := MOwn_ok L (i + 2) hL (by omega)
             refine LWp.ro hT hW (fun | 102 => some (.gen ⟨[(0, 0)], [], [], mkH L (i + 3), .d (.str (ownM L (i + 2)))⟩) | _ => none) ?_
             simp
             refine ⟨by simpa using hc7, ?_⟩
             refine exWeak (Weak.shutBox 5 [104] (fz := false) (cs := [.d (I64 k), .d (.str (callM L (i + 1))), .d (I64 (0)), .ow 104 0 1]) (ds := [I64 k, .str (callM L (i + 1)), I64 (0), .sl [(Nd.mk 33 (ownM L (i + 2)) 0 []).d]]) (by simp) (by simp) (by simp) (by simp [LObj.mut])) ?_
             simp
             refine cutQ.mk ⟨.mk k (callM L (i + 1)) (0) [Nd.mk 33 (ownM L (i + 2)) 0 []], i + 3⟩ (Weak.to [0, 1, 4, 5] [(0, 0), (4, 4), (5, 5)] (by decide) (by decide) (by simp [hp]) (by simp) (by simp)) ?_
             rw [oneB_eq hc4]
             unfold oneC
             repeat (first | rw [if_pos (by omega)] | rw [if_neg (by omega)])
            ·have q28 : ¬ (k = 16 ∨ k = 23) := fun q => by simp [hc28.2 q] at h28
             refine LWp.sz hT hW ?_
             simp
             refine LWp.iff ?_
             simp
             refine ⟨fun h30 => ?_, fun h30 => ?_⟩
             ·refine LWp.seq ?_
              have hc6 := MOwn_ok L (i + 1) hL (by omega)
              refine LWp.ro hT hW (fun | 109 => some (.gen ⟨[(0, 0)], [], [], mkH L (i + 2), .d (.str (ownM L (i + 1)))⟩) | _ => none) ?_
              simp
              refine ⟨by simpa using hc6, ?_⟩
              have hc7 := MTake_ok L (i + 2) 5 hL (by omega) (by decide)
              have hr7 := atL_range L ((i : Int) + 2) 5 (by decide)
              refine LWp.ro hT hW (fun | 112 => some (.gen ⟨[(0, 0)], [], [], mkH L (i + 3), .d (I64 (atL L ((i : Int) + 2) 5))⟩) | _ => none) ?_
              simp
              refine ⟨⟨by simpa using hc7, by omega⟩, ?_⟩
              refine exWeak (Weak.shutBox 5 [] (fz := false) (cs := [.d (I64 k), .d (.str (ownM L (i + 1))), .d (I64 (2 + atL L ((i : Int) + 2) 5)), .nl]) (ds := [I64 k, .str (ownM L (i + 1)), I64 (2 + atL L ((i : Int) + 2) 5), .sl []]) (by simp) (by simp) (by simp) (by simp [LObj.mut])) ?_
              simp
              refine cutQ.mk ⟨.mk k (ownM L (i + 1)) (2 + atL L ((i : Int) + 2) 5) [], i + 3⟩ (Weak.to [0, 1, 4, 5] [(0, 0), (4, 4), (5, 5)] (by decide) (by decide) (by simp [hp]) (by simp) (by simp)) ?_
              rw [oneB_eq hc4]
              unfold oneC
              repeat (first | rw [if_pos (by omega)] | rw [if_neg (by omega)])
              simp
             ·refine LWp.sz hT hW ?_
              simp
              refine LWp.iff ?_
              simp
              refine ⟨fun h33 => ?_, fun h33 => ?_⟩
              ·have hc6 := MOwn_ok L (i + 1) hL (by omega)
               refine LWp.ro hT hW (fun | 118 => some (.gen ⟨[(0, 0)], [], [], mkH L (i + 2), .d (.str (ownM L (i + 1)))⟩) | _ => none) ?_
               simp
               refine ⟨by simpa using hc6, ?_⟩
               refine exWeak (Weak.shutBox 5 [] (fz := false) (cs := [.d (I64 k), .d (.str (ownM L (i + 1))), .d (I64 (0)), .nl]) (ds := [I64 k, .str (ownM L (i + 1)), I64 (0), .sl []]) (by simp) (by simp) (by simp) (by simp [LObj.mut])) ?_
               simp
               refine cutQ.mk ⟨.mk k (ownM L (i + 1)) (0) [], i + 2⟩ (Weak.to [0, 1, 4, 5] [(0, 0), (4, 4), (5, 5)] (by decide) (by decide) (by simp [hp]) (by simp) (by simp)) ?_
               rw [oneB_eq hc4]
               unfold oneC
               repeat (first | rw [if_pos (by omega)] | rw [if_neg (by omega)])
              ·refine LWp.sz hT hW ?_
               simp
               refine LWp.iff ?_
               simp
               refine ⟨fun h35 => ?_, fun h35 => ?_⟩
               ·have hc7 := MTake_ok L (i + 1) 9 hL (by omega) (by decide)
                have hr7 := atL_range L ((i : Int) + 1) 9 (by decide)
                refine LWp.ro hT hW (fun | 123 => some (.gen ⟨[(0, 0)], [], [], mkH L (i + 2), .d (I64 (atL L ((i : Int) + 1) 9))⟩) | _ => none) ?_
                simp
                refine ⟨⟨by simpa using hc7, by omega⟩, ?_⟩
                refine exWeak (Weak.shutBox 5 [] (fz := false) (cs := [.d (I64 k), .d (.str ([])), .d (I64 (1 + atL L ((i : Int) + 1) 9)), .nl]) (ds := [I64 k, .str ([]), I64 (1 + atL L ((i : Int) + 1) 9), .sl []]) (by simp) (by simp) (by simp) (by simp [LObj.mut])) ?_
                simp
                refine cutQ.mk ⟨.mk k ([]) (1 + atL L ((i : Int) + 1) 9) [], i + 2⟩ (Weak.to [0, 1, 4, 5] [(0, 0), (4, 4), (5, 5)] (by decide) (by decide) (by simp [hp]) (by simp) (by simp)) ?_
                rw [oneB_eq hc4]
                unfold oneC
                repeat (first | rw [if_pos (by omega)] | rw [if_neg (by omega)])
                simp
               ·refine LWp.sz hT hW ?_
                simp
                refine LWp.iff ?_
                simp
                refine ⟨fun h37 => ?_, fun h37 => ?_⟩
                ·have hc7 := MTake_ok L (i + 1) 99 hL (by omega) (by decide)
                 have hr7 := atL_range L ((i : Int) + 1) 99 (by decide)
                 refine LWp.ro hT hW (fun | 129 => some (.gen ⟨[(0, 0)], [], [], mkH L (i + 2), .d (I64 (atL L ((i : Int) + 1) 99))⟩) | _ => none) ?_
                 simp
                 refine ⟨⟨by simpa using hc7, by omega⟩, ?_⟩
                 refine exWeak (Weak.shutBox 5 [] (fz := false) (cs := [.d (I64 k), .d (.str ([])), .d (I64 (1 + atL L ((i : Int) + 1) 99)), .nl]) (ds := [I64 k, .str ([]), I64 (1 + atL L ((i : Int) + 1) 99), .sl []]) (by simp) (by simp) (by simp) (by simp [LObj.mut])) ?_
                 simp
                 refine cutQ.mk ⟨.mk k ([]) (1 + atL L ((i : Int) + 1) 99) [], i + 2⟩ (Weak.to [0, 1, 4, 5] [(0, 0), (4, 4), (5, 5)] (by decide) (by decide) (by simp [hp]) (by simp) (by simp)) ?_
                 rw [oneB_eq hc4]
                 unfold oneC
                 repeat (first | rw [if_pos (by omega)] | rw [if_neg (by omega)])
                 simp
                ·refine LWp.seq ?_
                 have hk24 : k = 24 := by have := oneK_range hc4; omega
                 subst hk24
                 refine LWp.rz hT hW ?_
                 simp
                 refine LWp.iff ?_
                 simp
                 have hv := MValue_ok L hL hll 2 (i + 1) (by omega)
                 refine LWp.ro hT hW (fun | 135 => some (.gen ⟨[(0, 0)], [], [], mkH L (valueM L 2 (i + 1)).2, .d (valueM L 2 (i + 1)).1.d⟩) | _ => none) ?_
                 simp
                 refine ⟨by simpa using hv, ?_⟩
                 refine exWeak (Weak.shutBox 5 [136] (fz := false) (cs := [.d (I64 24), .d (.str ([])), .d (I64 (0)), .ow 136 0 1]) (ds := [I64 24, .str ([]), I64 (0), .sl [((valueM L 2 (i + 1)).1).d]]) (by simp) (by simp) (by simp) (by simp [LObj.mut])) ?_
                 simp
                 refine cutQ.mk ⟨.mk 24 ([]) (0) [(valueM L 2 (i + 1)).1], (valueM L 2 (i + 1)).2⟩ (Weak.to [0, 1, 4, 5] [(0, 0), (4, 4), (5, 5)] (by decide) (by decide) (by simp [hp]) (by simp) (by simp)) ?_
                 rw [oneB_eq hc4]
                 unfold oneC
                 repeat (first | rw [if_pos (by omega)] | rw [if_neg (by omega)])
  ·refine LWp.sz hT hW ?_
   simp
   refine LWp.ret ?_
   simp
   refine Weak.closed (x := (oneB L d bl i).1.d) (by simp [hc41]) ?_
   simp
   exact Weak.to [0] [(0, 0)] (by decide) (by decide) (by simp [hp]) (by simp) (by simp [hc41])
theorem somes_to {L : List Int} {st : Nat → Nd × Nat} {C : Nat} (h : ∀ j, (st j).2 ≤ j + C) : ∀ (m : Nat) (ks : List Nd) (j : Nat), (somesM L st m ks j).2 ≤ j + m * C
 | 0, ks, j => by simp [somesM]
 | m + 1, ks, j => by
  unfold somesM
  split
  ·simp
  ·have a := somes_to (L := L) h m (ks ++ [(st j).1]) (st j).2
   have b := h j
   rw [Nat.succ_mul]
   omega
theorem some_to {L : List Int} {st : Nat → Nd × Nat} {C : Nat} (h : ∀ j, (st j).2 ≤ j + C) (i : Nat) : (someM L st i).2 ≤ i + 1 + 3 * C := by
 have hr := atL_range L i 4 (by decide)
 have a := somes_to (L := L) h (atL L i 4).toNat [] (i + 1)
 have b : (atL L i 4).toNat * C ≤ 3 * C := Nat.mul_le_mul_right C (by omega)
 show (somesM L st (atL L i 4).toNat [] (i + 1)).2 ≤ _
 omega
def oneTo : Nat → Nat
 | 0 => 40
 | d + 1 => 40 + 2 * (1 + 3 * oneTo d)
theorem one_to (L : List Int) : ∀ d i, (oneM L d i).2 ≤ i + oneTo d
 | 0, i => by
  have h : ∀ j : Nat, ((fun _ => default : Nat → Nd × Nat) j).2 ≤ j + 0 := fun j => Nat.zero_le _
  have := oneB_to (L := L) (d := 0) (i := i) h
  rw [oneM]
  simp only [oneTo]
  omega
 | d + 1, i => by
  have h := fun j => some_to (L := L) (one_to L d) j
  have := oneB_to (L := L) (d := d + 1) (i := i) (bl := someM L (oneM L d)) (C := 1 + 3 * oneTo d) fun j => by have := h j; omega
  rw [oneM]
  simp only [oneTo]
  omega
theorem oneTo_le {d : Nat} (h : d ≤ 2) : oneTo d ≤ 2000 := by
 have : ∀ d : Nat, d < 3 → oneTo d ≤ 2000 := by decide
 exact this d (by omega)
theorem MOne_ok (L : List Int) (hL : MkL L) (hll : L.length ≤ 1000000) : ∀ (d : Nat), d ≤ 2 → ∀ b, b + 70000 * d ≤ 1800000 → Makes L 37 d b (oneM L d)
 | 0, _, b, hb => fun j hj => MOne_step L 0 j (fun _ => default) hL hll b hj (by omega) (by omega) (fun e he => by omega) fun j => by show 0 ≤ j + 20000; omega
 | d + 1, hd, b, hb => fun j hj => by
  have hst := oneTo_le (d := d) (by omega)
  have hle := fun j => some_to (L := L) (one_to L d) j
  obtain ⟨c, hc⟩ : ∃ c, c = b + 30000 := ⟨_, rfl⟩
  have h1 := MOne_ok L hL hll d (by omega) (c + 40000) (by omega)
  have h2 : Makes L 60 d c (someM L (oneM L d)) := fun i hi => MSome_step L d i (oneM L d) hL hll c hi (by omega) h1 fun j => by have := one_to L d j; omega
  refine MOne_step L (d + 1) j (someM L (oneM L d)) hL hll b hj (by omega) (by omega) (fun e he => ?_) fun j => ?_
  ·have : e = d := by omega
   rw [this, ← hc]
   exact h2
  ·have := hle j
   omega
end
end Go.Eng
