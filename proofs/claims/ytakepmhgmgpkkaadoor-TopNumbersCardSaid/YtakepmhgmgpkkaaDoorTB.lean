/- A part of the proof: contracts of functions and plain laws; each theorem says its own conditions. -/
import Derived.Test.YtakepmhgmgpkkaaDoorTA
import Derived.Test.YtakepmhgmgpkkaaDoorSxMore
namespace Go.Proofs.YtakepmhgmgpkkaaDoor
open Go.RowKit Sx LexS
set_option linter.unusedVariables false
set_option linter.unusedSimpArgs false
def xT : List UInt8 := [120, 32, 61, 32, 49, 50, 59]
theorem scanRes_xT : scanRes xT = ([⟨1, [120], 0, 0⟩, ⟨4, [61], 0, 2⟩, ⟨3, [49, 50], 12, 4⟩, ⟨4, [59], 0, 6⟩], 0, 0, 0) := by kernel_rfl
theorem scan_eqT (s : List UInt8) (T : List Tok) (e a r : Nat) (he : scanRes s = (T, e, a, r)) (w : World) : Ret Tryd.prog 5 [str s] w fun v w' => Chg [] w w' ∧ ∃ oa cap, v = .tuple [.slice oa T.length cap, .int .i64 (e : Int), .agg [.int .i64 (a : Int), .int .i64 (r : Int)].toArray].toArray ∧
    w'.ownsRow w.heap.size 33 4 (.slice oa T.length cap) T.length (toksL T) ∧ (0 < T.length → ∃ b, oa = some ⟨b, 0, none⟩) :=
  (scan_any s w).mono fun v w' ⟨c, oa, cap, hv, ho⟩ => by
    rw [he] at hv ho
    refine ⟨c, oa, cap, hv, ho, fun h => ?_⟩
    obtain ⟨b, cap', e, _⟩ := own_form ho h
    simp only [Value.slice.injEq] at e
    exact ⟨b, e.1⟩
theorem scanRes_of' {s : List UInt8} {T : List Tok} (hs : s.length ≤ 65536) (h : scanA s 0 = (T, none)) : scanRes s = (T, 0, 0, 0) := by
  unfold scanRes; rw [if_neg (by omega), front_eq, h]
theorem scanRes_bad {s : List UInt8} {A : List Tok} {a r : Nat} (hl : s.length ≤ 65536) (h : scanA s 0 = (A, some (r, a))) : scanRes s = ([], 20, a, r) := by
  unfold scanRes; rw [if_neg (by omega), front_eq, h]
theorem shw_len (x : Int) (hx : -9223372036854775808 ≤ x ∧ x ≤ 9223372036854775807) : (shw x).length ≤ 20 := by
  have hdl := dec_len 18 x.natAbs (by simp only [Nat.reducePow, Nat.reduceAdd]; omega)
  unfold shw; split <;> simp <;> omega
theorem num_scan (x : Int) (hx : -9223372036854775808 ≤ x ∧ x ≤ 9223372036854775807) (k : Nat) (hk : k ≤ 9) : (x = -9223372036854775808 ∧ ∃ a, scanRes (sps k ++ shw x ++ sps k) = ([], 20, a, 3)) ∨
    (x < 0 ∧ x ≠ -9223372036854775808 ∧ scanRes (sps k ++ shw x ++ sps k) = ([⟨4, [45], 0, k⟩, ⟨3, dec x.natAbs, x.natAbs, k + 1⟩], 0, 0, 0)) ∨
    (0 ≤ x ∧ scanRes (sps k ++ shw x ++ sps k) = ([⟨3, dec x.natAbs, x.natAbs, k⟩], 0, 0, 0)) := by
  have hl := shw_len x hx
  have hlen : (sps k ++ shw x ++ sps k).length ≤ 65536 := by simp [sps]; omega
  have h := scan_shw x k
  rw [← List.append_assoc] at h
  by_cases h0 : x < 0
  · rw [if_pos h0] at h
    by_cases hm : 9223372036854775807 < x.natAbs
    · rw [if_pos hm] at h
      exact .inl ⟨by omega, _, scanRes_bad hlen h⟩
    · rw [if_neg hm] at h
      exact .inr (.inl ⟨h0, by omega, scanRes_of' hlen h⟩)
  · rw [if_neg (by omega), if_neg (by omega)] at h
    exact .inr (.inr ⟨by omega, scanRes_of' hlen h⟩)
theorem sgn_scan (k : Nat) (h1 : 1 ≤ k) (h2 : k < 19) : scanRes (sgn k) = ([⟨4, sgn k, 0, 0⟩], 0, 0, 0) :=
  scanRes_of' (by have : ∀ k, k < 19 → (sgn k).length ≤ 65536 := by decide
                  exact this k h2) (scan_sign (sgn_sign k h1 h2))
theorem sps_snoc (k : Nat) : sps k ++ [32] = sps (k + 1) := by simp [sps, List.replicate_succ']

set_option maxHeartbeats 1000000 in
theorem begins_any (w : World) : Ret Tryd.prog 4 [] w fun v w' => v = .bool true ∧ Chg [] w w' := by
  refine ret_of [] Tryd.func4 rfl Tryd.ntmps4 rfl ?_
  have st := St.init w []
  refine vc_seq ?_
  refine vc_region ?_
  refine vc_y rfl rfl (y_as rfl) ?_
  refine vc_end ?_
  refine vq_then ?_
  refine vc_keep [] trivial ?_
  refine vc_seq ?_
  refine vc_region ?_
  refine vc_e (e_call [_, _, _] rfl rfl Tryd.call9 rfl (do_any _) ?_)
  rintro _ w ⟨rfl, cw⟩
  replace st := st.call0 cw
  refine vc_y rfl rfl (y_mv rfl) ?_
  refine vc_y rfl rfl (y_ext rfl rfl) ?_
  refine vc_y rfl rfl (y_ext rfl rfl) ?_
  refine vc_y rfl rfl (y_as rfl) ?_
  refine vc_y rfl rfl (y_as rfl) ?_
  refine vc_end ?_
  refine vq_then ?_
  refine vc_keep [(1, _), (2, _)] ⟨rfl, rfl, trivial⟩ ?_
  refine vc_seq ?_
  refine vc_region ?_
  refine vc_e (e_call [_] rfl rfl Tryd.call5 rfl (scan_eqT xT _ _ _ _ scanRes_xT _) ?_)
  rintro _ w ⟨cw, oa, cap, rfl, how, hb⟩
  obtain ⟨bx, rfl⟩ := hb (by decide)
  replace st := st.pushOwn cw how
  refine vc_y rfl rfl (y_mv rfl) ?_
  refine vc_y rfl rfl (y_ext rfl rfl) ?_
  refine vc_y rfl rfl (y_ext rfl rfl) ?_
  refine vc_y rfl rfl (y_ext rfl rfl) ?_
  refine vc_e (e_al (l := [_, _]) st rfl rfl Tryd.zeroValue27 rfl ?_)
  intro b5 w hb5 st
  refine vc_y rfl rfl (y_as rfl) ?_
  refine vc_y rfl rfl (y_as rfl) ?_
  first
  | refine vc_e (e_sts (vs := [_, _]) st 0 rfl rfl rfl rfl rfl Tryd.sizeOf27 rfl rfl (by first | (right; assumption) | (left; simp)) ?_)
  | refine vc_e (e_sts (vs := [_, _]) st 1 rfl rfl rfl rfl rfl Tryd.sizeOf27 rfl rfl (by first | (right; assumption) | (left; simp)) ?_)
  | refine vc_e (e_sts (vs := [_, _]) st 2 rfl rfl rfl rfl rfl Tryd.sizeOf27 rfl rfl (by first | (right; assumption) | (left; simp)) ?_)
  intro w st; dsimp only [setNth, wr] at st
  refine vc_end ?_
  refine vq_then ?_
  refine vc_keep [(1, _), (2, _), (3, _), (4, _)] ⟨rfl, rfl, rfl, rfl, trivial⟩ ?_
  refine vc_seq ?_
  refine vc_region ?_
  refine vc_y rfl rfl (y_mv rfl) ?_
  refine vc_y rfl rfl (y_eqi rfl rfl) ?_
  refine vc_e (e_mvb rfl rfl rfl ?_ ?_)
  · intro hg17
    try simp only [decide_eq_true_eq, decide_eq_false_iff_not, Bool.not_eq_true', Bool.not_eq_false', Bool.not_eq_true, Bool.not_eq_false, Int.not_lt, Int.not_le, Nat.not_lt, Nat.not_le, Bool.not_true, Bool.not_false, Bool.true_eq_false, Bool.false_eq_true] at hg17
    refine vc_y rfl rfl (y_mv rfl) ?_
    refine vc_y rfl rfl (y_eqi rfl rfl) ?_
    refine vc_y rfl rfl (y_pickt rfl rfl) ?_
    refine vc_e (e_mvb rfl rfl rfl ?_ ?_)
    · intro hg21
      try simp only [decide_eq_true_eq, decide_eq_false_iff_not, Bool.not_eq_true', Bool.not_eq_false', Bool.not_eq_true, Bool.not_eq_false, Int.not_lt, Int.not_le, Nat.not_lt, Nat.not_le, Bool.not_true, Bool.not_false, Bool.true_eq_false, Bool.false_eq_true] at hg21
      refine vc_e (e_call [_] rfl rfl Tryd.call6 rfl (wprint_any (-7) _ (by omega)) ?_)
      rintro _ w ⟨rfl, cw⟩
      replace st := st.call0 cw
      have h7 : shw (-7) = [45, 55] := by kernel_rfl
      rw [h7]
      refine vc_y rfl rfl (y_eqs rfl rfl) ?_
      refine vc_y rfl rfl (y_pickt rfl rfl) ?_
      refine vc_e (e_mvb rfl rfl rfl ?_ ?_)
      · intro hg25
        try simp only [decide_eq_true_eq, decide_eq_false_iff_not, Bool.not_eq_true', Bool.not_eq_false', Bool.not_eq_true, Bool.not_eq_false, Int.not_lt, Int.not_le, Nat.not_lt, Nat.not_le, Bool.not_true, Bool.not_false, Bool.true_eq_false, Bool.false_eq_true] at hg25
        refine vc_y rfl rfl (y_mv rfl) ?_
        refine vc_y rfl rfl (y_eqi rfl rfl) ?_
        refine vc_y rfl rfl (y_pickt rfl rfl) ?_
        refine vc_e (e_mvb rfl rfl rfl ?_ ?_)
        · intro hg29
          try simp only [decide_eq_true_eq, decide_eq_false_iff_not, Bool.not_eq_true', Bool.not_eq_false', Bool.not_eq_true, Bool.not_eq_false, Int.not_lt, Int.not_le, Nat.not_lt, Nat.not_le, Bool.not_true, Bool.not_false, Bool.true_eq_false, Bool.false_eq_true] at hg29
          refine vc_y rfl rfl (y_mv rfl) ?_
          refine vc_y rfl rfl (y_lensl rfl Tryd.underlying24) ?_
          refine vc_y rfl rfl (y_eqi rfl rfl) ?_
          refine vc_y rfl rfl (y_pickt rfl rfl) ?_
          refine vc_e (e_mvb rfl rfl rfl ?_ ?_)
          · intro hg34
            try simp only [decide_eq_true_eq, decide_eq_false_iff_not, Bool.not_eq_true', Bool.not_eq_false', Bool.not_eq_true, Bool.not_eq_false, Int.not_lt, Int.not_le, Nat.not_lt, Nat.not_le, Bool.not_true, Bool.not_false, Bool.true_eq_false, Bool.false_eq_true] at hg34
            refine vc_y rfl rfl (y_mv rfl) ?_
            refine vc_y rfl rfl ((by first | exact y_ia0 (k := 2) rfl rfl Tryd.underlying24 Tryd.sizeOf33 rfl (by omega) | exact y_ia (k := 2) rfl rfl Tryd.underlying24 Tryd.sizeOf33 rfl (by omega))) ?_
            refine vc_y rfl rfl ((by first | exact y_faz (k := 2) rfl Tryd.underlying33 rfl rfl Tryd.sizeOf2 rfl | exact y_fa (k := 2) rfl Tryd.underlying33 rfl rfl Tryd.sizeOf2 rfl)) ?_
            refine vc_y rfl rfl ((by first | exact y_ldo st 1 rfl Tryd.isAgg2 rfl rfl | exact y_ld st 0 rfl Tryd.isAgg2 rfl rfl | exact y_ld st 1 rfl Tryd.isAgg2 rfl rfl | exact y_ld st 2 rfl Tryd.isAgg2 rfl rfl)) ?_
            refine vc_y rfl rfl (y_eqi rfl rfl) ?_
            refine vc_y rfl rfl (y_pickt rfl rfl) ?_
            refine vc_e (e_mvb rfl rfl rfl ?_ ?_)
            · intro hg41
              try simp only [decide_eq_true_eq, decide_eq_false_iff_not, Bool.not_eq_true', Bool.not_eq_false', Bool.not_eq_true, Bool.not_eq_false, Int.not_lt, Int.not_le, Nat.not_lt, Nat.not_le, Bool.not_true, Bool.not_false, Bool.true_eq_false, Bool.false_eq_true] at hg41
              refine vc_y rfl rfl (y_mv rfl) ?_
              refine vc_y rfl rfl ((by first | exact y_ia0 (k := 2) rfl rfl Tryd.underlying24 Tryd.sizeOf33 rfl (by omega) | exact y_ia (k := 2) rfl rfl Tryd.underlying24 Tryd.sizeOf33 rfl (by omega))) ?_
              refine vc_y rfl rfl (y_fa0 rfl Tryd.underlying33 rfl rfl Tryd.sizeOf31 rfl) ?_
              refine vc_y rfl rfl ((by first | exact y_ldo st 1 rfl Tryd.isAgg31 rfl rfl | exact y_ld st 0 rfl Tryd.isAgg31 rfl rfl | exact y_ld st 1 rfl Tryd.isAgg31 rfl rfl | exact y_ld st 2 rfl Tryd.isAgg31 rfl rfl)) ?_
              refine vc_y rfl rfl (y_eqi rfl rfl) ?_
              refine vc_y rfl rfl (y_pickt rfl rfl) ?_
              refine vc_y rfl rfl (y_as rfl) ?_
              refine vc_end ?_
              refine vq_then ?_
              refine vc_keep [(0, _)] ⟨rfl, trivial⟩ ?_
              refine vc_ret ?_
              refine vq_ret1 st (.inl rfl) Tryd.results4 (.tmp rfl) ?_
              refine ⟨_, rfl, ?_⟩
              exact ⟨by first | rfl | (simp; done) | decide, st.chg⟩
            · intro hg41
              (exfalso; revert hg41; decide)
          · intro hg34
            (exfalso; revert hg34; decide)
        · intro hg29
          (exfalso; revert hg29; decide)
      · intro hg25
        (exfalso; revert hg25; decide)
    · intro hg21
      (exfalso; revert hg21; decide)
  · intro hg17
    (exfalso; revert hg17; decide)

set_option maxHeartbeats 2000000 in
theorem lawTopNumbers (x : Int) (op bl : Int) (w : World) (hx : -9223372036854775808 ≤ x ∧ x ≤ 9223372036854775807) (hop : 0 ≤ op ∧ op ≤ 255) (hbl : 0 ≤ bl ∧ bl ≤ 255) (hs : Sig w) : Ret Tryd.prog 3 [.int .i64 x, .int .u8 op, .int .u8 bl] w fun v w' => v = .bool true ∧ Chg [] w w' := by
  refine ret_of [_, _, _] Tryd.func3 rfl Tryd.ntmps3 rfl ?_
  have st := St.init w []
  obtain ⟨w0, rfl⟩ : ∃ w0, w0 = w := ⟨_, rfl⟩
  obtain ⟨K, hK⟩ : ∃ K : Nat, (K : Int) = bl % 9 := ⟨(bl % 9).toNat, by omega⟩
  refine vc_seq ?_
  refine vc_region ?_
  refine vc_y rfl rfl (y_as rfl) ?_
  refine vc_end ?_
  refine vq_then ?_
  refine vc_keep [(0, _), (1, _), (2, _)] ⟨rfl, rfl, rfl, trivial⟩ ?_
  refine vc_seq ?_
  refine vc_seq ?_
  refine vc_region ?_
  refine vc_e (e_call [] rfl rfl Tryd.call4 rfl (begins_any _) ?_)
  rintro _ w ⟨rfl, cb⟩
  replace st := st.call0 cb
  refine vc_y rfl rfl (y_not rfl) ?_
  refine vc_end ?_
  refine vq_then ?_
  refine vc_keep [(0, _), (1, _), (2, _), (16, _)] ⟨rfl, rfl, rfl, rfl, trivial⟩ ?_
  refine vc_ifs rfl ?_ ?_
  · intro hc16
    (exfalso; simp at hc16)
  · intro hc16
    try simp only [decide_eq_true_eq, decide_eq_false_iff_not, Bool.not_eq_true', Bool.not_eq_false', Bool.not_eq_true, Bool.not_eq_false, Int.not_lt, Int.not_le, Nat.not_lt, Nat.not_le, Bool.not_true, Bool.not_false, Bool.true_eq_false, Bool.false_eq_true] at hc16
    refine vc_code_skip ?_
    refine vq_then ?_
    refine vc_keep [(0, _), (1, _), (2, _)] ⟨rfl, rfl, rfl, trivial⟩ ?_
    refine vc_seq ?_
    refine vc_region ?_
    refine vc_y rfl rfl (y_as rfl) ?_
    refine vc_end ?_
    refine vq_then ?_
    refine vc_keep [(0, _), (1, _), (2, _), (7, _)] ⟨rfl, rfl, rfl, rfl, trivial⟩ ?_
    refine vc_seq ?_
    refine vc_seq ?_
    refine vc_region ?_
    refine vc_y rfl rfl (y_as rfl) ?_
    refine vc_end ?_
    refine vq_then ?_
    refine vc_keep [(0, _), (1, _), (2, _), (7, _), (8, _)] ⟨rfl, rfl, rfl, rfl, rfl, trivial⟩ ?_
    refine vc_block ?_
    refine vc_loop (w0 := _) (M := _) (fun (j : Nat) => [(0, .int .i64 x), (1, .int .u8 op), (2, .int .u8 bl), (7, str (sps j)), (8, .int .i64 (j : Int))]) (fun _ => []) (fun j _ => j ≤ K) (fun j => K - j) 0 ⟨rfl, rfl, rfl, rfl, rfl, trivial⟩ st (by omega) ?_
    rintro j w hj st
    refine vc_seq ?_
    refine vc_seq ?_
    refine vc_region ?_
    refine vc_y rfl rfl (y_mv rfl) ?_
    refine vc_y rfl rfl (y_mv rfl) ?_
    refine vc_y rfl rfl (y_remk rfl rfl (by omega) (by omega) (rfl : _ = bl % 9)) ?_
    refine vc_y rfl rfl (y_cvi rfl Tryd.underlying3 Tryd.underlying5 (IntWalk.i64_in _ ⟨by omega, by omega⟩ : _ = bl % 9)) ?_
    refine vc_y rfl rfl (y_lss rfl rfl) ?_
    refine vc_end ?_
    refine vq_then ?_
    refine vc_keep [(0, _), (1, _), (2, _), (7, _), (8, _), (21, _)] ⟨rfl, rfl, rfl, rfl, rfl, rfl, trivial⟩ ?_
    refine vc_ifs rfl ?_ ?_
    · intro hc21
      try simp only [decide_eq_true_eq, decide_eq_false_iff_not, Bool.not_eq_true', Bool.not_eq_false', Bool.not_eq_true, Bool.not_eq_false, Int.not_lt, Int.not_le, Nat.not_lt, Nat.not_le, Bool.not_true, Bool.not_false, Bool.true_eq_false, Bool.false_eq_true] at hc21
      refine vc_code_skip ?_
      refine vq_then ?_
      refine vc_keep [(0, _), (1, _), (2, _), (7, _), (8, _)] ⟨rfl, rfl, rfl, rfl, rfl, trivial⟩ ?_
      refine vc_seq ?_
      refine vc_block ?_
      refine vc_region ?_
      refine vc_y rfl rfl (y_mv rfl) ?_
      refine vc_y rfl rfl (y_cat rfl rfl (by simp [sps]; omega)) ?_
      refine vc_y rfl rfl (y_as rfl) ?_
      refine vc_end ?_
      refine vq_block ?_
      refine vq_then ?_
      refine vc_keep [(0, _), (1, _), (2, _), (7, _), (8, _)] ⟨rfl, rfl, rfl, rfl, rfl, trivial⟩ ?_
      refine vc_region ?_
      refine vc_y rfl rfl (y_mv rfl) ?_
      refine vc_y rfl rfl (y_add rfl rfl rfl (by omega) (by omega)) ?_
      refine vc_y rfl rfl (y_as rfl) ?_
      refine vc_end ?_
      refine vq_again (j + 1)  ⟨rfl, rfl, rfl, by rw [← sps_snoc]; rfl, rfl, trivial⟩ st ?_ ?_
      · omega
      · omega
    · intro hc21
      try simp only [decide_eq_true_eq, decide_eq_false_iff_not, Bool.not_eq_true', Bool.not_eq_false', Bool.not_eq_true, Bool.not_eq_false, Int.not_lt, Int.not_le, Nat.not_lt, Nat.not_le, Bool.not_true, Bool.not_false, Bool.true_eq_false, Bool.false_eq_true] at hc21
      obtain rfl : j = K := by omega
      have hns := num_scan x hx j (by omega)
      have hsl := shw_len x hx
      refine vc_exit ?_
      refine vq_then_exit ?_
      refine vq_then_exit ?_
      refine vq_block_exit ?_
      refine vq_then ?_
      refine vc_keep [(0, _), (1, _), (7, _)] ⟨rfl, rfl, rfl, trivial⟩ ?_
      refine vc_seq ?_
      refine vc_region ?_
      refine vc_y rfl rfl (y_mv rfl) ?_
      refine vc_y rfl rfl (y_mv rfl) ?_
      refine vc_e (e_call [_] rfl rfl Tryd.call6 rfl (wprint_any x _ hx) ?_)
      rintro _ w ⟨rfl, cw⟩
      replace st := st.call0 cw
      obtain ⟨T, e, a, r, hres⟩ : ∃ T e a r, scanRes (sps j ++ shw x ++ sps j) = (T, e, a, r) := ⟨_, _, _, _, rfl⟩
      rw [hres] at hns
      refine vc_y rfl rfl (y_cat rfl rfl (by simp [sps]; omega)) ?_
      refine vc_y rfl rfl (y_mv rfl) ?_
      refine vc_y rfl rfl (y_cat rfl rfl (by simp [sps]; omega)) ?_
      refine vc_e (e_call [_] rfl rfl Tryd.call5 rfl (scan_eqT (sps j ++ shw x ++ sps j) T e a r hres _) ?_)
      rintro _ w ⟨cw, oa, cap, rfl, how, hb⟩
      replace st := st.pushOwn cw how
      refine vc_y rfl rfl (y_mv rfl) ?_
      refine vc_y rfl rfl (y_ext rfl rfl) ?_
      refine vc_y rfl rfl (y_ext rfl rfl) ?_
      refine vc_y rfl rfl (y_ext rfl rfl) ?_
      refine vc_e (e_al (l := [_, _]) st rfl rfl Tryd.zeroValue27 rfl ?_)
      intro b11 w hb11 st
      refine vc_y rfl rfl (y_as rfl) ?_
      refine vc_y rfl rfl (y_as rfl) ?_
      first
      | refine vc_e (e_sts (vs := [_, _]) st 0 rfl rfl rfl rfl rfl Tryd.sizeOf27 rfl rfl (by first | (right; assumption) | (left; simp)) ?_)
      | refine vc_e (e_sts (vs := [_, _]) st 1 rfl rfl rfl rfl rfl Tryd.sizeOf27 rfl rfl (by first | (right; assumption) | (left; simp)) ?_)
      | refine vc_e (e_sts (vs := [_, _]) st 2 rfl rfl rfl rfl rfl Tryd.sizeOf27 rfl rfl (by first | (right; assumption) | (left; simp)) ?_)
      intro w st; dsimp only [setNth, wr] at st
      refine vc_end ?_
      refine vq_then ?_
      refine vc_keep [(0, _), (1, _), (9, _), (10, _)] ⟨rfl, rfl, rfl, rfl, trivial⟩ ?_
      refine vc_seq ?_
      refine vc_seq ?_
      refine vc_region ?_
      refine vc_y rfl rfl (y_mv rfl) ?_
      refine vc_y rfl rfl (y_eqi rfl rfl) ?_
      refine vc_end ?_
      refine vq_then ?_
      refine vc_keep [(0, _), (1, _), (9, _), (10, _), (38, _)] ⟨rfl, rfl, rfl, rfl, rfl, trivial⟩ ?_
      refine vc_ifs rfl ?_ ?_
      · intro hc38
        try simp only [decide_eq_true_eq, decide_eq_false_iff_not, Bool.not_eq_true', Bool.not_eq_false', Bool.not_eq_true, Bool.not_eq_false, Int.not_lt, Int.not_le, Nat.not_lt, Nat.not_le, Bool.not_true, Bool.not_false, Bool.true_eq_false, Bool.false_eq_true] at hc38
        refine vc_seq ?_
        refine vc_region ?_
        refine vc_y rfl rfl (y_mv rfl) ?_
        refine vc_y rfl rfl (y_eqi rfl rfl) ?_
        refine vc_y rfl rfl (y_as rfl) ?_
        refine vc_end ?_
        refine vq_then ?_
        refine vc_keep [(6, _)] ⟨rfl, trivial⟩ ?_
        refine vc_ret ?_
        refine vq_then_ret ?_
        refine vq_ret1 st (.inl rfl) Tryd.results3 (.tmp rfl) ?_
        refine ⟨_, rfl, ?_⟩
        refine ⟨?_, st.chg⟩
        rcases hns with ⟨_, a, h⟩ | ⟨_, h, _⟩ | ⟨h, _⟩
        · simp only [Prod.mk.injEq] at h; obtain ⟨-, rfl, -⟩ := h; rfl
        · omega
        · omega
      · intro hc38
        try simp only [decide_eq_true_eq, decide_eq_false_iff_not, Bool.not_eq_true', Bool.not_eq_false', Bool.not_eq_true, Bool.not_eq_false, Int.not_lt, Int.not_le, Nat.not_lt, Nat.not_le, Bool.not_true, Bool.not_false, Bool.true_eq_false, Bool.false_eq_true] at hc38
        have hcase : (x < 0 ∧ T = [⟨4, [45], 0, j⟩, ⟨3, dec x.natAbs, x.natAbs, j + 1⟩] ∧ e = 0) ∨ (0 ≤ x ∧ T = [⟨3, dec x.natAbs, x.natAbs, j⟩] ∧ e = 0) := by
          rcases hns with ⟨h, _⟩ | ⟨h0, _, h⟩ | ⟨h0, h⟩
          · omega
          · simp only [Prod.mk.injEq] at h; exact .inl ⟨h0, h.1, h.2.1⟩
          · simp only [Prod.mk.injEq] at h; exact .inr ⟨h0, h.1, h.2.1⟩
        clear hns
        have hTp : 0 < T.length := by rcases hcase with ⟨_, rfl, _⟩ | ⟨_, rfl, _⟩ <;> simp
        obtain ⟨bx, rfl⟩ := hb hTp
        have hTl : T.length ≤ 2 := by rcases hcase with ⟨_, rfl, _⟩ | ⟨_, rfl, _⟩ <;> simp
        have he0 : e = 0 := by rcases hcase with ⟨_, _, h⟩ | ⟨_, _, h⟩ <;> exact h
        subst he0
        clear hb
        refine vc_code_skip ?_
        refine vq_then ?_
        refine vc_keep [(0, _), (1, _), (9, _), (10, _)] ⟨rfl, rfl, rfl, rfl, trivial⟩ ?_
        refine vc_seq ?_
        refine vc_seq ?_
        refine vc_region ?_
        refine vc_y rfl rfl (y_mv rfl) ?_
        refine vc_y rfl rfl (y_nei rfl rfl) ?_
        refine vc_e (e_mvb rfl rfl rfl ?_ ?_)
        · intro hg43
          (exfalso; simp at hg43)
        · intro hg43
          try simp only [decide_eq_true_eq, decide_eq_false_iff_not, Bool.not_eq_true', Bool.not_eq_false', Bool.not_eq_true, Bool.not_eq_false, Int.not_lt, Int.not_le, Nat.not_lt, Nat.not_le, Bool.not_true, Bool.not_false, Bool.true_eq_false, Bool.false_eq_true] at hg43
          refine vc_y rfl rfl (y_mv rfl) ?_
          refine vc_y rfl rfl (y_lensl rfl Tryd.underlying24) ?_
          refine vc_y rfl rfl (y_eqi rfl rfl) ?_
          refine vc_y rfl rfl (y_pickf rfl rfl) ?_
          refine vc_e (e_mvb rfl rfl rfl ?_ ?_)
          · intro hg48
            (exfalso; simp only [decide_eq_true_eq] at hg48; omega)
          · intro hg48
            try simp only [decide_eq_true_eq, decide_eq_false_iff_not, Bool.not_eq_true', Bool.not_eq_false', Bool.not_eq_true, Bool.not_eq_false, Int.not_lt, Int.not_le, Nat.not_lt, Nat.not_le, Bool.not_true, Bool.not_false, Bool.true_eq_false, Bool.false_eq_true] at hg48
            refine vc_y rfl rfl (y_mv rfl) ?_
            refine vc_y rfl rfl (y_mv rfl) ?_
            refine vc_y rfl rfl (y_lensl rfl Tryd.underlying24) ?_
            have hlast : (toksL T)[(T.length - 1) * 4]? = some (.int .u8 3) := by
              rcases hcase with ⟨_, rfl, _⟩ | ⟨_, rfl, _⟩ <;> rfl
            refine vc_y rfl rfl (y_sub rfl rfl rfl (by omega) (by omega)) ?_
            refine vc_y rfl rfl ((by first | exact y_ia0 (k := (T.length - 1)) rfl rfl Tryd.underlying24 Tryd.sizeOf33 (by omega) (by omega) | exact y_ia (k := (T.length - 1)) rfl rfl Tryd.underlying24 Tryd.sizeOf33 (by omega) (by omega))) ?_
            refine vc_y rfl rfl (y_fa0 rfl Tryd.underlying33 rfl rfl Tryd.sizeOf31 rfl) ?_
            refine vc_y rfl rfl ((by first | exact y_ldo st 1 rfl Tryd.isAgg31 rfl hlast | exact y_ld st 0 rfl Tryd.isAgg31 rfl rfl | exact y_ld st 1 rfl Tryd.isAgg31 rfl rfl | exact y_ld st 2 rfl Tryd.isAgg31 rfl rfl)) ?_
            refine vc_y rfl rfl (y_nei rfl rfl) ?_
            refine vc_y rfl rfl (y_pickf rfl rfl) ?_
            refine vc_end ?_
            refine vq_then ?_
            refine vc_keep [(0, _), (1, _), (9, _), (57, _)] ⟨rfl, rfl, rfl, rfl, trivial⟩ ?_
            refine vc_ifs rfl ?_ ?_
            · intro hc57
              (exfalso; simp at hc57)
            · intro hc57
              try simp only [decide_eq_true_eq, decide_eq_false_iff_not, Bool.not_eq_true', Bool.not_eq_false', Bool.not_eq_true, Bool.not_eq_false, Int.not_lt, Int.not_le, Nat.not_lt, Nat.not_le, Bool.not_true, Bool.not_false, Bool.true_eq_false, Bool.false_eq_true] at hc57
              refine vc_code_skip ?_
              refine vq_then ?_
              refine vc_keep [(0, _), (1, _), (9, _)] ⟨rfl, rfl, rfl, trivial⟩ ?_
              refine vc_seq ?_
              refine vc_seq ?_
              refine vc_region ?_
              refine vc_y rfl rfl (y_mv rfl) ?_
              refine vc_y rfl rfl (y_geq rfl rfl) ?_
              refine vc_e (e_mvb rfl rfl rfl ?_ ?_)
              · intro hg60
                try simp only [decide_eq_true_eq, decide_eq_false_iff_not, Bool.not_eq_true', Bool.not_eq_false', Bool.not_eq_true, Bool.not_eq_false, Int.not_lt, Int.not_le, Nat.not_lt, Nat.not_le, Bool.not_true, Bool.not_false, Bool.true_eq_false, Bool.false_eq_true] at hg60
                obtain rfl : T = [⟨3, dec x.natAbs, x.natAbs, j⟩] := by
                  rcases hcase with ⟨h, _⟩ | ⟨_, h, _⟩
                  · omega
                  · exact h
                refine vc_y rfl rfl (y_mv rfl) ?_
                refine vc_y rfl rfl (y_lensl rfl Tryd.underlying24) ?_
                refine vc_y rfl rfl (y_nei rfl rfl) ?_
                refine vc_e (e_mvb rfl rfl rfl ?_ ?_)
                · intro hg64
                  (exfalso; simp at hg64)
                · intro hg64
                  try simp only [decide_eq_true_eq, decide_eq_false_iff_not, Bool.not_eq_true', Bool.not_eq_false', Bool.not_eq_true, Bool.not_eq_false, Int.not_lt, Int.not_le, Nat.not_lt, Nat.not_le, Bool.not_true, Bool.not_false, Bool.true_eq_false, Bool.false_eq_true] at hg64
                  refine vc_y rfl rfl (y_mv rfl) ?_
                  refine vc_y rfl rfl ((by first | exact y_ia0 (k := 0) rfl rfl Tryd.underlying24 Tryd.sizeOf33 rfl (by omega) | exact y_ia (k := 0) rfl rfl Tryd.underlying24 Tryd.sizeOf33 rfl (by omega))) ?_
                  refine vc_y rfl rfl ((by first | exact y_faz (k := 2) rfl Tryd.underlying33 rfl rfl Tryd.sizeOf2 rfl | exact y_fa (k := 2) rfl Tryd.underlying33 rfl rfl Tryd.sizeOf2 rfl)) ?_
                  refine vc_y rfl rfl ((by first | exact y_ldo st 1 rfl Tryd.isAgg2 rfl rfl | exact y_ld st 0 rfl Tryd.isAgg2 rfl rfl | exact y_ld st 1 rfl Tryd.isAgg2 rfl rfl | exact y_ld st 2 rfl Tryd.isAgg2 rfl rfl)) ?_
                  refine vc_y rfl rfl (y_mv rfl) ?_
                  refine vc_y rfl rfl (y_nei rfl rfl) ?_
                  refine vc_y rfl rfl (y_pickf rfl rfl) ?_
                  refine vc_y rfl rfl (y_pickt rfl rfl) ?_
                  refine vc_e (e_mvb rfl rfl rfl ?_ ?_)
                  · intro hg73
                    (exfalso; simp at hg73; omega)
                  · intro hg73
                    try simp only [decide_eq_true_eq, decide_eq_false_iff_not, Bool.not_eq_true', Bool.not_eq_false', Bool.not_eq_true, Bool.not_eq_false, Int.not_lt, Int.not_le, Nat.not_lt, Nat.not_le, Bool.not_true, Bool.not_false, Bool.true_eq_false, Bool.false_eq_true] at hg73
                    refine vc_y rfl rfl (y_mv rfl) ?_
                    refine vc_y rfl rfl (y_lss rfl rfl) ?_
                    refine vc_e (e_mvb rfl rfl rfl ?_ ?_)
                    · intro hg76
                      (exfalso; simp only [decide_eq_true_eq, decide_eq_false_iff_not] at hg76; omega)
                    · intro hg76
                      try simp only [decide_eq_true_eq, decide_eq_false_iff_not, Bool.not_eq_true', Bool.not_eq_false', Bool.not_eq_true, Bool.not_eq_false, Int.not_lt, Int.not_le, Nat.not_lt, Nat.not_le, Bool.not_true, Bool.not_false, Bool.true_eq_false, Bool.false_eq_true] at hg76
                      refine vc_e (e_skip rfl rfl ?_)
                      refine vc_e (e_skip rfl rfl ?_)
                      refine vc_e (e_skip rfl rfl ?_)
                      refine vc_e (e_skip rfl rfl ?_)
                      refine vc_e (e_skip rfl rfl ?_)
                      refine vc_e (e_skip rfl rfl ?_)
                      refine vc_e (e_skip rfl rfl ?_)
                      refine vc_e (e_skip rfl rfl ?_)
                      refine vc_e (e_skip rfl rfl ?_)
                      refine vc_e (e_skip rfl rfl ?_)
                      refine vc_e (e_skip rfl rfl ?_)
                      refine vc_e (e_skip rfl rfl ?_)
                      refine vc_e (e_skip rfl rfl ?_)
                      refine vc_e (e_skip rfl rfl ?_)
                      refine vc_e (e_skip rfl rfl ?_)
                      refine vc_e (e_skip rfl rfl ?_)
                      refine vc_e (e_skip rfl rfl ?_)
                      refine vc_e (e_skip rfl rfl ?_)
                      refine vc_e (e_skip rfl rfl ?_)
                      refine vc_y rfl rfl (y_pickf rfl rfl) ?_
                      refine vc_y rfl rfl (y_pickf rfl rfl) ?_
                      refine vc_end ?_
                      refine vq_then ?_
                      refine vc_keep [(1, _), (97, _)] ⟨rfl, rfl, trivial⟩ ?_
                      refine vc_iff rfl ?_
                      refine vc_code_skip ?_
                      refine vq_then ?_
                      refine vc_keep [(1, _)] ⟨rfl, trivial⟩ ?_
                      refine vc_seq ?_
                      refine vc_seq ?_
                      refine vc_region ?_
                      refine vc_y rfl rfl (y_mv rfl) ?_
                      refine vc_e (e_call [_] rfl rfl Tryd.call7 rfl (show_any op _ (hs.kept st.chg)) ?_)
                      rintro _ w ⟨rfl, rfl⟩
                      refine vc_y rfl rfl (y_eqs rfl rfl) ?_
                      refine vc_end ?_
                      refine vq_then ?_
                      refine vc_keep [(1, _), (100, _)] ⟨rfl, rfl, trivial⟩ ?_
                      refine vc_ifs rfl ?_ ?_
                      · intro hc100
                        try simp only [decide_eq_true_eq, decide_eq_false_iff_not, Bool.not_eq_true', Bool.not_eq_false', Bool.not_eq_true, Bool.not_eq_false, Int.not_lt, Int.not_le, Nat.not_lt, Nat.not_le, Bool.not_true, Bool.not_false, Bool.true_eq_false, Bool.false_eq_true] at hc100
                        refine vc_seq ?_
                        refine vc_region ?_
                        refine vc_y rfl rfl (y_as rfl) ?_
                        refine vc_end ?_
                        refine vq_then ?_
                        refine vc_keep [(6, _)] ⟨rfl, trivial⟩ ?_
                        refine vc_ret ?_
                        refine vq_then_ret ?_
                        refine vq_ret1 st (.inl rfl) Tryd.results3 (.tmp rfl) ?_
                        refine ⟨_, rfl, ?_⟩
                        exact ⟨by first | rfl | (simp; done) | (rw [sgn_sign m hmk.1 hmk.2]), st.chg⟩
                      · intro hc100
                        try simp only [decide_eq_true_eq, decide_eq_false_iff_not, Bool.not_eq_true', Bool.not_eq_false', Bool.not_eq_true, Bool.not_eq_false, Int.not_lt, Int.not_le, Nat.not_lt, Nat.not_le, Bool.not_true, Bool.not_false, Bool.true_eq_false, Bool.false_eq_true] at hc100
                        have hkn : knownOp op = true := by
                          cases h : knownOp op with
                          | true => rfl
                          | false => exfalso; simp [h] at hc100
                        obtain ⟨m, rfl⟩ : ∃ m : Nat, op = m := ⟨op.toNat, by omega⟩
                        have hmk : 1 ≤ m ∧ m < 19 := by simp [knownOp] at hkn; omega
                        refine vc_code_skip ?_
                        refine vq_then ?_
                        refine vc_keep [(1, _)] ⟨rfl, trivial⟩ ?_
                        refine vc_seq ?_
                        refine vc_region ?_
                        refine vc_y rfl rfl (y_mv rfl) ?_
                        refine vc_e (e_call [_] rfl rfl Tryd.call7 rfl (by have h := show_any (m : Int) _ (hs.kept st.chg); rw [if_pos hkn, Int.toNat_natCast] at h; exact h) ?_)
                        rintro _ w ⟨rfl, rfl⟩
                        refine vc_e (e_call [_] rfl rfl Tryd.call5 rfl (scan_eqT (sgn m) _ _ _ _ (sgn_scan m hmk.1 hmk.2) _) ?_)
                        rintro _ w ⟨cw, oa2, cap2, rfl, how2, hb2⟩
                        obtain ⟨by_, rfl⟩ := hb2 (by simp)
                        replace st := st.pushOwn cw how2
                        refine vc_y rfl rfl (y_mv rfl) ?_
                        refine vc_y rfl rfl (y_ext rfl rfl) ?_
                        refine vc_y rfl rfl (y_ext rfl rfl) ?_
                        refine vc_y rfl rfl (y_ext rfl rfl) ?_
                        refine vc_e (e_al (l := [_, _]) st rfl rfl Tryd.zeroValue27 rfl ?_)
                        intro b14 w hb14 st
                        refine vc_y rfl rfl (y_as rfl) ?_
                        refine vc_y rfl rfl (y_as rfl) ?_
                        first
                        | refine vc_e (e_sts (vs := [_, _]) st 0 rfl rfl rfl rfl rfl Tryd.sizeOf27 rfl rfl (by first | (right; assumption) | (left; simp)) ?_)
                        | refine vc_e (e_sts (vs := [_, _]) st 1 rfl rfl rfl rfl rfl Tryd.sizeOf27 rfl rfl (by first | (right; assumption) | (left; simp)) ?_)
                        | refine vc_e (e_sts (vs := [_, _]) st 2 rfl rfl rfl rfl rfl Tryd.sizeOf27 rfl rfl (by first | (right; assumption) | (left; simp)) ?_)
                        intro w st; dsimp only [setNth, wr] at st
                        refine vc_end ?_
                        refine vq_then ?_
                        refine vc_keep [(1, _), (12, _), (13, _)] ⟨rfl, rfl, rfl, trivial⟩ ?_
                        refine vc_seq ?_
                        refine vc_draw Tryd.mixed [(0, true), (1, true), (2, true), (3, true), (4, true), (5, true), (6, true), (7, true), (8, true), (9, true), (10, true), (11, true), (12, true), (13, true), (14, true), (15, true), (16, true), (17, true), (18, true), (19, true), (20, false), (21, true), (22, true), (23, true), (24, true), (25, true), (26, true), (27, true), (28, false), (29, true), (30, true)] (fun w => St _ _ _ w) st (by kernel_rfl) (by repeat (first | exact okQ_body | refine okQ_then ?_ | refine okQ_block ?_)) rfl (by kernel_rfl) ?_
                        intro w cd; replace st := st.call0 cd; clear cd
                        have hS := st
                        refine vp_take rfl rfl rfl hS (fun w st => y_mv rfl) ?_
                        refine vp_take rfl rfl rfl hS (fun w st => y_eqi rfl rfl) ?_
                        refine vp_part rfl rfl rfl hS rfl ?_ ?_
                        · intro hg110
                          try simp only [decide_eq_true_eq, decide_eq_false_iff_not, Bool.not_eq_true', Bool.not_eq_false', Bool.not_eq_true, Bool.not_eq_false, Int.not_lt, Int.not_le, Nat.not_lt, Nat.not_le, Bool.not_true, Bool.not_false, Bool.true_eq_false, Bool.false_eq_true] at hg110
                          refine vp_take rfl rfl rfl hS (fun w st => y_mv rfl) ?_
                          refine vp_take rfl rfl rfl hS (fun w st => y_lensl rfl Tryd.underlying24) ?_
                          refine vp_take rfl rfl rfl hS (fun w st => y_eqi rfl rfl) ?_
                          refine vp_take rfl rfl rfl hS (fun w st => y_pickt rfl rfl) ?_
                          refine vp_part rfl rfl rfl hS rfl ?_ ?_
                          · intro hg115
                            try simp only [decide_eq_true_eq, decide_eq_false_iff_not, Bool.not_eq_true', Bool.not_eq_false', Bool.not_eq_true, Bool.not_eq_false, Int.not_lt, Int.not_le, Nat.not_lt, Nat.not_le, Bool.not_true, Bool.not_false, Bool.true_eq_false, Bool.false_eq_true] at hg115
                            refine vp_take rfl rfl rfl hS (fun w st => y_mv rfl) ?_
                            refine vp_take rfl rfl rfl hS (fun w st => (by first | exact y_ia0 (k := 0) rfl rfl Tryd.underlying24 Tryd.sizeOf33 rfl (by omega) | exact y_ia (k := 0) rfl rfl Tryd.underlying24 Tryd.sizeOf33 rfl (by omega))) ?_
                            refine vp_take rfl rfl rfl hS (fun w st => y_fa0 rfl Tryd.underlying33 rfl rfl Tryd.sizeOf31 rfl) ?_
                            refine vp_take rfl rfl rfl hS (fun w st => (by first | exact y_ldo st 1 rfl Tryd.isAgg31 rfl rfl | exact y_ld st 0 rfl Tryd.isAgg31 rfl rfl | exact y_ld st 1 rfl Tryd.isAgg31 rfl rfl | exact y_ld st 2 rfl Tryd.isAgg31 rfl rfl)) ?_
                            refine vp_take rfl rfl rfl hS (fun w st => y_eqi rfl rfl) ?_
                            refine vp_take rfl rfl rfl hS (fun w st => y_pickt rfl rfl) ?_
                            refine vp_part rfl rfl rfl hS rfl ?_ ?_
                            · intro hg122
                              try simp only [decide_eq_true_eq, decide_eq_false_iff_not, Bool.not_eq_true', Bool.not_eq_false', Bool.not_eq_true, Bool.not_eq_false, Int.not_lt, Int.not_le, Nat.not_lt, Nat.not_le, Bool.not_true, Bool.not_false, Bool.true_eq_false, Bool.false_eq_true] at hg122
                              refine vp_take rfl rfl rfl hS (fun w st => y_mv rfl) ?_
                              refine vp_take rfl rfl rfl hS (fun w st => (by first | exact y_ia0 (k := 0) rfl rfl Tryd.underlying24 Tryd.sizeOf33 rfl (by omega) | exact y_ia (k := 0) rfl rfl Tryd.underlying24 Tryd.sizeOf33 rfl (by omega))) ?_
                              refine vp_take rfl rfl rfl hS (fun w st => (by first | exact y_faz (k := 1) rfl Tryd.underlying33 rfl rfl Tryd.sizeOf9 rfl | exact y_fa (k := 1) rfl Tryd.underlying33 rfl rfl Tryd.sizeOf9 rfl)) ?_
                              refine vp_take rfl rfl rfl hS (fun w st => (by first | exact y_ldo st 1 rfl Tryd.isAgg9 rfl rfl | exact y_ld st 0 rfl Tryd.isAgg9 rfl rfl | exact y_ld st 1 rfl Tryd.isAgg9 rfl rfl | exact y_ld st 2 rfl Tryd.isAgg9 rfl rfl)) ?_
                              refine vp_take rfl rfl rfl hS (fun w st => y_mv rfl) ?_
                              refine vp_do rfl (e_call [_] rfl rfl Tryd.call7 rfl (by have h := show_any (m : Int) _ (hs.kept st.chg); rw [if_pos hkn, Int.toNat_natCast] at h; exact h) ?_)
                              rintro _ w ⟨rfl, rfl⟩
                              refine vp_next (by first | exact st | exact st.drop (by repeat (first | exact List.Sublist.slnil | apply List.Sublist.cons_cons | apply List.Sublist.cons))) ?_; intro hS
                              refine vp_take rfl rfl rfl hS (fun w st => y_eqs rfl rfl) ?_
                              refine vp_take rfl rfl rfl hS (fun w st => y_pickt rfl rfl) ?_
                              refine vp_part rfl rfl rfl hS rfl ?_ ?_
                              · intro hg131
                                try simp only [decide_eq_true_eq, decide_eq_false_iff_not, Bool.not_eq_true', Bool.not_eq_false', Bool.not_eq_true, Bool.not_eq_false, Int.not_lt, Int.not_le, Nat.not_lt, Nat.not_le, Bool.not_true, Bool.not_false, Bool.true_eq_false, Bool.false_eq_true] at hg131
                                refine vp_take rfl rfl rfl hS (fun w st => y_mv rfl) ?_
                                refine vp_take rfl rfl rfl hS (fun w st => (by first | exact y_ia0 (k := 0) rfl rfl Tryd.underlying24 Tryd.sizeOf33 rfl (by omega) | exact y_ia (k := 0) rfl rfl Tryd.underlying24 Tryd.sizeOf33 rfl (by omega))) ?_
                                refine vp_take rfl rfl rfl hS (fun w st => (by first | exact y_faz (k := 1) rfl Tryd.underlying33 rfl rfl Tryd.sizeOf9 rfl | exact y_fa (k := 1) rfl Tryd.underlying33 rfl rfl Tryd.sizeOf9 rfl)) ?_
                                refine vp_take rfl rfl rfl hS (fun w st => (by first | exact y_ldo st 1 rfl Tryd.isAgg9 rfl rfl | exact y_ld st 0 rfl Tryd.isAgg9 rfl rfl | exact y_ld st 1 rfl Tryd.isAgg9 rfl rfl | exact y_ld st 2 rfl Tryd.isAgg9 rfl rfl)) ?_
                                refine vp_do rfl (e_call [_] rfl rfl Tryd.call8 rfl (sign_any _ _) ?_)
                                rintro _ w ⟨rfl, rfl⟩
                                refine vp_next (by first | exact st | exact st.drop (by repeat (first | exact List.Sublist.slnil | apply List.Sublist.cons_cons | apply List.Sublist.cons))) ?_; intro hS
                                refine vp_take rfl rfl rfl hS (fun w st => y_pickt rfl rfl) ?_
                                refine vp_take rfl rfl rfl hS (fun w st => y_as rfl) ?_
                                refine vp_end ?_
                                refine vq_then ?_
                                refine vc_keep [(6, _)] ⟨rfl, trivial⟩ ?_
                                refine vc_ret ?_
                                refine vq_ret1 st (.inl rfl) Tryd.results3 (.tmp rfl) ?_
                                refine ⟨_, rfl, ?_⟩
                                exact ⟨by first | rfl | (simp; done) | (rw [sgn_sign m hmk.1 hmk.2]), st.chg⟩
                              · intro hg131
                                (exfalso; simp at hg131)
                            · intro hg122
                              (exfalso; simp at hg122)
                          · intro hg115
                            (exfalso; simp at hg115)
                        · intro hg110
                          (exfalso; simp at hg110)
              · intro hg60
                try simp only [decide_eq_true_eq, decide_eq_false_iff_not, Bool.not_eq_true', Bool.not_eq_false', Bool.not_eq_true, Bool.not_eq_false, Int.not_lt, Int.not_le, Nat.not_lt, Nat.not_le, Bool.not_true, Bool.not_false, Bool.true_eq_false, Bool.false_eq_true] at hg60
                obtain rfl : T = [⟨4, [45], 0, j⟩, ⟨3, dec x.natAbs, x.natAbs, j + 1⟩] := by
                  rcases hcase with ⟨_, h, _⟩ | ⟨h, _⟩
                  · exact h
                  · omega
                refine vc_e (e_skip rfl rfl ?_)
                refine vc_e (e_skip rfl rfl ?_)
                refine vc_e (e_skip rfl rfl ?_)
                refine vc_e (e_skip rfl rfl ?_)
                refine vc_e (e_skip rfl rfl ?_)
                refine vc_e (e_skip rfl rfl ?_)
                refine vc_e (e_skip rfl rfl ?_)
                refine vc_e (e_skip rfl rfl ?_)
                refine vc_e (e_skip rfl rfl ?_)
                refine vc_e (e_skip rfl rfl ?_)
                refine vc_e (e_skip rfl rfl ?_)
                refine vc_y rfl rfl (y_pickf rfl rfl) ?_
                refine vc_y rfl rfl (y_mv rfl) ?_
                refine vc_y rfl rfl (y_mv rfl) ?_
                refine vc_y rfl rfl (y_lss rfl rfl) ?_
                refine vc_e (e_mvb rfl rfl rfl ?_ ?_)
                · intro hg76
                  try simp only [decide_eq_true_eq, decide_eq_false_iff_not, Bool.not_eq_true', Bool.not_eq_false', Bool.not_eq_true, Bool.not_eq_false, Int.not_lt, Int.not_le, Nat.not_lt, Nat.not_le, Bool.not_true, Bool.not_false, Bool.true_eq_false, Bool.false_eq_true] at hg76
                  refine vc_y rfl rfl (y_mv rfl) ?_
                  refine vc_y rfl rfl (y_lensl rfl Tryd.underlying24) ?_
                  refine vc_y rfl rfl (y_nei rfl rfl) ?_
                  refine vc_e (e_mvb rfl rfl rfl ?_ ?_)
                  · intro hg80
                    (exfalso; simp at hg80)
                  · intro hg80
                    try simp only [decide_eq_true_eq, decide_eq_false_iff_not, Bool.not_eq_true', Bool.not_eq_false', Bool.not_eq_true, Bool.not_eq_false, Int.not_lt, Int.not_le, Nat.not_lt, Nat.not_le, Bool.not_true, Bool.not_false, Bool.true_eq_false, Bool.false_eq_true] at hg80
                    refine vc_y rfl rfl (y_mv rfl) ?_
                    refine vc_y rfl rfl ((by first | exact y_ia0 (k := 0) rfl rfl Tryd.underlying24 Tryd.sizeOf33 rfl (by omega) | exact y_ia (k := 0) rfl rfl Tryd.underlying24 Tryd.sizeOf33 rfl (by omega))) ?_
                    refine vc_y rfl rfl ((by first | exact y_faz (k := 1) rfl Tryd.underlying33 rfl rfl Tryd.sizeOf9 rfl | exact y_fa (k := 1) rfl Tryd.underlying33 rfl rfl Tryd.sizeOf9 rfl)) ?_
                    refine vc_y rfl rfl ((by first | exact y_ldo st 1 rfl Tryd.isAgg9 rfl rfl | exact y_ld st 0 rfl Tryd.isAgg9 rfl rfl | exact y_ld st 1 rfl Tryd.isAgg9 rfl rfl | exact y_ld st 2 rfl Tryd.isAgg9 rfl rfl)) ?_
                    refine vc_y rfl rfl (y_nes rfl rfl) ?_
                    refine vc_y rfl rfl (y_pickf rfl rfl) ?_
                    refine vc_e (e_mvb rfl rfl rfl ?_ ?_)
                    · intro hg87
                      (exfalso; simp at hg87)
                    · intro hg87
                      try simp only [decide_eq_true_eq, decide_eq_false_iff_not, Bool.not_eq_true', Bool.not_eq_false', Bool.not_eq_true, Bool.not_eq_false, Int.not_lt, Int.not_le, Nat.not_lt, Nat.not_le, Bool.not_true, Bool.not_false, Bool.true_eq_false, Bool.false_eq_true] at hg87
                      refine vc_y rfl rfl (y_mv rfl) ?_
                      refine vc_y rfl rfl ((by first | exact y_ia0 (k := 1) rfl rfl Tryd.underlying24 Tryd.sizeOf33 rfl (by omega) | exact y_ia (k := 1) rfl rfl Tryd.underlying24 Tryd.sizeOf33 rfl (by omega))) ?_
                      refine vc_y rfl rfl ((by first | exact y_faz (k := 2) rfl Tryd.underlying33 rfl rfl Tryd.sizeOf2 rfl | exact y_fa (k := 2) rfl Tryd.underlying33 rfl rfl Tryd.sizeOf2 rfl)) ?_
                      refine vc_y rfl rfl ((by first | exact y_ldo st 1 rfl Tryd.isAgg2 rfl rfl | exact y_ld st 0 rfl Tryd.isAgg2 rfl rfl | exact y_ld st 1 rfl Tryd.isAgg2 rfl rfl | exact y_ld st 2 rfl Tryd.isAgg2 rfl rfl)) ?_
                      refine vc_y rfl rfl (y_mv rfl) ?_
                      refine vc_y rfl rfl (y_sub rfl rfl rfl (by omega) (by omega)) ?_
                      refine vc_y rfl rfl (y_nei rfl rfl) ?_
                      refine vc_y rfl rfl (y_pickf rfl rfl) ?_
                      refine vc_y rfl rfl (y_pickt rfl rfl) ?_
                      refine vc_y rfl rfl (y_pickf rfl rfl) ?_
                      refine vc_end ?_
                      refine vq_then ?_
                      refine vc_keep [(1, _), (97, _)] ⟨rfl, rfl, trivial⟩ ?_
                      refine vc_ifs rfl ?_ ?_
                      · intro hc97
                        (exfalso; simp at hc97; omega)
                      · intro hc97
                        try simp only [decide_eq_true_eq, decide_eq_false_iff_not, Bool.not_eq_true', Bool.not_eq_false', Bool.not_eq_true, Bool.not_eq_false, Int.not_lt, Int.not_le, Nat.not_lt, Nat.not_le, Bool.not_true, Bool.not_false, Bool.true_eq_false, Bool.false_eq_true] at hc97
                        refine vc_code_skip ?_
                        refine vq_then ?_
                        refine vc_keep [(1, _)] ⟨rfl, trivial⟩ ?_
                        refine vc_seq ?_
                        refine vc_seq ?_
                        refine vc_region ?_
                        refine vc_y rfl rfl (y_mv rfl) ?_
                        refine vc_e (e_call [_] rfl rfl Tryd.call7 rfl (show_any op _ (hs.kept st.chg)) ?_)
                        rintro _ w ⟨rfl, rfl⟩
                        refine vc_y rfl rfl (y_eqs rfl rfl) ?_
                        refine vc_end ?_
                        refine vq_then ?_
                        refine vc_keep [(1, _), (100, _)] ⟨rfl, rfl, trivial⟩ ?_
                        refine vc_ifs rfl ?_ ?_
                        · intro hc100
                          try simp only [decide_eq_true_eq, decide_eq_false_iff_not, Bool.not_eq_true', Bool.not_eq_false', Bool.not_eq_true, Bool.not_eq_false, Int.not_lt, Int.not_le, Nat.not_lt, Nat.not_le, Bool.not_true, Bool.not_false, Bool.true_eq_false, Bool.false_eq_true] at hc100
                          refine vc_seq ?_
                          refine vc_region ?_
                          refine vc_y rfl rfl (y_as rfl) ?_
                          refine vc_end ?_
                          refine vq_then ?_
                          refine vc_keep [(6, _)] ⟨rfl, trivial⟩ ?_
                          refine vc_ret ?_
                          refine vq_then_ret ?_
                          refine vq_ret1 st (.inl rfl) Tryd.results3 (.tmp rfl) ?_
                          refine ⟨_, rfl, ?_⟩
                          exact ⟨by first | rfl | (simp; done) | (rw [sgn_sign m hmk.1 hmk.2]), st.chg⟩
                        · intro hc100
                          try simp only [decide_eq_true_eq, decide_eq_false_iff_not, Bool.not_eq_true', Bool.not_eq_false', Bool.not_eq_true, Bool.not_eq_false, Int.not_lt, Int.not_le, Nat.not_lt, Nat.not_le, Bool.not_true, Bool.not_false, Bool.true_eq_false, Bool.false_eq_true] at hc100
                          have hkn : knownOp op = true := by
                            cases h : knownOp op with
                            | true => rfl
                            | false => exfalso; simp [h] at hc100
                          obtain ⟨m, rfl⟩ : ∃ m : Nat, op = m := ⟨op.toNat, by omega⟩
                          have hmk : 1 ≤ m ∧ m < 19 := by simp [knownOp] at hkn; omega
                          refine vc_code_skip ?_
                          refine vq_then ?_
                          refine vc_keep [(1, _)] ⟨rfl, trivial⟩ ?_
                          refine vc_seq ?_
                          refine vc_region ?_
                          refine vc_y rfl rfl (y_mv rfl) ?_
                          refine vc_e (e_call [_] rfl rfl Tryd.call7 rfl (by have h := show_any (m : Int) _ (hs.kept st.chg); rw [if_pos hkn, Int.toNat_natCast] at h; exact h) ?_)
                          rintro _ w ⟨rfl, rfl⟩
                          refine vc_e (e_call [_] rfl rfl Tryd.call5 rfl (scan_eqT (sgn m) _ _ _ _ (sgn_scan m hmk.1 hmk.2) _) ?_)
                          rintro _ w ⟨cw, oa2, cap2, rfl, how2, hb2⟩
                          obtain ⟨by_, rfl⟩ := hb2 (by simp)
                          replace st := st.pushOwn cw how2
                          refine vc_y rfl rfl (y_mv rfl) ?_
                          refine vc_y rfl rfl (y_ext rfl rfl) ?_
                          refine vc_y rfl rfl (y_ext rfl rfl) ?_
                          refine vc_y rfl rfl (y_ext rfl rfl) ?_
                          refine vc_e (e_al (l := [_, _]) st rfl rfl Tryd.zeroValue27 rfl ?_)
                          intro b14 w hb14 st
                          refine vc_y rfl rfl (y_as rfl) ?_
                          refine vc_y rfl rfl (y_as rfl) ?_
                          first
                          | refine vc_e (e_sts (vs := [_, _]) st 0 rfl rfl rfl rfl rfl Tryd.sizeOf27 rfl rfl (by first | (right; assumption) | (left; simp)) ?_)
                          | refine vc_e (e_sts (vs := [_, _]) st 1 rfl rfl rfl rfl rfl Tryd.sizeOf27 rfl rfl (by first | (right; assumption) | (left; simp)) ?_)
                          | refine vc_e (e_sts (vs := [_, _]) st 2 rfl rfl rfl rfl rfl Tryd.sizeOf27 rfl rfl (by first | (right; assumption) | (left; simp)) ?_)
                          intro w st; dsimp only [setNth, wr] at st
                          refine vc_end ?_
                          refine vq_then ?_
                          refine vc_keep [(1, _), (12, _), (13, _)] ⟨rfl, rfl, rfl, trivial⟩ ?_
                          refine vc_seq ?_
                          refine vc_draw Tryd.mixed [(0, true), (1, true), (2, true), (3, true), (4, true), (5, true), (6, true), (7, true), (8, true), (9, true), (10, true), (11, true), (12, true), (13, true), (14, true), (15, true), (16, true), (17, true), (18, true), (19, true), (20, false), (21, true), (22, true), (23, true), (24, true), (25, true), (26, true), (27, true), (28, false), (29, true), (30, true)] (fun w => St _ _ _ w) st (by kernel_rfl) (by repeat (first | exact okQ_body | refine okQ_then ?_ | refine okQ_block ?_)) rfl (by kernel_rfl) ?_
                          intro w cd; replace st := st.call0 cd; clear cd
                          have hS := st
                          refine vp_take rfl rfl rfl hS (fun w st => y_mv rfl) ?_
                          refine vp_take rfl rfl rfl hS (fun w st => y_eqi rfl rfl) ?_
                          refine vp_part rfl rfl rfl hS rfl ?_ ?_
                          · intro hg110
                            try simp only [decide_eq_true_eq, decide_eq_false_iff_not, Bool.not_eq_true', Bool.not_eq_false', Bool.not_eq_true, Bool.not_eq_false, Int.not_lt, Int.not_le, Nat.not_lt, Nat.not_le, Bool.not_true, Bool.not_false, Bool.true_eq_false, Bool.false_eq_true] at hg110
                            refine vp_take rfl rfl rfl hS (fun w st => y_mv rfl) ?_
                            refine vp_take rfl rfl rfl hS (fun w st => y_lensl rfl Tryd.underlying24) ?_
                            refine vp_take rfl rfl rfl hS (fun w st => y_eqi rfl rfl) ?_
                            refine vp_take rfl rfl rfl hS (fun w st => y_pickt rfl rfl) ?_
                            refine vp_part rfl rfl rfl hS rfl ?_ ?_
                            · intro hg115
                              try simp only [decide_eq_true_eq, decide_eq_false_iff_not, Bool.not_eq_true', Bool.not_eq_false', Bool.not_eq_true, Bool.not_eq_false, Int.not_lt, Int.not_le, Nat.not_lt, Nat.not_le, Bool.not_true, Bool.not_false, Bool.true_eq_false, Bool.false_eq_true] at hg115
                              refine vp_take rfl rfl rfl hS (fun w st => y_mv rfl) ?_
                              refine vp_take rfl rfl rfl hS (fun w st => (by first | exact y_ia0 (k := 0) rfl rfl Tryd.underlying24 Tryd.sizeOf33 rfl (by omega) | exact y_ia (k := 0) rfl rfl Tryd.underlying24 Tryd.sizeOf33 rfl (by omega))) ?_
                              refine vp_take rfl rfl rfl hS (fun w st => y_fa0 rfl Tryd.underlying33 rfl rfl Tryd.sizeOf31 rfl) ?_
                              refine vp_take rfl rfl rfl hS (fun w st => (by first | exact y_ldo st 1 rfl Tryd.isAgg31 rfl rfl | exact y_ld st 0 rfl Tryd.isAgg31 rfl rfl | exact y_ld st 1 rfl Tryd.isAgg31 rfl rfl | exact y_ld st 2 rfl Tryd.isAgg31 rfl rfl)) ?_
                              refine vp_take rfl rfl rfl hS (fun w st => y_eqi rfl rfl) ?_
                              refine vp_take rfl rfl rfl hS (fun w st => y_pickt rfl rfl) ?_
                              refine vp_part rfl rfl rfl hS rfl ?_ ?_
                              · intro hg122
                                try simp only [decide_eq_true_eq, decide_eq_false_iff_not, Bool.not_eq_true', Bool.not_eq_false', Bool.not_eq_true, Bool.not_eq_false, Int.not_lt, Int.not_le, Nat.not_lt, Nat.not_le, Bool.not_true, Bool.not_false, Bool.true_eq_false, Bool.false_eq_true] at hg122
                                refine vp_take rfl rfl rfl hS (fun w st => y_mv rfl) ?_
                                refine vp_take rfl rfl rfl hS (fun w st => (by first | exact y_ia0 (k := 0) rfl rfl Tryd.underlying24 Tryd.sizeOf33 rfl (by omega) | exact y_ia (k := 0) rfl rfl Tryd.underlying24 Tryd.sizeOf33 rfl (by omega))) ?_
                                refine vp_take rfl rfl rfl hS (fun w st => (by first | exact y_faz (k := 1) rfl Tryd.underlying33 rfl rfl Tryd.sizeOf9 rfl | exact y_fa (k := 1) rfl Tryd.underlying33 rfl rfl Tryd.sizeOf9 rfl)) ?_
                                refine vp_take rfl rfl rfl hS (fun w st => (by first | exact y_ldo st 1 rfl Tryd.isAgg9 rfl rfl | exact y_ld st 0 rfl Tryd.isAgg9 rfl rfl | exact y_ld st 1 rfl Tryd.isAgg9 rfl rfl | exact y_ld st 2 rfl Tryd.isAgg9 rfl rfl)) ?_
                                refine vp_take rfl rfl rfl hS (fun w st => y_mv rfl) ?_
                                refine vp_do rfl (e_call [_] rfl rfl Tryd.call7 rfl (by have h := show_any (m : Int) _ (hs.kept st.chg); rw [if_pos hkn, Int.toNat_natCast] at h; exact h) ?_)
                                rintro _ w ⟨rfl, rfl⟩
                                refine vp_next (by first | exact st | exact st.drop (by repeat (first | exact List.Sublist.slnil | apply List.Sublist.cons_cons | apply List.Sublist.cons))) ?_; intro hS
                                refine vp_take rfl rfl rfl hS (fun w st => y_eqs rfl rfl) ?_
                                refine vp_take rfl rfl rfl hS (fun w st => y_pickt rfl rfl) ?_
                                refine vp_part rfl rfl rfl hS rfl ?_ ?_
                                · intro hg131
                                  try simp only [decide_eq_true_eq, decide_eq_false_iff_not, Bool.not_eq_true', Bool.not_eq_false', Bool.not_eq_true, Bool.not_eq_false, Int.not_lt, Int.not_le, Nat.not_lt, Nat.not_le, Bool.not_true, Bool.not_false, Bool.true_eq_false, Bool.false_eq_true] at hg131
                                  refine vp_take rfl rfl rfl hS (fun w st => y_mv rfl) ?_
                                  refine vp_take rfl rfl rfl hS (fun w st => (by first | exact y_ia0 (k := 0) rfl rfl Tryd.underlying24 Tryd.sizeOf33 rfl (by omega) | exact y_ia (k := 0) rfl rfl Tryd.underlying24 Tryd.sizeOf33 rfl (by omega))) ?_
                                  refine vp_take rfl rfl rfl hS (fun w st => (by first | exact y_faz (k := 1) rfl Tryd.underlying33 rfl rfl Tryd.sizeOf9 rfl | exact y_fa (k := 1) rfl Tryd.underlying33 rfl rfl Tryd.sizeOf9 rfl)) ?_
                                  refine vp_take rfl rfl rfl hS (fun w st => (by first | exact y_ldo st 1 rfl Tryd.isAgg9 rfl rfl | exact y_ld st 0 rfl Tryd.isAgg9 rfl rfl | exact y_ld st 1 rfl Tryd.isAgg9 rfl rfl | exact y_ld st 2 rfl Tryd.isAgg9 rfl rfl)) ?_
                                  refine vp_do rfl (e_call [_] rfl rfl Tryd.call8 rfl (sign_any _ _) ?_)
                                  rintro _ w ⟨rfl, rfl⟩
                                  refine vp_next (by first | exact st | exact st.drop (by repeat (first | exact List.Sublist.slnil | apply List.Sublist.cons_cons | apply List.Sublist.cons))) ?_; intro hS
                                  refine vp_take rfl rfl rfl hS (fun w st => y_pickt rfl rfl) ?_
                                  refine vp_take rfl rfl rfl hS (fun w st => y_as rfl) ?_
                                  refine vp_end ?_
                                  refine vq_then ?_
                                  refine vc_keep [(6, _)] ⟨rfl, trivial⟩ ?_
                                  refine vc_ret ?_
                                  refine vq_ret1 st (.inl rfl) Tryd.results3 (.tmp rfl) ?_
                                  refine ⟨_, rfl, ?_⟩
                                  exact ⟨by first | rfl | (simp; done) | (rw [sgn_sign m hmk.1 hmk.2]), st.chg⟩
                                · intro hg131
                                  (exfalso; simp at hg131)
                              · intro hg122
                                (exfalso; simp at hg122)
                            · intro hg115
                              (exfalso; simp at hg115)
                          · intro hg110
                            (exfalso; simp at hg110)
                · intro hg76
                  (exfalso; simp only [decide_eq_true_eq, decide_eq_false_iff_not] at hg76; omega)

end Go.Proofs.YtakepmhgmgpkkaaDoor
