/- A part of the proof: contracts of functions and plain laws; each theorem says its own conditions. -/
import Derived.Test.YtggnfanphcaamaaDoorK15
namespace Go.Proofs.YtggnfanphcaamaaDoor
open Go.RowKit Sx LexS ParS
set_option linter.unusedVariables false
set_option linter.unusedSimpArgs false
theorem fieldsF : (Tryd.prog.fieldsOf 29).toList.map (fun f => (f.name, f.type, f.offset)) = [("At", 3, 0), ("Rule", 3, 1)] := by kernel_rfl
theorem eqFieldsF (p q r s : Int) (w : World) : (Op.eqFields 9999 [.int .i64 p, .int .i64 q].toArray [.int .i64 r, .int .i64 s].toArray (Tryd.prog.fieldsOf 29).toList).run Tryd.prog w = .ok (decide (p = r) && decide (q = s)) w := by
  have h := fieldsF
  match hf : (Tryd.prog.fieldsOf 29).toList with
  | [a, b] =>
    rw [hf] at h
    simp only [List.map_cons, List.map_nil, List.cons.injEq, Prod.mk.injEq, and_true] at h
    obtain ⟨⟨a1, a2, a3⟩, b1, b2, b3⟩ := h
    have e1 : ∀ (x y : Int) w, (part 3 [.int .i64 x, .int .i64 y].toArray 0).run Tryd.prog w = .ok (.int .i64 x) w := fun x y w => run_part1 Tryd.isAgg3 rfl
    have e2 : ∀ (x y : Int) w, (part 3 [.int .i64 x, .int .i64 y].toArray 1).run Tryd.prog w = .ok (.int .i64 y) w := fun x y w => run_part1 Tryd.isAgg3 rfl
    have r1 := run_equalIn_int (P := Tryd.prog) w 9998 3 .i64 .i64 p r Tryd.underlying3
    have r2 := run_equalIn_int (P := Tryd.prog) w 9998 3 .i64 .i64 q s Tryd.underlying3
    simp only [Op.eqFields, a1, a2, a3, b1, b2, b3, Sem.run_bind, Sem.run_ite, e1, e2, Result.andThen_ok]
    simp only [ne_eq, String.reduceEq, not_false_eq_true, if_true, Sem.run_bind, Sem.run_ite, e1, e2, r1, r2, Result.andThen_ok, Sem.run_pure]
    by_cases h1 : p = r
    · by_cases h2 : q = s <;> simp [h1, h2]
    · simp [h1]
  | [] => rw [hf] at h; simp at h
  | [_] => rw [hf] at h; simp at h
  | _ :: _ :: _ :: _ => rw [hf] at h; simp at h
section
variable {n : Fr} {kn : Kn} {w : World} {d ty : Nat} {pos : String} {aft : Array Edge} {g : Option (Nat × Bool)}
theorem y_neF {U : Nat} {x y : Operand} {p q r s : Int} (hx : evO kn x = some (.agg [.int .i64 p, .int .i64 q].toArray)) (hy : evO kn y = some (.agg [.int .i64 r, .int .i64 s].toArray)) : Y Tryd.prog n kn w ⟨some d, .binOp .neq 29 x y U, ty, pos, aft, g⟩ (.bool (!(decide (p = r) && decide (q = s)))) :=
  y_bo hx hy (by
    have h1 := run_eqGuard_agg (P := Tryd.prog) w .neq 29 x y [.int .i64 p, .int .i64 q].toArray [.int .i64 r, .int .i64 s].toArray (by kernel_rfl)
    have h2 := run_neq_struct (P := Tryd.prog) w 29 [.int .i64 p, .int .i64 q].toArray [.int .i64 r, .int .i64 s].toArray
    rw [run_equalIn_agg w 9999 29 _ _ (by kernel_rfl) (by kernel_rfl), eqFieldsF] at h2
    simp only [Sem.run_bind, h1, Result.andThen_ok]
    have h3 : (binOp .neq 29 (.agg [.int .i64 p, .int .i64 q].toArray) (.agg [.int .i64 r, .int .i64 s].toArray)).run Tryd.prog w = .ok (.bool (!(decide (p = r) && decide (q = s)))) w := by rw [h2]; rfl
    exact h3)
end

theorem show_any (m : Nat) (hm : 0 < m ∧ m < 19) (w : World) (hs : SigAt 0 w) : Ret Tryd.prog 14 [.int .u8 (m : Int)] w fun v w' => v = str (sgn m) ∧ w' = w := by
  refine ret_of [_] Tryd.func14 rfl Tryd.ntmps14 rfl ?_
  have st := St.init w []
  refine vc_seq ?_
  refine vc_region ?_
  refine vc_y rfl rfl (y_as rfl) ?_
  refine vc_end ?_
  refine vq_then ?_
  refine vc_keep [(0, _)] ⟨rfl, trivial⟩ ?_
  refine vc_seq ?_
  refine vc_seq ?_
  refine vc_region ?_
  refine vc_y rfl rfl (y_mv rfl) ?_
  refine vc_e (e_call [_] rfl rfl Tryd.call36 rfl (known_any _ _) ?_)
  rintro _ _ ⟨rfl, rfl⟩
  refine vc_y rfl rfl (y_not rfl) ?_
  refine vc_end ?_
  refine vq_then ?_
  refine vc_keep [(0, _), (5, _)] ⟨rfl, rfl, trivial⟩ ?_
  refine vc_ifs rfl ?_ ?_
  · intro hc5
    exfalso; simp [knownOp] at hc5; omega
  · intro hc5
    try simp only [decide_eq_true_eq, decide_eq_false_iff_not, Bool.not_eq_true', Bool.not_eq_false', Bool.not_eq_true, Bool.not_eq_false, Int.not_lt, Int.not_le, Nat.not_lt, Nat.not_le, Bool.not_true, Bool.not_false, Bool.true_eq_false, Bool.false_eq_true] at hc5
    clear hc5
    refine vc_code_skip ?_
    refine vq_then ?_
    refine vc_keep [(0, _)] ⟨rfl, trivial⟩ ?_
    refine vc_seq ?_
    refine vc_region ?_
    refine vc_y rfl rfl (y_mv rfl) ?_
    refine vc_y rfl rfl (y_iaa (k := m) rfl rfl Tryd.underlying85 Tryd.sizeOf84 rfl (by omega)) ?_
    refine vc_y rfl rfl (y_fa0 rfl Tryd.underlying84 rfl rfl Tryd.sizeOf9 rfl) ?_
    refine vc_y rfl rfl ((by first | exact y_ldc rfl Tryd.isAgg9 (by have h := (hs m (by omega)).1; rw [Nat.zero_add]; exact h) | exact y_ld st 0 rfl Tryd.isAgg9 rfl rfl)) ?_
    refine vc_y rfl rfl (y_as rfl) ?_
    refine vc_end ?_
    refine vq_then ?_
    refine vc_keep [(2, _)] ⟨rfl, trivial⟩ ?_
    refine vc_ret ?_
    refine vq_ret1 st (.inl rfl) Tryd.results14 (.tmp rfl) ?_
    refine ⟨_, rfl, ?_⟩
    exact ⟨rfl, rfl⟩

set_option maxHeartbeats 2000000 in
theorem lives_any (w : World) (hsg : SigAt 0 w) : Ret Tryd.prog 10 [] w fun v w' => v = .bool true ∧ Chg [] w w' := by
  refine ret_of [] Tryd.func10 rfl Tryd.ntmps10 rfl ?_
  have st := St.init w []
  obtain ⟨w0, rfl⟩ : ∃ w0, w0 = w := ⟨_, rfl⟩
  refine vc_seq ?_
  refine vc_region ?_
  refine vc_y rfl rfl (y_as rfl) ?_
  refine vc_end ?_
  refine vq_then ?_
  refine vc_keep [] trivial ?_
  refine vc_seq ?_
  refine vc_region ?_
  refine vc_e (e_call [_] rfl rfl Tryd.call16 rfl (parse_any liveS _ (hsg.kept st.chg (by simp))) ?_)
  rintro _ w h
  rw [ParsePost, live_res] at h
  obtain ⟨cw, _, ⟨os, ol, ot, cs, cl, ct, Sq, rfl, hT, hN⟩, rfl⟩ := h
  replace st := st.pushR cw (holds_pg hT) hN.2
  refine vc_y rfl rfl (y_mv rfl) ?_
  refine vc_y rfl rfl (y_ext rfl rfl) ?_
  refine vc_y rfl rfl (y_ext rfl rfl) ?_
  refine vc_y rfl rfl (y_ext rfl rfl) ?_
  refine vc_e (e_al (l := [_, _, _]) st rfl rfl Tryd.zeroValue44 rfl ?_)
  intro b1 w hb1 st
  refine vc_e (e_al (l := [_, _]) st rfl rfl Tryd.zeroValue29 rfl ?_)
  intro b3 w hb3 st
  first
  | refine vc_e (e_sts (vs := [_, _, _]) st 0 rfl rfl rfl rfl rfl Tryd.sizeOf44 rfl rfl (by first | (right; assumption) | (left; simp)) ?_)
  | refine vc_e (e_sts (vs := [_, _, _]) st 1 rfl rfl rfl rfl rfl Tryd.sizeOf44 rfl rfl (by first | (right; assumption) | (left; simp)) ?_)
  | refine vc_e (e_sts (vs := [_, _, _]) st 2 rfl rfl rfl rfl rfl Tryd.sizeOf44 rfl rfl (by first | (right; assumption) | (left; simp)) ?_)
  | refine vc_e (e_sts (vs := [_, _, _]) st 3 rfl rfl rfl rfl rfl Tryd.sizeOf44 rfl rfl (by first | (right; assumption) | (left; simp)) ?_)
  | refine vc_e (e_sts (vs := [_, _, _]) st 4 rfl rfl rfl rfl rfl Tryd.sizeOf44 rfl rfl (by first | (right; assumption) | (left; simp)) ?_)
  | refine vc_e (e_sts (vs := [_, _, _]) st 5 rfl rfl rfl rfl rfl Tryd.sizeOf44 rfl rfl (by first | (right; assumption) | (left; simp)) ?_)
  | refine vc_e (e_sts (vs := [_, _, _]) st 6 rfl rfl rfl rfl rfl Tryd.sizeOf44 rfl rfl (by first | (right; assumption) | (left; simp)) ?_)
  | refine vc_e (e_sts (vs := [_, _, _]) st 7 rfl rfl rfl rfl rfl Tryd.sizeOf44 rfl rfl (by first | (right; assumption) | (left; simp)) ?_)
  | refine vc_e (e_sts (vs := [_, _, _]) st 8 rfl rfl rfl rfl rfl Tryd.sizeOf44 rfl rfl (by first | (right; assumption) | (left; simp)) ?_)
  intro w st; dsimp only [setNth, wr] at st
  refine vc_y rfl rfl (y_as rfl) ?_
  first
  | refine vc_e (e_sts (vs := [_, _]) st 0 rfl rfl rfl rfl rfl Tryd.sizeOf29 rfl rfl (by first | (right; assumption) | (left; simp)) ?_)
  | refine vc_e (e_sts (vs := [_, _]) st 1 rfl rfl rfl rfl rfl Tryd.sizeOf29 rfl rfl (by first | (right; assumption) | (left; simp)) ?_)
  | refine vc_e (e_sts (vs := [_, _]) st 2 rfl rfl rfl rfl rfl Tryd.sizeOf29 rfl rfl (by first | (right; assumption) | (left; simp)) ?_)
  | refine vc_e (e_sts (vs := [_, _]) st 3 rfl rfl rfl rfl rfl Tryd.sizeOf29 rfl rfl (by first | (right; assumption) | (left; simp)) ?_)
  | refine vc_e (e_sts (vs := [_, _]) st 4 rfl rfl rfl rfl rfl Tryd.sizeOf29 rfl rfl (by first | (right; assumption) | (left; simp)) ?_)
  | refine vc_e (e_sts (vs := [_, _]) st 5 rfl rfl rfl rfl rfl Tryd.sizeOf29 rfl rfl (by first | (right; assumption) | (left; simp)) ?_)
  | refine vc_e (e_sts (vs := [_, _]) st 6 rfl rfl rfl rfl rfl Tryd.sizeOf29 rfl rfl (by first | (right; assumption) | (left; simp)) ?_)
  | refine vc_e (e_sts (vs := [_, _]) st 7 rfl rfl rfl rfl rfl Tryd.sizeOf29 rfl rfl (by first | (right; assumption) | (left; simp)) ?_)
  | refine vc_e (e_sts (vs := [_, _]) st 8 rfl rfl rfl rfl rfl Tryd.sizeOf29 rfl rfl (by first | (right; assumption) | (left; simp)) ?_)
  intro w st; dsimp only [setNth, wr] at st
  refine vc_end ?_
  refine vq_then ?_
  refine vc_keep [(1, _), (2, _)] ⟨rfl, rfl, trivial⟩ ?_
  refine vc_seq ?_
  refine vc_region ?_
  refine vc_e (e_call [_] rfl rfl Tryd.call16 rfl (parse_any deadS _ (hsg.kept st.chg (by simp))) ?_)
  rintro _ w h
  rw [ParsePost, dead_res] at h
  obtain ⟨cw, _, ⟨os2, ol2, ot2, cs2, cl2, ct2, Sq2, rfl, -, -⟩, rfl⟩ := h
  replace st := st.call0 cw
  refine vc_y rfl rfl (y_mv rfl) ?_
  refine vc_y rfl rfl (y_ext rfl rfl) ?_
  refine vc_y rfl rfl (y_ext rfl rfl) ?_
  refine vc_y rfl rfl (y_ext rfl rfl) ?_
  refine vc_e (e_al (l := [_, _, _]) st rfl rfl Tryd.zeroValue44 rfl ?_)
  intro b4 w hb4 st
  refine vc_e (e_al (l := [_, _]) st rfl rfl Tryd.zeroValue29 rfl ?_)
  intro b6 w hb6 st
  first
  | refine vc_e (e_sts (vs := [_, _, _]) st 0 rfl rfl rfl rfl rfl Tryd.sizeOf44 rfl rfl (by first | (right; assumption) | (left; simp)) ?_)
  | refine vc_e (e_sts (vs := [_, _, _]) st 1 rfl rfl rfl rfl rfl Tryd.sizeOf44 rfl rfl (by first | (right; assumption) | (left; simp)) ?_)
  | refine vc_e (e_sts (vs := [_, _, _]) st 2 rfl rfl rfl rfl rfl Tryd.sizeOf44 rfl rfl (by first | (right; assumption) | (left; simp)) ?_)
  | refine vc_e (e_sts (vs := [_, _, _]) st 3 rfl rfl rfl rfl rfl Tryd.sizeOf44 rfl rfl (by first | (right; assumption) | (left; simp)) ?_)
  | refine vc_e (e_sts (vs := [_, _, _]) st 4 rfl rfl rfl rfl rfl Tryd.sizeOf44 rfl rfl (by first | (right; assumption) | (left; simp)) ?_)
  | refine vc_e (e_sts (vs := [_, _, _]) st 5 rfl rfl rfl rfl rfl Tryd.sizeOf44 rfl rfl (by first | (right; assumption) | (left; simp)) ?_)
  | refine vc_e (e_sts (vs := [_, _, _]) st 6 rfl rfl rfl rfl rfl Tryd.sizeOf44 rfl rfl (by first | (right; assumption) | (left; simp)) ?_)
  | refine vc_e (e_sts (vs := [_, _, _]) st 7 rfl rfl rfl rfl rfl Tryd.sizeOf44 rfl rfl (by first | (right; assumption) | (left; simp)) ?_)
  | refine vc_e (e_sts (vs := [_, _, _]) st 8 rfl rfl rfl rfl rfl Tryd.sizeOf44 rfl rfl (by first | (right; assumption) | (left; simp)) ?_)
  intro w st; dsimp only [setNth, wr] at st
  refine vc_y rfl rfl (y_as rfl) ?_
  first
  | refine vc_e (e_sts (vs := [_, _]) st 0 rfl rfl rfl rfl rfl Tryd.sizeOf29 rfl rfl (by first | (right; assumption) | (left; simp)) ?_)
  | refine vc_e (e_sts (vs := [_, _]) st 1 rfl rfl rfl rfl rfl Tryd.sizeOf29 rfl rfl (by first | (right; assumption) | (left; simp)) ?_)
  | refine vc_e (e_sts (vs := [_, _]) st 2 rfl rfl rfl rfl rfl Tryd.sizeOf29 rfl rfl (by first | (right; assumption) | (left; simp)) ?_)
  | refine vc_e (e_sts (vs := [_, _]) st 3 rfl rfl rfl rfl rfl Tryd.sizeOf29 rfl rfl (by first | (right; assumption) | (left; simp)) ?_)
  | refine vc_e (e_sts (vs := [_, _]) st 4 rfl rfl rfl rfl rfl Tryd.sizeOf29 rfl rfl (by first | (right; assumption) | (left; simp)) ?_)
  | refine vc_e (e_sts (vs := [_, _]) st 5 rfl rfl rfl rfl rfl Tryd.sizeOf29 rfl rfl (by first | (right; assumption) | (left; simp)) ?_)
  | refine vc_e (e_sts (vs := [_, _]) st 6 rfl rfl rfl rfl rfl Tryd.sizeOf29 rfl rfl (by first | (right; assumption) | (left; simp)) ?_)
  | refine vc_e (e_sts (vs := [_, _]) st 7 rfl rfl rfl rfl rfl Tryd.sizeOf29 rfl rfl (by first | (right; assumption) | (left; simp)) ?_)
  | refine vc_e (e_sts (vs := [_, _]) st 8 rfl rfl rfl rfl rfl Tryd.sizeOf29 rfl rfl (by first | (right; assumption) | (left; simp)) ?_)
  intro w st; dsimp only [setNth, wr] at st
  refine vc_end ?_
  refine vq_then ?_
  refine vc_keep [(1, _), (2, _), (5, _), (6, _)] ⟨rfl, rfl, rfl, rfl, trivial⟩ ?_
  refine vc_seq ?_
  refine vc_seq ?_
  refine vc_region ?_
  obtain ⟨hsh, -, hth⟩ := pgS_rows (st.res (i := 4) rfl).1
  obtain ⟨bs, fs, rfl, hds⟩ := DcRow.gets hsh (by decide)
  obtain ⟨bt, ft, rfl, hts⟩ := hth.gets (by decide)
  obtain ⟨_, ob, _, cb, hthc, -, hsm⟩ := hts 0 _ rfl
  obtain ⟨bb, fb, rfl, hss⟩ := hsm.gets (by decide)
  obtain ⟨oe, _, _, ce, _, _, hsc, hex, -⟩ := hss 0 _ rfl
  obtain ⟨be, fe, rfl, hes⟩ := hex.gets (by decide)
  obtain ⟨ok, ck, hec, hkd⟩ := hes 0 _ rfl
  obtain ⟨bk, fk, rfl, hks⟩ := hkd.gets (by decide)
  obtain ⟨_, _, hkc, -⟩ := hks 1 _ rfl
  refine vc_y rfl rfl (y_mv rfl) ?_
  refine vc_y rfl rfl (y_nei rfl rfl) ?_
  refine vc_e (e_mvb rfl rfl rfl ?_ ?_)
  · intro hg20
    exact absurd hg20 (by decide)
  · intro hg20
    try simp only [decide_eq_true_eq, decide_eq_false_iff_not, Bool.not_eq_true', Bool.not_eq_false', Bool.not_eq_true, Bool.not_eq_false, Int.not_lt, Int.not_le, Nat.not_lt, Nat.not_le, Bool.not_true, Bool.not_false, Bool.true_eq_false, Bool.false_eq_true] at hg20
    refine vc_y rfl rfl (y_mv rfl) ?_
    refine vc_y rfl rfl (y_nei rfl rfl) ?_
    refine vc_y rfl rfl (y_pickf rfl rfl) ?_
    refine vc_e (e_mvb rfl rfl rfl ?_ ?_)
    · intro hg24
      exact absurd hg24 (by decide)
    · intro hg24
      try simp only [decide_eq_true_eq, decide_eq_false_iff_not, Bool.not_eq_true', Bool.not_eq_false', Bool.not_eq_true, Bool.not_eq_false, Int.not_lt, Int.not_le, Nat.not_lt, Nat.not_le, Bool.not_true, Bool.not_false, Bool.true_eq_false, Bool.false_eq_true] at hg24
      refine vc_y rfl rfl ((by first | exact y_lda (vs := [_, _]) st 0 rfl Tryd.isAgg29 Tryd.sizeOf29 rfl rfl | exact y_lda (vs := [_, _]) st 1 rfl Tryd.isAgg29 Tryd.sizeOf29 rfl rfl | exact y_lda (vs := [_, _]) st 2 rfl Tryd.isAgg29 Tryd.sizeOf29 rfl rfl | exact y_lda (vs := [_, _]) st 3 rfl Tryd.isAgg29 Tryd.sizeOf29 rfl rfl | exact y_lda (vs := [_, _]) st 4 rfl Tryd.isAgg29 Tryd.sizeOf29 rfl rfl | exact y_lda (vs := [_, _]) st 5 rfl Tryd.isAgg29 Tryd.sizeOf29 rfl rfl | exact y_lda (vs := [_, _]) st 6 rfl Tryd.isAgg29 Tryd.sizeOf29 rfl rfl | exact y_lda (vs := [_, _]) st 7 rfl Tryd.isAgg29 Tryd.sizeOf29 rfl rfl | exact y_lda (vs := [_, _]) st 8 rfl Tryd.isAgg29 Tryd.sizeOf29 rfl rfl)) ?_
      refine vc_y rfl rfl (y_bld (.agg #[_, _]) [(0, _), (1, _)] rfl (fun w => by simp [Instr.build, go_sem] <;> repeat' constructor)) ?_
      refine vc_y rfl rfl (y_neF rfl rfl) ?_
      refine vc_y rfl rfl (y_pickf rfl rfl) ?_
      refine vc_e (e_mvb rfl rfl rfl ?_ ?_)
      · intro hg29
        exact absurd hg29 (by decide)
      · intro hg29
        try simp only [decide_eq_true_eq, decide_eq_false_iff_not, Bool.not_eq_true', Bool.not_eq_false', Bool.not_eq_true, Bool.not_eq_false, Int.not_lt, Int.not_le, Nat.not_lt, Nat.not_le, Bool.not_true, Bool.not_false, Bool.true_eq_false, Bool.false_eq_true] at hg29
        refine vc_y rfl rfl ((by first | exact y_faz (k := 2) rfl Tryd.underlying44 rfl rfl Tryd.sizeOf42 rfl | exact y_fa (k := 2) rfl Tryd.underlying44 rfl rfl Tryd.sizeOf42 rfl)) ?_
        refine vc_y rfl rfl ((by first | exact y_ld st 0 rfl Tryd.isAgg42 rfl rfl | exact y_ld st 1 rfl Tryd.isAgg42 rfl rfl | exact y_ld st 2 rfl Tryd.isAgg42 rfl rfl | exact y_ld st 3 rfl Tryd.isAgg42 rfl rfl | exact y_ld st 4 rfl Tryd.isAgg42 rfl rfl | exact y_ld st 5 rfl Tryd.isAgg42 rfl rfl | exact y_ld st 6 rfl Tryd.isAgg42 rfl rfl | exact y_ld st 7 rfl Tryd.isAgg42 rfl rfl | exact y_ld st 8 rfl Tryd.isAgg42 rfl rfl)) ?_
        refine vc_y rfl rfl (y_lensl rfl Tryd.underlying42) ?_
        refine vc_y rfl rfl (y_nei rfl rfl) ?_
        refine vc_y rfl rfl (y_pickf rfl rfl) ?_
        refine vc_e (e_mvb rfl rfl rfl ?_ ?_)
        · intro hg35
          exact absurd hg35 (by decide)
        · intro hg35
          try simp only [decide_eq_true_eq, decide_eq_false_iff_not, Bool.not_eq_true', Bool.not_eq_false', Bool.not_eq_true, Bool.not_eq_false, Int.not_lt, Int.not_le, Nat.not_lt, Nat.not_le, Bool.not_true, Bool.not_false, Bool.true_eq_false, Bool.false_eq_true] at hg35
          refine vc_y rfl rfl ((by first | exact y_faz (k := 2) rfl Tryd.underlying44 rfl rfl Tryd.sizeOf42 rfl | exact y_fa (k := 2) rfl Tryd.underlying44 rfl rfl Tryd.sizeOf42 rfl)) ?_
          refine vc_y rfl rfl ((by first | exact y_ld st 0 rfl Tryd.isAgg42 rfl rfl | exact y_ld st 1 rfl Tryd.isAgg42 rfl rfl | exact y_ld st 2 rfl Tryd.isAgg42 rfl rfl | exact y_ld st 3 rfl Tryd.isAgg42 rfl rfl | exact y_ld st 4 rfl Tryd.isAgg42 rfl rfl | exact y_ld st 5 rfl Tryd.isAgg42 rfl rfl | exact y_ld st 6 rfl Tryd.isAgg42 rfl rfl | exact y_ld st 7 rfl Tryd.isAgg42 rfl rfl | exact y_ld st 8 rfl Tryd.isAgg42 rfl rfl)) ?_
          refine vc_y rfl rfl ((by first | exact y_ia0 (k := 0) rfl rfl Tryd.underlying42 Tryd.sizeOf78 rfl (by decide) | exact y_ia (k := 0) rfl rfl Tryd.underlying42 Tryd.sizeOf78 rfl (by decide))) ?_
          refine vc_y rfl rfl ((by first | exact y_faz (k := 2) rfl Tryd.underlying78 rfl rfl Tryd.sizeOf76 rfl | exact y_fa (k := 2) rfl Tryd.underlying78 rfl rfl Tryd.sizeOf76 rfl)) ?_
          refine vc_y rfl rfl ((by first | exact y_ldc rfl Tryd.isAgg76 (hthc 2 _ rfl) | exact y_ld st 0 rfl Tryd.isAgg76 rfl rfl | exact y_ld st 1 rfl Tryd.isAgg76 rfl rfl | exact y_ld st 2 rfl Tryd.isAgg76 rfl rfl | exact y_ld st 3 rfl Tryd.isAgg76 rfl rfl | exact y_ld st 4 rfl Tryd.isAgg76 rfl rfl | exact y_ld st 5 rfl Tryd.isAgg76 rfl rfl | exact y_ld st 6 rfl Tryd.isAgg76 rfl rfl | exact y_ld st 7 rfl Tryd.isAgg76 rfl rfl | exact y_ld st 8 rfl Tryd.isAgg76 rfl rfl)) ?_
          refine vc_y rfl rfl (y_lensl rfl Tryd.underlying76) ?_
          refine vc_y rfl rfl (y_nei rfl rfl) ?_
          refine vc_y rfl rfl (y_pickf rfl rfl) ?_
          refine vc_e (e_mvb rfl rfl rfl ?_ ?_)
          · intro hg44
            exact absurd hg44 (by decide)
          · intro hg44
            try simp only [decide_eq_true_eq, decide_eq_false_iff_not, Bool.not_eq_true', Bool.not_eq_false', Bool.not_eq_true, Bool.not_eq_false, Int.not_lt, Int.not_le, Nat.not_lt, Nat.not_le, Bool.not_true, Bool.not_false, Bool.true_eq_false, Bool.false_eq_true] at hg44
            refine vc_y rfl rfl (y_fa0 rfl Tryd.underlying44 rfl rfl Tryd.sizeOf41 rfl) ?_
            refine vc_y rfl rfl ((by first | exact y_ld st 0 rfl Tryd.isAgg41 rfl rfl | exact y_ld st 1 rfl Tryd.isAgg41 rfl rfl | exact y_ld st 2 rfl Tryd.isAgg41 rfl rfl | exact y_ld st 3 rfl Tryd.isAgg41 rfl rfl | exact y_ld st 4 rfl Tryd.isAgg41 rfl rfl | exact y_ld st 5 rfl Tryd.isAgg41 rfl rfl | exact y_ld st 6 rfl Tryd.isAgg41 rfl rfl | exact y_ld st 7 rfl Tryd.isAgg41 rfl rfl | exact y_ld st 8 rfl Tryd.isAgg41 rfl rfl)) ?_
            refine vc_y rfl rfl (y_lensl rfl Tryd.underlying41) ?_
            refine vc_y rfl rfl (y_nei rfl rfl) ?_
            refine vc_y rfl rfl (y_pickf rfl rfl) ?_
            refine vc_e (e_mvb rfl rfl rfl ?_ ?_)
            · intro hg50
              exact absurd hg50 (by decide)
            · intro hg50
              try simp only [decide_eq_true_eq, decide_eq_false_iff_not, Bool.not_eq_true', Bool.not_eq_false', Bool.not_eq_true, Bool.not_eq_false, Int.not_lt, Int.not_le, Nat.not_lt, Nat.not_le, Bool.not_true, Bool.not_false, Bool.true_eq_false, Bool.false_eq_true] at hg50
              refine vc_y rfl rfl (y_fa0 rfl Tryd.underlying44 rfl rfl Tryd.sizeOf41 rfl) ?_
              refine vc_y rfl rfl ((by first | exact y_ld st 0 rfl Tryd.isAgg41 rfl rfl | exact y_ld st 1 rfl Tryd.isAgg41 rfl rfl | exact y_ld st 2 rfl Tryd.isAgg41 rfl rfl | exact y_ld st 3 rfl Tryd.isAgg41 rfl rfl | exact y_ld st 4 rfl Tryd.isAgg41 rfl rfl | exact y_ld st 5 rfl Tryd.isAgg41 rfl rfl | exact y_ld st 6 rfl Tryd.isAgg41 rfl rfl | exact y_ld st 7 rfl Tryd.isAgg41 rfl rfl | exact y_ld st 8 rfl Tryd.isAgg41 rfl rfl)) ?_
              refine vc_y rfl rfl ((by first | exact y_ia0 (k := 0) rfl rfl Tryd.underlying41 Tryd.sizeOf80 rfl (by decide) | exact y_ia (k := 0) rfl rfl Tryd.underlying41 Tryd.sizeOf80 rfl (by decide))) ?_
              refine vc_y rfl rfl ((by first | exact y_faz (k := 1) rfl Tryd.underlying80 rfl rfl Tryd.sizeOf2 rfl | exact y_fa (k := 1) rfl Tryd.underlying80 rfl rfl Tryd.sizeOf2 rfl)) ?_
              refine vc_y rfl rfl ((by first | exact y_ldc rfl Tryd.isAgg2 (hds 0 _ rfl 1 _ rfl) | exact y_ld st 0 rfl Tryd.isAgg2 rfl rfl | exact y_ld st 1 rfl Tryd.isAgg2 rfl rfl | exact y_ld st 2 rfl Tryd.isAgg2 rfl rfl | exact y_ld st 3 rfl Tryd.isAgg2 rfl rfl | exact y_ld st 4 rfl Tryd.isAgg2 rfl rfl | exact y_ld st 5 rfl Tryd.isAgg2 rfl rfl | exact y_ld st 6 rfl Tryd.isAgg2 rfl rfl | exact y_ld st 7 rfl Tryd.isAgg2 rfl rfl | exact y_ld st 8 rfl Tryd.isAgg2 rfl rfl)) ?_
              refine vc_y rfl rfl (y_nei rfl rfl) ?_
              refine vc_y rfl rfl (y_pickf rfl rfl) ?_
              refine vc_end ?_
              refine vq_then ?_
              refine vc_keep [(1, _), (57, _)] ⟨rfl, rfl, trivial⟩ ?_
              refine vc_ifs rfl ?_ ?_
              · intro hc57
                exact absurd hc57 (by decide)
              · intro hc57
                try simp only [decide_eq_true_eq, decide_eq_false_iff_not, Bool.not_eq_true', Bool.not_eq_false', Bool.not_eq_true, Bool.not_eq_false, Int.not_lt, Int.not_le, Nat.not_lt, Nat.not_le, Bool.not_true, Bool.not_false, Bool.true_eq_false, Bool.false_eq_true] at hc57
                refine vc_code_skip ?_
                refine vq_then ?_
                refine vc_keep [(1, _)] ⟨rfl, trivial⟩ ?_
                refine vc_seq ?_
                refine vc_region ?_
                refine vc_y rfl rfl ((by first | exact y_faz (k := 2) rfl Tryd.underlying44 rfl rfl Tryd.sizeOf42 rfl | exact y_fa (k := 2) rfl Tryd.underlying44 rfl rfl Tryd.sizeOf42 rfl)) ?_
                refine vc_y rfl rfl ((by first | exact y_ld st 0 rfl Tryd.isAgg42 rfl rfl | exact y_ld st 1 rfl Tryd.isAgg42 rfl rfl | exact y_ld st 2 rfl Tryd.isAgg42 rfl rfl | exact y_ld st 3 rfl Tryd.isAgg42 rfl rfl | exact y_ld st 4 rfl Tryd.isAgg42 rfl rfl | exact y_ld st 5 rfl Tryd.isAgg42 rfl rfl | exact y_ld st 6 rfl Tryd.isAgg42 rfl rfl | exact y_ld st 7 rfl Tryd.isAgg42 rfl rfl | exact y_ld st 8 rfl Tryd.isAgg42 rfl rfl)) ?_
                refine vc_y rfl rfl ((by first | exact y_ia0 (k := 0) rfl rfl Tryd.underlying42 Tryd.sizeOf78 rfl (by decide) | exact y_ia (k := 0) rfl rfl Tryd.underlying42 Tryd.sizeOf78 rfl (by decide))) ?_
                refine vc_y rfl rfl ((by first | exact y_faz (k := 2) rfl Tryd.underlying78 rfl rfl Tryd.sizeOf76 rfl | exact y_fa (k := 2) rfl Tryd.underlying78 rfl rfl Tryd.sizeOf76 rfl)) ?_
                refine vc_y rfl rfl ((by first | exact y_ldc rfl Tryd.isAgg76 (hthc 2 _ rfl) | exact y_ld st 0 rfl Tryd.isAgg76 rfl rfl | exact y_ld st 1 rfl Tryd.isAgg76 rfl rfl | exact y_ld st 2 rfl Tryd.isAgg76 rfl rfl | exact y_ld st 3 rfl Tryd.isAgg76 rfl rfl | exact y_ld st 4 rfl Tryd.isAgg76 rfl rfl | exact y_ld st 5 rfl Tryd.isAgg76 rfl rfl | exact y_ld st 6 rfl Tryd.isAgg76 rfl rfl | exact y_ld st 7 rfl Tryd.isAgg76 rfl rfl | exact y_ld st 8 rfl Tryd.isAgg76 rfl rfl)) ?_
                refine vc_y rfl rfl ((by first | exact y_ia0 (k := 0) rfl rfl Tryd.underlying76 Tryd.sizeOf83 rfl (by decide) | exact y_ia (k := 0) rfl rfl Tryd.underlying76 Tryd.sizeOf83 rfl (by decide))) ?_
                refine vc_y rfl rfl ((by first | exact y_faz (k := 3) rfl Tryd.underlying83 rfl rfl Tryd.sizeOf24 rfl | exact y_fa (k := 3) rfl Tryd.underlying83 rfl rfl Tryd.sizeOf24 rfl)) ?_
                refine vc_y rfl rfl ((by first | exact y_ldc rfl Tryd.isAgg24 (hsc 3 _ rfl) | exact y_ld st 0 rfl Tryd.isAgg24 rfl rfl | exact y_ld st 1 rfl Tryd.isAgg24 rfl rfl | exact y_ld st 2 rfl Tryd.isAgg24 rfl rfl | exact y_ld st 3 rfl Tryd.isAgg24 rfl rfl | exact y_ld st 4 rfl Tryd.isAgg24 rfl rfl | exact y_ld st 5 rfl Tryd.isAgg24 rfl rfl | exact y_ld st 6 rfl Tryd.isAgg24 rfl rfl | exact y_ld st 7 rfl Tryd.isAgg24 rfl rfl | exact y_ld st 8 rfl Tryd.isAgg24 rfl rfl)) ?_
                refine vc_y rfl rfl (y_as rfl) ?_
                refine vc_end ?_
                refine vq_then ?_
                refine vc_keep [(7, _)] ⟨rfl, trivial⟩ ?_
                refine vc_seq ?_
                refine vc_region ?_
                refine vc_y rfl rfl (y_mv rfl) ?_
                refine vc_y rfl rfl (y_lensl rfl Tryd.underlying24) ?_
                refine vc_y rfl rfl (y_eqi rfl rfl) ?_
                refine vc_e (e_mvb rfl rfl rfl ?_ ?_)
                · intro hg69
                  try simp only [decide_eq_true_eq, decide_eq_false_iff_not, Bool.not_eq_true', Bool.not_eq_false', Bool.not_eq_true, Bool.not_eq_false, Int.not_lt, Int.not_le, Nat.not_lt, Nat.not_le, Bool.not_true, Bool.not_false, Bool.true_eq_false, Bool.false_eq_true] at hg69
                  refine vc_y rfl rfl (y_mv rfl) ?_
                  refine vc_y rfl rfl ((by first | exact y_ia0 (k := 0) rfl rfl Tryd.underlying24 Tryd.sizeOf26 rfl (by decide) | exact y_ia (k := 0) rfl rfl Tryd.underlying24 Tryd.sizeOf26 rfl (by decide))) ?_
                  refine vc_y rfl rfl ((by first | exact y_faz (k := 1) rfl Tryd.underlying26 rfl rfl Tryd.sizeOf23 rfl | exact y_fa (k := 1) rfl Tryd.underlying26 rfl rfl Tryd.sizeOf23 rfl)) ?_
                  refine vc_y rfl rfl ((by first | exact y_ldc rfl Tryd.isAgg23 (hec 1 _ rfl) | exact y_ld st 0 rfl Tryd.isAgg23 rfl rfl | exact y_ld st 1 rfl Tryd.isAgg23 rfl rfl | exact y_ld st 2 rfl Tryd.isAgg23 rfl rfl | exact y_ld st 3 rfl Tryd.isAgg23 rfl rfl | exact y_ld st 4 rfl Tryd.isAgg23 rfl rfl | exact y_ld st 5 rfl Tryd.isAgg23 rfl rfl | exact y_ld st 6 rfl Tryd.isAgg23 rfl rfl | exact y_ld st 7 rfl Tryd.isAgg23 rfl rfl | exact y_ld st 8 rfl Tryd.isAgg23 rfl rfl)) ?_
                  refine vc_y rfl rfl (y_eqi rfl rfl) ?_
                  refine vc_y rfl rfl (y_pickt rfl rfl) ?_
                  refine vc_e (e_mvb rfl rfl rfl ?_ ?_)
                  · intro hg76
                    try simp only [decide_eq_true_eq, decide_eq_false_iff_not, Bool.not_eq_true', Bool.not_eq_false', Bool.not_eq_true, Bool.not_eq_false, Int.not_lt, Int.not_le, Nat.not_lt, Nat.not_le, Bool.not_true, Bool.not_false, Bool.true_eq_false, Bool.false_eq_true] at hg76
                    refine vc_y rfl rfl (y_mv rfl) ?_
                    refine vc_y rfl rfl ((by first | exact y_ia0 (k := 0) rfl rfl Tryd.underlying24 Tryd.sizeOf26 rfl (by decide) | exact y_ia (k := 0) rfl rfl Tryd.underlying24 Tryd.sizeOf26 rfl (by decide))) ?_
                    refine vc_y rfl rfl ((by first | exact y_faz (k := 4) rfl Tryd.underlying26 rfl rfl Tryd.sizeOf24 rfl | exact y_fa (k := 4) rfl Tryd.underlying26 rfl rfl Tryd.sizeOf24 rfl)) ?_
                    refine vc_y rfl rfl ((by first | exact y_ldc rfl Tryd.isAgg24 (hec 4 _ rfl) | exact y_ld st 0 rfl Tryd.isAgg24 rfl rfl | exact y_ld st 1 rfl Tryd.isAgg24 rfl rfl | exact y_ld st 2 rfl Tryd.isAgg24 rfl rfl | exact y_ld st 3 rfl Tryd.isAgg24 rfl rfl | exact y_ld st 4 rfl Tryd.isAgg24 rfl rfl | exact y_ld st 5 rfl Tryd.isAgg24 rfl rfl | exact y_ld st 6 rfl Tryd.isAgg24 rfl rfl | exact y_ld st 7 rfl Tryd.isAgg24 rfl rfl | exact y_ld st 8 rfl Tryd.isAgg24 rfl rfl)) ?_
                    refine vc_y rfl rfl (y_lensl rfl Tryd.underlying24) ?_
                    refine vc_y rfl rfl (y_eqi rfl rfl) ?_
                    refine vc_y rfl rfl (y_pickt rfl rfl) ?_
                    refine vc_e (e_mvb rfl rfl rfl ?_ ?_)
                    · intro hg84
                      try simp only [decide_eq_true_eq, decide_eq_false_iff_not, Bool.not_eq_true', Bool.not_eq_false', Bool.not_eq_true, Bool.not_eq_false, Int.not_lt, Int.not_le, Nat.not_lt, Nat.not_le, Bool.not_true, Bool.not_false, Bool.true_eq_false, Bool.false_eq_true] at hg84
                      refine vc_y rfl rfl (y_mv rfl) ?_
                      refine vc_y rfl rfl ((by first | exact y_ia0 (k := 0) rfl rfl Tryd.underlying24 Tryd.sizeOf26 rfl (by decide) | exact y_ia (k := 0) rfl rfl Tryd.underlying24 Tryd.sizeOf26 rfl (by decide))) ?_
                      refine vc_y rfl rfl ((by first | exact y_faz (k := 4) rfl Tryd.underlying26 rfl rfl Tryd.sizeOf24 rfl | exact y_fa (k := 4) rfl Tryd.underlying26 rfl rfl Tryd.sizeOf24 rfl)) ?_
                      refine vc_y rfl rfl ((by first | exact y_ldc rfl Tryd.isAgg24 (hec 4 _ rfl) | exact y_ld st 0 rfl Tryd.isAgg24 rfl rfl | exact y_ld st 1 rfl Tryd.isAgg24 rfl rfl | exact y_ld st 2 rfl Tryd.isAgg24 rfl rfl | exact y_ld st 3 rfl Tryd.isAgg24 rfl rfl | exact y_ld st 4 rfl Tryd.isAgg24 rfl rfl | exact y_ld st 5 rfl Tryd.isAgg24 rfl rfl | exact y_ld st 6 rfl Tryd.isAgg24 rfl rfl | exact y_ld st 7 rfl Tryd.isAgg24 rfl rfl | exact y_ld st 8 rfl Tryd.isAgg24 rfl rfl)) ?_
                      refine vc_y rfl rfl ((by first | exact y_ia0 (k := 1) rfl rfl Tryd.underlying24 Tryd.sizeOf26 rfl (by decide) | exact y_ia (k := 1) rfl rfl Tryd.underlying24 Tryd.sizeOf26 rfl (by decide))) ?_
                      refine vc_y rfl rfl ((by first | exact y_faz (k := 1) rfl Tryd.underlying26 rfl rfl Tryd.sizeOf23 rfl | exact y_fa (k := 1) rfl Tryd.underlying26 rfl rfl Tryd.sizeOf23 rfl)) ?_
                      refine vc_y rfl rfl ((by first | exact y_ldc rfl Tryd.isAgg23 (hkc 1 _ rfl) | exact y_ld st 0 rfl Tryd.isAgg23 rfl rfl | exact y_ld st 1 rfl Tryd.isAgg23 rfl rfl | exact y_ld st 2 rfl Tryd.isAgg23 rfl rfl | exact y_ld st 3 rfl Tryd.isAgg23 rfl rfl | exact y_ld st 4 rfl Tryd.isAgg23 rfl rfl | exact y_ld st 5 rfl Tryd.isAgg23 rfl rfl | exact y_ld st 6 rfl Tryd.isAgg23 rfl rfl | exact y_ld st 7 rfl Tryd.isAgg23 rfl rfl | exact y_ld st 8 rfl Tryd.isAgg23 rfl rfl)) ?_
                      refine vc_y rfl rfl (y_eqi rfl rfl) ?_
                      refine vc_y rfl rfl (y_pickt rfl rfl) ?_
                      refine vc_y rfl rfl (y_as rfl) ?_
                      refine vc_end ?_
                      refine vq_then ?_
                      refine vc_keep [(0, _)] ⟨rfl, trivial⟩ ?_
                      refine vc_ret ?_
                      refine vq_ret1 st (.inl rfl) Tryd.results10 (.tmp rfl) ?_
                      refine ⟨_, rfl, ?_⟩
                      exact ⟨rfl, st.chg⟩
                    · intro hg84
                      exact absurd hg84 (by decide)
                  · intro hg76
                    exact absurd hg76 (by decide)
                · intro hg69
                  exact absurd hg69 (by decide)

end Go.Proofs.YtggnfanphcaamaaDoor


namespace Go.Proofs.YtggnfanphcaamaaDoor
open Go.RowKit Sx LexS ParS
set_option linter.unusedVariables false
set_option linter.unusedSimpArgs false
theorem sgn_len : ∀ k, k < 19 → (sgn k).length ≤ 8 := by decide

set_option maxHeartbeats 2000000 in
theorem levels_any (a b : Int) (less : Bool) (w : World) (hsg : SigAt 0 w) : Ret Tryd.prog 4 [.int .u8 a, .int .u8 b, .bool less] w fun v w' => v = .bool true ∧ Chg [] w w' := by
  refine ret_of [_, _, _] Tryd.func4 rfl Tryd.ntmps4 rfl ?_
  have st := St.init w []
  obtain ⟨w0, rfl⟩ : ∃ w0, w0 = w := ⟨_, rfl⟩
  refine vc_seq ?_
  refine vc_region ?_
  refine vc_y rfl rfl (y_as rfl) ?_
  refine vc_end ?_
  refine vq_then ?_
  refine vc_keep [(0, _), (1, _), (2, _)] ⟨rfl, rfl, rfl, trivial⟩ ?_
  refine vc_seq ?_
  refine vc_seq ?_
  refine vc_region ?_
  refine vc_e (e_call [] rfl rfl Tryd.call10 rfl (lives_any _ hsg) ?_)
  rintro _ w ⟨rfl, cw⟩
  replace st := st.call0 cw
  refine vc_y rfl rfl (y_not rfl) ?_
  refine vc_end ?_
  refine vq_then ?_
  refine vc_keep [(0, _), (1, _), (2, _), (12, _)] ⟨rfl, rfl, rfl, rfl, trivial⟩ ?_
  refine vc_ifs rfl ?_ ?_
  · intro hc12
    exact absurd hc12 (by decide)
  · intro hc12
    try simp only [decide_eq_true_eq, decide_eq_false_iff_not, Bool.not_eq_true', Bool.not_eq_false', Bool.not_eq_true, Bool.not_eq_false, Int.not_lt, Int.not_le, Nat.not_lt, Nat.not_le, Bool.not_true, Bool.not_false, Bool.true_eq_false, Bool.false_eq_true] at hc12
    refine vc_code_skip ?_
    refine vq_then ?_
    refine vc_keep [(0, _), (1, _), (2, _)] ⟨rfl, rfl, rfl, trivial⟩ ?_
    refine vc_seq ?_
    refine vc_seq ?_
    refine vc_region ?_
    refine vc_y rfl rfl (y_mv rfl) ?_
    refine vc_e (e_call [_] rfl rfl Tryd.call13 rfl (two_any _ _) ?_)
    rintro _ _ ⟨rfl, rfl⟩
    refine vc_y rfl rfl (y_not rfl) ?_
    refine vc_e (e_mvb rfl rfl rfl ?_ ?_)
    · intro hg16
      try simp only [decide_eq_true_eq, decide_eq_false_iff_not, Bool.not_eq_true', Bool.not_eq_false', Bool.not_eq_true, Bool.not_eq_false, Int.not_lt, Int.not_le, Nat.not_lt, Nat.not_le, Bool.not_true, Bool.not_false, Bool.true_eq_false, Bool.false_eq_true] at hg16
      refine vc_e (e_skip rfl rfl ?_)
      refine vc_e (e_skip rfl rfl ?_)
      refine vc_e (e_skip rfl rfl ?_)
      refine vc_y rfl rfl (y_pickt rfl rfl) ?_
      refine vc_end ?_
      refine vq_then ?_
      refine vc_keep [(0, _), (1, _), (2, _), (20, _)] ⟨rfl, rfl, rfl, rfl, trivial⟩ ?_
      refine vc_ift rfl ?_
      refine vc_seq ?_
      refine vc_region ?_
      refine vc_y rfl rfl (y_as rfl) ?_
      refine vc_end ?_
      refine vq_then ?_
      refine vc_keep [(6, _)] ⟨rfl, trivial⟩ ?_
      refine vc_ret ?_
      refine vq_then_ret ?_
      refine vq_ret1 st (.inl rfl) Tryd.results4 (.tmp rfl) ?_
      refine ⟨_, rfl, ?_⟩
      exact ⟨rfl, st.chg⟩
    · intro hg16
      try simp only [decide_eq_true_eq, decide_eq_false_iff_not, Bool.not_eq_true', Bool.not_eq_false', Bool.not_eq_true, Bool.not_eq_false, Int.not_lt, Int.not_le, Nat.not_lt, Nat.not_le, Bool.not_true, Bool.not_false, Bool.true_eq_false, Bool.false_eq_true] at hg16
      refine vc_y rfl rfl (y_mv rfl) ?_
      refine vc_e (e_call [_] rfl rfl Tryd.call13 rfl (two_any _ _) ?_)
      rintro _ _ ⟨rfl, rfl⟩
      refine vc_y rfl rfl (y_not rfl) ?_
      refine vc_y rfl rfl (y_pickf rfl rfl) ?_
      refine vc_end ?_
      refine vq_then ?_
      refine vc_keep [(0, _), (1, _), (2, _), (20, _)] ⟨rfl, rfl, rfl, rfl, trivial⟩ ?_
      refine vc_ifs rfl ?_ ?_
      · intro hc20
        try simp only [decide_eq_true_eq, decide_eq_false_iff_not, Bool.not_eq_true', Bool.not_eq_false', Bool.not_eq_true, Bool.not_eq_false, Int.not_lt, Int.not_le, Nat.not_lt, Nat.not_le, Bool.not_true, Bool.not_false, Bool.true_eq_false, Bool.false_eq_true] at hc20
        refine vc_seq ?_
        refine vc_region ?_
        refine vc_y rfl rfl (y_as rfl) ?_
        refine vc_end ?_
        refine vq_then ?_
        refine vc_keep [(6, _)] ⟨rfl, trivial⟩ ?_
        refine vc_ret ?_
        refine vq_then_ret ?_
        refine vq_ret1 st (.inl rfl) Tryd.results4 (.tmp rfl) ?_
        refine ⟨_, rfl, ?_⟩
        exact ⟨rfl, st.chg⟩
      · intro hc20
        try simp only [decide_eq_true_eq, decide_eq_false_iff_not, Bool.not_eq_true', Bool.not_eq_false', Bool.not_eq_true, Bool.not_eq_false, Int.not_lt, Int.not_le, Nat.not_lt, Nat.not_le, Bool.not_true, Bool.not_false, Bool.true_eq_false, Bool.false_eq_true] at hc20
        have h2 : twoOp a = true := by simpa using hg16
        have h3 : twoOp b = true := by simpa using hc20
        obtain ⟨m, rfl⟩ : ∃ m : Nat, a = (m : Int) := ⟨a.toNat, by simp only [twoOp, decide_eq_true_eq] at h2; omega⟩
        obtain ⟨n, rfl⟩ : ∃ n : Nat, b = (n : Int) := ⟨b.toNat, by simp only [twoOp, decide_eq_true_eq] at h3; omega⟩
        have hm : 0 < m ∧ m < 19 := by simp only [twoOp, decide_eq_true_eq] at h2; omega
        have hn : 0 < n ∧ n < 19 := by simp only [twoOp, decide_eq_true_eq] at h3; omega
        have lm := sgn_len m hm.2
        have ln := sgn_len n hn.2
        clear hc20
        refine vc_code_skip ?_
        refine vq_then ?_
        refine vc_keep [(0, _), (1, _), (2, _)] ⟨rfl, rfl, rfl, trivial⟩ ?_
        refine vc_seq ?_
        refine vc_region ?_
        refine vc_y rfl rfl (y_as rfl) ?_
        refine vc_end ?_
        refine vq_then ?_
        refine vc_keep [(0, _), (1, _), (2, _), (7, _)] ⟨rfl, rfl, rfl, rfl, trivial⟩ ?_
        refine vc_seq ?_
        refine vc_seq ?_
        refine vc_region ?_
        refine vc_y rfl rfl (y_mv rfl) ?_
        refine vc_end ?_
        refine vq_then ?_
        refine vc_keep [(0, _), (1, _), (7, _), (21, _)] ⟨rfl, rfl, rfl, rfl, trivial⟩ ?_
        refine vc_ifs rfl ?_ ?_
        · intro hc21
          try simp only [decide_eq_true_eq, decide_eq_false_iff_not, Bool.not_eq_true', Bool.not_eq_false', Bool.not_eq_true, Bool.not_eq_false, Int.not_lt, Int.not_le, Nat.not_lt, Nat.not_le, Bool.not_true, Bool.not_false, Bool.true_eq_false, Bool.false_eq_true] at hc21
          subst hc21
          refine vc_region ?_
          refine vc_y rfl rfl (y_as rfl) ?_
          refine vc_end ?_
          refine vq_then ?_
          refine vc_keep [(0, _), (1, _), (7, _)] ⟨rfl, rfl, rfl, trivial⟩ ?_
          refine vc_seq ?_
          refine vc_region ?_
          refine vc_y rfl rfl (y_mv rfl) ?_
          refine vc_e (e_call [_] rfl rfl Tryd.call14 rfl (show_any m hm _ (hsg.kept st.chg (by simp))) ?_)
          rintro _ _ ⟨rfl, rfl⟩
          refine vc_y rfl rfl (y_cat rfl rfl (by simp only [List.length_append, List.length_cons, List.length_nil]; omega)) ?_
          refine vc_y rfl rfl (y_cat rfl rfl (by simp only [List.length_append, List.length_cons, List.length_nil]; omega)) ?_
          refine vc_y rfl rfl (y_mv rfl) ?_
          refine vc_e (e_call [_] rfl rfl Tryd.call14 rfl (show_any n hn _ (hsg.kept st.chg (by simp))) ?_)
          rintro _ _ ⟨rfl, rfl⟩
          refine vc_y rfl rfl (y_cat rfl rfl (by simp only [List.length_append, List.length_cons, List.length_nil]; omega)) ?_
          refine vc_y rfl rfl (y_cat rfl rfl (by simp only [List.length_append, List.length_cons, List.length_nil]; omega)) ?_
          refine vc_y rfl rfl (y_mv rfl) ?_
          refine vc_y rfl rfl (y_cat rfl rfl (by simp only [List.length_append, List.length_cons, List.length_nil]; omega)) ?_
          refine vc_e (e_call [_] rfl rfl Tryd.call8 rfl (expr_any (lvText m n true) _ (hsg.kept st.chg (by simp))) ?_)
          obtain ⟨e, l, r, hR, hk4, hkids, hT1, hT2⟩ := lv_res true hm.2 hn.2 h2 h3
          rintro _ w h
          rw [ExprPost, hR] at h
          obtain ⟨cw, _, ⟨oq, cq, Sq, rfl, hT, hN⟩, rfl⟩ := h
          replace st := st.pushR cw (holds_ex hT) hN.2
          refine vc_y rfl rfl (y_mv rfl) ?_
          refine vc_y rfl rfl (y_ext rfl rfl) ?_
          refine vc_y rfl rfl (y_ext rfl rfl) ?_
          refine vc_y rfl rfl (y_ext rfl rfl) ?_
          refine vc_e (e_al (l := [_, _, _, _, _, _]) st rfl rfl Tryd.zeroValue26 rfl ?_)
          intro b8 w hb8 st
          refine vc_e (e_al (l := [_, _]) st rfl rfl Tryd.zeroValue29 rfl ?_)
          intro b10 w hb10 st
          first
          | refine vc_e (e_sts (vs := [_, _, _, _, _, _]) st 0 rfl rfl rfl rfl rfl Tryd.sizeOf26 rfl rfl (by first | (right; assumption) | (left; simp)) ?_)
          | refine vc_e (e_sts (vs := [_, _, _, _, _, _]) st 1 rfl rfl rfl rfl rfl Tryd.sizeOf26 rfl rfl (by first | (right; assumption) | (left; simp)) ?_)
          | refine vc_e (e_sts (vs := [_, _, _, _, _, _]) st 2 rfl rfl rfl rfl rfl Tryd.sizeOf26 rfl rfl (by first | (right; assumption) | (left; simp)) ?_)
          | refine vc_e (e_sts (vs := [_, _, _, _, _, _]) st 3 rfl rfl rfl rfl rfl Tryd.sizeOf26 rfl rfl (by first | (right; assumption) | (left; simp)) ?_)
          | refine vc_e (e_sts (vs := [_, _, _, _, _, _]) st 4 rfl rfl rfl rfl rfl Tryd.sizeOf26 rfl rfl (by first | (right; assumption) | (left; simp)) ?_)
          | refine vc_e (e_sts (vs := [_, _, _, _, _, _]) st 5 rfl rfl rfl rfl rfl Tryd.sizeOf26 rfl rfl (by first | (right; assumption) | (left; simp)) ?_)
          | refine vc_e (e_sts (vs := [_, _, _, _, _, _]) st 6 rfl rfl rfl rfl rfl Tryd.sizeOf26 rfl rfl (by first | (right; assumption) | (left; simp)) ?_)
          | refine vc_e (e_sts (vs := [_, _, _, _, _, _]) st 7 rfl rfl rfl rfl rfl Tryd.sizeOf26 rfl rfl (by first | (right; assumption) | (left; simp)) ?_)
          | refine vc_e (e_sts (vs := [_, _, _, _, _, _]) st 8 rfl rfl rfl rfl rfl Tryd.sizeOf26 rfl rfl (by first | (right; assumption) | (left; simp)) ?_)
          intro w st; dsimp only [setNth, wr] at st
          refine vc_y rfl rfl (y_as rfl) ?_
          first
          | refine vc_e (e_sts (vs := [_, _]) st 0 rfl rfl rfl rfl rfl Tryd.sizeOf29 rfl rfl (by first | (right; assumption) | (left; simp)) ?_)
          | refine vc_e (e_sts (vs := [_, _]) st 1 rfl rfl rfl rfl rfl Tryd.sizeOf29 rfl rfl (by first | (right; assumption) | (left; simp)) ?_)
          | refine vc_e (e_sts (vs := [_, _]) st 2 rfl rfl rfl rfl rfl Tryd.sizeOf29 rfl rfl (by first | (right; assumption) | (left; simp)) ?_)
          | refine vc_e (e_sts (vs := [_, _]) st 3 rfl rfl rfl rfl rfl Tryd.sizeOf29 rfl rfl (by first | (right; assumption) | (left; simp)) ?_)
          | refine vc_e (e_sts (vs := [_, _]) st 4 rfl rfl rfl rfl rfl Tryd.sizeOf29 rfl rfl (by first | (right; assumption) | (left; simp)) ?_)
          | refine vc_e (e_sts (vs := [_, _]) st 5 rfl rfl rfl rfl rfl Tryd.sizeOf29 rfl rfl (by first | (right; assumption) | (left; simp)) ?_)
          | refine vc_e (e_sts (vs := [_, _]) st 6 rfl rfl rfl rfl rfl Tryd.sizeOf29 rfl rfl (by first | (right; assumption) | (left; simp)) ?_)
          | refine vc_e (e_sts (vs := [_, _]) st 7 rfl rfl rfl rfl rfl Tryd.sizeOf29 rfl rfl (by first | (right; assumption) | (left; simp)) ?_)
          | refine vc_e (e_sts (vs := [_, _]) st 8 rfl rfl rfl rfl rfl Tryd.sizeOf29 rfl rfl (by first | (right; assumption) | (left; simp)) ?_)
          intro w st; dsimp only [setNth, wr] at st
          refine vc_end ?_
          refine vq_then ?_
          refine vc_keep [(0, _), (1, _), (8, _), (9, _)] ⟨rfl, rfl, rfl, rfl, trivial⟩ ?_
          refine vc_seq ?_
          refine vc_seq ?_
          refine vc_region ?_
          refine vc_y rfl rfl (y_mv rfl) ?_
          refine vc_y rfl rfl (y_nei rfl rfl) ?_
          refine vc_e (e_mvb rfl rfl rfl ?_ ?_)
          · intro hg39
            simp at hg39
          · intro hg39
            try simp only [decide_eq_true_eq, decide_eq_false_iff_not, Bool.not_eq_true', Bool.not_eq_false', Bool.not_eq_true, Bool.not_eq_false, Int.not_lt, Int.not_le, Nat.not_lt, Nat.not_le, Bool.not_true, Bool.not_false, Bool.true_eq_false, Bool.false_eq_true] at hg39
            refine vc_y rfl rfl (y_fa0 rfl Tryd.underlying26 rfl rfl Tryd.sizeOf22 rfl) ?_
            refine vc_y rfl rfl ((by first | exact y_ld st 0 rfl Tryd.isAgg22 rfl rfl | exact y_ld st 1 rfl Tryd.isAgg22 rfl rfl | exact y_ld st 2 rfl Tryd.isAgg22 rfl rfl | exact y_ld st 3 rfl Tryd.isAgg22 rfl rfl | exact y_ld st 4 rfl Tryd.isAgg22 rfl rfl | exact y_ld st 5 rfl Tryd.isAgg22 rfl rfl | exact y_ld st 6 rfl Tryd.isAgg22 rfl rfl | exact y_ld st 7 rfl Tryd.isAgg22 rfl rfl | exact y_ld st 8 rfl Tryd.isAgg22 rfl rfl)) ?_
            refine vc_y rfl rfl (y_nei rfl rfl) ?_
            refine vc_y rfl rfl (y_pickf rfl rfl) ?_
            refine vc_e (e_mvb rfl rfl rfl ?_ ?_)
            · intro hg44
              simp [hk4] at hg44
            · intro hg44
              try simp only [decide_eq_true_eq, decide_eq_false_iff_not, Bool.not_eq_true', Bool.not_eq_false', Bool.not_eq_true, Bool.not_eq_false, Int.not_lt, Int.not_le, Nat.not_lt, Nat.not_le, Bool.not_true, Bool.not_false, Bool.true_eq_false, Bool.false_eq_true] at hg44
              refine vc_y rfl rfl ((by first | exact y_faz (k := 4) rfl Tryd.underlying26 rfl rfl Tryd.sizeOf24 rfl | exact y_fa (k := 4) rfl Tryd.underlying26 rfl rfl Tryd.sizeOf24 rfl)) ?_
              refine vc_y rfl rfl ((by first | exact y_ld st 0 rfl Tryd.isAgg24 rfl rfl | exact y_ld st 1 rfl Tryd.isAgg24 rfl rfl | exact y_ld st 2 rfl Tryd.isAgg24 rfl rfl | exact y_ld st 3 rfl Tryd.isAgg24 rfl rfl | exact y_ld st 4 rfl Tryd.isAgg24 rfl rfl | exact y_ld st 5 rfl Tryd.isAgg24 rfl rfl | exact y_ld st 6 rfl Tryd.isAgg24 rfl rfl | exact y_ld st 7 rfl Tryd.isAgg24 rfl rfl | exact y_ld st 8 rfl Tryd.isAgg24 rfl rfl)) ?_
              refine vc_y rfl rfl (y_lensl rfl Tryd.underlying24) ?_
              refine vc_y rfl rfl (y_nei rfl rfl) ?_
              refine vc_y rfl rfl (y_pickf rfl rfl) ?_
              refine vc_end ?_
              refine vq_then ?_
              refine vc_keep [(0, _), (1, _), (8, _), (49, _)] ⟨rfl, rfl, rfl, rfl, trivial⟩ ?_
              refine vc_ifs rfl ?_ ?_
              · intro hc49
                simp [hkids] at hc49
              · intro hc49
                try simp only [decide_eq_true_eq, decide_eq_false_iff_not, Bool.not_eq_true', Bool.not_eq_false', Bool.not_eq_true, Bool.not_eq_false, Int.not_lt, Int.not_le, Nat.not_lt, Nat.not_le, Bool.not_true, Bool.not_false, Bool.true_eq_false, Bool.false_eq_true] at hc49
                refine vc_code_skip ?_
                refine vq_then ?_
                refine vc_keep [(0, _), (1, _), (8, _)] ⟨rfl, rfl, rfl, trivial⟩ ?_
                refine vc_seq ?_
                refine vc_seq ?_
                refine vc_region ?_
                refine vc_y rfl rfl (y_mv rfl) ?_
                refine vc_e (e_call [_] rfl rfl Tryd.call15 rfl (level_any _ _ (hsg.kept st.chg (by simp))) ?_)
                rintro _ _ ⟨rfl, rfl⟩
                refine vc_y rfl rfl (y_mv rfl) ?_
                refine vc_e (e_call [_] rfl rfl Tryd.call15 rfl (level_any _ _ (hsg.kept st.chg (by simp))) ?_)
                rintro _ _ ⟨rfl, rfl⟩
                refine vc_y rfl rfl (y_gtr rfl rfl) ?_
                refine vc_end ?_
                refine vq_then ?_
                refine vc_keep [(0, _), (1, _), (8, _), (54, _)] ⟨rfl, rfl, rfl, rfl, trivial⟩ ?_
                refine vc_ifs rfl ?_ ?_
                · intro hc54
                  try simp only [decide_eq_true_eq, decide_eq_false_iff_not, Bool.not_eq_true', Bool.not_eq_false', Bool.not_eq_true, Bool.not_eq_false, Int.not_lt, Int.not_le, Nat.not_lt, Nat.not_le, Bool.not_true, Bool.not_false, Bool.true_eq_false, Bool.false_eq_true] at hc54
                  refine vc_seq ?_
                  refine vc_region ?_
                  obtain ⟨hop, hnm, hrop⟩ := hT1 hc54
                  obtain ⟨bq, fq, rfl, hq⟩ := (exR_rows (st.res (i := 2) rfl).1).gets (by simp [hkids])
                  obtain ⟨_, _, hl, -⟩ := hq 0 l (by rw [hkids]; rfl)
                  obtain ⟨_, _, hr, -⟩ := hq 1 r (by rw [hkids]; rfl)
                  refine vc_y rfl rfl ((by first | exact y_faz (k := 1) rfl Tryd.underlying26 rfl rfl Tryd.sizeOf23 rfl | exact y_fa (k := 1) rfl Tryd.underlying26 rfl rfl Tryd.sizeOf23 rfl)) ?_
                  refine vc_y rfl rfl ((by first | exact y_ld st 0 rfl Tryd.isAgg23 rfl rfl | exact y_ld st 1 rfl Tryd.isAgg23 rfl rfl | exact y_ld st 2 rfl Tryd.isAgg23 rfl rfl | exact y_ld st 3 rfl Tryd.isAgg23 rfl rfl | exact y_ld st 4 rfl Tryd.isAgg23 rfl rfl | exact y_ld st 5 rfl Tryd.isAgg23 rfl rfl | exact y_ld st 6 rfl Tryd.isAgg23 rfl rfl | exact y_ld st 7 rfl Tryd.isAgg23 rfl rfl | exact y_ld st 8 rfl Tryd.isAgg23 rfl rfl)) ?_
                  refine vc_y rfl rfl (y_mv rfl) ?_
                  refine vc_y rfl rfl (y_eqi rfl rfl) ?_
                  refine vc_e (e_mvb rfl rfl rfl ?_ ?_)
                  · intro hg59
                    try simp only [decide_eq_true_eq, decide_eq_false_iff_not, Bool.not_eq_true', Bool.not_eq_false', Bool.not_eq_true, Bool.not_eq_false, Int.not_lt, Int.not_le, Nat.not_lt, Nat.not_le, Bool.not_true, Bool.not_false, Bool.true_eq_false, Bool.false_eq_true] at hg59
                    refine vc_y rfl rfl ((by first | exact y_faz (k := 4) rfl Tryd.underlying26 rfl rfl Tryd.sizeOf24 rfl | exact y_fa (k := 4) rfl Tryd.underlying26 rfl rfl Tryd.sizeOf24 rfl)) ?_
                    refine vc_y rfl rfl ((by first | exact y_ld st 0 rfl Tryd.isAgg24 rfl rfl | exact y_ld st 1 rfl Tryd.isAgg24 rfl rfl | exact y_ld st 2 rfl Tryd.isAgg24 rfl rfl | exact y_ld st 3 rfl Tryd.isAgg24 rfl rfl | exact y_ld st 4 rfl Tryd.isAgg24 rfl rfl | exact y_ld st 5 rfl Tryd.isAgg24 rfl rfl | exact y_ld st 6 rfl Tryd.isAgg24 rfl rfl | exact y_ld st 7 rfl Tryd.isAgg24 rfl rfl | exact y_ld st 8 rfl Tryd.isAgg24 rfl rfl)) ?_
                    refine vc_y rfl rfl ((by first | exact y_ia0 (k := 0) rfl rfl Tryd.underlying24 Tryd.sizeOf26 rfl (by simp [hkids]) | exact y_ia (k := 0) rfl rfl Tryd.underlying24 Tryd.sizeOf26 rfl (by simp [hkids]))) ?_
                    refine vc_y rfl rfl ((by first | exact y_faz (k := 3) rfl Tryd.underlying26 rfl rfl Tryd.sizeOf9 rfl | exact y_fa (k := 3) rfl Tryd.underlying26 rfl rfl Tryd.sizeOf9 rfl)) ?_
                    refine vc_y rfl rfl ((by first | exact y_ldc rfl Tryd.isAgg9 (hl 3 _ rfl) | exact y_ld st 0 rfl Tryd.isAgg9 rfl rfl | exact y_ld st 1 rfl Tryd.isAgg9 rfl rfl | exact y_ld st 2 rfl Tryd.isAgg9 rfl rfl | exact y_ld st 3 rfl Tryd.isAgg9 rfl rfl | exact y_ld st 4 rfl Tryd.isAgg9 rfl rfl | exact y_ld st 5 rfl Tryd.isAgg9 rfl rfl | exact y_ld st 6 rfl Tryd.isAgg9 rfl rfl | exact y_ld st 7 rfl Tryd.isAgg9 rfl rfl | exact y_ld st 8 rfl Tryd.isAgg9 rfl rfl)) ?_
                    refine vc_y rfl rfl (y_eqs rfl rfl) ?_
                    refine vc_y rfl rfl (y_pickt rfl rfl) ?_
                    refine vc_e (e_mvb rfl rfl rfl ?_ ?_)
                    · intro hg67
                      try simp only [decide_eq_true_eq, decide_eq_false_iff_not, Bool.not_eq_true', Bool.not_eq_false', Bool.not_eq_true, Bool.not_eq_false, Int.not_lt, Int.not_le, Nat.not_lt, Nat.not_le, Bool.not_true, Bool.not_false, Bool.true_eq_false, Bool.false_eq_true] at hg67
                      refine vc_y rfl rfl ((by first | exact y_faz (k := 4) rfl Tryd.underlying26 rfl rfl Tryd.sizeOf24 rfl | exact y_fa (k := 4) rfl Tryd.underlying26 rfl rfl Tryd.sizeOf24 rfl)) ?_
                      refine vc_y rfl rfl ((by first | exact y_ld st 0 rfl Tryd.isAgg24 rfl rfl | exact y_ld st 1 rfl Tryd.isAgg24 rfl rfl | exact y_ld st 2 rfl Tryd.isAgg24 rfl rfl | exact y_ld st 3 rfl Tryd.isAgg24 rfl rfl | exact y_ld st 4 rfl Tryd.isAgg24 rfl rfl | exact y_ld st 5 rfl Tryd.isAgg24 rfl rfl | exact y_ld st 6 rfl Tryd.isAgg24 rfl rfl | exact y_ld st 7 rfl Tryd.isAgg24 rfl rfl | exact y_ld st 8 rfl Tryd.isAgg24 rfl rfl)) ?_
                      refine vc_y rfl rfl ((by first | exact y_ia0 (k := 1) rfl rfl Tryd.underlying24 Tryd.sizeOf26 rfl (by simp [hkids]) | exact y_ia (k := 1) rfl rfl Tryd.underlying24 Tryd.sizeOf26 rfl (by simp [hkids]))) ?_
                      refine vc_y rfl rfl ((by first | exact y_faz (k := 1) rfl Tryd.underlying26 rfl rfl Tryd.sizeOf23 rfl | exact y_fa (k := 1) rfl Tryd.underlying26 rfl rfl Tryd.sizeOf23 rfl)) ?_
                      refine vc_y rfl rfl ((by first | exact y_ldc rfl Tryd.isAgg23 (hr 1 _ rfl) | exact y_ld st 0 rfl Tryd.isAgg23 rfl rfl | exact y_ld st 1 rfl Tryd.isAgg23 rfl rfl | exact y_ld st 2 rfl Tryd.isAgg23 rfl rfl | exact y_ld st 3 rfl Tryd.isAgg23 rfl rfl | exact y_ld st 4 rfl Tryd.isAgg23 rfl rfl | exact y_ld st 5 rfl Tryd.isAgg23 rfl rfl | exact y_ld st 6 rfl Tryd.isAgg23 rfl rfl | exact y_ld st 7 rfl Tryd.isAgg23 rfl rfl | exact y_ld st 8 rfl Tryd.isAgg23 rfl rfl)) ?_
                      refine vc_y rfl rfl (y_mv rfl) ?_
                      refine vc_y rfl rfl (y_eqi rfl rfl) ?_
                      refine vc_y rfl rfl (y_pickt rfl rfl) ?_
                      refine vc_y rfl rfl (y_as rfl) ?_
                      refine vc_end ?_
                      refine vq_then ?_
                      refine vc_keep [(6, _)] ⟨rfl, trivial⟩ ?_
                      refine vc_ret ?_
                      refine vq_then_ret ?_
                      refine vq_ret1 st (.inl rfl) Tryd.results4 (.tmp rfl) ?_
                      refine ⟨_, rfl, ?_⟩
                      exact ⟨by simp [hrop], st.chg⟩
                    · intro hg67
                      simp [hnm] at hg67
                  · intro hg59
                    simp [hop] at hg59
                · intro hc54
                  try simp only [decide_eq_true_eq, decide_eq_false_iff_not, Bool.not_eq_true', Bool.not_eq_false', Bool.not_eq_true, Bool.not_eq_false, Int.not_lt, Int.not_le, Nat.not_lt, Nat.not_le, Bool.not_true, Bool.not_false, Bool.true_eq_false, Bool.false_eq_true] at hc54
                  refine vc_code_skip ?_
                  refine vq_then ?_
                  refine vc_keep [(0, _), (1, _), (8, _)] ⟨rfl, rfl, rfl, trivial⟩ ?_
                  refine vc_seq ?_
                  refine vc_region ?_
                  obtain ⟨hop, hlop, y, z, hyz, hzn⟩ := hT2 (by omega)
                  obtain ⟨bq, fq, rfl, hq⟩ := (exR_rows (st.res (i := 2) rfl).1).gets (by simp [hkids])
                  obtain ⟨_, _, hl, hlr⟩ := hq 0 l (by rw [hkids]; rfl)
                  obtain ⟨bl, fl, rfl, hy⟩ := hlr.gets (by simp [hyz])
                  obtain ⟨_, _, hyc, -⟩ := hy 1 z (by rw [hyz]; rfl)
                  refine vc_y rfl rfl ((by first | exact y_faz (k := 1) rfl Tryd.underlying26 rfl rfl Tryd.sizeOf23 rfl | exact y_fa (k := 1) rfl Tryd.underlying26 rfl rfl Tryd.sizeOf23 rfl)) ?_
                  refine vc_y rfl rfl ((by first | exact y_ld st 0 rfl Tryd.isAgg23 rfl rfl | exact y_ld st 1 rfl Tryd.isAgg23 rfl rfl | exact y_ld st 2 rfl Tryd.isAgg23 rfl rfl | exact y_ld st 3 rfl Tryd.isAgg23 rfl rfl | exact y_ld st 4 rfl Tryd.isAgg23 rfl rfl | exact y_ld st 5 rfl Tryd.isAgg23 rfl rfl | exact y_ld st 6 rfl Tryd.isAgg23 rfl rfl | exact y_ld st 7 rfl Tryd.isAgg23 rfl rfl | exact y_ld st 8 rfl Tryd.isAgg23 rfl rfl)) ?_
                  refine vc_y rfl rfl (y_mv rfl) ?_
                  refine vc_y rfl rfl (y_eqi rfl rfl) ?_
                  refine vc_e (e_mvb rfl rfl rfl ?_ ?_)
                  · intro hg80
                    try simp only [decide_eq_true_eq, decide_eq_false_iff_not, Bool.not_eq_true', Bool.not_eq_false', Bool.not_eq_true, Bool.not_eq_false, Int.not_lt, Int.not_le, Nat.not_lt, Nat.not_le, Bool.not_true, Bool.not_false, Bool.true_eq_false, Bool.false_eq_true] at hg80
                    refine vc_y rfl rfl ((by first | exact y_faz (k := 4) rfl Tryd.underlying26 rfl rfl Tryd.sizeOf24 rfl | exact y_fa (k := 4) rfl Tryd.underlying26 rfl rfl Tryd.sizeOf24 rfl)) ?_
                    refine vc_y rfl rfl ((by first | exact y_ld st 0 rfl Tryd.isAgg24 rfl rfl | exact y_ld st 1 rfl Tryd.isAgg24 rfl rfl | exact y_ld st 2 rfl Tryd.isAgg24 rfl rfl | exact y_ld st 3 rfl Tryd.isAgg24 rfl rfl | exact y_ld st 4 rfl Tryd.isAgg24 rfl rfl | exact y_ld st 5 rfl Tryd.isAgg24 rfl rfl | exact y_ld st 6 rfl Tryd.isAgg24 rfl rfl | exact y_ld st 7 rfl Tryd.isAgg24 rfl rfl | exact y_ld st 8 rfl Tryd.isAgg24 rfl rfl)) ?_
                    refine vc_y rfl rfl ((by first | exact y_ia0 (k := 0) rfl rfl Tryd.underlying24 Tryd.sizeOf26 rfl (by simp [hkids]) | exact y_ia (k := 0) rfl rfl Tryd.underlying24 Tryd.sizeOf26 rfl (by simp [hkids]))) ?_
                    refine vc_y rfl rfl ((by first | exact y_faz (k := 1) rfl Tryd.underlying26 rfl rfl Tryd.sizeOf23 rfl | exact y_fa (k := 1) rfl Tryd.underlying26 rfl rfl Tryd.sizeOf23 rfl)) ?_
                    refine vc_y rfl rfl ((by first | exact y_ldc rfl Tryd.isAgg23 (hl 1 _ rfl) | exact y_ld st 0 rfl Tryd.isAgg23 rfl rfl | exact y_ld st 1 rfl Tryd.isAgg23 rfl rfl | exact y_ld st 2 rfl Tryd.isAgg23 rfl rfl | exact y_ld st 3 rfl Tryd.isAgg23 rfl rfl | exact y_ld st 4 rfl Tryd.isAgg23 rfl rfl | exact y_ld st 5 rfl Tryd.isAgg23 rfl rfl | exact y_ld st 6 rfl Tryd.isAgg23 rfl rfl | exact y_ld st 7 rfl Tryd.isAgg23 rfl rfl | exact y_ld st 8 rfl Tryd.isAgg23 rfl rfl)) ?_
                    refine vc_y rfl rfl (y_mv rfl) ?_
                    refine vc_y rfl rfl (y_eqi rfl rfl) ?_
                    refine vc_y rfl rfl (y_pickt rfl rfl) ?_
                    refine vc_e (e_mvb rfl rfl rfl ?_ ?_)
                    · intro hg89
                      try simp only [decide_eq_true_eq, decide_eq_false_iff_not, Bool.not_eq_true', Bool.not_eq_false', Bool.not_eq_true, Bool.not_eq_false, Int.not_lt, Int.not_le, Nat.not_lt, Nat.not_le, Bool.not_true, Bool.not_false, Bool.true_eq_false, Bool.false_eq_true] at hg89
                      refine vc_y rfl rfl ((by first | exact y_faz (k := 4) rfl Tryd.underlying26 rfl rfl Tryd.sizeOf24 rfl | exact y_fa (k := 4) rfl Tryd.underlying26 rfl rfl Tryd.sizeOf24 rfl)) ?_
                      refine vc_y rfl rfl ((by first | exact y_ld st 0 rfl Tryd.isAgg24 rfl rfl | exact y_ld st 1 rfl Tryd.isAgg24 rfl rfl | exact y_ld st 2 rfl Tryd.isAgg24 rfl rfl | exact y_ld st 3 rfl Tryd.isAgg24 rfl rfl | exact y_ld st 4 rfl Tryd.isAgg24 rfl rfl | exact y_ld st 5 rfl Tryd.isAgg24 rfl rfl | exact y_ld st 6 rfl Tryd.isAgg24 rfl rfl | exact y_ld st 7 rfl Tryd.isAgg24 rfl rfl | exact y_ld st 8 rfl Tryd.isAgg24 rfl rfl)) ?_
                      refine vc_y rfl rfl ((by first | exact y_ia0 (k := 0) rfl rfl Tryd.underlying24 Tryd.sizeOf26 rfl (by simp [hkids]) | exact y_ia (k := 0) rfl rfl Tryd.underlying24 Tryd.sizeOf26 rfl (by simp [hkids]))) ?_
                      refine vc_y rfl rfl ((by first | exact y_faz (k := 4) rfl Tryd.underlying26 rfl rfl Tryd.sizeOf24 rfl | exact y_fa (k := 4) rfl Tryd.underlying26 rfl rfl Tryd.sizeOf24 rfl)) ?_
                      refine vc_y rfl rfl ((by first | exact y_ldc rfl Tryd.isAgg24 (hl 4 _ rfl) | exact y_ld st 0 rfl Tryd.isAgg24 rfl rfl | exact y_ld st 1 rfl Tryd.isAgg24 rfl rfl | exact y_ld st 2 rfl Tryd.isAgg24 rfl rfl | exact y_ld st 3 rfl Tryd.isAgg24 rfl rfl | exact y_ld st 4 rfl Tryd.isAgg24 rfl rfl | exact y_ld st 5 rfl Tryd.isAgg24 rfl rfl | exact y_ld st 6 rfl Tryd.isAgg24 rfl rfl | exact y_ld st 7 rfl Tryd.isAgg24 rfl rfl | exact y_ld st 8 rfl Tryd.isAgg24 rfl rfl)) ?_
                      refine vc_y rfl rfl (y_lensl rfl Tryd.underlying24) ?_
                      refine vc_y rfl rfl (y_eqi rfl rfl) ?_
                      refine vc_y rfl rfl (y_pickt rfl rfl) ?_
                      refine vc_e (e_mvb rfl rfl rfl ?_ ?_)
                      · intro hg98
                        try simp only [decide_eq_true_eq, decide_eq_false_iff_not, Bool.not_eq_true', Bool.not_eq_false', Bool.not_eq_true, Bool.not_eq_false, Int.not_lt, Int.not_le, Nat.not_lt, Nat.not_le, Bool.not_true, Bool.not_false, Bool.true_eq_false, Bool.false_eq_true] at hg98
                        refine vc_y rfl rfl ((by first | exact y_faz (k := 4) rfl Tryd.underlying26 rfl rfl Tryd.sizeOf24 rfl | exact y_fa (k := 4) rfl Tryd.underlying26 rfl rfl Tryd.sizeOf24 rfl)) ?_
                        refine vc_y rfl rfl ((by first | exact y_ld st 0 rfl Tryd.isAgg24 rfl rfl | exact y_ld st 1 rfl Tryd.isAgg24 rfl rfl | exact y_ld st 2 rfl Tryd.isAgg24 rfl rfl | exact y_ld st 3 rfl Tryd.isAgg24 rfl rfl | exact y_ld st 4 rfl Tryd.isAgg24 rfl rfl | exact y_ld st 5 rfl Tryd.isAgg24 rfl rfl | exact y_ld st 6 rfl Tryd.isAgg24 rfl rfl | exact y_ld st 7 rfl Tryd.isAgg24 rfl rfl | exact y_ld st 8 rfl Tryd.isAgg24 rfl rfl)) ?_
                        refine vc_y rfl rfl ((by first | exact y_ia0 (k := 0) rfl rfl Tryd.underlying24 Tryd.sizeOf26 rfl (by simp [hkids]) | exact y_ia (k := 0) rfl rfl Tryd.underlying24 Tryd.sizeOf26 rfl (by simp [hkids]))) ?_
                        refine vc_y rfl rfl ((by first | exact y_faz (k := 4) rfl Tryd.underlying26 rfl rfl Tryd.sizeOf24 rfl | exact y_fa (k := 4) rfl Tryd.underlying26 rfl rfl Tryd.sizeOf24 rfl)) ?_
                        refine vc_y rfl rfl ((by first | exact y_ldc rfl Tryd.isAgg24 (hl 4 _ rfl) | exact y_ld st 0 rfl Tryd.isAgg24 rfl rfl | exact y_ld st 1 rfl Tryd.isAgg24 rfl rfl | exact y_ld st 2 rfl Tryd.isAgg24 rfl rfl | exact y_ld st 3 rfl Tryd.isAgg24 rfl rfl | exact y_ld st 4 rfl Tryd.isAgg24 rfl rfl | exact y_ld st 5 rfl Tryd.isAgg24 rfl rfl | exact y_ld st 6 rfl Tryd.isAgg24 rfl rfl | exact y_ld st 7 rfl Tryd.isAgg24 rfl rfl | exact y_ld st 8 rfl Tryd.isAgg24 rfl rfl)) ?_
                        refine vc_y rfl rfl ((by first | exact y_ia0 (k := 1) rfl rfl Tryd.underlying24 Tryd.sizeOf26 rfl (by simp [hyz]) | exact y_ia (k := 1) rfl rfl Tryd.underlying24 Tryd.sizeOf26 rfl (by simp [hyz]))) ?_
                        refine vc_y rfl rfl ((by first | exact y_faz (k := 3) rfl Tryd.underlying26 rfl rfl Tryd.sizeOf9 rfl | exact y_fa (k := 3) rfl Tryd.underlying26 rfl rfl Tryd.sizeOf9 rfl)) ?_
                        refine vc_y rfl rfl ((by first | exact y_ldc rfl Tryd.isAgg9 (hyc 3 _ rfl) | exact y_ld st 0 rfl Tryd.isAgg9 rfl rfl | exact y_ld st 1 rfl Tryd.isAgg9 rfl rfl | exact y_ld st 2 rfl Tryd.isAgg9 rfl rfl | exact y_ld st 3 rfl Tryd.isAgg9 rfl rfl | exact y_ld st 4 rfl Tryd.isAgg9 rfl rfl | exact y_ld st 5 rfl Tryd.isAgg9 rfl rfl | exact y_ld st 6 rfl Tryd.isAgg9 rfl rfl | exact y_ld st 7 rfl Tryd.isAgg9 rfl rfl | exact y_ld st 8 rfl Tryd.isAgg9 rfl rfl)) ?_
                        refine vc_y rfl rfl (y_eqs rfl rfl) ?_
                        refine vc_y rfl rfl (y_pickt rfl rfl) ?_
                        refine vc_y rfl rfl (y_as rfl) ?_
                        refine vc_end ?_
                        refine vq_then ?_
                        refine vc_keep [(6, _)] ⟨rfl, trivial⟩ ?_
                        refine vc_ret ?_
                        refine vq_ret1 st (.inl rfl) Tryd.results4 (.tmp rfl) ?_
                        refine ⟨_, rfl, ?_⟩
                        exact ⟨by simp [hzn], st.chg⟩
                      · intro hg98
                        simp [hyz] at hg98
                    · intro hg89
                      simp [hlop] at hg89
                  · intro hg80
                    simp [hop] at hg80
        · intro hc21
          try simp only [decide_eq_true_eq, decide_eq_false_iff_not, Bool.not_eq_true', Bool.not_eq_false', Bool.not_eq_true, Bool.not_eq_false, Int.not_lt, Int.not_le, Nat.not_lt, Nat.not_le, Bool.not_true, Bool.not_false, Bool.true_eq_false, Bool.false_eq_true] at hc21
          subst hc21
          refine vc_code_skip ?_
          refine vq_then ?_
          refine vc_keep [(0, _), (1, _), (7, _)] ⟨rfl, rfl, rfl, trivial⟩ ?_
          refine vc_seq ?_
          refine vc_region ?_
          refine vc_y rfl rfl (y_mv rfl) ?_
          refine vc_e (e_call [_] rfl rfl Tryd.call14 rfl (show_any m hm _ (hsg.kept st.chg (by simp))) ?_)
          rintro _ _ ⟨rfl, rfl⟩
          refine vc_y rfl rfl (y_cat rfl rfl (by simp only [List.length_append, List.length_cons, List.length_nil]; omega)) ?_
          refine vc_y rfl rfl (y_cat rfl rfl (by simp only [List.length_append, List.length_cons, List.length_nil]; omega)) ?_
          refine vc_y rfl rfl (y_mv rfl) ?_
          refine vc_e (e_call [_] rfl rfl Tryd.call14 rfl (show_any n hn _ (hsg.kept st.chg (by simp))) ?_)
          rintro _ _ ⟨rfl, rfl⟩
          refine vc_y rfl rfl (y_cat rfl rfl (by simp only [List.length_append, List.length_cons, List.length_nil]; omega)) ?_
          refine vc_y rfl rfl (y_cat rfl rfl (by simp only [List.length_append, List.length_cons, List.length_nil]; omega)) ?_
          refine vc_y rfl rfl (y_mv rfl) ?_
          refine vc_y rfl rfl (y_cat rfl rfl (by simp only [List.length_append, List.length_cons, List.length_nil]; omega)) ?_
          refine vc_e (e_call [_] rfl rfl Tryd.call8 rfl (expr_any (lvText m n false) _ (hsg.kept st.chg (by simp))) ?_)
          obtain ⟨e, l, r, hR, hk4, hkids, hT1, hT2⟩ := lv_res false hm.2 hn.2 h2 h3
          rintro _ w h
          rw [ExprPost, hR] at h
          obtain ⟨cw, _, ⟨oq, cq, Sq, rfl, hT, hN⟩, rfl⟩ := h
          replace st := st.pushR cw (holds_ex hT) hN.2
          refine vc_y rfl rfl (y_mv rfl) ?_
          refine vc_y rfl rfl (y_ext rfl rfl) ?_
          refine vc_y rfl rfl (y_ext rfl rfl) ?_
          refine vc_y rfl rfl (y_ext rfl rfl) ?_
          refine vc_e (e_al (l := [_, _, _, _, _, _]) st rfl rfl Tryd.zeroValue26 rfl ?_)
          intro b8 w hb8 st
          refine vc_e (e_al (l := [_, _]) st rfl rfl Tryd.zeroValue29 rfl ?_)
          intro b10 w hb10 st
          first
          | refine vc_e (e_sts (vs := [_, _, _, _, _, _]) st 0 rfl rfl rfl rfl rfl Tryd.sizeOf26 rfl rfl (by first | (right; assumption) | (left; simp)) ?_)
          | refine vc_e (e_sts (vs := [_, _, _, _, _, _]) st 1 rfl rfl rfl rfl rfl Tryd.sizeOf26 rfl rfl (by first | (right; assumption) | (left; simp)) ?_)
          | refine vc_e (e_sts (vs := [_, _, _, _, _, _]) st 2 rfl rfl rfl rfl rfl Tryd.sizeOf26 rfl rfl (by first | (right; assumption) | (left; simp)) ?_)
          | refine vc_e (e_sts (vs := [_, _, _, _, _, _]) st 3 rfl rfl rfl rfl rfl Tryd.sizeOf26 rfl rfl (by first | (right; assumption) | (left; simp)) ?_)
          | refine vc_e (e_sts (vs := [_, _, _, _, _, _]) st 4 rfl rfl rfl rfl rfl Tryd.sizeOf26 rfl rfl (by first | (right; assumption) | (left; simp)) ?_)
          | refine vc_e (e_sts (vs := [_, _, _, _, _, _]) st 5 rfl rfl rfl rfl rfl Tryd.sizeOf26 rfl rfl (by first | (right; assumption) | (left; simp)) ?_)
          | refine vc_e (e_sts (vs := [_, _, _, _, _, _]) st 6 rfl rfl rfl rfl rfl Tryd.sizeOf26 rfl rfl (by first | (right; assumption) | (left; simp)) ?_)
          | refine vc_e (e_sts (vs := [_, _, _, _, _, _]) st 7 rfl rfl rfl rfl rfl Tryd.sizeOf26 rfl rfl (by first | (right; assumption) | (left; simp)) ?_)
          | refine vc_e (e_sts (vs := [_, _, _, _, _, _]) st 8 rfl rfl rfl rfl rfl Tryd.sizeOf26 rfl rfl (by first | (right; assumption) | (left; simp)) ?_)
          intro w st; dsimp only [setNth, wr] at st
          refine vc_y rfl rfl (y_as rfl) ?_
          first
          | refine vc_e (e_sts (vs := [_, _]) st 0 rfl rfl rfl rfl rfl Tryd.sizeOf29 rfl rfl (by first | (right; assumption) | (left; simp)) ?_)
          | refine vc_e (e_sts (vs := [_, _]) st 1 rfl rfl rfl rfl rfl Tryd.sizeOf29 rfl rfl (by first | (right; assumption) | (left; simp)) ?_)
          | refine vc_e (e_sts (vs := [_, _]) st 2 rfl rfl rfl rfl rfl Tryd.sizeOf29 rfl rfl (by first | (right; assumption) | (left; simp)) ?_)
          | refine vc_e (e_sts (vs := [_, _]) st 3 rfl rfl rfl rfl rfl Tryd.sizeOf29 rfl rfl (by first | (right; assumption) | (left; simp)) ?_)
          | refine vc_e (e_sts (vs := [_, _]) st 4 rfl rfl rfl rfl rfl Tryd.sizeOf29 rfl rfl (by first | (right; assumption) | (left; simp)) ?_)
          | refine vc_e (e_sts (vs := [_, _]) st 5 rfl rfl rfl rfl rfl Tryd.sizeOf29 rfl rfl (by first | (right; assumption) | (left; simp)) ?_)
          | refine vc_e (e_sts (vs := [_, _]) st 6 rfl rfl rfl rfl rfl Tryd.sizeOf29 rfl rfl (by first | (right; assumption) | (left; simp)) ?_)
          | refine vc_e (e_sts (vs := [_, _]) st 7 rfl rfl rfl rfl rfl Tryd.sizeOf29 rfl rfl (by first | (right; assumption) | (left; simp)) ?_)
          | refine vc_e (e_sts (vs := [_, _]) st 8 rfl rfl rfl rfl rfl Tryd.sizeOf29 rfl rfl (by first | (right; assumption) | (left; simp)) ?_)
          intro w st; dsimp only [setNth, wr] at st
          refine vc_end ?_
          refine vq_then ?_
          refine vc_keep [(0, _), (1, _), (8, _), (9, _)] ⟨rfl, rfl, rfl, rfl, trivial⟩ ?_
          refine vc_seq ?_
          refine vc_seq ?_
          refine vc_region ?_
          refine vc_y rfl rfl (y_mv rfl) ?_
          refine vc_y rfl rfl (y_nei rfl rfl) ?_
          refine vc_e (e_mvb rfl rfl rfl ?_ ?_)
          · intro hg39
            simp at hg39
          · intro hg39
            try simp only [decide_eq_true_eq, decide_eq_false_iff_not, Bool.not_eq_true', Bool.not_eq_false', Bool.not_eq_true, Bool.not_eq_false, Int.not_lt, Int.not_le, Nat.not_lt, Nat.not_le, Bool.not_true, Bool.not_false, Bool.true_eq_false, Bool.false_eq_true] at hg39
            refine vc_y rfl rfl (y_fa0 rfl Tryd.underlying26 rfl rfl Tryd.sizeOf22 rfl) ?_
            refine vc_y rfl rfl ((by first | exact y_ld st 0 rfl Tryd.isAgg22 rfl rfl | exact y_ld st 1 rfl Tryd.isAgg22 rfl rfl | exact y_ld st 2 rfl Tryd.isAgg22 rfl rfl | exact y_ld st 3 rfl Tryd.isAgg22 rfl rfl | exact y_ld st 4 rfl Tryd.isAgg22 rfl rfl | exact y_ld st 5 rfl Tryd.isAgg22 rfl rfl | exact y_ld st 6 rfl Tryd.isAgg22 rfl rfl | exact y_ld st 7 rfl Tryd.isAgg22 rfl rfl | exact y_ld st 8 rfl Tryd.isAgg22 rfl rfl)) ?_
            refine vc_y rfl rfl (y_nei rfl rfl) ?_
            refine vc_y rfl rfl (y_pickf rfl rfl) ?_
            refine vc_e (e_mvb rfl rfl rfl ?_ ?_)
            · intro hg44
              simp [hk4] at hg44
            · intro hg44
              try simp only [decide_eq_true_eq, decide_eq_false_iff_not, Bool.not_eq_true', Bool.not_eq_false', Bool.not_eq_true, Bool.not_eq_false, Int.not_lt, Int.not_le, Nat.not_lt, Nat.not_le, Bool.not_true, Bool.not_false, Bool.true_eq_false, Bool.false_eq_true] at hg44
              refine vc_y rfl rfl ((by first | exact y_faz (k := 4) rfl Tryd.underlying26 rfl rfl Tryd.sizeOf24 rfl | exact y_fa (k := 4) rfl Tryd.underlying26 rfl rfl Tryd.sizeOf24 rfl)) ?_
              refine vc_y rfl rfl ((by first | exact y_ld st 0 rfl Tryd.isAgg24 rfl rfl | exact y_ld st 1 rfl Tryd.isAgg24 rfl rfl | exact y_ld st 2 rfl Tryd.isAgg24 rfl rfl | exact y_ld st 3 rfl Tryd.isAgg24 rfl rfl | exact y_ld st 4 rfl Tryd.isAgg24 rfl rfl | exact y_ld st 5 rfl Tryd.isAgg24 rfl rfl | exact y_ld st 6 rfl Tryd.isAgg24 rfl rfl | exact y_ld st 7 rfl Tryd.isAgg24 rfl rfl | exact y_ld st 8 rfl Tryd.isAgg24 rfl rfl)) ?_
              refine vc_y rfl rfl (y_lensl rfl Tryd.underlying24) ?_
              refine vc_y rfl rfl (y_nei rfl rfl) ?_
              refine vc_y rfl rfl (y_pickf rfl rfl) ?_
              refine vc_end ?_
              refine vq_then ?_
              refine vc_keep [(0, _), (1, _), (8, _), (49, _)] ⟨rfl, rfl, rfl, rfl, trivial⟩ ?_
              refine vc_ifs rfl ?_ ?_
              · intro hc49
                simp [hkids] at hc49
              · intro hc49
                try simp only [decide_eq_true_eq, decide_eq_false_iff_not, Bool.not_eq_true', Bool.not_eq_false', Bool.not_eq_true, Bool.not_eq_false, Int.not_lt, Int.not_le, Nat.not_lt, Nat.not_le, Bool.not_true, Bool.not_false, Bool.true_eq_false, Bool.false_eq_true] at hc49
                refine vc_code_skip ?_
                refine vq_then ?_
                refine vc_keep [(0, _), (1, _), (8, _)] ⟨rfl, rfl, rfl, trivial⟩ ?_
                refine vc_seq ?_
                refine vc_seq ?_
                refine vc_region ?_
                refine vc_y rfl rfl (y_mv rfl) ?_
                refine vc_e (e_call [_] rfl rfl Tryd.call15 rfl (level_any _ _ (hsg.kept st.chg (by simp))) ?_)
                rintro _ _ ⟨rfl, rfl⟩
                refine vc_y rfl rfl (y_mv rfl) ?_
                refine vc_e (e_call [_] rfl rfl Tryd.call15 rfl (level_any _ _ (hsg.kept st.chg (by simp))) ?_)
                rintro _ _ ⟨rfl, rfl⟩
                refine vc_y rfl rfl (y_gtr rfl rfl) ?_
                refine vc_end ?_
                refine vq_then ?_
                refine vc_keep [(0, _), (1, _), (8, _), (54, _)] ⟨rfl, rfl, rfl, rfl, trivial⟩ ?_
                refine vc_ifs rfl ?_ ?_
                · intro hc54
                  try simp only [decide_eq_true_eq, decide_eq_false_iff_not, Bool.not_eq_true', Bool.not_eq_false', Bool.not_eq_true, Bool.not_eq_false, Int.not_lt, Int.not_le, Nat.not_lt, Nat.not_le, Bool.not_true, Bool.not_false, Bool.true_eq_false, Bool.false_eq_true] at hc54
                  refine vc_seq ?_
                  refine vc_region ?_
                  obtain ⟨hop, hnm, hrop⟩ := hT1 hc54
                  obtain ⟨bq, fq, rfl, hq⟩ := (exR_rows (st.res (i := 2) rfl).1).gets (by simp [hkids])
                  obtain ⟨_, _, hl, -⟩ := hq 0 l (by rw [hkids]; rfl)
                  obtain ⟨_, _, hr, -⟩ := hq 1 r (by rw [hkids]; rfl)
                  refine vc_y rfl rfl ((by first | exact y_faz (k := 1) rfl Tryd.underlying26 rfl rfl Tryd.sizeOf23 rfl | exact y_fa (k := 1) rfl Tryd.underlying26 rfl rfl Tryd.sizeOf23 rfl)) ?_
                  refine vc_y rfl rfl ((by first | exact y_ld st 0 rfl Tryd.isAgg23 rfl rfl | exact y_ld st 1 rfl Tryd.isAgg23 rfl rfl | exact y_ld st 2 rfl Tryd.isAgg23 rfl rfl | exact y_ld st 3 rfl Tryd.isAgg23 rfl rfl | exact y_ld st 4 rfl Tryd.isAgg23 rfl rfl | exact y_ld st 5 rfl Tryd.isAgg23 rfl rfl | exact y_ld st 6 rfl Tryd.isAgg23 rfl rfl | exact y_ld st 7 rfl Tryd.isAgg23 rfl rfl | exact y_ld st 8 rfl Tryd.isAgg23 rfl rfl)) ?_
                  refine vc_y rfl rfl (y_mv rfl) ?_
                  refine vc_y rfl rfl (y_eqi rfl rfl) ?_
                  refine vc_e (e_mvb rfl rfl rfl ?_ ?_)
                  · intro hg59
                    try simp only [decide_eq_true_eq, decide_eq_false_iff_not, Bool.not_eq_true', Bool.not_eq_false', Bool.not_eq_true, Bool.not_eq_false, Int.not_lt, Int.not_le, Nat.not_lt, Nat.not_le, Bool.not_true, Bool.not_false, Bool.true_eq_false, Bool.false_eq_true] at hg59
                    refine vc_y rfl rfl ((by first | exact y_faz (k := 4) rfl Tryd.underlying26 rfl rfl Tryd.sizeOf24 rfl | exact y_fa (k := 4) rfl Tryd.underlying26 rfl rfl Tryd.sizeOf24 rfl)) ?_
                    refine vc_y rfl rfl ((by first | exact y_ld st 0 rfl Tryd.isAgg24 rfl rfl | exact y_ld st 1 rfl Tryd.isAgg24 rfl rfl | exact y_ld st 2 rfl Tryd.isAgg24 rfl rfl | exact y_ld st 3 rfl Tryd.isAgg24 rfl rfl | exact y_ld st 4 rfl Tryd.isAgg24 rfl rfl | exact y_ld st 5 rfl Tryd.isAgg24 rfl rfl | exact y_ld st 6 rfl Tryd.isAgg24 rfl rfl | exact y_ld st 7 rfl Tryd.isAgg24 rfl rfl | exact y_ld st 8 rfl Tryd.isAgg24 rfl rfl)) ?_
                    refine vc_y rfl rfl ((by first | exact y_ia0 (k := 0) rfl rfl Tryd.underlying24 Tryd.sizeOf26 rfl (by simp [hkids]) | exact y_ia (k := 0) rfl rfl Tryd.underlying24 Tryd.sizeOf26 rfl (by simp [hkids]))) ?_
                    refine vc_y rfl rfl ((by first | exact y_faz (k := 3) rfl Tryd.underlying26 rfl rfl Tryd.sizeOf9 rfl | exact y_fa (k := 3) rfl Tryd.underlying26 rfl rfl Tryd.sizeOf9 rfl)) ?_
                    refine vc_y rfl rfl ((by first | exact y_ldc rfl Tryd.isAgg9 (hl 3 _ rfl) | exact y_ld st 0 rfl Tryd.isAgg9 rfl rfl | exact y_ld st 1 rfl Tryd.isAgg9 rfl rfl | exact y_ld st 2 rfl Tryd.isAgg9 rfl rfl | exact y_ld st 3 rfl Tryd.isAgg9 rfl rfl | exact y_ld st 4 rfl Tryd.isAgg9 rfl rfl | exact y_ld st 5 rfl Tryd.isAgg9 rfl rfl | exact y_ld st 6 rfl Tryd.isAgg9 rfl rfl | exact y_ld st 7 rfl Tryd.isAgg9 rfl rfl | exact y_ld st 8 rfl Tryd.isAgg9 rfl rfl)) ?_
                    refine vc_y rfl rfl (y_eqs rfl rfl) ?_
                    refine vc_y rfl rfl (y_pickt rfl rfl) ?_
                    refine vc_e (e_mvb rfl rfl rfl ?_ ?_)
                    · intro hg67
                      try simp only [decide_eq_true_eq, decide_eq_false_iff_not, Bool.not_eq_true', Bool.not_eq_false', Bool.not_eq_true, Bool.not_eq_false, Int.not_lt, Int.not_le, Nat.not_lt, Nat.not_le, Bool.not_true, Bool.not_false, Bool.true_eq_false, Bool.false_eq_true] at hg67
                      refine vc_y rfl rfl ((by first | exact y_faz (k := 4) rfl Tryd.underlying26 rfl rfl Tryd.sizeOf24 rfl | exact y_fa (k := 4) rfl Tryd.underlying26 rfl rfl Tryd.sizeOf24 rfl)) ?_
                      refine vc_y rfl rfl ((by first | exact y_ld st 0 rfl Tryd.isAgg24 rfl rfl | exact y_ld st 1 rfl Tryd.isAgg24 rfl rfl | exact y_ld st 2 rfl Tryd.isAgg24 rfl rfl | exact y_ld st 3 rfl Tryd.isAgg24 rfl rfl | exact y_ld st 4 rfl Tryd.isAgg24 rfl rfl | exact y_ld st 5 rfl Tryd.isAgg24 rfl rfl | exact y_ld st 6 rfl Tryd.isAgg24 rfl rfl | exact y_ld st 7 rfl Tryd.isAgg24 rfl rfl | exact y_ld st 8 rfl Tryd.isAgg24 rfl rfl)) ?_
                      refine vc_y rfl rfl ((by first | exact y_ia0 (k := 1) rfl rfl Tryd.underlying24 Tryd.sizeOf26 rfl (by simp [hkids]) | exact y_ia (k := 1) rfl rfl Tryd.underlying24 Tryd.sizeOf26 rfl (by simp [hkids]))) ?_
                      refine vc_y rfl rfl ((by first | exact y_faz (k := 1) rfl Tryd.underlying26 rfl rfl Tryd.sizeOf23 rfl | exact y_fa (k := 1) rfl Tryd.underlying26 rfl rfl Tryd.sizeOf23 rfl)) ?_
                      refine vc_y rfl rfl ((by first | exact y_ldc rfl Tryd.isAgg23 (hr 1 _ rfl) | exact y_ld st 0 rfl Tryd.isAgg23 rfl rfl | exact y_ld st 1 rfl Tryd.isAgg23 rfl rfl | exact y_ld st 2 rfl Tryd.isAgg23 rfl rfl | exact y_ld st 3 rfl Tryd.isAgg23 rfl rfl | exact y_ld st 4 rfl Tryd.isAgg23 rfl rfl | exact y_ld st 5 rfl Tryd.isAgg23 rfl rfl | exact y_ld st 6 rfl Tryd.isAgg23 rfl rfl | exact y_ld st 7 rfl Tryd.isAgg23 rfl rfl | exact y_ld st 8 rfl Tryd.isAgg23 rfl rfl)) ?_
                      refine vc_y rfl rfl (y_mv rfl) ?_
                      refine vc_y rfl rfl (y_eqi rfl rfl) ?_
                      refine vc_y rfl rfl (y_pickt rfl rfl) ?_
                      refine vc_y rfl rfl (y_as rfl) ?_
                      refine vc_end ?_
                      refine vq_then ?_
                      refine vc_keep [(6, _)] ⟨rfl, trivial⟩ ?_
                      refine vc_ret ?_
                      refine vq_then_ret ?_
                      refine vq_ret1 st (.inl rfl) Tryd.results4 (.tmp rfl) ?_
                      refine ⟨_, rfl, ?_⟩
                      exact ⟨by simp [hrop], st.chg⟩
                    · intro hg67
                      simp [hnm] at hg67
                  · intro hg59
                    simp [hop] at hg59
                · intro hc54
                  try simp only [decide_eq_true_eq, decide_eq_false_iff_not, Bool.not_eq_true', Bool.not_eq_false', Bool.not_eq_true, Bool.not_eq_false, Int.not_lt, Int.not_le, Nat.not_lt, Nat.not_le, Bool.not_true, Bool.not_false, Bool.true_eq_false, Bool.false_eq_true] at hc54
                  refine vc_code_skip ?_
                  refine vq_then ?_
                  refine vc_keep [(0, _), (1, _), (8, _)] ⟨rfl, rfl, rfl, trivial⟩ ?_
                  refine vc_seq ?_
                  refine vc_region ?_
                  obtain ⟨hop, hlop, y, z, hyz, hzn⟩ := hT2 (by omega)
                  obtain ⟨bq, fq, rfl, hq⟩ := (exR_rows (st.res (i := 2) rfl).1).gets (by simp [hkids])
                  obtain ⟨_, _, hl, hlr⟩ := hq 0 l (by rw [hkids]; rfl)
                  obtain ⟨bl, fl, rfl, hy⟩ := hlr.gets (by simp [hyz])
                  obtain ⟨_, _, hyc, -⟩ := hy 1 z (by rw [hyz]; rfl)
                  refine vc_y rfl rfl ((by first | exact y_faz (k := 1) rfl Tryd.underlying26 rfl rfl Tryd.sizeOf23 rfl | exact y_fa (k := 1) rfl Tryd.underlying26 rfl rfl Tryd.sizeOf23 rfl)) ?_
                  refine vc_y rfl rfl ((by first | exact y_ld st 0 rfl Tryd.isAgg23 rfl rfl | exact y_ld st 1 rfl Tryd.isAgg23 rfl rfl | exact y_ld st 2 rfl Tryd.isAgg23 rfl rfl | exact y_ld st 3 rfl Tryd.isAgg23 rfl rfl | exact y_ld st 4 rfl Tryd.isAgg23 rfl rfl | exact y_ld st 5 rfl Tryd.isAgg23 rfl rfl | exact y_ld st 6 rfl Tryd.isAgg23 rfl rfl | exact y_ld st 7 rfl Tryd.isAgg23 rfl rfl | exact y_ld st 8 rfl Tryd.isAgg23 rfl rfl)) ?_
                  refine vc_y rfl rfl (y_mv rfl) ?_
                  refine vc_y rfl rfl (y_eqi rfl rfl) ?_
                  refine vc_e (e_mvb rfl rfl rfl ?_ ?_)
                  · intro hg80
                    try simp only [decide_eq_true_eq, decide_eq_false_iff_not, Bool.not_eq_true', Bool.not_eq_false', Bool.not_eq_true, Bool.not_eq_false, Int.not_lt, Int.not_le, Nat.not_lt, Nat.not_le, Bool.not_true, Bool.not_false, Bool.true_eq_false, Bool.false_eq_true] at hg80
                    refine vc_y rfl rfl ((by first | exact y_faz (k := 4) rfl Tryd.underlying26 rfl rfl Tryd.sizeOf24 rfl | exact y_fa (k := 4) rfl Tryd.underlying26 rfl rfl Tryd.sizeOf24 rfl)) ?_
                    refine vc_y rfl rfl ((by first | exact y_ld st 0 rfl Tryd.isAgg24 rfl rfl | exact y_ld st 1 rfl Tryd.isAgg24 rfl rfl | exact y_ld st 2 rfl Tryd.isAgg24 rfl rfl | exact y_ld st 3 rfl Tryd.isAgg24 rfl rfl | exact y_ld st 4 rfl Tryd.isAgg24 rfl rfl | exact y_ld st 5 rfl Tryd.isAgg24 rfl rfl | exact y_ld st 6 rfl Tryd.isAgg24 rfl rfl | exact y_ld st 7 rfl Tryd.isAgg24 rfl rfl | exact y_ld st 8 rfl Tryd.isAgg24 rfl rfl)) ?_
                    refine vc_y rfl rfl ((by first | exact y_ia0 (k := 0) rfl rfl Tryd.underlying24 Tryd.sizeOf26 rfl (by simp [hkids]) | exact y_ia (k := 0) rfl rfl Tryd.underlying24 Tryd.sizeOf26 rfl (by simp [hkids]))) ?_
                    refine vc_y rfl rfl ((by first | exact y_faz (k := 1) rfl Tryd.underlying26 rfl rfl Tryd.sizeOf23 rfl | exact y_fa (k := 1) rfl Tryd.underlying26 rfl rfl Tryd.sizeOf23 rfl)) ?_
                    refine vc_y rfl rfl ((by first | exact y_ldc rfl Tryd.isAgg23 (hl 1 _ rfl) | exact y_ld st 0 rfl Tryd.isAgg23 rfl rfl | exact y_ld st 1 rfl Tryd.isAgg23 rfl rfl | exact y_ld st 2 rfl Tryd.isAgg23 rfl rfl | exact y_ld st 3 rfl Tryd.isAgg23 rfl rfl | exact y_ld st 4 rfl Tryd.isAgg23 rfl rfl | exact y_ld st 5 rfl Tryd.isAgg23 rfl rfl | exact y_ld st 6 rfl Tryd.isAgg23 rfl rfl | exact y_ld st 7 rfl Tryd.isAgg23 rfl rfl | exact y_ld st 8 rfl Tryd.isAgg23 rfl rfl)) ?_
                    refine vc_y rfl rfl (y_mv rfl) ?_
                    refine vc_y rfl rfl (y_eqi rfl rfl) ?_
                    refine vc_y rfl rfl (y_pickt rfl rfl) ?_
                    refine vc_e (e_mvb rfl rfl rfl ?_ ?_)
                    · intro hg89
                      try simp only [decide_eq_true_eq, decide_eq_false_iff_not, Bool.not_eq_true', Bool.not_eq_false', Bool.not_eq_true, Bool.not_eq_false, Int.not_lt, Int.not_le, Nat.not_lt, Nat.not_le, Bool.not_true, Bool.not_false, Bool.true_eq_false, Bool.false_eq_true] at hg89
                      refine vc_y rfl rfl ((by first | exact y_faz (k := 4) rfl Tryd.underlying26 rfl rfl Tryd.sizeOf24 rfl | exact y_fa (k := 4) rfl Tryd.underlying26 rfl rfl Tryd.sizeOf24 rfl)) ?_
                      refine vc_y rfl rfl ((by first | exact y_ld st 0 rfl Tryd.isAgg24 rfl rfl | exact y_ld st 1 rfl Tryd.isAgg24 rfl rfl | exact y_ld st 2 rfl Tryd.isAgg24 rfl rfl | exact y_ld st 3 rfl Tryd.isAgg24 rfl rfl | exact y_ld st 4 rfl Tryd.isAgg24 rfl rfl | exact y_ld st 5 rfl Tryd.isAgg24 rfl rfl | exact y_ld st 6 rfl Tryd.isAgg24 rfl rfl | exact y_ld st 7 rfl Tryd.isAgg24 rfl rfl | exact y_ld st 8 rfl Tryd.isAgg24 rfl rfl)) ?_
                      refine vc_y rfl rfl ((by first | exact y_ia0 (k := 0) rfl rfl Tryd.underlying24 Tryd.sizeOf26 rfl (by simp [hkids]) | exact y_ia (k := 0) rfl rfl Tryd.underlying24 Tryd.sizeOf26 rfl (by simp [hkids]))) ?_
                      refine vc_y rfl rfl ((by first | exact y_faz (k := 4) rfl Tryd.underlying26 rfl rfl Tryd.sizeOf24 rfl | exact y_fa (k := 4) rfl Tryd.underlying26 rfl rfl Tryd.sizeOf24 rfl)) ?_
                      refine vc_y rfl rfl ((by first | exact y_ldc rfl Tryd.isAgg24 (hl 4 _ rfl) | exact y_ld st 0 rfl Tryd.isAgg24 rfl rfl | exact y_ld st 1 rfl Tryd.isAgg24 rfl rfl | exact y_ld st 2 rfl Tryd.isAgg24 rfl rfl | exact y_ld st 3 rfl Tryd.isAgg24 rfl rfl | exact y_ld st 4 rfl Tryd.isAgg24 rfl rfl | exact y_ld st 5 rfl Tryd.isAgg24 rfl rfl | exact y_ld st 6 rfl Tryd.isAgg24 rfl rfl | exact y_ld st 7 rfl Tryd.isAgg24 rfl rfl | exact y_ld st 8 rfl Tryd.isAgg24 rfl rfl)) ?_
                      refine vc_y rfl rfl (y_lensl rfl Tryd.underlying24) ?_
                      refine vc_y rfl rfl (y_eqi rfl rfl) ?_
                      refine vc_y rfl rfl (y_pickt rfl rfl) ?_
                      refine vc_e (e_mvb rfl rfl rfl ?_ ?_)
                      · intro hg98
                        try simp only [decide_eq_true_eq, decide_eq_false_iff_not, Bool.not_eq_true', Bool.not_eq_false', Bool.not_eq_true, Bool.not_eq_false, Int.not_lt, Int.not_le, Nat.not_lt, Nat.not_le, Bool.not_true, Bool.not_false, Bool.true_eq_false, Bool.false_eq_true] at hg98
                        refine vc_y rfl rfl ((by first | exact y_faz (k := 4) rfl Tryd.underlying26 rfl rfl Tryd.sizeOf24 rfl | exact y_fa (k := 4) rfl Tryd.underlying26 rfl rfl Tryd.sizeOf24 rfl)) ?_
                        refine vc_y rfl rfl ((by first | exact y_ld st 0 rfl Tryd.isAgg24 rfl rfl | exact y_ld st 1 rfl Tryd.isAgg24 rfl rfl | exact y_ld st 2 rfl Tryd.isAgg24 rfl rfl | exact y_ld st 3 rfl Tryd.isAgg24 rfl rfl | exact y_ld st 4 rfl Tryd.isAgg24 rfl rfl | exact y_ld st 5 rfl Tryd.isAgg24 rfl rfl | exact y_ld st 6 rfl Tryd.isAgg24 rfl rfl | exact y_ld st 7 rfl Tryd.isAgg24 rfl rfl | exact y_ld st 8 rfl Tryd.isAgg24 rfl rfl)) ?_
                        refine vc_y rfl rfl ((by first | exact y_ia0 (k := 0) rfl rfl Tryd.underlying24 Tryd.sizeOf26 rfl (by simp [hkids]) | exact y_ia (k := 0) rfl rfl Tryd.underlying24 Tryd.sizeOf26 rfl (by simp [hkids]))) ?_
                        refine vc_y rfl rfl ((by first | exact y_faz (k := 4) rfl Tryd.underlying26 rfl rfl Tryd.sizeOf24 rfl | exact y_fa (k := 4) rfl Tryd.underlying26 rfl rfl Tryd.sizeOf24 rfl)) ?_
                        refine vc_y rfl rfl ((by first | exact y_ldc rfl Tryd.isAgg24 (hl 4 _ rfl) | exact y_ld st 0 rfl Tryd.isAgg24 rfl rfl | exact y_ld st 1 rfl Tryd.isAgg24 rfl rfl | exact y_ld st 2 rfl Tryd.isAgg24 rfl rfl | exact y_ld st 3 rfl Tryd.isAgg24 rfl rfl | exact y_ld st 4 rfl Tryd.isAgg24 rfl rfl | exact y_ld st 5 rfl Tryd.isAgg24 rfl rfl | exact y_ld st 6 rfl Tryd.isAgg24 rfl rfl | exact y_ld st 7 rfl Tryd.isAgg24 rfl rfl | exact y_ld st 8 rfl Tryd.isAgg24 rfl rfl)) ?_
                        refine vc_y rfl rfl ((by first | exact y_ia0 (k := 1) rfl rfl Tryd.underlying24 Tryd.sizeOf26 rfl (by simp [hyz]) | exact y_ia (k := 1) rfl rfl Tryd.underlying24 Tryd.sizeOf26 rfl (by simp [hyz]))) ?_
                        refine vc_y rfl rfl ((by first | exact y_faz (k := 3) rfl Tryd.underlying26 rfl rfl Tryd.sizeOf9 rfl | exact y_fa (k := 3) rfl Tryd.underlying26 rfl rfl Tryd.sizeOf9 rfl)) ?_
                        refine vc_y rfl rfl ((by first | exact y_ldc rfl Tryd.isAgg9 (hyc 3 _ rfl) | exact y_ld st 0 rfl Tryd.isAgg9 rfl rfl | exact y_ld st 1 rfl Tryd.isAgg9 rfl rfl | exact y_ld st 2 rfl Tryd.isAgg9 rfl rfl | exact y_ld st 3 rfl Tryd.isAgg9 rfl rfl | exact y_ld st 4 rfl Tryd.isAgg9 rfl rfl | exact y_ld st 5 rfl Tryd.isAgg9 rfl rfl | exact y_ld st 6 rfl Tryd.isAgg9 rfl rfl | exact y_ld st 7 rfl Tryd.isAgg9 rfl rfl | exact y_ld st 8 rfl Tryd.isAgg9 rfl rfl)) ?_
                        refine vc_y rfl rfl (y_eqs rfl rfl) ?_
                        refine vc_y rfl rfl (y_pickt rfl rfl) ?_
                        refine vc_y rfl rfl (y_as rfl) ?_
                        refine vc_end ?_
                        refine vq_then ?_
                        refine vc_keep [(6, _)] ⟨rfl, trivial⟩ ?_
                        refine vc_ret ?_
                        refine vq_ret1 st (.inl rfl) Tryd.results4 (.tmp rfl) ?_
                        refine ⟨_, rfl, ?_⟩
                        exact ⟨by simp [hzn], st.chg⟩
                      · intro hg98
                        simp [hyz] at hg98
                    · intro hg89
                      simp [hlop] at hg89
                  · intro hg80
                    simp [hop] at hg80

end Go.Proofs.YtggnfanphcaamaaDoor

