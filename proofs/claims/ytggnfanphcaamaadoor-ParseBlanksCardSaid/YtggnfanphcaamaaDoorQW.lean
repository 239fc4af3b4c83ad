/- A part of the proof: contracts of functions and plain laws; each theorem says its own conditions. -/
import Derived.Test.YtggnfanphcaamaaDoorK14
import Derived.Test.YtggnfanphcaamaaDoorK15
import Derived.Test.YtggnfanphcaamaaDoorK16
namespace Go.Proofs.YtggnfanphcaamaaDoor
open Go.RowKit Sx LexS ParS
set_option linter.unusedVariables false
set_option linter.unusedSimpArgs false
theorem Tryd.info5 : Tryd.prog.info? 5 = some Tryd.t5 := by kernel_rfl
theorem tok_cells {ts : List Tok} {j : Nat} {t : Tok} (h : ts[j]? = some t) : ∀ k v, (tkL t)[k]? = some v → (toksL ts)[j * 4 + k]? = some v := by
  intro k v hk
  have h1 := toks_chunk h
  have hk4 : k < 4 := (List.getElem?_eq_some_iff.1 hk).1
  rw [← h1, List.getElem?_take, if_pos hk4, List.getElem?_drop] at hk
  exact hk
abbrev sepL : List Value := [str (sepB 0), str (sepB 1), str (sepB 2), str (sepB 3), str (sepB 4)]
theorem sepL_at (m : Nat) (h : m < 5) : sepL[m]? = some (str (sepB m)) := by
  match m, h with
  | 0, _ => rfl
  | 1, _ => rfl
  | 2, _ => rfl
  | 3, _ => rfl
  | 4, _ => rfl
theorem cell_nth {w : World} {b E : Nat} {l : List Value} {fz : Nat × Nat} {i : Nat} {v : Value} (h : w.heap[b]? = some (.cells l.toArray E fz)) (hv : l[i]? = some v) : w.cell? ⟨b, i, none⟩ = some v := by
  simp only [World.cell?, h, Option.bind_eq_bind, Option.bind_some, List.getElem?_toArray]; exact hv
theorem bytes_app (a b : List UInt8) : bytesL (a ++ b) = bytesL a ++ bytesL b := by simp [bytesL]
theorem parse_scan {s : List UInt8} {T : List Tok} {e a r e1 b c : Nat} {p : Pg} (h : scanRes s = (T, e, a, r)) (hp : parseRes s = (p, e1, b, c)) (h0 : e1 = 0) : e = 0 := by
  subst h0
  unfold parseRes at hp
  unfold scanRes at h
  split at hp
  · simp at hp
  · rename_i hl
    rw [if_neg hl] at h
    cases hf : (front s).2 with
    | none => rw [hf] at h; simp only [Prod.mk.injEq] at h; exact h.2.1.symm
    | some q => rw [hf] at hp; simp at hp
theorem scan_zero {s : List UInt8} {T : List Tok} {a r : Nat} (h : scanRes s = (T, 0, a, r)) : s.length ≤ 65536 ∧ front s = (T, none) := by
  unfold scanRes at h
  split at h
  · simp at h
  · rename_i hl
    cases hf : (front s).2 with
    | none => rw [hf] at h; simp only [Prod.mk.injEq] at h; exact ⟨by omega, Prod.ext h.1 hf⟩
    | some q => rw [hf] at h; simp at h
theorem glue_le {s gaps : List UInt8} {T : List Tok} (hs : s.length ≤ 65536) (hf : front s = (T, none)) (j : Nat) : T.length ≤ 65536 ∧ (∀ t ∈ T, t.text.length ≤ 65536) ∧ (glueB gaps 0 (T.take j)).length ≤ 4295950000 := by
  obtain ⟨h1, h2⟩ := front_ok hf
  rw [front_eq] at hf
  have h3 := scan_at T s 0 hf
  have h4 : ∀ t ∈ T, t.text.length ≤ 65536 := fun t ht => by have := h3 t ht; omega
  refine ⟨by omega, h4, Nat.le_trans (glueB_len gaps (T.take j) 0 65536 (fun t ht => h4 t (List.mem_of_mem_take ht))) ?_⟩
  have h5 : (T.take j).length ≤ 65536 := by rw [List.length_take]; omega
  have := Nat.mul_le_mul_right (13 + 65536) h5
  omega

theorem parse_ok {s : List UInt8} {p : Pg} {e a b : Nat} (hs : s.length ≤ 65536) (h : parseRes s = (p, e, a, b)) : OkP p := by
  by_cases h0 : e = 0
  · subst h0; exact (parse_right h).2
  · have : p = pg0 := by
      unfold parseRes at h
      split at h
      · cases h; rfl
      · split at h
        · cases h; rfl
        · split at h
          · cases h; rfl
          · cases h; exact absurd rfl h0
    subst this
    exact ⟨⟨by simp [pg0], by simp [pg0]⟩, ⟨by simp [pg0], by simp [pg0]⟩, ⟨by simp [pg0], by simp [pg0]⟩⟩

set_option maxHeartbeats 2000000 in
theorem blanks_any (s gaps : List UInt8) (og : Option Addr) (cg : Nat) (w : World) (hsg : SigAt 0 w) (hG : gaps.length = 0 ∨ ∃ b off, og = some ⟨b, off, none⟩ ∧ ∀ j, j < gaps.length → w.cell? ⟨b, off + j, none⟩ = some (.int .u8 (((gaps.getD j 0).toNat : Nat) : Int))) :
    Ret Tryd.prog 5 [str s, .slice og gaps.length cg] w fun v w' => v = .bool true ∧ Chg [] w w' := by
  refine ret_of [_, _] Tryd.func5 rfl Tryd.ntmps5 rfl ?_
  have st := St.init w []
  obtain ⟨w0, rfl⟩ : ∃ w0, w0 = w := ⟨_, rfl⟩
  refine vc_seq ?_
  refine vc_region ?_
  refine vc_y rfl rfl (y_as rfl) ?_
  refine vc_end ?_
  refine vq_then ?_
  refine vc_keep [(0, _), (1, _)] ⟨rfl, rfl, trivial⟩ ?_
  refine vc_seq ?_
  refine vc_seq ?_
  refine vc_region ?_
  refine vc_e (e_call [] rfl rfl Tryd.call10 rfl (lives_any _ hsg) ?_)
  rintro _ w ⟨rfl, cw⟩
  replace st := st.call0 cw
  refine vc_y rfl rfl (y_not rfl) ?_
  refine vc_end ?_
  refine vq_then ?_
  refine vc_keep [(0, _), (1, _), (20, _)] ⟨rfl, rfl, rfl, trivial⟩ ?_
  refine vc_ifs rfl ?_ ?_
  · intro hc20
    exact absurd hc20 (by decide)
  · intro hc20
    try simp only [decide_eq_true_eq, decide_eq_false_iff_not, Bool.not_eq_true', Bool.not_eq_false', Bool.not_eq_true, Bool.not_eq_false, Int.not_lt, Int.not_le, Nat.not_lt, Nat.not_le, Bool.not_true, Bool.not_false, Bool.true_eq_false, Bool.false_eq_true] at hc20
    refine vc_code_skip ?_
    refine vq_then ?_
    refine vc_keep [(0, _), (1, _)] ⟨rfl, rfl, trivial⟩ ?_
    refine vc_seq ?_
    refine vc_region ?_
    refine vc_y rfl rfl (y_mv rfl) ?_
    refine vc_e (e_call [_] rfl rfl Tryd.call16 rfl (parse_any s _ (hsg.kept st.chg (by simp))) ?_)
    rintro _ w h
    rw [ParsePost] at h
    obtain ⟨p1, e1, fp1, fr1, hR1⟩ : ∃ x e fp fr, parseRes s = (x, e, fp, fr) := ⟨_, _, _, _, rfl⟩
    rw [hR1] at h
    dsimp only at h
    obtain ⟨cw, _, ⟨os1, ol1, ot1, cs1, cl1, ct1, Sq1, rfl, hT, hN⟩, rfl⟩ := h
    replace st := st.pushR cw (holds_pg hT) hN.2
    refine vc_y rfl rfl (y_mv rfl) ?_
    refine vc_y rfl rfl (y_ext rfl rfl) ?_
    refine vc_y rfl rfl (y_ext rfl rfl) ?_
    refine vc_y rfl rfl (y_ext rfl rfl) ?_
    refine vc_e (e_al (l := [_, _, _]) st rfl rfl Tryd.zeroValue44 rfl ?_)
    intro b5 w hb5 st
    refine vc_e (e_al (l := [_, _]) st rfl rfl Tryd.zeroValue29 rfl ?_)
    intro b7 w hb7 st
    first
    | refine vc_e (e_sts (vs := [_, _, _]) st 0 rfl rfl rfl rfl rfl Tryd.sizeOf44 rfl rfl (by first | (right; assumption) | (left; simp)) ?_)
    | refine vc_e (e_sts (vs := [_, _, _]) st 1 rfl rfl rfl rfl rfl Tryd.sizeOf44 rfl rfl (by first | (right; assumption) | (left; simp)) ?_)
    | refine vc_e (e_sts (vs := [_, _, _]) st 2 rfl rfl rfl rfl rfl Tryd.sizeOf44 rfl rfl (by first | (right; assumption) | (left; simp)) ?_)
    | refine vc_e (e_sts (vs := [_, _, _]) st 3 rfl rfl rfl rfl rfl Tryd.sizeOf44 rfl rfl (by first | (right; assumption) | (left; simp)) ?_)
    | refine vc_e (e_sts (vs := [_, _, _]) st 4 rfl rfl rfl rfl rfl Tryd.sizeOf44 rfl rfl (by first | (right; assumption) | (left; simp)) ?_)
    | refine vc_e (e_sts (vs := [_, _, _]) st 5 rfl rfl rfl rfl rfl Tryd.sizeOf44 rfl rfl (by first | (right; assumption) | (left; simp)) ?_)
    | refine vc_e (e_sts (vs := [_, _, _]) st 6 rfl rfl rfl rfl rfl Tryd.sizeOf44 rfl rfl (by first | (right; assumption) | (left; simp)) ?_)
    | refine vc_e (e_sts (vs := [_, _, _]) st 7 rfl rfl rfl rfl rfl Tryd.sizeOf44 rfl rfl (by first | (right; assumption) | (left; simp)) ?_)
    | refine vc_e (e_sts (vs := [_, _, _]) st 8 rfl rfl rfl rfl rfl Tryd.sizeOf44 rfl rfl (by first | (right; assumption) | (left; simp)) ?_)
    intro w st; dsimp only [setNth, wr] at st
    refine vc_y rfl rfl (y_as rfl) ?_
    first
    | refine vc_e (e_sts (vs := [_, _]) st 0 rfl rfl rfl rfl rfl Tryd.sizeOf29 rfl rfl (by first | (right; assumption) | (left; simp)) ?_)
    | refine vc_e (e_sts (vs := [_, _]) st 1 rfl rfl rfl rfl rfl Tryd.sizeOf29 rfl rfl (by first | (right; assumption) | (left; simp)) ?_)
    | refine vc_e (e_sts (vs := [_, _]) st 2 rfl rfl rfl rfl rfl Tryd.sizeOf29 rfl rfl (by first | (right; assumption) | (left; simp)) ?_)
    | refine vc_e (e_sts (vs := [_, _]) st 3 rfl rfl rfl rfl rfl Tryd.sizeOf29 rfl rfl (by first | (right; assumption) | (left; simp)) ?_)
    | refine vc_e (e_sts (vs := [_, _]) st 4 rfl rfl rfl rfl rfl Tryd.sizeOf29 rfl rfl (by first | (right; assumption) | (left; simp)) ?_)
    | refine vc_e (e_sts (vs := [_, _]) st 5 rfl rfl rfl rfl rfl Tryd.sizeOf29 rfl rfl (by first | (right; assumption) | (left; simp)) ?_)
    | refine vc_e (e_sts (vs := [_, _]) st 6 rfl rfl rfl rfl rfl Tryd.sizeOf29 rfl rfl (by first | (right; assumption) | (left; simp)) ?_)
    | refine vc_e (e_sts (vs := [_, _]) st 7 rfl rfl rfl rfl rfl Tryd.sizeOf29 rfl rfl (by first | (right; assumption) | (left; simp)) ?_)
    | refine vc_e (e_sts (vs := [_, _]) st 8 rfl rfl rfl rfl rfl Tryd.sizeOf29 rfl rfl (by first | (right; assumption) | (left; simp)) ?_)
    intro w st; dsimp only [setNth, wr] at st
    refine vc_end ?_
    refine vq_then ?_
    refine vc_keep [(0, _), (1, _), (5, _), (6, _)] ⟨rfl, rfl, rfl, rfl, trivial⟩ ?_
    refine vc_seq ?_
    refine vc_region ?_
    refine vc_y rfl rfl (y_mv rfl) ?_
    refine vc_e (e_call [_] rfl rfl Tryd.call17 rfl (scan_any s _) ?_)
    rintro _ w ⟨cw, to, tc, rfl, hown⟩
    replace st := St.pushOwn st cw hown
    obtain ⟨T, e, pl, ru, hT⟩ : ∃ T e pl ru, scanRes s = (T, e, pl, ru) := ⟨_, _, _, _, rfl⟩
    rw [hT] at st hown ⊢
    dsimp only at st hown ⊢
    refine vc_y rfl rfl (y_mv rfl) ?_
    refine vc_y rfl rfl (y_ext rfl rfl) ?_
    refine vc_y rfl rfl (y_ext rfl rfl) ?_
    refine vc_y rfl rfl (y_ext rfl rfl) ?_
    refine vc_e (e_al (l := [_, _]) st rfl rfl Tryd.zeroValue29 rfl ?_)
    intro b10 w hb10 st
    refine vc_y rfl rfl (y_as rfl) ?_
    refine vc_y rfl rfl (y_as rfl) ?_
    first
    | refine vc_e (e_sts (vs := [_, _]) st 0 rfl rfl rfl rfl rfl Tryd.sizeOf29 rfl rfl (by first | (right; assumption) | (left; simp)) ?_)
    | refine vc_e (e_sts (vs := [_, _]) st 1 rfl rfl rfl rfl rfl Tryd.sizeOf29 rfl rfl (by first | (right; assumption) | (left; simp)) ?_)
    | refine vc_e (e_sts (vs := [_, _]) st 2 rfl rfl rfl rfl rfl Tryd.sizeOf29 rfl rfl (by first | (right; assumption) | (left; simp)) ?_)
    | refine vc_e (e_sts (vs := [_, _]) st 3 rfl rfl rfl rfl rfl Tryd.sizeOf29 rfl rfl (by first | (right; assumption) | (left; simp)) ?_)
    | refine vc_e (e_sts (vs := [_, _]) st 4 rfl rfl rfl rfl rfl Tryd.sizeOf29 rfl rfl (by first | (right; assumption) | (left; simp)) ?_)
    | refine vc_e (e_sts (vs := [_, _]) st 5 rfl rfl rfl rfl rfl Tryd.sizeOf29 rfl rfl (by first | (right; assumption) | (left; simp)) ?_)
    | refine vc_e (e_sts (vs := [_, _]) st 6 rfl rfl rfl rfl rfl Tryd.sizeOf29 rfl rfl (by first | (right; assumption) | (left; simp)) ?_)
    | refine vc_e (e_sts (vs := [_, _]) st 7 rfl rfl rfl rfl rfl Tryd.sizeOf29 rfl rfl (by first | (right; assumption) | (left; simp)) ?_)
    | refine vc_e (e_sts (vs := [_, _]) st 8 rfl rfl rfl rfl rfl Tryd.sizeOf29 rfl rfl (by first | (right; assumption) | (left; simp)) ?_)
    intro w st; dsimp only [setNth, wr] at st
    refine vc_end ?_
    refine vq_then ?_
    refine vc_keep [(1, _), (5, _), (6, _), (8, _), (9, _)] ⟨rfl, rfl, rfl, rfl, rfl, trivial⟩ ?_
    refine vc_seq ?_
    refine vc_seq ?_
    refine vc_region ?_
    refine vc_y rfl rfl (y_mv rfl) ?_
    refine vc_y rfl rfl (y_nei rfl rfl) ?_
    refine vc_e (e_mvb rfl rfl rfl ?_ ?_)
    · intro hg35
      try simp only [decide_eq_true_eq, decide_eq_false_iff_not, Bool.not_eq_true', Bool.not_eq_false', Bool.not_eq_true, Bool.not_eq_false, Int.not_lt, Int.not_le, Nat.not_lt, Nat.not_le, Bool.not_true, Bool.not_false, Bool.true_eq_false, Bool.false_eq_true] at hg35
      refine vc_e (e_skip rfl rfl ?_)
      refine vc_e (e_skip rfl rfl ?_)
      refine vc_y rfl rfl (y_pickt rfl rfl) ?_
      refine vc_end ?_
      refine vq_then ?_
      refine vc_keep [(1, _), (5, _), (6, _), (8, _), (38, _)] ⟨rfl, rfl, rfl, rfl, rfl, trivial⟩ ?_
      refine vc_ift rfl ?_
      refine vc_seq ?_
      refine vc_region ?_
      refine vc_y rfl rfl (y_mv rfl) ?_
      refine vc_y rfl rfl (y_nei rfl rfl) ?_
      refine vc_y rfl rfl (y_as rfl) ?_
      refine vc_end ?_
      refine vq_then ?_
      refine vc_keep [(4, _)] ⟨rfl, trivial⟩ ?_
      refine vc_ret ?_
      refine vq_then_ret ?_
      refine vq_ret1 st (.inl rfl) Tryd.results5 (.tmp rfl) ?_
      refine ⟨_, rfl, ?_⟩
      refine ⟨?_, st.chg⟩
      have h9 := parse_scan hT hR1
      have h10 : ¬ ((e1 : Int) = 0) := fun h => by have := h9 (by omega); omega
      simp; omega
    · intro hg35
      try simp only [decide_eq_true_eq, decide_eq_false_iff_not, Bool.not_eq_true', Bool.not_eq_false', Bool.not_eq_true, Bool.not_eq_false, Int.not_lt, Int.not_le, Nat.not_lt, Nat.not_le, Bool.not_true, Bool.not_false, Bool.true_eq_false, Bool.false_eq_true] at hg35
      refine vc_y rfl rfl (y_mv rfl) ?_
      refine vc_y rfl rfl (y_eqi rfl rfl) ?_
      refine vc_y rfl rfl (y_pickf rfl rfl) ?_
      refine vc_end ?_
      refine vq_then ?_
      refine vc_keep [(1, _), (5, _), (6, _), (8, _), (38, _)] ⟨rfl, rfl, rfl, rfl, rfl, trivial⟩ ?_
      refine vc_ifs rfl ?_ ?_
      · intro hc38
        try simp only [decide_eq_true_eq, decide_eq_false_iff_not, Bool.not_eq_true', Bool.not_eq_false', Bool.not_eq_true, Bool.not_eq_false, Int.not_lt, Int.not_le, Nat.not_lt, Nat.not_le, Bool.not_true, Bool.not_false, Bool.true_eq_false, Bool.false_eq_true] at hc38
        refine vc_seq ?_
        refine vc_region ?_
        refine vc_y rfl rfl (y_mv rfl) ?_
        refine vc_y rfl rfl (y_nei rfl rfl) ?_
        refine vc_y rfl rfl (y_as rfl) ?_
        refine vc_end ?_
        refine vq_then ?_
        refine vc_keep [(4, _)] ⟨rfl, trivial⟩ ?_
        refine vc_ret ?_
        refine vq_then_ret ?_
        refine vq_ret1 st (.inl rfl) Tryd.results5 (.tmp rfl) ?_
        refine ⟨_, rfl, ?_⟩
        refine ⟨?_, st.chg⟩
        simp [hc38]
      · intro hc38
        try simp only [decide_eq_true_eq, decide_eq_false_iff_not, Bool.not_eq_true', Bool.not_eq_false', Bool.not_eq_true, Bool.not_eq_false, Int.not_lt, Int.not_le, Nat.not_lt, Nat.not_le, Bool.not_true, Bool.not_false, Bool.true_eq_false, Bool.false_eq_true] at hc38
        have he0 : e = 0 := by omega
        subst he0
        obtain ⟨hs6, hfr⟩ := scan_zero hT
        have hgle := fun j => glue_le (gaps := gaps) hs6 hfr j
        refine vc_code_skip ?_
        refine vq_then ?_
        refine vc_keep [(1, _), (5, _), (6, _), (8, _)] ⟨rfl, rfl, rfl, rfl, trivial⟩ ?_
        refine vc_seq ?_
        refine vc_region ?_
        refine vc_e (e_bsn (l := sepL) (E := 9) st [(0, _), (1, _), (2, _), (3, _), (4, _)] rfl rfl rfl (fun w => by simp [Instr.buildSlice, run_underlying Tryd.underlying50, Tryd.sizeOf9, Tryd.zeroValue9, Instr.fill, newRow, newObj, Sem.run, go_sem]; rfl) ?_)
        intro b41 w hb41 st
        refine vc_y rfl rfl (y_as rfl) ?_
        refine vc_end ?_
        refine vq_then ?_
        refine vc_keep [(1, _), (5, _), (6, _), (8, _), (11, _)] ⟨rfl, rfl, rfl, rfl, rfl, trivial⟩ ?_
        refine vc_seq ?_
        refine vc_region ?_
        refine vc_y rfl rfl (y_as rfl) ?_
        refine vc_end ?_
        refine vq_then ?_
        refine vc_keep [(1, _), (5, _), (6, _), (8, _), (11, _), (12, _)] ⟨rfl, rfl, rfl, rfl, rfl, rfl, trivial⟩ ?_
        refine vc_seq ?_
        refine vc_seq ?_
        refine vc_region ?_
        replace st := st.ownNil 5 1
        refine vc_y rfl rfl (y_mv rfl) ?_
        refine vc_y rfl rfl (y_lensl rfl Tryd.underlying47) ?_
        refine vc_y rfl rfl (y_mv rfl) ?_
        refine vc_end ?_
        refine vq_then ?_
        refine vc_keep [(1, _), (5, _), (6, _), (11, _), (12, _), (42, _), (43, _), (44, _)] ⟨rfl, rfl, rfl, rfl, rfl, rfl, rfl, rfl, trivial⟩ ?_
        refine vc_block ?_
        refine vc_loop (w0 := w0) (M := []) (fun (x : Nat × Option Addr × Nat) => [(1, .slice og gaps.length cg), (5, .pointer (some ⟨b5, 0, none⟩)), (6, .int .i64 (e1 : Int)), (11, .slice (some ⟨b41, 0, none⟩) 5 5), (12, .slice x.2.1 (glueB gaps 0 (T.take x.1)).length x.2.2), (42, .slice to T.length tc), (43, .int .i64 (T.length : Int)), (44, .int .i64 (x.1 : Int))]) (fun (x : Nat × Option Addr × Nat) => [.own (.slice x.2.1 (glueB gaps 0 (T.take x.1)).length x.2.2) 5 1 (glueB gaps 0 (T.take x.1)).length (bytesL (glueB gaps 0 (T.take x.1))), .blk b41 (.cells sepL.toArray 9 (0, 0)), .own (.slice to T.length tc) 53 4 T.length (toksL T), .blk b5 (.cells (pgC p1 os1 ol1 ot1 cs1 cl1 ct1).toArray 44 (0, 0)), .tree Sq1 (fun w => PgS 26 83 80 78 w p1 (pgC p1 os1 ol1 ot1 cs1 cl1 ct1) Sq1)]) (fun (x : Nat × Option Addr × Nat) _ => x.1 ≤ T.length) (fun (x : Nat × Option Addr × Nat) => T.length - x.1) (0, none, 0) ⟨rfl, rfl, rfl, rfl, rfl, rfl, rfl, rfl, trivial⟩ (st.pick [0, 1, 3, 5, 6] rfl (by decide)) (Nat.zero_le _) ?_
        clear st
        rintro ⟨j, ob, cb⟩ w hj st
        dsimp only at hj st
        have hgj := (hgle j).2.2
        have hTl := (hgle j).1
        refine vc_seq ?_
        refine vc_region ?_
        refine vc_y rfl rfl (y_lss rfl rfl) ?_
        refine vc_end ?_
        refine vq_then ?_
        refine vc_keep [(1, _), (5, _), (6, _), (11, _), (12, _), (42, _), (43, _), (44, _), (45, _)] ⟨rfl, rfl, rfl, rfl, rfl, rfl, rfl, rfl, rfl, trivial⟩ ?_
        refine vc_seq ?_
        refine vc_ifs rfl ?_ ?_
        · intro hc45
          try simp only [decide_eq_true_eq, decide_eq_false_iff_not, Bool.not_eq_true', Bool.not_eq_false', Bool.not_eq_true, Bool.not_eq_false, Int.not_lt, Int.not_le, Nat.not_lt, Nat.not_le, Bool.not_true, Bool.not_false, Bool.true_eq_false, Bool.false_eq_true] at hc45
          have hj' : j < T.length := by omega
          have hTj : T[j]? = some T[j] := List.getElem?_eq_getElem hj'
          have hcell := tok_cells hTj
          obtain ⟨gt, ct', e', _⟩ := own_form (st.res (i := 2) rfl) (by omega)
          simp only [Value.slice.injEq] at e'
          obtain ⟨rfl, -, rfl⟩ := e'
          have htx := (hgle j).2.1 T[j] (List.getElem_mem hj')
          have hsl := sepB_len (gapB gaps j)
          have hgl : bytesL (glueB gaps 0 (T.take (j + 1))) = (bytesL (glueB gaps 0 (T.take j)) ++ bytesL (sepB (gapB gaps j))) ++ bytesL T[j].text := by rw [glueB_take gaps T j hj', bytes_app, bytes_app]
          have hgn : (glueB gaps 0 (T.take (j + 1))).length = (glueB gaps 0 (T.take j)).length + (sepB (gapB gaps j)).length + T[j].text.length := by rw [glueB_take gaps T j hj']; simp [Nat.add_assoc]
          refine vc_code_skip ?_
          refine vq_then ?_
          refine vc_keep [(1, _), (5, _), (6, _), (11, _), (12, _), (42, _), (43, _), (44, _)] ⟨rfl, rfl, rfl, rfl, rfl, rfl, rfl, rfl, trivial⟩ ?_
          refine vc_seq ?_
          refine vc_block ?_
          refine vc_seq ?_
          refine vc_region ?_
          refine vc_y rfl rfl (y_mv rfl) ?_
          refine vc_y rfl rfl ((by first | exact y_ia0 (k := j) rfl rfl Tryd.underlying47 Tryd.sizeOf53 rfl (by omega) | exact y_ia (k := j) rfl rfl Tryd.underlying47 Tryd.sizeOf53 rfl (by omega))) ?_
          refine vc_y rfl rfl ((by first | exact y_ldoa (vs := tkL T[j]) st 2 rfl Tryd.isAgg53 Tryd.sizeOf53 rfl rfl hcell | exact y_lda (vs := [_, _, _, _]) st 0 rfl Tryd.isAgg53 Tryd.sizeOf53 rfl rfl | exact y_lda (vs := [_, _, _, _]) st 1 rfl Tryd.isAgg53 Tryd.sizeOf53 rfl rfl | exact y_lda (vs := [_, _, _, _]) st 2 rfl Tryd.isAgg53 Tryd.sizeOf53 rfl rfl | exact y_lda (vs := [_, _, _, _]) st 3 rfl Tryd.isAgg53 Tryd.sizeOf53 rfl rfl | exact y_lda (vs := [_, _, _, _]) st 4 rfl Tryd.isAgg53 Tryd.sizeOf53 rfl rfl | exact y_lda (vs := [_, _, _, _]) st 5 rfl Tryd.isAgg53 Tryd.sizeOf53 rfl rfl | exact y_lda (vs := [_, _, _, _]) st 6 rfl Tryd.isAgg53 Tryd.sizeOf53 rfl rfl | exact y_lda (vs := [_, _, _, _]) st 7 rfl Tryd.isAgg53 Tryd.sizeOf53 rfl rfl | exact y_lda (vs := [_, _, _, _]) st 8 rfl Tryd.isAgg53 Tryd.sizeOf53 rfl rfl)) ?_
          refine vc_e (e_al (l := [_, _, _, _]) st rfl rfl Tryd.zeroValue53 rfl ?_)
          intro b14 w hb14 st
          refine vc_y rfl rfl (y_as rfl) ?_
          first
          | refine vc_e (e_sts (vs := [_, _, _, _]) st 0 rfl rfl rfl rfl rfl Tryd.sizeOf53 rfl rfl (by first | (right; assumption) | (left; simp)) ?_)
          | refine vc_e (e_sts (vs := [_, _, _, _]) st 1 rfl rfl rfl rfl rfl Tryd.sizeOf53 rfl rfl (by first | (right; assumption) | (left; simp)) ?_)
          | refine vc_e (e_sts (vs := [_, _, _, _]) st 2 rfl rfl rfl rfl rfl Tryd.sizeOf53 rfl rfl (by first | (right; assumption) | (left; simp)) ?_)
          | refine vc_e (e_sts (vs := [_, _, _, _]) st 3 rfl rfl rfl rfl rfl Tryd.sizeOf53 rfl rfl (by first | (right; assumption) | (left; simp)) ?_)
          | refine vc_e (e_sts (vs := [_, _, _, _]) st 4 rfl rfl rfl rfl rfl Tryd.sizeOf53 rfl rfl (by first | (right; assumption) | (left; simp)) ?_)
          | refine vc_e (e_sts (vs := [_, _, _, _]) st 5 rfl rfl rfl rfl rfl Tryd.sizeOf53 rfl rfl (by first | (right; assumption) | (left; simp)) ?_)
          | refine vc_e (e_sts (vs := [_, _, _, _]) st 6 rfl rfl rfl rfl rfl Tryd.sizeOf53 rfl rfl (by first | (right; assumption) | (left; simp)) ?_)
          | refine vc_e (e_sts (vs := [_, _, _, _]) st 7 rfl rfl rfl rfl rfl Tryd.sizeOf53 rfl rfl (by first | (right; assumption) | (left; simp)) ?_)
          | refine vc_e (e_sts (vs := [_, _, _, _]) st 8 rfl rfl rfl rfl rfl Tryd.sizeOf53 rfl rfl (by first | (right; assumption) | (left; simp)) ?_)
          intro w st; dsimp only [setNth, wr] at st
          refine vc_end ?_
          refine vq_then ?_
          refine vc_keep [(1, _), (5, _), (6, _), (11, _), (12, _), (13, _), (14, _), (42, _), (43, _), (44, _)] ⟨rfl, rfl, rfl, rfl, rfl, rfl, rfl, rfl, rfl, rfl, trivial⟩ ?_
          refine vc_seq ?_
          refine vc_region ?_
          refine vc_y rfl rfl (y_as rfl) ?_
          refine vc_end ?_
          refine vq_then ?_
          refine vc_keep [(1, _), (5, _), (6, _), (11, _), (12, _), (13, _), (14, _), (15, _), (42, _), (43, _), (44, _)] ⟨rfl, rfl, rfl, rfl, rfl, rfl, rfl, rfl, rfl, rfl, rfl, trivial⟩ ?_
          refine vc_seq ?_
          refine vc_seq ?_
          refine vc_region ?_
          refine vc_y rfl rfl (y_mv rfl) ?_
          refine vc_y rfl rfl (y_mv rfl) ?_
          refine vc_y rfl rfl (y_lensl rfl Tryd.underlying40) ?_
          refine vc_y rfl rfl (y_lss rfl rfl) ?_
          refine vc_end ?_
          refine vq_then ?_
          refine vc_keep [(1, _), (5, _), (6, _), (11, _), (12, _), (13, _), (14, _), (15, _), (42, _), (43, _), (44, _), (52, _)] ⟨rfl, rfl, rfl, rfl, rfl, rfl, rfl, rfl, rfl, rfl, rfl, rfl, trivial⟩ ?_
          refine vc_ifs rfl ?_ ?_
          · intro hc52
            try simp only [decide_eq_true_eq, decide_eq_false_iff_not, Bool.not_eq_true', Bool.not_eq_false', Bool.not_eq_true, Bool.not_eq_false, Int.not_lt, Int.not_le, Nat.not_lt, Nat.not_le, Bool.not_true, Bool.not_false, Bool.true_eq_false, Bool.false_eq_true] at hc52
            have hgx : j < gaps.length := by omega
            obtain ⟨gb, go, rfl, hgb, hgc⟩ : ∃ b off, og = some ⟨b, off, none⟩ ∧ b < w0.heap.size ∧ ∀ j, j < gaps.length → w0.cell? ⟨b, off + j, none⟩ = some (.int .u8 (((gaps.getD j 0).toNat : Nat) : Int)) := by
              rcases hG with h | ⟨b, off, e1, hc⟩
              · omega
              · exact ⟨b, off, e1, World.block_lt_of_cell? _ _ (hc j hgx), hc⟩
            have hgj5 : ((gaps.getD j 0).toNat : Int) % 5 = ((gapB gaps j : Nat) : Int) := by unfold gapB; rw [if_pos hgx]; omega
            have hg5 : gapB gaps j < 5 := by unfold gapB; rw [if_pos hgx]; omega
            have hu8 := (gaps.getD j 0).toNat_lt
            refine vc_region ?_
            refine vc_y rfl rfl (y_mv rfl) ?_
            refine vc_y rfl rfl (y_mv rfl) ?_
            refine vc_y rfl rfl ((by first | exact y_ia0 (k := j) rfl rfl Tryd.underlying40 Tryd.sizeOf5 rfl (by omega) | exact y_ia (k := j) rfl rfl Tryd.underlying40 Tryd.sizeOf5 rfl (by omega))) ?_
            refine vc_y rfl rfl ((by first | exact y_ldc rfl Tryd.isAgg5 (by rw [Nat.mul_one]; exact st.chg.cell (hgc j hgx) (by simp)) | exact y_ld st 0 rfl Tryd.isAgg5 rfl rfl | exact y_ld st 1 rfl Tryd.isAgg5 rfl rfl | exact y_ld st 2 rfl Tryd.isAgg5 rfl rfl | exact y_ld st 3 rfl Tryd.isAgg5 rfl rfl | exact y_ld st 4 rfl Tryd.isAgg5 rfl rfl | exact y_ld st 5 rfl Tryd.isAgg5 rfl rfl | exact y_ld st 6 rfl Tryd.isAgg5 rfl rfl | exact y_ld st 7 rfl Tryd.isAgg5 rfl rfl | exact y_ld st 8 rfl Tryd.isAgg5 rfl rfl)) ?_
            refine vc_y rfl rfl (y_cvi rfl Tryd.underlying3 Tryd.underlying5 (IntWalk.i64_in _ ⟨by omega, by omega⟩)) ?_
            refine vc_y rfl rfl (y_remk rfl rfl (by omega) (by omega) (by rw [hgj5])) ?_
            refine vc_y rfl rfl (y_as rfl) ?_
            refine vc_end ?_
            refine vq_then ?_
            refine vc_keep [(1, _), (5, _), (6, _), (11, _), (12, _), (14, _), (15, _), (42, _), (43, _), (44, _)] ⟨rfl, rfl, rfl, rfl, rfl, rfl, rfl, rfl, rfl, rfl, trivial⟩ ?_
            refine vc_seq ?_
            refine vc_region ?_
            refine vc_y rfl rfl (y_mv rfl) ?_
            refine vc_y rfl rfl (y_mv rfl) ?_
            refine vc_y rfl rfl (y_mv rfl) ?_
            refine vc_y rfl rfl ((by first | exact y_ia0 (k := (gapB gaps j)) rfl rfl Tryd.underlying50 Tryd.sizeOf9 (by first | rfl | (rw [hgz]; rfl)) (by omega) | exact y_ia (k := (gapB gaps j)) rfl rfl Tryd.underlying50 Tryd.sizeOf9 (by first | rfl | (rw [hgz]; rfl)) (by omega))) ?_
            refine vc_y rfl rfl (y_ldc rfl Tryd.isAgg9 (cell_nth (st.res (i := 2) rfl) (by rw [Nat.mul_one]; first | exact sepL_at (gapB gaps j) hg5 | (rw [Nat.zero_add]; exact sepL_at (gapB gaps j) hg5)))) ?_
            refine vc_e (e_apps st 1 rfl rfl rfl rfl rfl Tryd.underlying40 Tryd.underlying9 Tryd.info5 rfl rfl rfl rfl rfl (by omega) ?_)
            intro oa64 cap64 w st; dsimp only [setNth] at st
            refine vc_y rfl rfl (y_as rfl) ?_
            refine vc_end ?_
            refine vq_then ?_
            refine vc_keep [(1, _), (5, _), (6, _), (11, _), (12, _), (14, _), (42, _), (43, _), (44, _)] ⟨rfl, rfl, rfl, rfl, rfl, rfl, rfl, rfl, rfl, trivial⟩ ?_
            refine vc_region ?_
            refine vc_y rfl rfl (y_mv rfl) ?_
            refine vc_y rfl rfl ((by first | exact y_faz (k := 1) rfl Tryd.underlying53 rfl rfl Tryd.sizeOf9 rfl | exact y_fa (k := 1) rfl Tryd.underlying53 rfl rfl Tryd.sizeOf9 rfl)) ?_
            refine vc_y rfl rfl ((by first | exact y_ld st 0 rfl Tryd.isAgg9 rfl rfl | exact y_ld st 1 rfl Tryd.isAgg9 rfl rfl | exact y_ld st 2 rfl Tryd.isAgg9 rfl rfl | exact y_ld st 3 rfl Tryd.isAgg9 rfl rfl | exact y_ld st 4 rfl Tryd.isAgg9 rfl rfl | exact y_ld st 5 rfl Tryd.isAgg9 rfl rfl | exact y_ld st 6 rfl Tryd.isAgg9 rfl rfl | exact y_ld st 7 rfl Tryd.isAgg9 rfl rfl | exact y_ld st 8 rfl Tryd.isAgg9 rfl rfl)) ?_
            refine vc_e (e_apps st 1 rfl rfl rfl rfl rfl Tryd.underlying40 Tryd.underlying9 Tryd.info5 rfl rfl rfl rfl rfl (by omega) ?_)
            intro oa68 cap68 w st; dsimp only [setNth] at st
            refine vc_y rfl rfl (y_as rfl) ?_
            refine vc_end ?_
            refine vq_block ?_
            refine vq_then ?_
            refine vc_keep [(1, _), (5, _), (6, _), (11, _), (12, _), (42, _), (43, _), (44, _)] ⟨rfl, rfl, rfl, rfl, rfl, rfl, rfl, rfl, trivial⟩ ?_
            refine vc_region ?_
            refine vc_y rfl rfl (y_add rfl rfl rfl (by omega) (by omega)) ?_
            refine vc_y rfl rfl (y_mv rfl) ?_
            refine vc_end ?_
            refine vq_again (j + 1, oa68, cap68)  ⟨rfl, rfl, rfl, rfl, by dsimp only; rw [hgn]; rfl, rfl, rfl, rfl, trivial⟩ (by rw [hgl]; rw [hgn]; exact st.drop (by repeat (first | exact List.Sublist.slnil | apply List.Sublist.cons_cons | apply List.Sublist.cons))) ?_ ?_
            · show j + 1 ≤ _; omega
            · show T.length - (j + 1) < T.length - j; omega
          · intro hc52
            try simp only [decide_eq_true_eq, decide_eq_false_iff_not, Bool.not_eq_true', Bool.not_eq_false', Bool.not_eq_true, Bool.not_eq_false, Int.not_lt, Int.not_le, Nat.not_lt, Nat.not_le, Bool.not_true, Bool.not_false, Bool.true_eq_false, Bool.false_eq_true] at hc52
            have hgz : gapB gaps j = 0 := by unfold gapB; rw [if_neg (by omega)]
            have hg5 : gapB gaps j < 5 := by omega
            refine vc_code_skip ?_
            refine vq_then ?_
            refine vc_keep [(1, _), (5, _), (6, _), (11, _), (12, _), (14, _), (15, _), (42, _), (43, _), (44, _)] ⟨rfl, rfl, rfl, rfl, rfl, rfl, rfl, rfl, rfl, rfl, trivial⟩ ?_
            refine vc_seq ?_
            refine vc_region ?_
            refine vc_y rfl rfl (y_mv rfl) ?_
            refine vc_y rfl rfl (y_mv rfl) ?_
            refine vc_y rfl rfl (y_mv rfl) ?_
            refine vc_y rfl rfl ((by first | exact y_ia0 (k := (gapB gaps j)) rfl rfl Tryd.underlying50 Tryd.sizeOf9 (by first | rfl | (rw [hgz]; rfl)) (by omega) | exact y_ia (k := (gapB gaps j)) rfl rfl Tryd.underlying50 Tryd.sizeOf9 (by first | rfl | (rw [hgz]; rfl)) (by omega))) ?_
            refine vc_y rfl rfl (y_ldc rfl Tryd.isAgg9 (cell_nth (st.res (i := 2) rfl) (by rw [Nat.mul_one]; first | exact sepL_at (gapB gaps j) hg5 | (rw [Nat.zero_add]; exact sepL_at (gapB gaps j) hg5)))) ?_
            refine vc_e (e_apps st 1 rfl rfl rfl rfl rfl Tryd.underlying40 Tryd.underlying9 Tryd.info5 rfl rfl rfl rfl rfl (by omega) ?_)
            intro oa64 cap64 w st; dsimp only [setNth] at st
            refine vc_y rfl rfl (y_as rfl) ?_
            refine vc_end ?_
            refine vq_then ?_
            refine vc_keep [(1, _), (5, _), (6, _), (11, _), (12, _), (14, _), (42, _), (43, _), (44, _)] ⟨rfl, rfl, rfl, rfl, rfl, rfl, rfl, rfl, rfl, trivial⟩ ?_
            refine vc_region ?_
            refine vc_y rfl rfl (y_mv rfl) ?_
            refine vc_y rfl rfl ((by first | exact y_faz (k := 1) rfl Tryd.underlying53 rfl rfl Tryd.sizeOf9 rfl | exact y_fa (k := 1) rfl Tryd.underlying53 rfl rfl Tryd.sizeOf9 rfl)) ?_
            refine vc_y rfl rfl ((by first | exact y_ld st 0 rfl Tryd.isAgg9 rfl rfl | exact y_ld st 1 rfl Tryd.isAgg9 rfl rfl | exact y_ld st 2 rfl Tryd.isAgg9 rfl rfl | exact y_ld st 3 rfl Tryd.isAgg9 rfl rfl | exact y_ld st 4 rfl Tryd.isAgg9 rfl rfl | exact y_ld st 5 rfl Tryd.isAgg9 rfl rfl | exact y_ld st 6 rfl Tryd.isAgg9 rfl rfl | exact y_ld st 7 rfl Tryd.isAgg9 rfl rfl | exact y_ld st 8 rfl Tryd.isAgg9 rfl rfl)) ?_
            refine vc_e (e_apps st 1 rfl rfl rfl rfl rfl Tryd.underlying40 Tryd.underlying9 Tryd.info5 rfl rfl rfl rfl rfl (by omega) ?_)
            intro oa68 cap68 w st; dsimp only [setNth] at st
            refine vc_y rfl rfl (y_as rfl) ?_
            refine vc_end ?_
            refine vq_block ?_
            refine vq_then ?_
            refine vc_keep [(1, _), (5, _), (6, _), (11, _), (12, _), (42, _), (43, _), (44, _)] ⟨rfl, rfl, rfl, rfl, rfl, rfl, rfl, rfl, trivial⟩ ?_
            refine vc_region ?_
            refine vc_y rfl rfl (y_add rfl rfl rfl (by omega) (by omega)) ?_
            refine vc_y rfl rfl (y_mv rfl) ?_
            refine vc_end ?_
            refine vq_again (j + 1, oa68, cap68)  ⟨rfl, rfl, rfl, rfl, by dsimp only; rw [hgn]; rfl, rfl, rfl, rfl, trivial⟩ (by rw [hgl]; rw [hgn]; exact st.drop (by repeat (first | exact List.Sublist.slnil | apply List.Sublist.cons_cons | apply List.Sublist.cons))) ?_ ?_
            · show j + 1 ≤ _; omega
            · show T.length - (j + 1) < T.length - j; omega
        · intro hc45
          try simp only [decide_eq_true_eq, decide_eq_false_iff_not, Bool.not_eq_true', Bool.not_eq_false', Bool.not_eq_true, Bool.not_eq_false, Int.not_lt, Int.not_le, Nat.not_lt, Nat.not_le, Bool.not_true, Bool.not_false, Bool.true_eq_false, Bool.false_eq_true] at hc45
          obtain rfl : j = T.length := by omega
          refine vc_exit ?_
          refine vq_then_exit ?_
          refine vq_then_exit ?_
          refine vq_block_exit ?_
          refine vq_then ?_
          refine vc_keep [(5, _), (6, _), (12, _)] ⟨rfl, rfl, rfl, trivial⟩ ?_
          refine vc_seq ?_
          refine vc_seq ?_
          refine vc_region ?_
          refine vc_y rfl rfl (y_mv rfl) ?_
          refine vc_y rfl rfl (y_lensl rfl Tryd.underlying40) ?_
          refine vc_y rfl rfl (y_add rfl rfl rfl (by dsimp only; omega) (by dsimp only; omega)) ?_
          refine vc_y rfl rfl (y_gtr rfl rfl) ?_
          refine vc_end ?_
          refine vq_then ?_
          refine vc_keep [(5, _), (6, _), (12, _), (73, _)] ⟨rfl, rfl, rfl, rfl, trivial⟩ ?_
          refine vc_ifs rfl ?_ ?_
          · intro hc73
            try simp only [decide_eq_true_eq, decide_eq_false_iff_not, Bool.not_eq_true', Bool.not_eq_false', Bool.not_eq_true, Bool.not_eq_false, Int.not_lt, Int.not_le, Nat.not_lt, Nat.not_le, Bool.not_true, Bool.not_false, Bool.true_eq_false, Bool.false_eq_true] at hc73
            refine vc_seq ?_
            refine vc_region ?_
            refine vc_y rfl rfl (y_as rfl) ?_
            refine vc_end ?_
            refine vq_then ?_
            refine vc_keep [(4, _)] ⟨rfl, trivial⟩ ?_
            refine vc_ret ?_
            refine vq_then_ret ?_
            refine vq_ret1 st (.inl rfl) Tryd.results5 (.tmp rfl) ?_
            refine ⟨_, rfl, ?_⟩
            exact ⟨rfl, st.chg⟩
          · intro hc73
            try simp only [decide_eq_true_eq, decide_eq_false_iff_not, Bool.not_eq_true', Bool.not_eq_false', Bool.not_eq_true, Bool.not_eq_false, Int.not_lt, Int.not_le, Nat.not_lt, Nat.not_le, Bool.not_true, Bool.not_false, Bool.true_eq_false, Bool.false_eq_true] at hc73
            refine vc_code_skip ?_
            refine vq_then ?_
            refine vc_keep [(5, _), (6, _), (12, _)] ⟨rfl, rfl, rfl, trivial⟩ ?_
            refine vc_seq ?_
            refine vc_region ?_
            refine vc_y rfl rfl (y_mv rfl) ?_
            refine vc_e (e_bs1 (l := [_]) st rfl rfl rfl rfl Tryd.underlying40 Tryd.sizeOf5 rfl rfl rfl Tryd.zeroValue5 ?_)
            intro b76 w hb76 st
            refine vc_e (e_app (bytes := 1) st 1 0 rfl rfl rfl rfl rfl rfl Tryd.underlying40 Tryd.info5 rfl rfl rfl rfl rfl (by simp) rfl rfl (by unfold maxLen; omega) (by omega) ?_)
            intro oa77 cap77 w st; dsimp only [setNth] at st
            have hgb : bytesL (glueB gaps 0 (T.take T.length)) ++ [Value.int IntKind.u8 10] = bytesL (glueB gaps 0 T ++ [10]) := by rw [bytes_app, List.take_length]; rfl
            have hrd := own_rdp (st.res (i := 1) rfl)
            rw [hgb] at hrd
            refine vc_y rfl rfl (y_b2s rfl hrd (by rw [List.take_length]; simp) Tryd.underlying40 Tryd.underlying5 Tryd.underlying9) ?_
            refine vc_e (e_call [_] rfl rfl Tryd.call16 rfl (parse_any (glueB gaps 0 T ++ [10]) _ (hsg.kept st.chg (by simp))) ?_)
            rintro _ w h
            rw [ParsePost] at h
            obtain ⟨p2, e2, fp2, fr2, hR2⟩ : ∃ x e fp fr, parseRes (glueB gaps 0 T ++ [10]) = (x, e, fp, fr) := ⟨_, _, _, _, rfl⟩
            rw [hR2] at h
            dsimp only at h
            obtain ⟨cw, _, ⟨os2, ol2, ot2, cs2, cl2, ct2, Sq2, rfl, hT, hN⟩, rfl⟩ := h
            replace st := st.pushR cw (holds_pg hT) hN.2
            refine vc_y rfl rfl (y_mv rfl) ?_
            refine vc_y rfl rfl (y_ext rfl rfl) ?_
            refine vc_y rfl rfl (y_ext rfl rfl) ?_
            refine vc_y rfl rfl (y_ext rfl rfl) ?_
            refine vc_e (e_al (l := [_, _, _]) st rfl rfl Tryd.zeroValue44 rfl ?_)
            intro b16 w hb16 st
            refine vc_e (e_al (l := [_, _]) st rfl rfl Tryd.zeroValue29 rfl ?_)
            intro b18 w hb18 st
            first
            | refine vc_e (e_sts (vs := [_, _, _]) st 0 rfl rfl rfl rfl rfl Tryd.sizeOf44 rfl rfl (by first | (right; assumption) | (left; simp)) ?_)
            | refine vc_e (e_sts (vs := [_, _, _]) st 1 rfl rfl rfl rfl rfl Tryd.sizeOf44 rfl rfl (by first | (right; assumption) | (left; simp)) ?_)
            | refine vc_e (e_sts (vs := [_, _, _]) st 2 rfl rfl rfl rfl rfl Tryd.sizeOf44 rfl rfl (by first | (right; assumption) | (left; simp)) ?_)
            | refine vc_e (e_sts (vs := [_, _, _]) st 3 rfl rfl rfl rfl rfl Tryd.sizeOf44 rfl rfl (by first | (right; assumption) | (left; simp)) ?_)
            | refine vc_e (e_sts (vs := [_, _, _]) st 4 rfl rfl rfl rfl rfl Tryd.sizeOf44 rfl rfl (by first | (right; assumption) | (left; simp)) ?_)
            | refine vc_e (e_sts (vs := [_, _, _]) st 5 rfl rfl rfl rfl rfl Tryd.sizeOf44 rfl rfl (by first | (right; assumption) | (left; simp)) ?_)
            | refine vc_e (e_sts (vs := [_, _, _]) st 6 rfl rfl rfl rfl rfl Tryd.sizeOf44 rfl rfl (by first | (right; assumption) | (left; simp)) ?_)
            | refine vc_e (e_sts (vs := [_, _, _]) st 7 rfl rfl rfl rfl rfl Tryd.sizeOf44 rfl rfl (by first | (right; assumption) | (left; simp)) ?_)
            | refine vc_e (e_sts (vs := [_, _, _]) st 8 rfl rfl rfl rfl rfl Tryd.sizeOf44 rfl rfl (by first | (right; assumption) | (left; simp)) ?_)
            intro w st; dsimp only [setNth, wr] at st
            refine vc_y rfl rfl (y_as rfl) ?_
            first
            | refine vc_e (e_sts (vs := [_, _]) st 0 rfl rfl rfl rfl rfl Tryd.sizeOf29 rfl rfl (by first | (right; assumption) | (left; simp)) ?_)
            | refine vc_e (e_sts (vs := [_, _]) st 1 rfl rfl rfl rfl rfl Tryd.sizeOf29 rfl rfl (by first | (right; assumption) | (left; simp)) ?_)
            | refine vc_e (e_sts (vs := [_, _]) st 2 rfl rfl rfl rfl rfl Tryd.sizeOf29 rfl rfl (by first | (right; assumption) | (left; simp)) ?_)
            | refine vc_e (e_sts (vs := [_, _]) st 3 rfl rfl rfl rfl rfl Tryd.sizeOf29 rfl rfl (by first | (right; assumption) | (left; simp)) ?_)
            | refine vc_e (e_sts (vs := [_, _]) st 4 rfl rfl rfl rfl rfl Tryd.sizeOf29 rfl rfl (by first | (right; assumption) | (left; simp)) ?_)
            | refine vc_e (e_sts (vs := [_, _]) st 5 rfl rfl rfl rfl rfl Tryd.sizeOf29 rfl rfl (by first | (right; assumption) | (left; simp)) ?_)
            | refine vc_e (e_sts (vs := [_, _]) st 6 rfl rfl rfl rfl rfl Tryd.sizeOf29 rfl rfl (by first | (right; assumption) | (left; simp)) ?_)
            | refine vc_e (e_sts (vs := [_, _]) st 7 rfl rfl rfl rfl rfl Tryd.sizeOf29 rfl rfl (by first | (right; assumption) | (left; simp)) ?_)
            | refine vc_e (e_sts (vs := [_, _]) st 8 rfl rfl rfl rfl rfl Tryd.sizeOf29 rfl rfl (by first | (right; assumption) | (left; simp)) ?_)
            intro w st; dsimp only [setNth, wr] at st
            refine vc_end ?_
            refine vq_then ?_
            refine vc_keep [(5, _), (6, _), (16, _), (17, _)] ⟨rfl, rfl, rfl, rfl, trivial⟩ ?_
            refine vc_seq ?_
            refine vc_region ?_
            rw [List.take_length] at hc73
            have hbl := blanks_res s gaps hs6 hfr (by simp; omega)
            rw [hR1, hR2] at hbl
            dsimp only at hbl
            obtain ⟨hee, hsm⟩ := hbl
            obtain ⟨hpg, hok⟩ : True ∧ OkP p1 := ⟨trivial, parse_ok hs6 hR1⟩
            refine vc_y rfl rfl (y_mv rfl) ?_
            refine vc_y rfl rfl (y_mv rfl) ?_
            refine vc_y rfl rfl (y_eqi rfl rfl) ?_
            refine vc_e (e_mvb rfl rfl rfl ?_ ?_)
            · intro hg86
              try simp only [decide_eq_true_eq, decide_eq_false_iff_not, Bool.not_eq_true', Bool.not_eq_false', Bool.not_eq_true, Bool.not_eq_false, Int.not_lt, Int.not_le, Nat.not_lt, Nat.not_le, Bool.not_true, Bool.not_false, Bool.true_eq_false, Bool.false_eq_true] at hg86
              refine vc_y rfl rfl ((by first | exact y_lda (vs := [_, _, _]) st 0 rfl Tryd.isAgg44 Tryd.sizeOf44 rfl rfl | exact y_lda (vs := [_, _, _]) st 1 rfl Tryd.isAgg44 Tryd.sizeOf44 rfl rfl | exact y_lda (vs := [_, _, _]) st 2 rfl Tryd.isAgg44 Tryd.sizeOf44 rfl rfl | exact y_lda (vs := [_, _, _]) st 3 rfl Tryd.isAgg44 Tryd.sizeOf44 rfl rfl | exact y_lda (vs := [_, _, _]) st 4 rfl Tryd.isAgg44 Tryd.sizeOf44 rfl rfl | exact y_lda (vs := [_, _, _]) st 5 rfl Tryd.isAgg44 Tryd.sizeOf44 rfl rfl | exact y_lda (vs := [_, _, _]) st 6 rfl Tryd.isAgg44 Tryd.sizeOf44 rfl rfl | exact y_lda (vs := [_, _, _]) st 7 rfl Tryd.isAgg44 Tryd.sizeOf44 rfl rfl | exact y_lda (vs := [_, _, _]) st 8 rfl Tryd.isAgg44 Tryd.sizeOf44 rfl rfl)) ?_
              refine vc_y rfl rfl ((by first | exact y_lda (vs := [_, _, _]) st 0 rfl Tryd.isAgg44 Tryd.sizeOf44 rfl rfl | exact y_lda (vs := [_, _, _]) st 1 rfl Tryd.isAgg44 Tryd.sizeOf44 rfl rfl | exact y_lda (vs := [_, _, _]) st 2 rfl Tryd.isAgg44 Tryd.sizeOf44 rfl rfl | exact y_lda (vs := [_, _, _]) st 3 rfl Tryd.isAgg44 Tryd.sizeOf44 rfl rfl | exact y_lda (vs := [_, _, _]) st 4 rfl Tryd.isAgg44 Tryd.sizeOf44 rfl rfl | exact y_lda (vs := [_, _, _]) st 5 rfl Tryd.isAgg44 Tryd.sizeOf44 rfl rfl | exact y_lda (vs := [_, _, _]) st 6 rfl Tryd.isAgg44 Tryd.sizeOf44 rfl rfl | exact y_lda (vs := [_, _, _]) st 7 rfl Tryd.isAgg44 Tryd.sizeOf44 rfl rfl | exact y_lda (vs := [_, _, _]) st 8 rfl Tryd.isAgg44 Tryd.sizeOf44 rfl rfl)) ?_
              refine vc_e (e_call [_, _] rfl rfl Tryd.call18 rfl (psameP_any (S := fun _ => True) p1 p2 hok _ _ _ _ _ _ _ _ _ _ _ _ _ (pgS_rows (st.res (i := 8) rfl).1).1 (pgS_rows (st.res (i := 8) rfl).1).2.1 (pgS_rows (st.res (i := 8) rfl).1).2.2 (pgS_rows (st.res (i := 2) rfl).1).1 (pgS_rows (st.res (i := 2) rfl).1).2.1 (pgS_rows (st.res (i := 2) rfl).1).2.2) ?_)
              rintro _ w ⟨rfl, cw⟩
              replace st := st.call0 cw
              refine vc_y rfl rfl (y_pickt rfl rfl) ?_
              refine vc_y rfl rfl (y_as rfl) ?_
              refine vc_end ?_
              refine vq_then ?_
              refine vc_keep [(4, _)] ⟨rfl, trivial⟩ ?_
              refine vc_ret ?_
              refine vq_ret1 st (.inl rfl) Tryd.results5 (.tmp rfl) ?_
              refine ⟨_, rfl, ?_⟩
              refine ⟨?_, st.chg⟩
              rw [hsm]
            · intro hg86
              (exfalso; rw [decide_eq_false_iff_not] at hg86; omega)

end Go.Proofs.YtggnfanphcaamaaDoor

