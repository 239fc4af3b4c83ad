/- A part of the proof: contracts of functions and plain laws; each theorem says its own conditions. -/
import Derived.Test.YtggnfanphcaamaaDoorK13
namespace Go.Proofs.YtggnfanphcaamaaDoor
open Go.RowKit Sx LexS ParS
set_option linter.unusedVariables false
set_option linter.unusedSimpArgs false
abbrev pg00 : List Value := [.slice none 0 0, .slice none 0 0, .slice none 0 0]

set_option maxHeartbeats 1000000 in
theorem parse_catch (b2 b3 b4 p ru : Nat) (e : Int) (w : World) (h2 : w.heap[b2]? = some (.cells pg00.toArray 44 (0, 0))) (h3 : w.heap[b3]? = some (.cells [.int .i64 e].toArray 27 (0, 0))) (h4 : w.heap[b4]? = some (.cells [.int .i64 0, .int .i64 0].toArray 29 (0, 0)))
    (n1 : b2 ≠ b3) (n2 : b2 ≠ b4) (n3 : b3 ≠ b4) : DefCatch Tryd.prog 37 [.pointer (some ⟨b2, 0, none⟩), .pointer (some ⟨b3, 0, none⟩), .pointer (some ⟨b4, 0, none⟩)].toArray (.iface 65 (.agg #[.int .i64 (p : Int), .int .i64 (ru : Int)])) w
    (fun w' => w'.heap[b2]? = some (.cells pg00.toArray 44 (0, 0)) ∧ w'.heap[b3]? = some (.cells [.int .i64 30].toArray 27 (0, 0)) ∧ w'.heap[b4]? = some (.cells [.int .i64 (p : Int), .int .i64 (ru : Int)].toArray 29 (0, 0)) ∧ Chg [b2, b3, b4] w w') := by
  refine callsD_of_wpS Tryd.func37 rfl fun c₀ cs hu => ?_
  have st := St.of3 [b2, b3, b4] h2 h3 h4 n1 n2 n3
  apply wpS_seq
  apply wpS_region
  simp [wpOpsS, go_sem, recoverD, hu, Tryd.ntmps37, Exit.thenS]
  apply wpS_seq
  apply wpS_region
  simp [wpOpsS, go_sem, Exit.thenS]
  refine wpS_cond (t := true) (by simp [Act.eval, Array.replicate]) ?_
  simp only [if_true]
  refine wpS_of_wp ?_
  refine wp_of_vc (n := (11, [])) (kn := [(0, .pointer (some ⟨b2, 0, none⟩)), (1, .pointer (some ⟨b3, 0, none⟩)), (2, .pointer (some ⟨b4, 0, none⟩)), (3, .iface 65 (.agg #[.int .i64 (p : Int), .int .i64 (ru : Int)]))]) (K.of (by first | rfl | simp [Array.replicate]) ?_) ?_
  · intro i v hv
    simp only [find] at hv
    repeat' split at hv
    all_goals first | (rename_i hh; have hh' := Nat.eq_of_beq_eq_true hh; subst hh'; cases hv; first | rfl | simp [Array.replicate]) | simp at hv
  refine vd_draw Tryd.mixed (.take 0 (.take 1 (.two 2 4 (.take 3 (.one 4 (.one 5 (.one 6 .done)))) (.two 2 5 (.take 3 (.one 5 (.one 6 .done))) (.one 2 (.take 3 (.one 6 .done))))))) (fun w => St _ _ [] w) (by first | exact st | exact st.drop (by repeat (first | exact List.Sublist.slnil | apply List.Sublist.cons_cons | apply List.Sublist.cons))) (by kernel_rfl) (by repeat (first | exact okQ_body | exact okQ_bodyS | refine okQ_then ?_ | refine okQ_block ?_)) rfl (by kernel_rfl) ?_
  intro w cd; replace st := st.call0 cd; clear cd
  have hS : St _ _ [] w := (by first | exact st | exact st.drop (by repeat (first | exact List.Sublist.slnil | apply List.Sublist.cons_cons | apply List.Sublist.cons)))
  refine vd_take rfl rfl rfl hS (fun w st => y_bld (.agg #[_, _, _]) [] rfl (fun w => by simp [Instr.build, go_sem] <;> repeat' constructor)) ?_
  refine vd_take rfl rfl rfl hS (fun w st => y_mv rfl) ?_
  refine vd_two rfl rfl ?_ ?_
  ·
    refine (e_run rfl rfl (y_ta rfl Tryd.underlying65) ?_)
    refine vd_next (by first | exact st | exact st.drop (by repeat (first | exact List.Sublist.slnil | apply List.Sublist.cons_cons | apply List.Sublist.cons))) ?_; intro hS
    refine vd_take rfl rfl rfl hS (fun w st => y_fldA (vs := [_, _]) rfl Tryd.underlying65 rfl rfl Tryd.isAgg29 Tryd.sizeOf29 rfl) ?_
    first
    | refine vd_do rfl (e_sts (vs := [_, _, _]) st 0 rfl rfl rfl rfl rfl Tryd.sizeOf44 rfl rfl (by first | (right; assumption) | (left; simp)) ?_)
    | refine vd_do rfl (e_sts (vs := [_, _, _]) st 1 rfl rfl rfl rfl rfl Tryd.sizeOf44 rfl rfl (by first | (right; assumption) | (left; simp)) ?_)
    | refine vd_do rfl (e_sts (vs := [_, _, _]) st 2 rfl rfl rfl rfl rfl Tryd.sizeOf44 rfl rfl (by first | (right; assumption) | (left; simp)) ?_)
    | refine vd_do rfl (e_sts (vs := [_, _, _]) st 3 rfl rfl rfl rfl rfl Tryd.sizeOf44 rfl rfl (by first | (right; assumption) | (left; simp)) ?_)
    intro w st; dsimp only [setNth, wr] at st
    refine vd_next (by first | exact st | exact st.drop (by repeat (first | exact List.Sublist.slnil | apply List.Sublist.cons_cons | apply List.Sublist.cons))) ?_; intro hS
    first
    | refine vd_do rfl (e_st st 0 rfl rfl rfl rfl Tryd.sizeOf27 rfl rfl (by first | (right; assumption) | (left; simp)) ?_)
    | refine vd_do rfl (e_st st 1 rfl rfl rfl rfl Tryd.sizeOf27 rfl rfl (by first | (right; assumption) | (left; simp)) ?_)
    | refine vd_do rfl (e_st st 2 rfl rfl rfl rfl Tryd.sizeOf27 rfl rfl (by first | (right; assumption) | (left; simp)) ?_)
    | refine vd_do rfl (e_st st 3 rfl rfl rfl rfl Tryd.sizeOf27 rfl rfl (by first | (right; assumption) | (left; simp)) ?_)
    intro w st; dsimp only [setNth, wr] at st
    refine vd_next (by first | exact st | exact st.drop (by repeat (first | exact List.Sublist.slnil | apply List.Sublist.cons_cons | apply List.Sublist.cons))) ?_; intro hS
    first
    | refine vd_do rfl (e_sts (vs := [_, _]) st 0 rfl rfl rfl rfl rfl Tryd.sizeOf29 rfl rfl (by first | (right; assumption) | (left; simp)) ?_)
    | refine vd_do rfl (e_sts (vs := [_, _]) st 1 rfl rfl rfl rfl rfl Tryd.sizeOf29 rfl rfl (by first | (right; assumption) | (left; simp)) ?_)
    | refine vd_do rfl (e_sts (vs := [_, _]) st 2 rfl rfl rfl rfl rfl Tryd.sizeOf29 rfl rfl (by first | (right; assumption) | (left; simp)) ?_)
    | refine vd_do rfl (e_sts (vs := [_, _]) st 3 rfl rfl rfl rfl rfl Tryd.sizeOf29 rfl rfl (by first | (right; assumption) | (left; simp)) ?_)
    intro w st; dsimp only [setNth, wr] at st
    refine vd_next (by first | exact st | exact st.drop (by repeat (first | exact List.Sublist.slnil | apply List.Sublist.cons_cons | apply List.Sublist.cons))) ?_; intro hS
    refine vd_end ?_
    intro a ha
    exact ⟨ha.defers, _, rfl, .tuple #[], by simp [results, Tryd.results37], ⟨_, rfl⟩, rfl, by first | exact ⟨st.res (i := 0) rfl, st.res (i := 1) rfl, st.res (i := 2) rfl, st.chg⟩⟩
  ·
    first
    | refine (e_sts (vs := [_, _, _]) st 0 rfl rfl rfl rfl rfl Tryd.sizeOf44 rfl rfl (by first | (right; assumption) | (left; simp)) ?_)
    | refine (e_sts (vs := [_, _, _]) st 1 rfl rfl rfl rfl rfl Tryd.sizeOf44 rfl rfl (by first | (right; assumption) | (left; simp)) ?_)
    | refine (e_sts (vs := [_, _, _]) st 2 rfl rfl rfl rfl rfl Tryd.sizeOf44 rfl rfl (by first | (right; assumption) | (left; simp)) ?_)
    | refine (e_sts (vs := [_, _, _]) st 3 rfl rfl rfl rfl rfl Tryd.sizeOf44 rfl rfl (by first | (right; assumption) | (left; simp)) ?_)
    intro w st; dsimp only [setNth, wr] at st
    refine vd_next (by first | exact st | exact st.drop (by repeat (first | exact List.Sublist.slnil | apply List.Sublist.cons_cons | apply List.Sublist.cons))) ?_; intro hS
    refine vd_two rfl rfl ?_ ?_
    ·
      refine (e_run rfl rfl (y_ta rfl Tryd.underlying65) ?_)
      refine vd_next (by first | exact st | exact st.drop (by repeat (first | exact List.Sublist.slnil | apply List.Sublist.cons_cons | apply List.Sublist.cons))) ?_; intro hS
      refine vd_take rfl rfl rfl hS (fun w st => y_fldA (vs := [_, _]) rfl Tryd.underlying65 rfl rfl Tryd.isAgg29 Tryd.sizeOf29 rfl) ?_
      first
      | refine vd_do rfl (e_st st 0 rfl rfl rfl rfl Tryd.sizeOf27 rfl rfl (by first | (right; assumption) | (left; simp)) ?_)
      | refine vd_do rfl (e_st st 1 rfl rfl rfl rfl Tryd.sizeOf27 rfl rfl (by first | (right; assumption) | (left; simp)) ?_)
      | refine vd_do rfl (e_st st 2 rfl rfl rfl rfl Tryd.sizeOf27 rfl rfl (by first | (right; assumption) | (left; simp)) ?_)
      | refine vd_do rfl (e_st st 3 rfl rfl rfl rfl Tryd.sizeOf27 rfl rfl (by first | (right; assumption) | (left; simp)) ?_)
      intro w st; dsimp only [setNth, wr] at st
      refine vd_next (by first | exact st | exact st.drop (by repeat (first | exact List.Sublist.slnil | apply List.Sublist.cons_cons | apply List.Sublist.cons))) ?_; intro hS
      first
      | refine vd_do rfl (e_sts (vs := [_, _]) st 0 rfl rfl rfl rfl rfl Tryd.sizeOf29 rfl rfl (by first | (right; assumption) | (left; simp)) ?_)
      | refine vd_do rfl (e_sts (vs := [_, _]) st 1 rfl rfl rfl rfl rfl Tryd.sizeOf29 rfl rfl (by first | (right; assumption) | (left; simp)) ?_)
      | refine vd_do rfl (e_sts (vs := [_, _]) st 2 rfl rfl rfl rfl rfl Tryd.sizeOf29 rfl rfl (by first | (right; assumption) | (left; simp)) ?_)
      | refine vd_do rfl (e_sts (vs := [_, _]) st 3 rfl rfl rfl rfl rfl Tryd.sizeOf29 rfl rfl (by first | (right; assumption) | (left; simp)) ?_)
      intro w st; dsimp only [setNth, wr] at st
      refine vd_next (by first | exact st | exact st.drop (by repeat (first | exact List.Sublist.slnil | apply List.Sublist.cons_cons | apply List.Sublist.cons))) ?_; intro hS
      refine vd_end ?_
      intro a ha
      exact ⟨ha.defers, _, rfl, .tuple #[], by simp [results, Tryd.results37], ⟨_, rfl⟩, rfl, by first | exact ⟨st.res (i := 0) rfl, st.res (i := 1) rfl, st.res (i := 2) rfl, st.chg⟩⟩
    ·
      first
      | refine (e_st st 0 rfl rfl rfl rfl Tryd.sizeOf27 rfl rfl (by first | (right; assumption) | (left; simp)) ?_)
      | refine (e_st st 1 rfl rfl rfl rfl Tryd.sizeOf27 rfl rfl (by first | (right; assumption) | (left; simp)) ?_)
      | refine (e_st st 2 rfl rfl rfl rfl Tryd.sizeOf27 rfl rfl (by first | (right; assumption) | (left; simp)) ?_)
      | refine (e_st st 3 rfl rfl rfl rfl Tryd.sizeOf27 rfl rfl (by first | (right; assumption) | (left; simp)) ?_)
      intro w st; dsimp only [setNth, wr] at st
      refine vd_next (by first | exact st | exact st.drop (by repeat (first | exact List.Sublist.slnil | apply List.Sublist.cons_cons | apply List.Sublist.cons))) ?_; intro hS
      refine vd_do rfl (e_run rfl rfl (y_ta rfl Tryd.underlying65) ?_)
      refine vd_next (by first | exact st | exact st.drop (by repeat (first | exact List.Sublist.slnil | apply List.Sublist.cons_cons | apply List.Sublist.cons))) ?_; intro hS
      refine vd_take rfl rfl rfl hS (fun w st => y_fldA (vs := [_, _]) rfl Tryd.underlying65 rfl rfl Tryd.isAgg29 Tryd.sizeOf29 rfl) ?_
      first
      | refine vd_do rfl (e_sts (vs := [_, _]) st 0 rfl rfl rfl rfl rfl Tryd.sizeOf29 rfl rfl (by first | (right; assumption) | (left; simp)) ?_)
      | refine vd_do rfl (e_sts (vs := [_, _]) st 1 rfl rfl rfl rfl rfl Tryd.sizeOf29 rfl rfl (by first | (right; assumption) | (left; simp)) ?_)
      | refine vd_do rfl (e_sts (vs := [_, _]) st 2 rfl rfl rfl rfl rfl Tryd.sizeOf29 rfl rfl (by first | (right; assumption) | (left; simp)) ?_)
      | refine vd_do rfl (e_sts (vs := [_, _]) st 3 rfl rfl rfl rfl rfl Tryd.sizeOf29 rfl rfl (by first | (right; assumption) | (left; simp)) ?_)
      intro w st; dsimp only [setNth, wr] at st
      refine vd_next (by first | exact st | exact st.drop (by repeat (first | exact List.Sublist.slnil | apply List.Sublist.cons_cons | apply List.Sublist.cons))) ?_; intro hS
      refine vd_end ?_
      intro a ha
      exact ⟨ha.defers, _, rfl, .tuple #[], by simp [results, Tryd.results37], ⟨_, rfl⟩, rfl, by first | exact ⟨st.res (i := 0) rfl, st.res (i := 1) rfl, st.res (i := 2) rfl, st.chg⟩⟩

set_option maxHeartbeats 1000000 in
theorem expr_catch (b2 b3 b4 p ru : Nat) (e : Int) (w : World) (h2 : w.heap[b2]? = some (.cells ex00.toArray 26 (0, 0))) (h3 : w.heap[b3]? = some (.cells [.int .i64 e].toArray 27 (0, 0))) (h4 : w.heap[b4]? = some (.cells [.int .i64 0, .int .i64 0].toArray 29 (0, 0)))
    (n1 : b2 ≠ b3) (n2 : b2 ≠ b4) (n3 : b3 ≠ b4) : DefCatch Tryd.prog 28 [.pointer (some ⟨b2, 0, none⟩), .pointer (some ⟨b3, 0, none⟩), .pointer (some ⟨b4, 0, none⟩)].toArray (.iface 65 (.agg #[.int .i64 (p : Int), .int .i64 (ru : Int)])) w
    (fun w' => w'.heap[b2]? = some (.cells ex00.toArray 26 (0, 0)) ∧ w'.heap[b3]? = some (.cells [.int .i64 30].toArray 27 (0, 0)) ∧ w'.heap[b4]? = some (.cells [.int .i64 (p : Int), .int .i64 (ru : Int)].toArray 29 (0, 0)) ∧ Chg [b2, b3, b4] w w') := by
  refine callsD_of_wpS Tryd.func28 rfl fun c₀ cs hu => ?_
  have st := St.of3 [b2, b3, b4] h2 h3 h4 n1 n2 n3
  apply wpS_seq
  apply wpS_region
  simp [wpOpsS, go_sem, recoverD, hu, Tryd.ntmps28, Exit.thenS]
  apply wpS_seq
  apply wpS_region
  simp [wpOpsS, go_sem, Exit.thenS]
  refine wpS_cond (t := true) (by simp [Act.eval, Array.replicate]) ?_
  simp only [if_true]
  refine wpS_of_wp ?_
  refine wp_of_vc (n := (11, [])) (kn := [(0, .pointer (some ⟨b2, 0, none⟩)), (1, .pointer (some ⟨b3, 0, none⟩)), (2, .pointer (some ⟨b4, 0, none⟩)), (3, .iface 65 (.agg #[.int .i64 (p : Int), .int .i64 (ru : Int)]))]) (K.of (by first | rfl | simp [Array.replicate]) ?_) ?_
  · intro i v hv
    simp only [find] at hv
    repeat' split at hv
    all_goals first | (rename_i hh; have hh' := Nat.eq_of_beq_eq_true hh; subst hh'; cases hv; first | rfl | simp [Array.replicate]) | simp at hv
  refine vd_draw Tryd.mixed (.take 0 (.take 1 (.two 2 4 (.take 3 (.one 4 (.one 5 (.one 6 .done)))) (.two 2 5 (.take 3 (.one 5 (.one 6 .done))) (.one 2 (.take 3 (.one 6 .done))))))) (fun w => St _ _ [] w) (by first | exact st | exact st.drop (by repeat (first | exact List.Sublist.slnil | apply List.Sublist.cons_cons | apply List.Sublist.cons))) (by kernel_rfl) (by repeat (first | exact okQ_body | exact okQ_bodyS | refine okQ_then ?_ | refine okQ_block ?_)) rfl (by kernel_rfl) ?_
  intro w cd; replace st := st.call0 cd; clear cd
  have hS : St _ _ [] w := (by first | exact st | exact st.drop (by repeat (first | exact List.Sublist.slnil | apply List.Sublist.cons_cons | apply List.Sublist.cons)))
  refine vd_take rfl rfl rfl hS (fun w st => y_bld (.agg #[_, _, _, _, _, _]) [] rfl (fun w => by simp [Instr.build, go_sem] <;> repeat' constructor)) ?_
  refine vd_take rfl rfl rfl hS (fun w st => y_mv rfl) ?_
  refine vd_two rfl rfl ?_ ?_
  ·
    refine (e_run rfl rfl (y_ta rfl Tryd.underlying65) ?_)
    refine vd_next (by first | exact st | exact st.drop (by repeat (first | exact List.Sublist.slnil | apply List.Sublist.cons_cons | apply List.Sublist.cons))) ?_; intro hS
    refine vd_take rfl rfl rfl hS (fun w st => y_fldA (vs := [_, _]) rfl Tryd.underlying65 rfl rfl Tryd.isAgg29 Tryd.sizeOf29 rfl) ?_
    first
    | refine vd_do rfl (e_sts (vs := [_, _, _, _, _, _]) st 0 rfl rfl rfl rfl rfl Tryd.sizeOf26 rfl rfl (by first | (right; assumption) | (left; simp)) ?_)
    | refine vd_do rfl (e_sts (vs := [_, _, _, _, _, _]) st 1 rfl rfl rfl rfl rfl Tryd.sizeOf26 rfl rfl (by first | (right; assumption) | (left; simp)) ?_)
    | refine vd_do rfl (e_sts (vs := [_, _, _, _, _, _]) st 2 rfl rfl rfl rfl rfl Tryd.sizeOf26 rfl rfl (by first | (right; assumption) | (left; simp)) ?_)
    | refine vd_do rfl (e_sts (vs := [_, _, _, _, _, _]) st 3 rfl rfl rfl rfl rfl Tryd.sizeOf26 rfl rfl (by first | (right; assumption) | (left; simp)) ?_)
    intro w st; dsimp only [setNth, wr] at st
    refine vd_next (by first | exact st | exact st.drop (by repeat (first | exact List.Sublist.slnil | apply List.Sublist.cons_cons | apply List.Sublist.cons))) ?_; intro hS
    first
    | refine vd_do rfl (e_st st 0 rfl rfl rfl rfl Tryd.sizeOf27 rfl rfl (by first | (right; assumption) | (left; simp)) ?_)
    | refine vd_do rfl (e_st st 1 rfl rfl rfl rfl Tryd.sizeOf27 rfl rfl (by first | (right; assumption) | (left; simp)) ?_)
    | refine vd_do rfl (e_st st 2 rfl rfl rfl rfl Tryd.sizeOf27 rfl rfl (by first | (right; assumption) | (left; simp)) ?_)
    | refine vd_do rfl (e_st st 3 rfl rfl rfl rfl Tryd.sizeOf27 rfl rfl (by first | (right; assumption) | (left; simp)) ?_)
    intro w st; dsimp only [setNth, wr] at st
    refine vd_next (by first | exact st | exact st.drop (by repeat (first | exact List.Sublist.slnil | apply List.Sublist.cons_cons | apply List.Sublist.cons))) ?_; intro hS
    first
    | refine vd_do rfl (e_sts (vs := [_, _]) st 0 rfl rfl rfl rfl rfl Tryd.sizeOf29 rfl rfl (by first | (right; assumption) | (left; simp)) ?_)
    | refine vd_do rfl (e_sts (vs := [_, _]) st 1 rfl rfl rfl rfl rfl Tryd.sizeOf29 rfl rfl (by first | (right; assumption) | (left; simp)) ?_)
    | refine vd_do rfl (e_sts (vs := [_, _]) st 2 rfl rfl rfl rfl rfl Tryd.sizeOf29 rfl rfl (by first | (right; assumption) | (left; simp)) ?_)
    | refine vd_do rfl (e_sts (vs := [_, _]) st 3 rfl rfl rfl rfl rfl Tryd.sizeOf29 rfl rfl (by first | (right; assumption) | (left; simp)) ?_)
    intro w st; dsimp only [setNth, wr] at st
    refine vd_next (by first | exact st | exact st.drop (by repeat (first | exact List.Sublist.slnil | apply List.Sublist.cons_cons | apply List.Sublist.cons))) ?_; intro hS
    refine vd_end ?_
    intro a ha
    exact ⟨ha.defers, _, rfl, .tuple #[], by simp [results, Tryd.results28], ⟨_, rfl⟩, rfl, by first | exact ⟨st.res (i := 0) rfl, st.res (i := 1) rfl, st.res (i := 2) rfl, st.chg⟩⟩
  ·
    first
    | refine (e_sts (vs := [_, _, _, _, _, _]) st 0 rfl rfl rfl rfl rfl Tryd.sizeOf26 rfl rfl (by first | (right; assumption) | (left; simp)) ?_)
    | refine (e_sts (vs := [_, _, _, _, _, _]) st 1 rfl rfl rfl rfl rfl Tryd.sizeOf26 rfl rfl (by first | (right; assumption) | (left; simp)) ?_)
    | refine (e_sts (vs := [_, _, _, _, _, _]) st 2 rfl rfl rfl rfl rfl Tryd.sizeOf26 rfl rfl (by first | (right; assumption) | (left; simp)) ?_)
    | refine (e_sts (vs := [_, _, _, _, _, _]) st 3 rfl rfl rfl rfl rfl Tryd.sizeOf26 rfl rfl (by first | (right; assumption) | (left; simp)) ?_)
    intro w st; dsimp only [setNth, wr] at st
    refine vd_next (by first | exact st | exact st.drop (by repeat (first | exact List.Sublist.slnil | apply List.Sublist.cons_cons | apply List.Sublist.cons))) ?_; intro hS
    refine vd_two rfl rfl ?_ ?_
    ·
      refine (e_run rfl rfl (y_ta rfl Tryd.underlying65) ?_)
      refine vd_next (by first | exact st | exact st.drop (by repeat (first | exact List.Sublist.slnil | apply List.Sublist.cons_cons | apply List.Sublist.cons))) ?_; intro hS
      refine vd_take rfl rfl rfl hS (fun w st => y_fldA (vs := [_, _]) rfl Tryd.underlying65 rfl rfl Tryd.isAgg29 Tryd.sizeOf29 rfl) ?_
      first
      | refine vd_do rfl (e_st st 0 rfl rfl rfl rfl Tryd.sizeOf27 rfl rfl (by first | (right; assumption) | (left; simp)) ?_)
      | refine vd_do rfl (e_st st 1 rfl rfl rfl rfl Tryd.sizeOf27 rfl rfl (by first | (right; assumption) | (left; simp)) ?_)
      | refine vd_do rfl (e_st st 2 rfl rfl rfl rfl Tryd.sizeOf27 rfl rfl (by first | (right; assumption) | (left; simp)) ?_)
      | refine vd_do rfl (e_st st 3 rfl rfl rfl rfl Tryd.sizeOf27 rfl rfl (by first | (right; assumption) | (left; simp)) ?_)
      intro w st; dsimp only [setNth, wr] at st
      refine vd_next (by first | exact st | exact st.drop (by repeat (first | exact List.Sublist.slnil | apply List.Sublist.cons_cons | apply List.Sublist.cons))) ?_; intro hS
      first
      | refine vd_do rfl (e_sts (vs := [_, _]) st 0 rfl rfl rfl rfl rfl Tryd.sizeOf29 rfl rfl (by first | (right; assumption) | (left; simp)) ?_)
      | refine vd_do rfl (e_sts (vs := [_, _]) st 1 rfl rfl rfl rfl rfl Tryd.sizeOf29 rfl rfl (by first | (right; assumption) | (left; simp)) ?_)
      | refine vd_do rfl (e_sts (vs := [_, _]) st 2 rfl rfl rfl rfl rfl Tryd.sizeOf29 rfl rfl (by first | (right; assumption) | (left; simp)) ?_)
      | refine vd_do rfl (e_sts (vs := [_, _]) st 3 rfl rfl rfl rfl rfl Tryd.sizeOf29 rfl rfl (by first | (right; assumption) | (left; simp)) ?_)
      intro w st; dsimp only [setNth, wr] at st
      refine vd_next (by first | exact st | exact st.drop (by repeat (first | exact List.Sublist.slnil | apply List.Sublist.cons_cons | apply List.Sublist.cons))) ?_; intro hS
      refine vd_end ?_
      intro a ha
      exact ⟨ha.defers, _, rfl, .tuple #[], by simp [results, Tryd.results28], ⟨_, rfl⟩, rfl, by first | exact ⟨st.res (i := 0) rfl, st.res (i := 1) rfl, st.res (i := 2) rfl, st.chg⟩⟩
    ·
      first
      | refine (e_st st 0 rfl rfl rfl rfl Tryd.sizeOf27 rfl rfl (by first | (right; assumption) | (left; simp)) ?_)
      | refine (e_st st 1 rfl rfl rfl rfl Tryd.sizeOf27 rfl rfl (by first | (right; assumption) | (left; simp)) ?_)
      | refine (e_st st 2 rfl rfl rfl rfl Tryd.sizeOf27 rfl rfl (by first | (right; assumption) | (left; simp)) ?_)
      | refine (e_st st 3 rfl rfl rfl rfl Tryd.sizeOf27 rfl rfl (by first | (right; assumption) | (left; simp)) ?_)
      intro w st; dsimp only [setNth, wr] at st
      refine vd_next (by first | exact st | exact st.drop (by repeat (first | exact List.Sublist.slnil | apply List.Sublist.cons_cons | apply List.Sublist.cons))) ?_; intro hS
      refine vd_do rfl (e_run rfl rfl (y_ta rfl Tryd.underlying65) ?_)
      refine vd_next (by first | exact st | exact st.drop (by repeat (first | exact List.Sublist.slnil | apply List.Sublist.cons_cons | apply List.Sublist.cons))) ?_; intro hS
      refine vd_take rfl rfl rfl hS (fun w st => y_fldA (vs := [_, _]) rfl Tryd.underlying65 rfl rfl Tryd.isAgg29 Tryd.sizeOf29 rfl) ?_
      first
      | refine vd_do rfl (e_sts (vs := [_, _]) st 0 rfl rfl rfl rfl rfl Tryd.sizeOf29 rfl rfl (by first | (right; assumption) | (left; simp)) ?_)
      | refine vd_do rfl (e_sts (vs := [_, _]) st 1 rfl rfl rfl rfl rfl Tryd.sizeOf29 rfl rfl (by first | (right; assumption) | (left; simp)) ?_)
      | refine vd_do rfl (e_sts (vs := [_, _]) st 2 rfl rfl rfl rfl rfl Tryd.sizeOf29 rfl rfl (by first | (right; assumption) | (left; simp)) ?_)
      | refine vd_do rfl (e_sts (vs := [_, _]) st 3 rfl rfl rfl rfl rfl Tryd.sizeOf29 rfl rfl (by first | (right; assumption) | (left; simp)) ?_)
      intro w st; dsimp only [setNth, wr] at st
      refine vd_next (by first | exact st | exact st.drop (by repeat (first | exact List.Sublist.slnil | apply List.Sublist.cons_cons | apply List.Sublist.cons))) ?_; intro hS
      refine vd_end ?_
      intro a ha
      exact ⟨ha.defers, _, rfl, .tuple #[], by simp [results, Tryd.results28], ⟨_, rfl⟩, rfl, by first | exact ⟨st.res (i := 0) rfl, st.res (i := 1) rfl, st.res (i := 2) rfl, st.chg⟩⟩

end Go.Proofs.YtggnfanphcaamaaDoor

