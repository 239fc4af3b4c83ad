/- A part of the proof: contracts of functions and plain laws; each theorem says its own conditions. -/
import Derived.Test.YtnmhlpnapgojjaaGreatDoorPrettyNamesK7
import Derived.Test.YtnmhlpnapgojjaaGreatDoorPrettyNamesK1
import Derived.Test.YtnmhlpnapgojjaaGreatDoorPrettyNamesK3
import Derived.Test.YtnmhlpnapgojjaaGreatDoorPrettyNamesK2
import Derived.Test.YtnmhlpnapgojjaaGreatDoorPrettyNamesK6
set_option linter.unusedVariables false
set_option linter.unusedSimpArgs false
/- A name put in its place in an ordered list, each once; it comes to the sorted list of all names: no program in sight. -/
namespace LexS
open Sx
def insW : List Wd → Wd → List Wd
  | [], s => [s]
  | x :: r, s => if x < s then x :: insW r s else if x = s then x :: r else s :: x :: r
def putL (l : List Wd) (s : Wd) : List Wd := if s = [] then l else insW l s
def putAll (ns : List Wd) (l : List Wd) : List Wd := ns.foldl putL l
theorem putAll_one (s : Wd) (l : List Wd) : putAll [s] l = putL l s := rfl
theorem putAll_app (a b l : List Wd) : putAll (a ++ b) l = putAll b (putAll a l) := by simp [putAll, List.foldl_append]
theorem insW_at {s : Wd} : ∀ {l : List Wd} {k : Nat}, (∀ i x, i < k → l[i]? = some x → x < s) → k ≤ l.length → (∀ x, l[k]? = some x → ¬ x < s) → insW l s = if l[k]? = some s then l else l.take k ++ [s] ++ l.drop k := by
  intro l
  induction l with
  | nil => intro k h1 h2 h3; simp [insW]
  | cons x r ih =>
    intro k h1 h2 h3
    cases k with
    | zero =>
      have := h3 x rfl
      simp only [insW, if_neg this]
      by_cases h : x = s
      · simp [h]
      · simp [h]
    | succ k =>
      have hx := h1 0 x (by omega) rfl
      simp only [insW, if_pos hx]
      rw [ih (k := k) (fun i y hi hy => h1 (i + 1) y (by omega) (by simpa using hy)) (by simpa using h2) (fun y hy => h3 y (by simpa using hy))]
      simp only [List.getElem?_cons_succ, List.take_succ_cons, List.drop_succ_cons]
      split <;> simp
theorem insW_len (l : List Wd) (s : Wd) : (insW l s).length ≤ l.length + 1 := by
  induction l with
  | nil => simp [insW]
  | cons x r ih =>
    simp only [insW]
    split
    · simp; omega
    · split <;> simp
theorem putL_len (l : List Wd) (s : Wd) : (putL l s).length ≤ l.length + 1 := by
  unfold putL; split
  · omega
  · exact insW_len l s
theorem putAll_len (ns : List Wd) : ∀ l : List Wd, (putAll ns l).length ≤ l.length + ns.length := by
  induction ns with
  | nil => intro l; simp [putAll]
  | cons s r ih =>
    intro l
    have h1 := ih (putL l s)
    have h2 := putL_len l s
    show (putAll r (putL l s)).length ≤ _
    simp only [List.length_cons]; omega
theorem mem_insW {s x : Wd} {l : List Wd} : x ∈ insW l s ↔ x = s ∨ x ∈ l := by
  induction l with
  | nil => simp [insW]
  | cons y r ih =>
    simp only [insW]
    split
    · simp only [List.mem_cons, ih]
      constructor
      · rintro (h | h | h) <;> simp [h]
      · rintro (h | h | h) <;> simp [h]
    · split
      · rename_i h; subst h; simp
      · simp
theorem mem_putL {s x : Wd} {l : List Wd} : x ∈ putL l s ↔ (x = s ∧ s ≠ []) ∨ x ∈ l := by
  unfold putL; split
  · rename_i h; simp [h]
  · rename_i h; rw [mem_insW]; simp [h]
theorem mem_putAll {ns : List Wd} : ∀ {l : List Wd} {x : Wd}, x ∈ putAll ns l ↔ (x ∈ ns ∧ x ≠ []) ∨ x ∈ l := by
  induction ns with
  | nil => intro l x; simp [putAll]
  | cons s r ih =>
    intro l x
    show x ∈ putAll r (putL l s) ↔ _
    rw [ih, mem_putL]
    constructor
    · rintro (⟨h1, h2⟩ | ⟨h1, h2⟩ | h)
      · exact .inl ⟨List.mem_cons_of_mem _ h1, h2⟩
      · exact .inl ⟨by rw [h1]; exact List.mem_cons_self, by rw [h1]; exact h2⟩
      · exact .inr h
    · rintro (⟨h1, h2⟩ | h)
      · rcases List.mem_cons.1 h1 with e | h
        · exact .inr (.inl ⟨e, by rw [← e]; exact h2⟩)
        · exact .inl ⟨h, h2⟩
      · exact .inr (.inr h)
theorem insW_sorted {s : Wd} {l : List Wd} (h : l.Pairwise (· < ·)) : (insW l s).Pairwise (· < ·) := by
  induction l with
  | nil => simp [insW]
  | cons x r ih =>
    obtain ⟨h1, h2⟩ := List.pairwise_cons.1 h
    simp only [insW]
    split
    · rename_i hx
      refine List.pairwise_cons.2 ⟨fun y hy => ?_, ih h2⟩
      rcases mem_insW.1 hy with rfl | h
      · exact hx
      · exact h1 y h
    · split
      · exact h
      · rename_i hx hne
        have hs : s < x := Decidable.byContradiction fun hn => hne (List.le_antisymm (List.not_lt.1 hn) (List.not_lt.1 hx))
        refine List.pairwise_cons.2 ⟨fun y hy => ?_, h⟩
        rcases List.mem_cons.1 hy with rfl | h
        · exact hs
        · exact List.lt_trans hs (h1 y h)
theorem putAll_sorted {ns : List Wd} : ∀ {l : List Wd}, l.Pairwise (· < ·) → (putAll ns l).Pairwise (· < ·) := by
  induction ns with
  | nil => intro l h; exact h
  | cons s r ih =>
    intro l h
    show (putAll r (putL l s)).Pairwise _
    refine ih ?_
    unfold putL; split
    · exact h
    · exact insW_sorted h
/-- the reference's list of names is the program's -/
theorem putAll_names (p : Pg) : putAll (nmsP p) [] = namesL p := by
  have hs : (putAll (nmsP p) []).Pairwise (· < ·) := putAll_sorted List.Pairwise.nil
  have hn : (putAll (nmsP p) []).Nodup := hs.imp fun h e => by subst e; exact List.lt_irrefl _ h
  have hp : (putAll (nmsP p) []).Perm (namesL p) := (List.perm_ext_iff_of_nodup hn namesL_nodup).2 fun x => by rw [mem_putAll, mem_namesL]; simp
  have h1 : (putAll (nmsP p) []).Pairwise (· ≤ ·) := hs.imp fun h => List.le_of_lt h
  have h2 : (namesL p).Pairwise (· ≤ ·) := by
    have := List.pairwise_mergeSort (le := fun x y : Wd => decide (x ≤ y)) (fun a b c h1 h2 => by simp only [decide_eq_true_eq] at *; exact List.le_trans h1 h2) (fun a b => by simp only [Bool.or_eq_true, decide_eq_true_eq]; exact List.le_total a b) (addAll (nmsP p) [])
    exact this.imp fun h => by simpa using h
  exact hp.eq_of_pairwise (fun a b _ _ h1 h2 => List.le_antisymm h1 h2) h1 h2
end LexS


namespace Go.Proofs.YtnmhlpnapgojjaaGreatDoor.Pq
open Go.RowKit Sx LexS _root_.Go.Proofs.Tryz
theorem Tryz.info9 : Tryz.prog.info? 9 = some Tryz.t9 := by kernel_rfl
theorem flat_take_le {α : Type} {f : α → List Wd} (l : List α) (k : Nat) : ((l.take k).flatMap f).length ≤ (l.flatMap f).length := by
 conv => rhs; rw [← List.take_append_drop k l, List.flatMap_append, List.length_append]
 omega
section
variable {S : Nat → Prop}

set_option maxHeartbeats 1000000 in
theorem rputs_any (l : List Wd) (s : Wd) (v : Value) (w : World) (hv : SV w v l) (hl : l.length + 1 ≤ 4398046511104) :
    Ret Tryz.prog 66 [v, str s] w fun v w' => SV w' v (putL l s) ∧ Chg [] w w' := by
 obtain ⟨oa, ca, rfl, hca, hr⟩ := hv
 refine ret_of [_, _] func66 rfl ntmps66 rfl ?_
 have st := St.init w []
 obtain ⟨w0, rfl⟩ : ∃ w0, w0 = w := ⟨_, rfl⟩
 refine vc_seq (vc_region ?_)
 refine ya ?_
 refine vc_end (vq_then (vk2 0 1 (vc_seq (vc_seq (vc_region ?_)))))
 refine ym ?_
 refine vy (y_eqs rfl rfl) ?_
 refine vc_end (vq_then (vk3 0 1 8 ?_))
 refine vc_ifs rfl ?_ ?_
 ·intro hc8
  try simp only [dn] at hc8
  refine vc_seq (vc_region ?_)
  refine ym ?_
  refine ya ?_
  refine vc_end (vq_then (vk1 4 (vc_ret (vq_then_ret ?_))))
  refine vq_ret1 st (.inl rfl) results66 (.tmp rfl) ?_
  refine ⟨_, rfl, ?_⟩
  exact ⟨⟨oa, ca, by rw [putL, if_pos (by assumption)], by rw [putL, if_pos (by assumption)]; exact hca, by rw [putL, if_pos (by assumption)]; exact hr⟩, st.chg⟩
 ·intro hc8
  try simp only [dn] at hc8
  refine vc_code_skip (vq_then (vk2 0 1 (vc_seq (vc_region ?_))))
  refine ya ?_
  refine vc_end (vq_then (vk3 0 1 5 (vc_seq (vc_block ?_))))
  refine vc_loop (w0 := w0) (M := []) (fun (y : Nat) => [(0, .slice oa l.length ca), (1, str s), (5, .int .i64 (y : Int))]) (fun _ => []) (fun y _ => y ≤ l.length ∧ ∀ (i : Nat) x, i < y → l[i]? = some x → x < s) (fun y => l.length - y) 0 ⟨rfl, rfl, rfl, trivial⟩ st ⟨by omega, fun i x h => by omega⟩ ?_
  clear st
  rintro k w ⟨hk, hall⟩ st
  refine vc_seq (vc_seq (vc_region ?_))
  iterate 2 refine ym ?_
  refine vy (y_lensl rfl underlying50) ?_
  refine vy (y_lss rfl rfl) ?_
  refine vmb ?_ ?_
  ·intro hg14
   try simp only [dn] at hg14
   obtain ⟨x, hx⟩ : ∃ x, l[k]? = some x := ⟨_, List.getElem?_eq_getElem (by omega)⟩
   obtain ⟨gb, go, e, hgl, hc⟩ := hr.at (by omega)
   cases e
   iterate 2 refine ym ?_
   refine vy (y_ia (k := k) rfl rfl underlying50 sizeOf9 rfl (by omega)) ?_
   refine vy ((by exact y_ldc rfl isAgg9 (st.chg.cell (by rw [Nat.mul_one]; exact hc k x hx) (by simp)))) ?_
   refine ym ?_
   refine vy (y_lts rfl rfl) ?_
   refine ypt ?_
   refine vc_end (vq_then (vk4 0 1 5 21 ?_))
   refine vc_ifs rfl ?_ ?_
   ·intro hc21
    try simp only [dn] at hc21
    refine vc_code_skip (vq_then (vk3 0 1 5 (vc_block (vc_region ?_))))
    refine ym ?_
    refine vy (y_add rfl rfl (by omega : _ = ((k + 1 : Nat) : Int)) (by omega) (by omega)) ?_
    refine ya ?_
    refine vc_end (vq_block ?_)
    refine vq_again (k + 1)  ⟨rfl, rfl, rfl, trivial⟩ st ?_ ?_
    ·exact ⟨by omega, fun i y hi hy => by
         rcases (by omega : i < k ∨ i = k) with h | rfl
         · exact hall i y h hy
         · rw [hx] at hy; cases hy; assumption⟩
    ·omega
   ·intro hc21
    try simp only [dn] at hc21
    refine vc_exit (vq_then_exit (vq_then_exit (vq_block_exit (vq_then (vk3 0 1 5 (vc_seq (vc_seq (vc_region ?_))))))))
    iterate 2 refine ym ?_
    refine vy (y_lensl rfl underlying50) ?_
    refine vy (y_lss rfl rfl) ?_
    refine vmb ?_ ?_
    ·intro hg28
     try simp only [dn] at hg28
     obtain ⟨x, hx⟩ : ∃ x, l[k]? = some x := ⟨_, List.getElem?_eq_getElem (by omega)⟩
     obtain ⟨gb, go, e, hgl, hc⟩ := hr.at (by omega)
     cases e
     iterate 2 refine ym ?_
     refine vy (y_ia (k := k) rfl rfl underlying50 sizeOf9 rfl (by omega)) ?_
     refine vy ((by exact y_ldc rfl isAgg9 (st.chg.cell (by rw [Nat.mul_one]; exact hc k x hx) (by simp)))) ?_
     refine ym ?_
     refine vy (y_eqs rfl rfl) ?_
     refine ypt ?_
     refine vc_end (vq_then (vk4 0 1 5 35 ?_))
     refine vc_ifs rfl ?_ ?_
     ·intro hc35
      try simp only [dn] at hc35
      refine vc_seq (vc_region ?_)
      refine ym ?_
      refine ya ?_
      refine vc_end (vq_then (vk1 4 (vc_ret (vq_then_ret ?_))))
      refine vq_ret1 st (.inl rfl) results66 (.tmp rfl) ?_
      refine ⟨_, rfl, ?_⟩
      have hno : ∀ y, l[k]? = some y → ¬ y < s := fun y hy => by simp_all
      first
       | (have hp : putL l s = l := by
            rw [putL, if_neg (by assumption), insW_at hall hk hno, if_pos (by simp_all)]
          rw [hp]
          exact ⟨⟨_, ca, rfl, hca, hr.kept st.chg⟩, st.chg⟩)
     ·intro hc35
      try simp only [dn] at hc35
      refine vc_code_skip (vq_then (vk3 0 1 5 (vc_seq (vc_region ?_))))
      refine vc_e (e_bs0 st rfl rfl underlying50 sizeOf9 ?_)
      intro b37 w hb37 st
      iterate 2 refine ym ?_
      refine vy (y_slh (j := k) rfl rfl underlying50 sizeOf9 rfl (by omega)) ?_
      refine vc_e (e_appr (bytes := 16) (len' := k) (ys := (l.take k).map str) st 0 rfl rfl rfl rfl rfl ((hr.kept st.chg).rd k) underlying50 Tryz.info9 rfl rfl rfl rfl rfl (by simp; omega) (strs_one _) (by unfold maxLen; omega) (by omega) (by omega) (by simp) ?_)
      intro oaP capP w st; dsimp only [setNth] at st
      refine ya ?_
      refine vc_end (vq_then (vk4 0 1 5 6 (vc_seq (vc_region ?_))))
      iterate 2 refine ym ?_
      refine vc_e (e_bs1 (l := [_]) st rfl rfl rfl rfl underlying50 sizeOf9 rfl rfl rfl zeroValue9 ?_)
      intro b44 w hb44 st
      refine vc_e (e_app (bytes := 16) st 1 0 rfl rfl rfl rfl rfl rfl underlying50 Tryz.info9 rfl rfl rfl rfl rfl (by simp) rfl rfl (by unfold maxLen; omega) (by omega) ?_)
      intro oa45 cap45 w st; dsimp only [setNth] at st
      refine ya ?_
      refine vc_end (vq_then (vk3 0 5 6 (vc_seq (vc_region ?_))))
      iterate 3 refine ym ?_
      refine vy (y_sll (i := _) rfl rfl underlying50 sizeOf9 rfl (by omega) (by omega)) ?_
      refine vc_e (e_appr (bytes := 16) (len' := l.length + 1) (ys := (l.take k ++ [s] ++ l.drop k).map str) st 1 rfl rfl rfl rfl rfl ((hr.kept st.chg).rdl k ca hk hca) underlying50 Tryz.info9 rfl rfl rfl rfl rfl (by simp) (strs_one _) (by unfold maxLen; omega) (by omega) (by omega) (by simp) ?_)
      intro oaR capR w st; dsimp only [setNth] at st
      refine ya ?_
      refine vc_end (vq_then (vk1 4 (vc_ret ?_)))
      refine vq_ret1 st (.inl rfl) results66 (.tmp rfl) ?_
      refine ⟨_, rfl, ?_⟩
      have hno : ∀ y, l[k]? = some y → ¬ y < s := fun y hy => by simp_all
      first
       | (have hp : putL l s = l.take k ++ [s] ++ l.drop k := by
            rw [putL, if_neg (by assumption), insW_at hall hk hno, if_neg (by simp_all)]
          rw [hp]
          exact ⟨.own (st.res (i := 1) rfl), st.chg⟩)
    ·intro hg28
     try simp only [dn] at hg28
     iterate 6 refine vsk ?_
     refine ypf ?_
     refine vc_end (vq_then (vk4 0 1 5 35 ?_))
     refine vc_iff rfl ?_
     refine vc_code_skip (vq_then (vk3 0 1 5 (vc_seq (vc_region ?_))))
     refine vc_e (e_bs0 st rfl rfl underlying50 sizeOf9 ?_)
     intro b37 w hb37 st
     iterate 2 refine ym ?_
     refine vy (y_slh (j := k) rfl rfl underlying50 sizeOf9 rfl (by omega)) ?_
     refine vc_e (e_appr (bytes := 16) (len' := k) (ys := (l.take k).map str) st 0 rfl rfl rfl rfl rfl ((hr.kept st.chg).rd k) underlying50 Tryz.info9 rfl rfl rfl rfl rfl (by simp; omega) (strs_one _) (by unfold maxLen; omega) (by omega) (by omega) (by simp) ?_)
     intro oaP capP w st; dsimp only [setNth] at st
     refine ya ?_
     refine vc_end (vq_then (vk4 0 1 5 6 (vc_seq (vc_region ?_))))
     iterate 2 refine ym ?_
     refine vc_e (e_bs1 (l := [_]) st rfl rfl rfl rfl underlying50 sizeOf9 rfl rfl rfl zeroValue9 ?_)
     intro b44 w hb44 st
     refine vc_e (e_app (bytes := 16) st 1 0 rfl rfl rfl rfl rfl rfl underlying50 Tryz.info9 rfl rfl rfl rfl rfl (by simp) rfl rfl (by unfold maxLen; omega) (by omega) ?_)
     intro oa45 cap45 w st; dsimp only [setNth] at st
     refine ya ?_
     refine vc_end (vq_then (vk3 0 5 6 (vc_seq (vc_region ?_))))
     iterate 3 refine ym ?_
     refine vy (y_sll (i := _) rfl rfl underlying50 sizeOf9 rfl (by omega) (by omega)) ?_
     refine vc_e (e_appr (bytes := 16) (len' := l.length + 1) (ys := (l.take k ++ [s] ++ l.drop k).map str) st 1 rfl rfl rfl rfl rfl ((hr.kept st.chg).rdl k ca hk hca) underlying50 Tryz.info9 rfl rfl rfl rfl rfl (by simp) (strs_one _) (by unfold maxLen; omega) (by omega) (by omega) (by simp) ?_)
     intro oaR capR w st; dsimp only [setNth] at st
     refine ya ?_
     refine vc_end (vq_then (vk1 4 (vc_ret ?_)))
     refine vq_ret1 st (.inl rfl) results66 (.tmp rfl) ?_
     refine ⟨_, rfl, ?_⟩
     have hno : ∀ y, l[k]? = some y → ¬ y < s := fun y hy => by (have := (List.getElem?_eq_some_iff.1 hy).1; omega)
     first
      | (have hp : putL l s = l.take k ++ [s] ++ l.drop k := by
           rw [putL, if_neg (by assumption), insW_at hall hk hno, if_neg (by (intro h; have := (List.getElem?_eq_some_iff.1 h).1; omega))]
         rw [hp]
         exact ⟨.own (st.res (i := 1) rfl), st.chg⟩)
  ·intro hg14
   try simp only [dn] at hg14
   iterate 6 refine vsk ?_
   refine ypf ?_
   refine vc_end (vq_then (vk4 0 1 5 21 ?_))
   refine vc_iff rfl ?_
   refine vc_exit (vq_then_exit (vq_then_exit (vq_block_exit (vq_then (vk3 0 1 5 (vc_seq (vc_seq (vc_region ?_))))))))
   iterate 2 refine ym ?_
   refine vy (y_lensl rfl underlying50) ?_
   refine vy (y_lss rfl rfl) ?_
   refine vmb ?_ ?_
   ·intro hg28
    try simp only [dn] at hg28
    obtain ⟨x, hx⟩ : ∃ x, l[k]? = some x := ⟨_, List.getElem?_eq_getElem (by omega)⟩
    obtain ⟨gb, go, e, hgl, hc⟩ := hr.at (by omega)
    cases e
    iterate 2 refine ym ?_
    refine vy (y_ia (k := k) rfl rfl underlying50 sizeOf9 rfl (by omega)) ?_
    refine vy ((by exact y_ldc rfl isAgg9 (st.chg.cell (by rw [Nat.mul_one]; exact hc k x hx) (by simp)))) ?_
    refine ym ?_
    refine vy (y_eqs rfl rfl) ?_
    refine ypt ?_
    refine vc_end (vq_then (vk4 0 1 5 35 ?_))
    refine vc_ifs rfl ?_ ?_
    ·intro hc35
     try simp only [dn] at hc35
     refine vc_seq (vc_region ?_)
     refine ym ?_
     refine ya ?_
     refine vc_end (vq_then (vk1 4 (vc_ret (vq_then_ret ?_))))
     refine vq_ret1 st (.inl rfl) results66 (.tmp rfl) ?_
     refine ⟨_, rfl, ?_⟩
     have hno : ∀ y, l[k]? = some y → ¬ y < s := fun y hy => by (have := (List.getElem?_eq_some_iff.1 hy).1; omega)
     first
      | (have hp : putL l s = l := by
           rw [putL, if_neg (by assumption), insW_at hall hk hno, if_pos (by simp_all)]
         rw [hp]
         exact ⟨⟨_, ca, rfl, hca, hr.kept st.chg⟩, st.chg⟩)
    ·intro hc35
     try simp only [dn] at hc35
     refine vc_code_skip (vq_then (vk3 0 1 5 (vc_seq (vc_region ?_))))
     refine vc_e (e_bs0 st rfl rfl underlying50 sizeOf9 ?_)
     intro b37 w hb37 st
     iterate 2 refine ym ?_
     refine vy (y_slh (j := k) rfl rfl underlying50 sizeOf9 rfl (by omega)) ?_
     refine vc_e (e_appr (bytes := 16) (len' := k) (ys := (l.take k).map str) st 0 rfl rfl rfl rfl rfl ((hr.kept st.chg).rd k) underlying50 Tryz.info9 rfl rfl rfl rfl rfl (by simp; omega) (strs_one _) (by unfold maxLen; omega) (by omega) (by omega) (by simp) ?_)
     intro oaP capP w st; dsimp only [setNth] at st
     refine ya ?_
     refine vc_end (vq_then (vk4 0 1 5 6 (vc_seq (vc_region ?_))))
     iterate 2 refine ym ?_
     refine vc_e (e_bs1 (l := [_]) st rfl rfl rfl rfl underlying50 sizeOf9 rfl rfl rfl zeroValue9 ?_)
     intro b44 w hb44 st
     refine vc_e (e_app (bytes := 16) st 1 0 rfl rfl rfl rfl rfl rfl underlying50 Tryz.info9 rfl rfl rfl rfl rfl (by simp) rfl rfl (by unfold maxLen; omega) (by omega) ?_)
     intro oa45 cap45 w st; dsimp only [setNth] at st
     refine ya ?_
     refine vc_end (vq_then (vk3 0 5 6 (vc_seq (vc_region ?_))))
     iterate 3 refine ym ?_
     refine vy (y_sll (i := _) rfl rfl underlying50 sizeOf9 rfl (by omega) (by omega)) ?_
     refine vc_e (e_appr (bytes := 16) (len' := l.length + 1) (ys := (l.take k ++ [s] ++ l.drop k).map str) st 1 rfl rfl rfl rfl rfl ((hr.kept st.chg).rdl k ca hk hca) underlying50 Tryz.info9 rfl rfl rfl rfl rfl (by simp) (strs_one _) (by unfold maxLen; omega) (by omega) (by omega) (by simp) ?_)
     intro oaR capR w st; dsimp only [setNth] at st
     refine ya ?_
     refine vc_end (vq_then (vk1 4 (vc_ret ?_)))
     refine vq_ret1 st (.inl rfl) results66 (.tmp rfl) ?_
     refine ⟨_, rfl, ?_⟩
     have hno : ∀ y, l[k]? = some y → ¬ y < s := fun y hy => by (have := (List.getElem?_eq_some_iff.1 hy).1; omega)
     first
      | (have hp : putL l s = l.take k ++ [s] ++ l.drop k := by
           rw [putL, if_neg (by assumption), insW_at hall hk hno, if_neg (by (intro h; have := (List.getElem?_eq_some_iff.1 h).1; omega))]
         rw [hp]
         exact ⟨.own (st.res (i := 1) rfl), st.chg⟩)
   ·intro hg28
    try simp only [dn] at hg28
    iterate 6 refine vsk ?_
    refine ypf ?_
    refine vc_end (vq_then (vk4 0 1 5 35 ?_))
    refine vc_iff rfl ?_
    refine vc_code_skip (vq_then (vk3 0 1 5 (vc_seq (vc_region ?_))))
    refine vc_e (e_bs0 st rfl rfl underlying50 sizeOf9 ?_)
    intro b37 w hb37 st
    iterate 2 refine ym ?_
    refine vy (y_slh (j := k) rfl rfl underlying50 sizeOf9 rfl (by omega)) ?_
    refine vc_e (e_appr (bytes := 16) (len' := k) (ys := (l.take k).map str) st 0 rfl rfl rfl rfl rfl ((hr.kept st.chg).rd k) underlying50 Tryz.info9 rfl rfl rfl rfl rfl (by simp; omega) (strs_one _) (by unfold maxLen; omega) (by omega) (by omega) (by simp) ?_)
    intro oaP capP w st; dsimp only [setNth] at st
    refine ya ?_
    refine vc_end (vq_then (vk4 0 1 5 6 (vc_seq (vc_region ?_))))
    iterate 2 refine ym ?_
    refine vc_e (e_bs1 (l := [_]) st rfl rfl rfl rfl underlying50 sizeOf9 rfl rfl rfl zeroValue9 ?_)
    intro b44 w hb44 st
    refine vc_e (e_app (bytes := 16) st 1 0 rfl rfl rfl rfl rfl rfl underlying50 Tryz.info9 rfl rfl rfl rfl rfl (by simp) rfl rfl (by unfold maxLen; omega) (by omega) ?_)
    intro oa45 cap45 w st; dsimp only [setNth] at st
    refine ya ?_
    refine vc_end (vq_then (vk3 0 5 6 (vc_seq (vc_region ?_))))
    iterate 3 refine ym ?_
    refine vy (y_sll (i := _) rfl rfl underlying50 sizeOf9 rfl (by omega) (by omega)) ?_
    refine vc_e (e_appr (bytes := 16) (len' := l.length + 1) (ys := (l.take k ++ [s] ++ l.drop k).map str) st 1 rfl rfl rfl rfl rfl ((hr.kept st.chg).rdl k ca hk hca) underlying50 Tryz.info9 rfl rfl rfl rfl rfl (by simp) (strs_one _) (by unfold maxLen; omega) (by omega) (by omega) (by simp) ?_)
    intro oaR capR w st; dsimp only [setNth] at st
    refine ya ?_
    refine vc_end (vq_then (vk1 4 (vc_ret ?_)))
    refine vq_ret1 st (.inl rfl) results66 (.tmp rfl) ?_
    refine ⟨_, rfl, ?_⟩
    have hno : ∀ y, l[k]? = some y → ¬ y < s := fun y hy => by (have := (List.getElem?_eq_some_iff.1 hy).1; omega)
    first
     | (have hp : putL l s = l.take k ++ [s] ++ l.drop k := by
          rw [putL, if_neg (by assumption), insW_at hall hk hno, if_neg (by (intro h; have := (List.getElem?_eq_some_iff.1 h).1; omega))]
        rw [hp]
        exact ⟨.own (st.res (i := 1) rfl), st.chg⟩)

theorem rnamesD_any (l : List Wd) (ds : List Dc) (hn : ds.length ≤ 1099511627776) (v : Value) (oa : Option Addr) (cap : Nat) (w : World) (hv : SV w v l) (hD : DcRow w S oa ds) (hl : l.length + (ds.map (·.nm)).length ≤ 4398046511104) :
    Ret Tryz.prog 65 [v, .slice oa ds.length cap] w fun v w' => SV w' v (putAll (ds.map (·.nm)) l) ∧ Chg [] w w' := by
 refine ret_of [_, _] func65 rfl ntmps65 rfl ?_
 have st := St.init w []
 obtain ⟨w0, rfl⟩ : ∃ w0, w0 = w := ⟨_, rfl⟩
 rw [List.length_map] at hl
 refine vc_seq (vc_region ?_)
 refine ya ?_
 refine vc_end (vq_then (vk2 0 1 (vc_seq (vc_seq (vc_region ?_)))))
 refine ya ?_
 refine vc_end (vq_then (vk3 0 1 5 (vc_block ?_)))
 refine vc_loop (w0 := w0) (M := []) (fun (y : (Nat × Value)) => [(0, y.2), (1, .slice oa ds.length cap), (5, .int .i64 (y.1 : Int))]) (fun _ => []) (fun y w => y.1 ≤ ds.length ∧ SV w y.2 (putAll ((ds.take y.1).map (·.nm)) l)) (fun y => ds.length - y.1) (0, v) ⟨rfl, rfl, rfl, trivial⟩ st ⟨by omega, hv.kept st.chg⟩ ?_
 clear st
 rintro ⟨j, u⟩ w ⟨hj, hu⟩ st
 dsimp only at *
 have hlen := putAll_len ((ds.take j).map (·.nm)) l
 rw [List.length_map, List.length_take] at hlen
 refine vc_seq (vc_seq (vc_region ?_))
 iterate 2 refine ym ?_
 refine vy (y_lensl rfl underlying23) ?_
 refine vy (y_lss rfl rfl) ?_
 refine vc_end (vq_then (vk4 0 1 5 9 ?_))
 refine vc_ifs rfl ?_ ?_
 ·intro hc9
  try simp only [dn] at hc9
  obtain ⟨x, hx⟩ : ∃ x, ds[j]? = some x := ⟨_, List.getElem?_eq_getElem (by omega)⟩
  obtain ⟨gb, go, rfl, hgS, hgl, hg⟩ := DcRow.at hD (by omega)
  have hc := hg j x hx
  refine vc_code_skip (vq_then (vk3 0 1 5 (vc_seq (vc_block (vc_region ?_)))))
  iterate 3 refine ym ?_
  refine vy (y_ia (k := j) rfl rfl underlying23 sizeOf63 rfl (by omega)) ?_
  refine vy (y_fa0 rfl underlying63 rfl rfl sizeOf9 rfl) ?_
  refine vy (y_ldc rfl isAgg9 (st.chg.cell (hc 0 _ rfl) (by simp))) ?_
  refine vc_e (e_call [_, _] rfl rfl call66 rfl (rputs_any _ _ _ _ hu (by omega)) ?_)
  rintro u2 w ⟨hu2, cw⟩
  replace st := st.call0 cw
  refine ya ?_
  refine vc_end (vq_block (vq_then (vk3 0 1 5 (vc_region ?_))))
  refine ym ?_
  refine vy (y_add rfl rfl (by omega : _ = ((j + 1 : Nat) : Int)) (by omega) (by omega)) ?_
  refine ya ?_
  refine vc_end ?_
  refine vq_again (j + 1, u2)  ⟨rfl, rfl, rfl, trivial⟩ st ?_ ?_
  ·exact ⟨by dsimp only; omega, by dsimp only; rw [map_step hx, putAll_app]; exact hu2⟩
  ·dsimp only; omega
 ·intro hc9
  try simp only [dn] at hc9
  refine vc_exit (vq_then_exit (vq_then_exit (vq_block_exit (vq_then (vk1 0 (vc_seq (vc_region ?_)))))))
  refine ym ?_
  refine ya ?_
  refine vc_end (vq_then (vk1 4 (vc_ret ?_)))
  refine vq_ret1 st (.inl rfl) results65 (.tmp rfl) ?_
  refine ⟨_, rfl, ?_⟩
  obtain rfl : j = ds.length := by omega
  rw [List.take_length] at hu
  exact ⟨hu, st.chg⟩

set_option maxHeartbeats 1000000 in
theorem rnamesE_any : ∀ (n : Nat) (es : List Ex), szo es = n → OkEs es → ∀ (l : List Wd) (v : Value) (oa : Option Addr) (cap : Nat) (w : World), SV w v l → ExRow w S oa es → l.length + (nmsEs es).length ≤ 4398046511104 →
    Ret Tryz.prog 133 [v, .slice oa es.length cap] w fun v w' => SV w' v (putAll (nmsEs es) l) ∧ Chg [] w w' := by
 intro n
 refine Nat.strongRecOn n fun n ih => ?_
 intro es hn hok l v oa cap w hv hr hl
 subst hn
 have hle := hok.1
 refine ret_of [_, _] func133 rfl ntmps133 rfl ?_
 have st := St.init w []
 obtain ⟨w0, rfl⟩ : ∃ w0, w0 = w := ⟨_, rfl⟩
 refine vc_seq (vc_region ?_)
 refine ya ?_
 refine vc_end (vq_then (vk2 0 1 (vc_seq (vc_seq (vc_region ?_)))))
 refine ya ?_
 refine vc_end (vq_then (vk3 0 1 5 (vc_block ?_)))
 refine vc_loop (w0 := w0) (M := []) (fun (y : (Nat × Value)) => [(0, y.2), (1, .slice oa es.length cap), (5, .int .i64 (y.1 : Int))]) (fun _ => []) (fun y w => y.1 ≤ es.length ∧ SV w y.2 (putAll (nmsEs (es.take y.1)) l)) (fun y => es.length - y.1) (0, v) ⟨rfl, rfl, rfl, trivial⟩ st ⟨by omega, hv.kept st.chg⟩ ?_
 clear st
 rintro ⟨j, u⟩ w ⟨hj, hu⟩ st
 dsimp only at *
 have hlen := putAll_len (nmsEs (es.take j)) l
 refine vc_seq (vc_seq (vc_region ?_))
 iterate 2 refine ym ?_
 refine vy (y_lensl rfl underlying40) ?_
 refine vy (y_lss rfl rfl) ?_
 refine vc_end (vq_then (vk4 0 1 5 9 ?_))
 refine vc_ifs rfl ?_ ?_
 ·intro hc9
  try simp only [dn] at hc9
  obtain ⟨e, he⟩ : ∃ e, es[j]? = some e := ⟨_, List.getElem?_eq_getElem (by omega)⟩
  obtain ⟨gb, go, rfl, hgS, hgl, hg⟩ := ExRow.at hr (by omega)
  obtain ⟨o0, c0, hV0, hr0, hc0⟩ := hg j e he
  have hke := hok.2 j e he
  have hz := mem_size he
  have hz2 : szo e.kids < szo es := by have := szo_kids e; omega
  have hst : nmsEs (es.take (j + 1)) = nmsEs (es.take j) ++ nmsE e := by rw [nmsEs_flat, nmsEs_flat, flat_step he]
  have hb : (nmsEs (es.take (j + 1))).length ≤ (nmsEs es).length := by rw [nmsEs_flat, nmsEs_flat]; exact flat_take_le es (j + 1)
  rw [hst, List.length_append, nmsE_eq, List.length_append] at hb
  refine vc_code_skip (vq_then (vk3 0 1 5 (vc_seq (vc_block (vc_seq (vc_seq (vc_region ?_)))))))
  iterate 2 refine ym ?_
  refine vy (y_ia (k := j) rfl rfl underlying40 sizeOf42 rfl (by omega)) ?_
  refine vy (y_fa0 rfl underlying42 rfl rfl sizeOf38 rfl) ?_
  refine vy (y_ldc rfl isAgg38 (st.chg.cell (hc0 0 _ rfl) (by simp))) ?_
  refine vy (y_eqi rfl rfl) ?_
  refine vc_end (vq_then (vk4 0 1 5 17 ?_))
  refine vc_ifs rfl ?_ ?_
  ·intro hc17
   try simp only [dn] at hc17
   have hk2 : e.k = 2 := by omega
   rw [if_pos hk2, List.length_singleton] at hb
   rw [nmsE_eq, if_pos hk2] at hst
   refine vc_region ?_
   iterate 3 refine ym ?_
   refine vy (y_ia (k := j) rfl rfl underlying40 sizeOf42 rfl (by omega)) ?_
   refine vy (y_fa (k := 3) rfl underlying42 rfl rfl sizeOf9 rfl) ?_
   refine vy (y_ldc rfl isAgg9 (st.chg.cell (hc0 3 _ rfl) (by simp))) ?_
   refine vc_e (e_call [_, _] rfl rfl call66 rfl (rputs_any _ _ _ _ hu (by omega)) ?_)
   rintro u2 w ⟨hu2, cw⟩
   replace st := st.call0 cw
   refine ya ?_
   refine vc_end (vq_then (vk3 0 1 5 (vc_region ?_)))
   iterate 3 refine ym ?_
   refine vy (y_ia (k := j) rfl rfl underlying40 sizeOf42 rfl (by omega)) ?_
   refine vy (y_fa (k := 4) rfl underlying42 rfl rfl sizeOf40 rfl) ?_
   refine vy (y_ldc rfl isAgg40 (st.chg.cell (hc0 4 _ rfl) (by simp))) ?_
   refine vc_e (e_call [_, _] rfl rfl call133 rfl (ih _ hz2 e.kids rfl hke.kids _ _ _ _ _ hu2 (hr0.kept (Same.of_nil st.chg)) (by have := putL_len (putAll (nmsEs (es.take j)) l) e.nm; omega)) ?_)
   rintro u3 w ⟨hu3, cw⟩
   replace st := st.call0 cw
   rw [← putAll_one e.nm, ← putAll_app, ← putAll_app, ← hst] at hu3
   refine ya ?_
   refine vc_end (vq_block (vq_then (vk3 0 1 5 (vc_region ?_))))
   refine ym ?_
   refine vy (y_add rfl rfl (by omega : _ = ((j + 1 : Nat) : Int)) (by omega) (by omega)) ?_
   refine ya ?_
   refine vc_end ?_
   refine vq_again (j + 1, u3)  ⟨rfl, rfl, rfl, trivial⟩ st ?_ ?_
   ·exact ⟨by dsimp only; omega, hu3⟩
   ·dsimp only; omega
  ·intro hc17
   try simp only [dn] at hc17
   have hk2 : ¬ e.k = 2 := by omega
   rw [if_neg hk2, List.length_nil] at hb
   rw [nmsE_eq, if_neg hk2, List.nil_append] at hst
   refine vc_code_skip (vq_then (vk3 0 1 5 (vc_region ?_)))
   iterate 3 refine ym ?_
   refine vy (y_ia (k := j) rfl rfl underlying40 sizeOf42 rfl (by omega)) ?_
   refine vy (y_fa (k := 4) rfl underlying42 rfl rfl sizeOf40 rfl) ?_
   refine vy (y_ldc rfl isAgg40 (st.chg.cell (hc0 4 _ rfl) (by simp))) ?_
   refine vc_e (e_call [_, _] rfl rfl call133 rfl (ih _ hz2 e.kids rfl hke.kids _ _ _ _ _ hu (hr0.kept (Same.of_nil st.chg)) (by omega)) ?_)
   rintro u3 w ⟨hu3, cw⟩
   replace st := st.call0 cw
   rw [← putAll_app, ← hst] at hu3
   refine ya ?_
   refine vc_end (vq_block (vq_then (vk3 0 1 5 (vc_region ?_))))
   refine ym ?_
   refine vy (y_add rfl rfl (by omega : _ = ((j + 1 : Nat) : Int)) (by omega) (by omega)) ?_
   refine ya ?_
   refine vc_end ?_
   refine vq_again (j + 1, u3)  ⟨rfl, rfl, rfl, trivial⟩ st ?_ ?_
   ·exact ⟨by dsimp only; omega, hu3⟩
   ·dsimp only; omega
 ·intro hc9
  try simp only [dn] at hc9
  refine vc_exit (vq_then_exit (vq_then_exit (vq_block_exit (vq_then (vk1 0 (vc_seq (vc_region ?_)))))))
  refine ym ?_
  refine ya ?_
  refine vc_end (vq_then (vk1 4 (vc_ret ?_)))
  refine vq_ret1 st (.inl rfl) results133 (.tmp rfl) ?_
  refine ⟨_, rfl, ?_⟩
  obtain rfl : j = es.length := by omega
  rw [List.take_length] at hu
  exact ⟨hu, st.chg⟩

set_option maxHeartbeats 1000000 in
theorem rnamesS_any : ∀ (n : Nat) (es : List Sm), szo es = n → OkSs es → ∀ (l : List Wd) (v : Value) (oa : Option Addr) (cap : Nat) (w : World), SV w v l → SmRow w S oa es → l.length + (nmsSs es).length ≤ 4398046511104 →
    Ret Tryz.prog 67 [v, .slice oa es.length cap] w fun v w' => SV w' v (putAll (nmsSs es) l) ∧ Chg [] w w' := by
 intro n
 refine Nat.strongRecOn n fun n ih => ?_
 intro es hn hok l v oa cap w hv hr hl
 subst hn
 have hle := hok.1
 refine ret_of [_, _] func67 rfl ntmps67 rfl ?_
 have st := St.init w []
 obtain ⟨w0, rfl⟩ : ∃ w0, w0 = w := ⟨_, rfl⟩
 refine vc_seq (vc_region ?_)
 refine ya ?_
 refine vc_end (vq_then (vk2 0 1 (vc_seq (vc_seq (vc_region ?_)))))
 refine ya ?_
 refine vc_end (vq_then (vk3 0 1 5 (vc_block ?_)))
 refine vc_loop (w0 := w0) (M := []) (fun (y : (Nat × Value)) => [(0, y.2), (1, .slice oa es.length cap), (5, .int .i64 (y.1 : Int))]) (fun _ => []) (fun y w => y.1 ≤ es.length ∧ SV w y.2 (putAll (nmsSs (es.take y.1)) l)) (fun y => es.length - y.1) (0, v) ⟨rfl, rfl, rfl, trivial⟩ st ⟨by omega, hv.kept st.chg⟩ ?_
 clear st
 rintro ⟨j, u⟩ w ⟨hj, hu⟩ st
 dsimp only at *
 have hlen := putAll_len (nmsSs (es.take j)) l
 refine vc_seq (vc_seq (vc_region ?_))
 iterate 2 refine ym ?_
 refine vy (y_lensl rfl underlying65) ?_
 refine vy (y_lss rfl rfl) ?_
 refine vc_end (vq_then (vk4 0 1 5 9 ?_))
 refine vc_ifs rfl ?_ ?_
 ·intro hc9
  try simp only [dn] at hc9
  obtain ⟨s, hs⟩ : ∃ s, es[j]? = some s := ⟨_, List.getElem?_eq_getElem (by omega)⟩
  obtain ⟨gb, go, rfl, hgS, hgl, hg⟩ := SmRow.at hr (by omega)
  obtain ⟨oe, ob, ol, ce, cb, cl, hsV, hse, hsb, hsl, hc⟩ := hg j s hs
  have hks := hok.2 j s hs
  have hz := mem_size hs
  have hB : szo s.body < szo es := by have : szo s.body < szo s := by cases s; exact sm_size.1
                                      omega
  have hL : szo s.els < szo es := by have : szo s.els < szo s := by cases s; exact sm_size.2
                                     omega
  have hst : nmsSs (es.take (j + 1)) = nmsSs (es.take j) ++ nmsS s := by rw [nmsSs_flat, nmsSs_flat, flat_step hs]
  have hb : (nmsSs (es.take (j + 1))).length ≤ (nmsSs es).length := by rw [nmsSs_flat, nmsSs_flat]; exact flat_take_le es (j + 1)
  rw [nmsS_eq] at hst
  rw [hst] at hb
  simp only [List.length_append, List.length_cons, List.length_nil] at hb
  refine vc_code_skip (vq_then (vk3 0 1 5 (vc_seq (vc_block (vc_seq (vc_region ?_))))))
  iterate 3 refine ym ?_
  refine vy (y_ia (k := j) rfl rfl underlying65 sizeOf67 rfl (by omega)) ?_
  refine vy (y_fa (k := 1) rfl underlying67 rfl rfl sizeOf9 rfl) ?_
  refine vy (y_ldc rfl isAgg9 (st.chg.cell (hc 1 _ rfl) (by simp))) ?_
  refine vc_e (e_call [_, _] rfl rfl call66 rfl (rputs_any _ _ _ _ hu (by omega)) ?_)
  rintro u1 w ⟨hu1, cw⟩
  replace st := st.call0 cw
  rw [← putAll_one s.nm, ← putAll_app] at hu1
  have n1 := putAll_len (nmsSs (es.take j) ++ [s.nm]) l
  simp only [List.length_append, List.length_cons, List.length_nil] at n1
  refine ya ?_
  refine vc_end (vq_then (vk3 0 1 5 (vc_seq (vc_region ?_))))
  iterate 3 refine ym ?_
  refine vy (y_ia (k := j) rfl rfl underlying65 sizeOf67 rfl (by omega)) ?_
  refine vy (y_fa (k := 2) rfl underlying67 rfl rfl sizeOf9 rfl) ?_
  refine vy (y_ldc rfl isAgg9 (st.chg.cell (hc 2 _ rfl) (by simp))) ?_
  refine vc_e (e_call [_, _] rfl rfl call66 rfl (rputs_any _ _ _ _ hu1 (by omega)) ?_)
  rintro u2 w ⟨hu2, cw⟩
  replace st := st.call0 cw
  rw [← putAll_one s.other, ← putAll_app] at hu2
  have n2 := putAll_len (nmsSs (es.take j) ++ [s.nm] ++ [s.other]) l
  simp only [List.length_append, List.length_cons, List.length_nil] at n2
  refine ya ?_
  refine vc_end (vq_then (vk3 0 1 5 (vc_seq (vc_region ?_))))
  iterate 3 refine ym ?_
  refine vy (y_ia (k := j) rfl rfl underlying65 sizeOf67 rfl (by omega)) ?_
  refine vy (y_fa (k := 3) rfl underlying67 rfl rfl sizeOf40 rfl) ?_
  refine vy (y_ldc rfl isAgg40 (st.chg.cell (hc 3 _ rfl) (by simp))) ?_
  refine vc_e (e_call [_, _] rfl rfl call133 rfl (rnamesE_any _ s.e rfl hks.e _ _ _ _ _ hu2 (hse.kept (Same.of_nil st.chg)) (by omega)) ?_)
  rintro u3 w ⟨hu3, cw⟩
  replace st := st.call0 cw
  rw [← putAll_app] at hu3
  have n3 := putAll_len (nmsSs (es.take j) ++ [s.nm] ++ [s.other] ++ nmsEs s.e) l
  simp only [List.length_append, List.length_cons, List.length_nil] at n3
  refine ya ?_
  refine vc_end (vq_then (vk3 0 1 5 (vc_seq (vc_region ?_))))
  iterate 3 refine ym ?_
  refine vy (y_ia (k := j) rfl rfl underlying65 sizeOf67 rfl (by omega)) ?_
  refine vy (y_fa (k := 4) rfl underlying67 rfl rfl sizeOf65 rfl) ?_
  refine vy (y_ldc rfl isAgg65 (st.chg.cell (hc 4 _ rfl) (by simp))) ?_
  refine vc_e (e_call [_, _] rfl rfl call67 rfl (ih _ hB s.body rfl hks.body _ _ _ _ _ hu3 (hsb.kept (Same.of_nil st.chg)) (by omega)) ?_)
  rintro u4 w ⟨hu4, cw⟩
  replace st := st.call0 cw
  rw [← putAll_app] at hu4
  have n4 := putAll_len (nmsSs (es.take j) ++ [s.nm] ++ [s.other] ++ nmsEs s.e ++ nmsSs s.body) l
  simp only [List.length_append, List.length_cons, List.length_nil] at n4
  refine ya ?_
  refine vc_end (vq_then (vk3 0 1 5 (vc_region ?_)))
  iterate 3 refine ym ?_
  refine vy (y_ia (k := j) rfl rfl underlying65 sizeOf67 rfl (by omega)) ?_
  refine vy (y_fa (k := 5) rfl underlying67 rfl rfl sizeOf65 rfl) ?_
  refine vy (y_ldc rfl isAgg65 (st.chg.cell (hc 5 _ rfl) (by simp))) ?_
  refine vc_e (e_call [_, _] rfl rfl call67 rfl (ih _ hL s.els rfl hks.els _ _ _ _ _ hu4 (hsl.kept (Same.of_nil st.chg)) (by omega)) ?_)
  rintro u5 w ⟨hu5, cw⟩
  replace st := st.call0 cw
  rw [← putAll_app] at hu5
  have h5 : nmsSs (es.take j) ++ [s.nm] ++ [s.other] ++ nmsEs s.e ++ nmsSs s.body ++ nmsSs s.els = nmsSs (es.take (j + 1)) := by rw [hst]; simp only [List.append_assoc, List.cons_append, List.nil_append]
  rw [h5] at hu5
  refine ya ?_
  refine vc_end (vq_block (vq_then (vk3 0 1 5 (vc_region ?_))))
  refine ym ?_
  refine vy (y_add rfl rfl (by omega : _ = ((j + 1 : Nat) : Int)) (by omega) (by omega)) ?_
  refine ya ?_
  refine vc_end ?_
  refine vq_again (j + 1, u5)  ⟨rfl, rfl, rfl, trivial⟩ st ?_ ?_
  ·exact ⟨by dsimp only; omega, hu5⟩
  ·dsimp only; omega
 ·intro hc9
  try simp only [dn] at hc9
  refine vc_exit (vq_then_exit (vq_then_exit (vq_block_exit (vq_then (vk1 0 (vc_seq (vc_region ?_)))))))
  refine ym ?_
  refine ya ?_
  refine vc_end (vq_then (vk1 4 (vc_ret ?_)))
  refine vq_ret1 st (.inl rfl) results67 (.tmp rfl) ?_
  refine ⟨_, rfl, ?_⟩
  obtain rfl : j = es.length := by omega
  rw [List.take_length] at hu
  exact ⟨hu, st.chg⟩

set_option maxHeartbeats 2000000 in
theorem rnames_any (p : Pg) (hok : OkP p) (os ol ot : Option Addr) (cs cl ct : Nat) (w : World) (hSh : DcRow w S os p.shared) (hL : DcRow w S ol p.locks) (hT : ThRow w S ot p.threads) (hlen : (nmsP p).length ≤ 4398046511104) :
    Ret Tryz.prog 22 [.agg (pgL p os ol ot cs cl ct).toArray] w fun v w' => SV w' v (namesL p) ∧ Chg [] w w' := by
 refine ret_of [_] func22 rfl ntmps22 rfl ?_
 have st := St.init w []
 obtain ⟨w0, rfl⟩ : ∃ w0, w0 = w := ⟨_, rfl⟩
 have hn1 := hok.1.1
 have hn2 := hok.2.1.1
 have hn3 := hok.2.2.1
 have hb0 : (p.shared.map (·.nm)).length + (p.locks.map (·.nm)).length + (p.threads.flatMap nmsT).length ≤ 4398046511104 := by
  have e : nmsP p = p.shared.map (·.nm) ++ p.locks.map (·.nm) ++ p.threads.flatMap nmsT := by simp [nmsP]
  rw [e] at hlen; simpa [Nat.add_assoc] using hlen
 refine vc_seq (vc_region ?_)
 refine vc_e (e_bx (l := [_, _, _]) st rfl rfl rfl rfl ?_)
 intro b1 w hb1 st
 refine ya ?_
 refine vc_end (vq_then (vk1 1 (vc_seq (vc_region ?_))))
 refine vy (y_fa0 rfl underlying26 rfl rfl sizeOf23 rfl) ?_
 refine yl st 0 isAgg23 ?_
 refine vc_e (e_call [_, _] rfl rfl call65 rfl (rnamesD_any [] p.shared hn1 _ _ _ _ (SV.nil _) (RowC.kept hSh (Same.of_nil st.chg)) (by simp only [List.length_nil]; omega)) ?_)
 rintro u1 w ⟨hu1, cw⟩
 replace st := st.call0 cw
 have n1 := putAll_len (p.shared.map (·.nm)) []
 simp only [List.length_nil] at n1
 refine ya ?_
 refine vc_end (vq_then (vk2 1 3 (vc_seq (vc_region ?_))))
 refine ym ?_
 refine yfz 1 underlying26 sizeOf23 ?_
 refine yl st 0 isAgg23 ?_
 refine vc_e (e_call [_, _] rfl rfl call65 rfl (rnamesD_any _ p.locks hn2 _ _ _ _ hu1 (RowC.kept hL (Same.of_nil st.chg)) (by omega)) ?_)
 rintro u2 w ⟨hu2, cw⟩
 replace st := st.call0 cw
 rw [← putAll_app] at hu2
 have n2 := putAll_len (p.shared.map (·.nm) ++ p.locks.map (·.nm)) []
 simp only [List.length_nil, List.length_append] at n2
 refine ya ?_
 refine vc_end (vq_then (vk2 1 3 (vc_seq (vc_seq (vc_region ?_)))))
 refine ya ?_
 refine vc_end (vq_then (vk3 1 3 4 (vc_block ?_)))
 refine vc_loop (w0 := w0) (M := []) (fun (y : Nat × Value) => [(1, .pointer (some ⟨b1, 0, none⟩)), (3, y.2), (4, .int .i64 (y.1 : Int))]) (fun _ => [.blk b1 (.cells (pgL p os ol ot cs cl ct).toArray 26 (0, 0))]) (fun y w => y.1 ≤ p.threads.length ∧ SV w y.2 (putAll (p.shared.map (·.nm) ++ p.locks.map (·.nm) ++ (p.threads.take y.1).flatMap nmsT) [])) (fun y => p.threads.length - y.1) (0, u2) ⟨rfl, rfl, rfl, trivial⟩ st ⟨by omega, by simpa using hu2⟩ ?_
 clear st
 rintro ⟨j, u⟩ w ⟨hj, hu⟩ st
 dsimp only at *
 have n3 := putAll_len (p.shared.map (·.nm) ++ p.locks.map (·.nm) ++ (p.threads.take j).flatMap nmsT) []
 simp only [List.length_nil, List.length_append] at n3
 refine vc_seq (vc_seq (vc_region ?_))
 refine ym ?_
 refine yfz 2 underlying26 sizeOf24 ?_
 refine yl st 0 isAgg24 ?_
 refine vy (y_lensl rfl underlying24) ?_
 refine vy (y_lss rfl rfl) ?_
 refine vc_end (vq_then (vk4 1 3 4 16 ?_))
 refine vc_ifs rfl ?_ ?_
 ·intro hc16
  try simp only [dn] at hc16
  have stK := st
  obtain ⟨t, htj⟩ : ∃ t, p.threads[j]? = some t := ⟨_, List.getElem?_eq_getElem (by omega)⟩
  obtain ⟨gb, go, rfl, hgS, hgl, hg⟩ := ThRow.at hT (by omega)
  obtain ⟨tl, tb, cll, cbb, htl, htb, hc⟩ := hg j t htj
  have hkt := hok.2.2.2 j t htj
  have hst := flat_step (f := nmsT) htj
  have hb := flat_take_le (f := nmsT) p.threads (j + 1)
  rw [hst] at hb
  simp only [nmsT, List.length_append, List.length_cons, List.length_nil] at hb
  have hb1 : ((p.threads.take j).flatMap nmsT).length + (1 + (t.locals.map (·.nm)).length + (nmsSs t.body).length) ≤ (p.threads.flatMap nmsT).length := by
   have := flat_take_le (f := nmsT) p.threads (j + 1)
   rw [hst, List.length_append] at this
   simp only [nmsT, List.length_append, List.length_cons, List.length_nil] at this ⊢
   omega
  have st := stK
  clear stK
  refine vc_code_skip (vq_then (vk3 1 3 4 (vc_seq (vc_block (vc_seq (vc_region ?_))))))
  refine ym ?_
  refine yfz 2 underlying26 sizeOf24 ?_
  refine yl st 0 isAgg24 ?_
  refine ym ?_
  refine vy (y_ia (k := j) rfl rfl underlying24 sizeOf69 rfl (by omega)) ?_
  refine vy (y_fa0 rfl underlying69 rfl rfl sizeOf9 rfl) ?_
  refine vy (y_ldc rfl isAgg9 (st.chg.cell (hc 0 _ rfl) (by simp))) ?_
  refine vc_e (e_call [_, _] rfl rfl call66 rfl (rputs_any _ _ _ _ hu (by omega)) ?_)
  rintro u3 w ⟨hu3, cw⟩
  replace st := st.call0 cw
  rw [← putAll_one t.nm, ← putAll_app] at hu3
  have n4 := putAll_len (p.shared.map (·.nm) ++ p.locks.map (·.nm) ++ (p.threads.take j).flatMap nmsT ++ [t.nm]) []
  simp only [List.length_nil, List.length_append, List.length_cons] at n4
  refine ya ?_
  refine vc_end (vq_then (vk3 1 3 4 (vc_seq (vc_region ?_))))
  refine ym ?_
  refine yfz 2 underlying26 sizeOf24 ?_
  refine yl st 0 isAgg24 ?_
  refine ym ?_
  refine vy (y_ia (k := j) rfl rfl underlying24 sizeOf69 rfl (by omega)) ?_
  refine vy (y_fa (k := 1) rfl underlying69 rfl rfl sizeOf23 rfl) ?_
  refine vy (y_ldc rfl isAgg23 (st.chg.cell (hc 1 _ rfl) (by simp))) ?_
  refine vc_e (e_call [_, _] rfl rfl call65 rfl (rnamesD_any _ t.locals hkt.1.1 _ _ _ _ hu3 (RowC.kept htl (Same.of_nil st.chg)) (by omega)) ?_)
  rintro u4 w ⟨hu4, cw⟩
  replace st := st.call0 cw
  rw [← putAll_app] at hu4
  have n5 := putAll_len (p.shared.map (·.nm) ++ p.locks.map (·.nm) ++ (p.threads.take j).flatMap nmsT ++ [t.nm] ++ t.locals.map (·.nm)) []
  simp only [List.length_nil, List.length_append, List.length_cons] at n5
  refine ya ?_
  refine vc_end (vq_then (vk3 1 3 4 (vc_region ?_)))
  refine ym ?_
  refine yfz 2 underlying26 sizeOf24 ?_
  refine yl st 0 isAgg24 ?_
  refine ym ?_
  refine vy (y_ia (k := j) rfl rfl underlying24 sizeOf69 rfl (by omega)) ?_
  refine vy (y_fa (k := 2) rfl underlying69 rfl rfl sizeOf65 rfl) ?_
  refine vy (y_ldc rfl isAgg65 (st.chg.cell (hc 2 _ rfl) (by simp))) ?_
  refine vc_e (e_call [_, _] rfl rfl call67 rfl (rnamesS_any _ t.body rfl hkt.2.1 _ _ _ _ _ hu4 (htb.kept (Same.of_nil st.chg)) (by omega)) ?_)
  rintro u5 w ⟨hu5, cw⟩
  replace st := st.call0 cw
  rw [← putAll_app] at hu5
  have h5 : p.shared.map (·.nm) ++ p.locks.map (·.nm) ++ (p.threads.take j).flatMap nmsT ++ [t.nm] ++ t.locals.map (·.nm) ++ nmsSs t.body = p.shared.map (·.nm) ++ p.locks.map (·.nm) ++ (p.threads.take (j + 1)).flatMap nmsT := by rw [hst]; simp only [nmsT, List.append_assoc]
  rw [h5] at hu5
  refine ya ?_
  refine vc_end (vq_block (vq_then (vk3 1 3 4 (vc_region ?_))))
  refine ym ?_
  refine vy (y_add rfl rfl (by omega : _ = ((j + 1 : Nat) : Int)) (by omega) (by omega)) ?_
  refine ya ?_
  refine vc_end ?_
  refine vq_again (j + 1, u5)  ⟨rfl, rfl, rfl, trivial⟩ st ?_ ?_
  ·exact ⟨by dsimp only; omega, hu5⟩
  ·dsimp only; omega
 ·intro hc16
  try simp only [dn] at hc16
  refine vc_exit (vq_then_exit (vq_then_exit (vq_block_exit (vq_then (vk1 3 (vc_seq (vc_region ?_)))))))
  refine ym ?_
  refine ya ?_
  refine vc_end (vq_then (vk1 2 (vc_ret ?_)))
  refine vq_ret1 st (.inl rfl) results22 (.tmp rfl) ?_
  refine ⟨_, rfl, ?_⟩
  obtain rfl : j = p.threads.length := by omega
  rw [List.take_length] at hu
  refine ⟨?_, st.chg⟩
  rw [← putAll_names p, show nmsP p = p.shared.map (·.nm) ++ p.locks.map (·.nm) ++ p.threads.flatMap nmsT from by simp [nmsP]]
  exact hu

theorem rstrings_any (a b : List Wd) (va vb : Value) (w : World) (ha : SV w va a) (hb : SV w vb b) (hla : a.length ≤ 1099511627776 * 4) (hlb : b.length ≤ 1099511627776 * 4) :
    Ret Tryz.prog 20 [va, vb] w fun v w' => v = .bool (decide (a = b)) ∧ Chg [] w w' := by
 obtain ⟨oa, ca, rfl, hca, hra⟩ := ha
 obtain ⟨ob, cb, rfl, hcb, hrb⟩ := hb
 refine ret_of [_, _] func20 rfl ntmps20 rfl ?_
 have st := St.init w []
 obtain ⟨w0, rfl⟩ : ∃ w0, w0 = w := ⟨_, rfl⟩
 refine vc_seq (vc_region ?_)
 refine ya ?_
 refine vc_end (vq_then (vk2 0 1 (vc_seq (vc_seq (vc_region ?_)))))
 refine ym ?_
 refine vy (y_lensl rfl underlying50) ?_
 refine ym ?_
 refine vy (y_lensl rfl underlying50) ?_
 refine vy (y_nei rfl rfl) ?_
 refine vc_end (vq_then (vk3 0 1 10 ?_))
 refine vc_ifs rfl ?_ ?_
 ·intro hc10
  try simp only [dn] at hc10
  refine vc_seq (vc_region ?_)
  refine ya ?_
  refine vc_end (vq_then (vk1 4 (vc_ret (vq_then_ret ?_))))
  refine vq_ret1 st (.inl rfl) results20 (.tmp rfl) ?_
  refine ⟨_, rfl, ?_⟩
  refine ⟨?_, st.chg⟩
  rw [decide_eq_false (fun e => by subst e; omega)]
 ·intro hc10
  try simp only [dn] at hc10
  have hlen : a.length = b.length := by omega
  refine vc_code_skip (vq_then (vk2 0 1 (vc_seq (vc_seq (vc_region ?_)))))
  refine ya ?_
  refine vc_end (vq_then (vk3 0 1 5 (vc_block ?_)))
  refine vc_loop (w0 := w0) (M := []) (fun (j : Nat) => [(0, .slice oa a.length ca), (1, .slice ob b.length cb), (5, .int .i64 (j : Int))]) (fun _ => []) (fun j _ => j ≤ a.length ∧ ∀ i : Nat, i < j → a[i]? = b[i]?) (fun j => a.length - j) 0 ⟨rfl, rfl, rfl, trivial⟩ st ⟨by omega, fun i h => by omega⟩ ?_
  clear st
  rintro j w ⟨hj, hall⟩ st
  refine vc_seq (vc_seq (vc_region ?_))
  iterate 2 refine ym ?_
  refine vy (y_lensl rfl underlying50) ?_
  refine vy (y_lss rfl rfl) ?_
  refine vc_end (vq_then (vk4 0 1 5 14 ?_))
  refine vc_ifs rfl ?_ ?_
  ·intro hc14
   try simp only [dn] at hc14
   obtain ⟨x, hx⟩ : ∃ x, a[j]? = some x := ⟨_, List.getElem?_eq_getElem (by omega)⟩
   obtain ⟨y, hy⟩ : ∃ y, b[j]? = some y := ⟨_, List.getElem?_eq_getElem (by omega)⟩
   obtain ⟨gb, go, rfl, hgl, hc⟩ := hra.at (by omega)
   obtain ⟨fb, fo, rfl, hfl, hd⟩ := hrb.at (by omega)
   refine vc_code_skip (vq_then (vk3 0 1 5 (vc_seq (vc_block (vc_seq ?_)))))
   refine vc_draw Tryz.mixed [(0, true), (1, true), (2, true), (3, true), (4, true), (5, true), (6, true), (7, true), (8, true)] (fun w => St _ _ _ w) st (by kernel_rfl) (by repeat (first | exact okQ_noPan | exact okQ_body | exact okQ_bodyS | refine okQ_then ?_ | refine okQ_block ?_)) rfl (by kernel_rfl) ?_
   intro w cd; replace st := st.call0 cd; clear cd
   have hS := st
   iterate 2 refine pm hS ?_
   refine vp_take rfl rfl rfl hS (fun w st => y_ia (k := j) rfl rfl underlying50 sizeOf9 rfl (by omega)) ?_
   refine vp_take rfl rfl rfl hS (fun w st => (by exact y_ldc rfl isAgg9 (st.chg.cell (by rw [Nat.mul_one]; exact hc j x hx) (by simp)))) ?_
   iterate 2 refine pm hS ?_
   refine vp_take rfl rfl rfl hS (fun w st => y_ia (k := j) rfl rfl underlying50 sizeOf9 rfl (by omega)) ?_
   refine vp_take rfl rfl rfl hS (fun w st => (by exact y_ldc rfl isAgg9 (st.chg.cell (by rw [Nat.mul_one]; exact hd j y hy) (by simp)))) ?_
   refine vp_take rfl rfl rfl hS (fun w st => y_nes rfl rfl) ?_
   refine vp_end (vq_then (vk4 0 1 5 25 ?_))
   refine vc_ifs rfl ?_ ?_
   ·intro hc25
    try simp only [dn] at hc25
    refine vc_seq (vc_region ?_)
    refine ya ?_
    refine vc_end (vq_then (vk1 4 (vc_ret (vq_block_ret (vq_then_ret (vq_then_ret (vq_block_ret (vq_then_ret ?_))))))))
    refine vq_ret1 st (.inl rfl) results20 (.tmp rfl) ?_
    refine ⟨_, rfl, ?_⟩
    refine ⟨?_, st.chg⟩
    rw [decide_eq_false (fun e => by subst e; rw [hx] at hy; simp_all)]
   ·intro hc25
    try simp only [dn] at hc25
    refine vc_code_skip (vq_block (vq_then (vk3 0 1 5 (vc_region ?_))))
    refine ym ?_
    refine vy (y_add rfl rfl (by omega : _ = ((j + 1 : Nat) : Int)) (by omega) (by omega)) ?_
    refine ya ?_
    refine vc_end ?_
    refine vq_again (j + 1)  ⟨rfl, rfl, rfl, trivial⟩ (by simpa using st) ?_ ?_
    ·exact ⟨by omega, fun i hi => by
         rcases (by omega : i < j ∨ i = j) with h | rfl
         · exact hall i h
         · rw [hx, hy]; simp_all⟩
    ·omega
  ·intro hc14
   try simp only [dn] at hc14
   refine vc_exit (vq_then_exit (vq_then_exit (vq_block_exit (vq_then (vc_keep [] trivial (vc_seq (vc_region ?_)))))))
   refine ya ?_
   refine vc_end (vq_then (vk1 4 (vc_ret ?_)))
   refine vq_ret1 st (.inl rfl) results20 (.tmp rfl) ?_
   refine ⟨_, rfl, ?_⟩
   refine ⟨?_, st.chg⟩
   rw [decide_eq_true (List.ext_getElem? fun i => by
     rcases Nat.lt_or_ge i j with h | h
     · exact hall i h
     · rw [List.getElem?_eq_none (by omega), List.getElem?_eq_none (by omega)])]

end
end Go.Proofs.YtnmhlpnapgojjaaGreatDoor.Pq


/- The engine, sixteenth part: a text that grows in somebody's memory: a struct of a byte slice and a flag. -/
namespace Sx
open Go Go.RowKit

/-- a row of cells that the callee does not own: its block may change -/
def frn (M : List Nat) (base E : Nat) (v : Value) (n : Nat) (xs : List Value) : Res := .tree v.ownBlock.toList fun w => w.ownsRow 0 E 1 v n xs ∧ ∀ k, v.ownBlock = some k → k ∈ M ∨ base ≤ k

theorem loc_owns (E n : Nat) (v : Value) (xs : List Value) : Loc v.ownBlock.toList fun w => w.ownsRow 0 E 1 v n xs := by
  intro w w' hs hk ⟨h1, h2⟩
  refine ⟨h1, h2.imp id fun ⟨g, cap, cur, e, hb, hc, hr⟩ => ⟨g, cap, cur, e, hb, ?_, hr⟩⟩
  rw [hk g (by rw [e]; simp [Value.ownBlock])]; exact hc

section
variable {w0 w w' : World} {M : List Nat} {hs : List Res}

theorem frn_holds {base' base E n : Nat} {v : Value} {xs : List Value} (ho : w.ownsRow 0 E 1 v n xs) (hm : ∀ k, v.ownBlock = some k → k ∈ M ∨ base ≤ k) : (frn M base E v n xs).holds base' w :=
  ⟨⟨ho, hm⟩, fun k hk => (World.ownsRow.lt ho k (by simpa using hk)).2, fun a b hs hk h => ⟨loc_owns E n v xs a b hs hk h.1, h.2⟩⟩

theorem St.appF (st : St w0 M hs w) {i E n n' : Nat} {v v' : Value} {xs xs' : List Value} (hi : nth hs i = some (frn M w0.heap.size E v n xs)) (hg : w.grownBy w' v.ownBlock)
    (hown : w'.ownsRow 0 E 1 v' n' xs') (hat : ∀ k, v'.ownBlock = some k → v.ownBlock = some k ∨ w.heap.size ≤ k) :
    St w0 M (setNth hs i (frn M w0.heap.size E v' n' xs')) w' := by
  obtain ⟨⟨h1, h2⟩, -⟩ := st.res hi
  refine st.swap hi (Chg.of_grownByO hg) (by simp [Res.at?, frn]) (fun k hk => h2 k (by simpa using hk)) (fun k hk => ?_) (frn_holds hown fun k hk => ?_)
  · simp only [Res.at?, frn, Option.mem_toList] at hk ⊢
    exact hat k hk
  · rcases hat k hk with h | h
    · exact h2 k h
    · exact .inr (Nat.le_trans st.chg.size h)

variable {P : Program} {n : Fr} {L : List Oper} {Q : Exit → Act → World → Prop} {kn : Kn} {N : Act → World → Prop}
variable {d ty : Nat} {pos : String} {aft : Array Edge} {g : Option (Nat × Bool)}

theorem slice_form {base E len : Nat} {v : Value} {xs : List Value} (ho : w.ownsRow base E 1 v len xs) : ∃ oa cap, v = .slice oa len cap := by
  rcases ho.2 with ⟨rfl, h0⟩ | ⟨g, cap, cur, rfl, _⟩
  · exact ⟨none, 0, by rw [h0]⟩
  · exact ⟨_, _, rfl⟩

/-- append(v, s...) to a row that is another's -/
theorem e_appsF (st : St w0 M hs w) (i : Nat) {T U E len : Nat} {x y : Operand} {v : Value} {xs : List Value} {p : List UInt8} {ti : TypeInfo} (hw : gd L kn g = some true) (hd : okDst n (some d) = true)
    (hx : evO kn x = some v) (hy : evO kn y = some (str p)) (hi : nth hs i = some (frn M w0.heap.size E v len xs))
    (ht : P.underlying T = some (.slice E)) (hu : P.underlying U = some .string) (hinfo : P.info? E = some ti) (hz : ti.zero = some (.int .u8 0)) (hsize : ti.size = 1) (hby : ti.bytes = 1)
    {len' : Nat} {ys : List Value} (hlen' : len + p.length = len') (hys : xs ++ bytesL p = ys) (h63 : len' ≤ 140737488355328)
    (next : ∀ oa cap w', St w0 M (setNth hs i (frn M w0.heap.size E (.slice oa len' cap) len' ys)) w' → vN n N ((d, .slice oa len' cap) :: kn) w') :
    vS P n L Q ⟨some d, .call ⟨.builtin .append, #[x, y], #[T, U]⟩, ty, pos, aft, g⟩ N kn w := by
  subst hlen' hys
  obtain ⟨v', w', hr, ho, hg, hat⟩ := app_str (P := P) (tyy := ty) 0 ht hu hinfo hz hsize hby (st.res hi).1.1 p (by unfold maxLen; omega) h63 (Nat.zero_le _)
  obtain ⟨oa, cap, rfl⟩ := slice_form ho
  refine e_bi [v, str p] hw hd (by simp [hx, hy]) (w' := w') (fun cs => ?_) (next oa cap w' (st.appF hi hg ho hat))
  simp only [builtin, Sem.run_bind, List.toArray, hr]
  rfl

/-- append(v, x) to a row that is another's: a row of new cells that is held -/
theorem e_appF (st : St w0 M hs w) (i j : Nat) {T E bytes m len c b : Nat} {x y : Operand} {v z : Value} {xs l : List Value} {fz : Nat × Nat} {ti : TypeInfo} (hw : gd L kn g = some true) (hd : okDst n (some d) = true)
    (hx : evO kn x = some v) (hy : evO kn y = some (.slice (some ⟨b, 0, none⟩) m c)) (hi : nth hs i = some (frn M w0.heap.size E v len xs)) (hj : nth hs j = some (.blk b (.cells l.toArray E fz)))
    (ht : P.underlying T = some (.slice E)) (hinfo : P.info? E = some ti) (hz : ti.zero = some z) (hsize : ti.size = 1) (hby : ti.bytes = bytes) (hzs : z.cells.size = 1)
    (hl : l.length = m * 1) (h1 : allOne l = true) (hm : Nat.blt 0 m = true) (h63 : len + m ≤ maxLen) (hbytes : (len + m) * bytes ≤ 140737488355328) {len' : Nat} {ys : List Value} (hlen' : len + m = len') (hys : xs ++ l = ys)
    (next : ∀ oa cap w', St w0 M (setNth hs i (frn M w0.heap.size E (.slice oa len' cap) len' ys)) w' → vN n N ((d, .slice oa len' cap) :: kn) w') :
    vS P n L Q ⟨some d, .call ⟨.builtin .append, #[x, y], #[T, T]⟩, ty, pos, aft, g⟩ N kn w := by
  subst hlen' hys
  have hb : w.heap[b]? = some (.cells l.toArray E fz) := st.res hj
  have hm' : 0 < m := by simpa [Nat.blt_eq] using hm
  obtain ⟨v', w', hr, hown, hg, hnil, hat⟩ := run_append_own_at (P := P) w 0 T ty E ti z 1 bytes ht hinfo hz hsize hby hzs (by omega) v len xs (st.res hi).1.1 ⟨b, 0, none⟩ m c l hl
    (fun k u hk => by rw [addr_add]; exact cell_blk hb (by rw [nth_eq]; simpa using hk)) (allOne_spec h1) h63 hbytes (Nat.zero_le _)
  obtain ⟨oa, cap, rfl⟩ := slice_form hown
  refine e_bi [v, .slice (some ⟨b, 0, none⟩) m c] hw hd (by simp [hx, hy]) (w' := w') (fun cs => ?_) (next oa cap w' (st.appF hi hg hown (fun k hk => by
    rcases hat with h | h
    · rw [h] at hk; exact .inl hk
    · rw [h] at hk; simp at hk; exact .inr (by omega))))
  simp only [builtin, Sem.run_bind, List.toArray, hr]
  rfl

/-! ## the text -/
/-- what lies there tells of the text: all of it, or that it is too long -/
def WS (l : List UInt8) (many : Bool) (F : List UInt8) : Prop := (many = false ∧ l = F ∧ F.length ≤ 65536) ∨ (many = true ∧ 65536 < F.length ∧ l.length ≤ 65536)
theorem WS.le {l F : List UInt8} {m : Bool} (h : WS l m F) : l.length ≤ 65536 := by
  rcases h with ⟨_, rfl, h⟩ | ⟨_, _, h⟩ <;> exact h
theorem WS.over {l F : List UInt8} (h : WS l true F) (G : List UInt8) : WS l true (F ++ G) := by
  rcases h with ⟨h, _⟩ | ⟨_, h1, h2⟩
  · cases h
  · exact .inr ⟨rfl, by simp; omega, h2⟩
theorem WS.put {l F : List UInt8} (h : WS l false F) {G : List UInt8} (hG : l.length + G.length ≤ 65536) : WS (l ++ G) false (F ++ G) := by
  rcases h with ⟨_, rfl, h⟩ | ⟨h, _⟩
  · exact .inl ⟨rfl, rfl, by simpa using hG⟩
  · cases h
theorem WS.no {l F : List UInt8} (h : WS l false F) {G : List UInt8} (hG : 65536 < l.length + G.length) : WS l true (F ++ G) := by
  rcases h with ⟨_, rfl, h⟩ | ⟨h, _⟩
  · exact .inr ⟨rfl, by simpa using hG, h⟩
  · cases h
theorem WS.no' {l F : List UInt8} {m : Bool} (h : WS l m F) (hm : m = false) {G : List UInt8} (hG : 65536 < l.length + G.length) : WS l true (F ++ G) := by subst hm; exact h.no hG
/-- another text that is too long as well -/
theorem WS.swap {l F G G' : List UInt8} {m : Bool} (h : WS l m (F ++ G')) (hG : G' = G ∨ 65536 < G'.length ∧ 65536 < G.length) : WS l m (F ++ G) := by
  rcases hG with rfl | ⟨h1, h2⟩
  · exact h
  · rcases h with ⟨_, rfl, h⟩ | ⟨rfl, _, h⟩
    · simp at h; omega
    · exact .inr ⟨rfl, by simp; omega, h⟩
def Wr (E n0 T bw : Nat) (v : Value) (F : List UInt8) (w : World) : Prop := ∃ l many, w.heap[bw]? = some (.cells #[v, .bool many] T (0, 0)) ∧ w.ownsRow 0 E 1 v l.length (bytesL l) ∧ WS l many F ∧ n0 ≤ bw ∧ ∀ k, v.ownBlock = some k → n0 ≤ k ∧ k ≠ bw
def WrP (E n0 T bw : Nat) (v : Value) (F : List UInt8) (w w' : World) : Prop := ∃ v', Wr E n0 T bw v' F w' ∧ Chg (bw :: v.ownBlock.toList) w w' ∧ ∀ k, v'.ownBlock = some k → v.ownBlock = some k ∨ w.heap.size ≤ k
def wrR (M : List Nat) (base E n0 T bw : Nat) (v : Value) (F : List UInt8) : Res := .tree (bw :: v.ownBlock.toList) fun w => Wr E n0 T bw v F w ∧ (bw ∈ M ∨ base ≤ bw) ∧ ∀ k, v.ownBlock = some k → k ∈ M ∨ base ≤ k
variable {E n0 T bw : Nat} {v : Value} {F : List UInt8}
theorem Wr.lt (h : Wr E n0 T bw v F w) : ∀ k ∈ bw :: v.ownBlock.toList, k < w.heap.size := by
  obtain ⟨l, many, hb, ho, hws, h1, h2⟩ := h
  intro k hk
  rcases List.mem_cons.1 hk with rfl | hk
  · exact (Array.getElem?_eq_some_iff.1 hb).1
  · exact (World.ownsRow.lt ho k (by simpa using hk)).2
theorem Wr.loc : Loc (bw :: v.ownBlock.toList) (Wr E n0 T bw v F) := by
  intro a b hs hk ⟨l, many, hb, ho, hr⟩
  exact ⟨l, many, by rw [hk bw (.head _)]; exact hb, loc_owns E _ v _ a b hs (fun k h => hk k (.tail _ h)) ho, hr⟩
theorem wrR_holds {base' base : Nat} (h : Wr E n0 T bw v F w) (hb : bw ∈ M ∨ base ≤ bw) (hm : ∀ k, v.ownBlock = some k → k ∈ M ∨ base ≤ k) : (wrR M base E n0 T bw v F).holds base' w :=
  ⟨⟨h, hb, hm⟩, h.lt, fun a b hs hk h => ⟨Wr.loc a b hs hk h.1, h.2⟩⟩
theorem St.wrInit (h : Wr E n0 T bw v F w) : St w (bw :: v.ownBlock.toList) [wrR (bw :: v.ownBlock.toList) w.heap.size E n0 T bw v F] w :=
  ⟨Chg.refl _ _, List.pairwise_singleton _ _, by
    intro r hr
    simp only [List.mem_singleton] at hr
    subst hr
    exact wrR_holds h (.inl (.head _)) (fun k hk => .inl (.tail _ (Option.mem_toList.2 hk)))⟩
/-- a callee has written -/
theorem St.wr (st : St w0 M hs w) {i : Nat} {F' : List UInt8} (hi : nth hs i = some (wrR M w0.heap.size E n0 T bw v F)) (p : WrP E n0 T bw v F' w w') : ∃ v', St w0 M (setNth hs i (wrR M w0.heap.size E n0 T bw v' F')) w' := by
  obtain ⟨v', h1, h2, h3⟩ := p
  obtain ⟨⟨k1, k2, k3⟩, -⟩ := st.res hi
  refine ⟨v', st.swap hi h2 (by simp [Res.at?, wrR]) (fun k hk => ?_) (fun k hk => ?_) (wrR_holds h1 k2 fun k hk => ?_)⟩
  · rcases List.mem_cons.1 hk with rfl | hk
    · exact k2
    · exact k3 k (by simpa using hk)
  · simp only [Res.at?, wrR, List.mem_cons, Option.mem_toList] at hk ⊢
    rcases hk with rfl | hk
    · exact .inl (.inl rfl)
    · exact (h3 k hk).imp .inr id
  · rcases h3 k hk with h | h
    · exact k3 k h
    · exact .inr (Nat.le_trans st.chg.size h)
theorem St.wrGet (st : St w0 M hs w) {i : Nat} (hi : nth hs i = some (wrR M w0.heap.size E n0 T bw v F)) : Wr E n0 T bw v F w := (st.res hi).1.1
/-- the callee is done -/
theorem St.wrDone {v0 : Value} (st : St w0 (bw :: v0.ownBlock.toList) hs w) {i : Nat} (hi : nth hs i = some (wrR (bw :: v0.ownBlock.toList) w0.heap.size E n0 T bw v F)) : WrP E n0 T bw v0 F w0 w := by
  obtain ⟨⟨k1, k2, k3⟩, -⟩ := st.res hi
  refine ⟨v, k1, st.chg, fun k hk => ?_⟩
  obtain ⟨l, many, hb, ho, hws, h1, h2⟩ := k1
  rcases k3 k hk with h | h
  · rcases List.mem_cons.1 h with rfl | h
    · exact absurd rfl (h2 _ hk).2
    · exact .inl (by simpa using h)
  · exact .inr h
/-- what lies in other blocks stays -/
theorem Wr.same (h : Wr E n0 T bw v F w) (c : Chg (bw :: v.ownBlock.toList) w w') : w.heap.size ≤ w'.heap.size ∧ ∀ b, b < n0 → b < w.heap.size → w'.heap[b]? = w.heap[b]? := by
  obtain ⟨l, many, hb, ho, hws, h1, h2⟩ := h
  refine ⟨c.size, fun b hb hl => c.block b hl fun hk => ?_⟩
  rcases List.mem_cons.1 hk with rfl | hk
  · omega
  · have := (h2 b (by simpa using hk)).1; omega
theorem Wr.notin (h : Wr E n0 T bw v F w) {b : Nat} (hb : b < n0) : b ∉ bw :: v.ownBlock.toList := by
  obtain ⟨l, many, hc, ho, hws, h1, h2⟩ := h
  intro hk
  rcases List.mem_cons.1 hk with rfl | hk
  · omega
  · have := (h2 b (by simpa using hk)).1; omega
theorem WrP.re {F' : List UInt8} (p : WrP E n0 T bw v F w w') (h : ∀ l m v', w'.heap[bw]? = some (.cells #[v', .bool m] T (0, 0)) → WS l m F → WS l m F') : WrP E n0 T bw v F' w w' := by
  obtain ⟨v', ⟨l, m, hb, ho, hws, hr⟩, h2⟩ := p
  exact ⟨v', ⟨l, m, hb, ho, h l m v' hb hws, hr⟩, h2⟩
theorem WrP.eq {F' : List UInt8} (p : WrP E n0 T bw v F w w') (h : F = F') : WrP E n0 T bw v F' w w' := h ▸ p
/-- the text is too long already -/
theorem WrP.over {G : List UInt8} (p : WrP E n0 T bw v F w w') {v1 : Value} (h : w'.heap[bw]? = some (.cells #[v1, .bool true] T (0, 0))) : WrP E n0 T bw v (F ++ G) w w' :=
  p.re fun l m v' hb hws => by
    rw [h] at hb
    simp only [Option.some.injEq, Obj.cells.injEq, Array.mk.injEq, List.cons.injEq, Value.bool.injEq, and_true] at hb
    rw [← hb.2] at hws ⊢
    exact hws.over G
/-- the struct and its row apart -/
theorem St.wrOpen (h : Wr E n0 T bw v F w) : ∃ l many oa cap, v = .slice oa l.length cap ∧ WS l many F ∧ n0 ≤ bw ∧ (∀ k, v.ownBlock = some k → n0 ≤ k ∧ k ≠ bw) ∧
    St w (bw :: v.ownBlock.toList) [.blk bw (.cells [.slice oa l.length cap, .bool many].toArray T (0, 0)), frn (bw :: v.ownBlock.toList) w.heap.size E (.slice oa l.length cap) l.length (bytesL l)] w := by
  obtain ⟨l, many, hb, ho, hws, h1, h2⟩ := h
  obtain ⟨oa, cap, rfl⟩ := slice_form ho
  refine ⟨l, many, oa, cap, rfl, hws, h1, h2, Chg.refl _ _, ?_, ?_⟩
  · refine List.pairwise_cons.2 ⟨fun s hs k hk hk' => ?_, List.pairwise_singleton _ _⟩
    simp only [List.mem_singleton] at hs
    subst hs
    simp only [Res.at?, List.mem_singleton] at hk
    subst hk
    simp only [Res.at?, frn, Option.mem_toList] at hk'
    exact (h2 _ hk').2 rfl
  · intro r hr
    simp only [List.mem_cons, List.not_mem_nil, or_false] at hr
    rcases hr with rfl | rfl
    · exact hb
    · exact frn_holds ho (fun k hk => .inl (.tail _ (Option.mem_toList.2 hk)))
/-- and together again, at the end -/
theorem St.wrClose {l : List UInt8} {many : Bool} {oa : Option Addr} {len cap : Nat} {v0 : Value} {i j : Nat} (st : St w0 (bw :: v0.ownBlock.toList) hs w) (hi : nth hs i = some (.blk bw (.cells [.slice oa len cap, .bool many].toArray T (0, 0))))
    (hj : nth hs j = some (frn (bw :: v0.ownBlock.toList) w0.heap.size E (.slice oa len cap) len (bytesL l))) (hl : l.length = len) (hws : WS l many F) (hn : n0 ≤ bw) (h0 : ∀ k, v0.ownBlock = some k → n0 ≤ k ∧ k ≠ bw) (hbw : bw < w0.heap.size) (hw : n0 ≤ w0.heap.size) : WrP E n0 T bw v0 F w0 w := by
  subst hl
  have hb : w.heap[bw]? = some (.cells #[.slice oa l.length cap, .bool many] T (0, 0)) := st.res hi
  obtain ⟨⟨ho, hm⟩, -⟩ := st.res hj
  have key : ∀ k, (Value.slice oa l.length cap).ownBlock = some k → (v0.ownBlock = some k ∨ w0.heap.size ≤ k) ∧ n0 ≤ k ∧ k ≠ bw := by
    intro k hk
    have hne : k ≠ bw := by
      intro e
      have hij : i ≠ j := by
        rintro rfl
        rw [hi] at hj
        cases hj
      exact (apart_nth st.nodup hij hi hj) bw (.head _) (Option.mem_toList.2 (e ▸ hk))
    rcases hm k hk with h | h
    · rcases List.mem_cons.1 h with rfl | h
      · exact absurd rfl hne
      · have h' : v0.ownBlock = some k := by simpa using h
        exact ⟨.inl h', (h0 k h').1, hne⟩
    · exact ⟨.inr h, by omega, hne⟩
  exact ⟨.slice oa l.length cap, ⟨l, many, hb, ho, hws, hn, fun k hk => (key k hk).2⟩, st.chg, fun k hk => (key k hk).1⟩
/-- an empty text -/
theorem St.wrNew (st : St w0 M (.blk bw (.cells [.slice none 0 0, .bool false].toArray T (0, 0)) :: hs) w) (hb : w0.heap.size ≤ bw) (hn : n0 ≤ w0.heap.size) : St w0 M (wrR M w0.heap.size E n0 T bw (.slice none 0 0) [] :: hs) w := by
  have h : w.heap[bw]? = some (.cells #[.slice none 0 0, .bool false] T (0, 0)) := st.res (i := 0) rfl
  refine st.turn0 (fun k hk => by simpa [Res.at?, wrR, Value.ownBlock] using hk) (wrR_holds ⟨[], false, h, World.ownsRow_nil w 0 E 1, .inl ⟨rfl, rfl, by simp⟩, by omega, fun k hk => by simp [Value.ownBlock] at hk⟩ (.inr hb) fun k hk => by simp [Value.ownBlock] at hk)
end
end Sx


namespace Go.Proofs.YtnmhlpnapgojjaaGreatDoor
open Go.RowKit Sx LexS _root_.Go.Proofs.Tryz
theorem Tryz.info5 : Tryz.prog.info? 5 = some Tryz.t5 := by kernel_rfl
section
variable {n0 : Nat}
theorem ptr_cell {w : World} {bw T : Nat} {v : Value} {m : Bool} (h : w.heap[bw]? = some (.cells #[v, .bool m] T (0, 0))) : w.cell? ⟨bw, 1, none⟩ = some (.bool m) := cell_nth (l := [v, .bool m]) h rfl

end
end Go.Proofs.YtnmhlpnapgojjaaGreatDoor


namespace Go.Proofs.YtnmhlpnapgojjaaGreatDoor
open Go.RowKit Sx LexS _root_.Go.Proofs.Tryz
section
variable {n0 : Nat}
theorem rightE_inv3 {e : Ex} {d : Nat} (h : rightE e d = true) (hk : e.k = 3) : ∃ x, e.kids = [x] ∧ ∃ d', rightE x d' = true := by
 have hd := rightE_le h
 by_cases h1 : e.kids.length = 1
 ·obtain ⟨x, hx⟩ := get0 h1 (by omega)
  refine ⟨x, one_form h1 hx, ?_⟩
  rw [rightE_3 hk hd (one_form h1 hx)] at h
  simp only [Bool.and_eq_true] at h
  exact ⟨_, h.2⟩
 ·rw [rightE_3n hk (.inl h1)] at h; cases h
theorem rightE_inv4 {e : Ex} {d : Nat} (h : rightE e d = true) (hk : e.k = 4) : ∃ x y, e.kids = [x, y] ∧ (∃ d', rightE x d' = true) ∧ ∃ d', rightE y d' = true := by
 have hd := rightE_le h
 by_cases h1 : e.kids.length = 2
 ·obtain ⟨x, hx⟩ := get0 h1 (by omega)
  obtain ⟨y, hy⟩ := get1 h1
  refine ⟨x, y, two_form h1 hx hy, ?_⟩
  rw [rightE_4 hk hd (two_form h1 hx hy)] at h
  simp only [Bool.and_eq_true] at h
  exact ⟨⟨_, h.2.1⟩, ⟨_, h.2.2⟩⟩
 ·rw [rightE_4n hk (.inl h1)] at h; cases h
theorem rightE_kind {e : Ex} {d : Nat} (h : rightE e d = true) : e.k = 1 ∨ e.k = 2 ∨ e.k = 3 ∨ e.k = 4 := by
 by_cases h1 : e.k = 1
 ·exact .inl h1
 by_cases h2 : e.k = 2
 ·exact .inr (.inl h2)
 by_cases h3 : e.k = 3
 ·exact .inr (.inr (.inl h3))
 by_cases h4 : e.k = 4
 ·exact .inr (.inr (.inr h4))
 rw [rightE_0 h1 h2 h3 h4] at h; cases h
theorem isName_le {l : List UInt8} (h : isName l = true) : l.length ≤ 32 := by
 rcases Nat.lt_or_ge 32 l.length with h1 | h1
 ·rw [isName_long h1] at h; cases h
 ·exact h1
theorem txtE_1 {e : Ex} (h : e.k = 1) : txtE e = shw e.wd := by
 cases e; simp only [Ex.k] at h; subst h; rw [txtE.eq_def]; simp [Ex.wd]
theorem txtE_2 {e : Ex} (h : e.k = 2) : txtE e = e.nm := by
 cases e; simp only [Ex.k] at h; subst h; rw [txtE.eq_def]; simp [Ex.nm]
theorem txtE_3 {e x : Ex} (h : e.k = 3) (hx : e.kids = [x]) : txtE e = shwO e.op ++ par (decide (x.k = 4)) (txtE x) := by
 cases e with
 | mk k op wd nm kids a => change k = 3 at h; change kids = [x] at hx; subst h hx; rw [txtE]; simp [Ex.op]
theorem txtE_4 {e x y : Ex} (h : e.k = 4) (hx : e.kids = [x, y]) : txtE e = par (inn e.op x false) (txtE x) ++ ([32] ++ shwO e.op ++ [32]) ++ par (inn e.op y true) (txtE y) := by
 cases e with
 | mk k op wd nm kids a => change k = 4 at h; change kids = [x, y] at hx; subst h hx; rw [txtE]; simp [Ex.op]
theorem shw_le (x : Int) (h : i64 x) : (shw x).length ≤ 20 := by
 unfold i64 at h
 have h1 := dec_len 18 x.natAbs (by simp only [Nat.reducePow, Nat.reduceAdd]; omega)
 unfold shw
 split
 ·simp only [List.length_cons]; omega
 ·omega

end
end Go.Proofs.YtnmhlpnapgojjaaGreatDoor


/- The engine, seventeenth part: a byte slice in a box that a closure holds. -/
namespace Sx
open Go Go.RowKit
section
variable {w0 w w' : World} {M : List Nat} {hs : List Res} {E n0 T b n n' : Nat} {v v' : Value} {l l' : List UInt8} {xs xs' : List Value}

/-- a row that a callee has written on -/
def RowP (E : Nat) (v v' : Value) (n' : Nat) (xs' : List Value) (w w' : World) : Prop := w'.ownsRow 0 E 1 v' n' xs' ∧ Chg v.ownBlock.toList w w' ∧ ∀ k, v'.ownBlock = some k → v.ownBlock = some k ∨ w.heap.size ≤ k
theorem St.frnP (st : St w0 M hs w) {i : Nat} (hi : nth hs i = some (frn M w0.heap.size E v n xs)) (p : RowP E v v' n' xs' w w') : St w0 M (setNth hs i (frn M w0.heap.size E v' n' xs')) w' := by
  obtain ⟨⟨h1, h2⟩, -⟩ := st.res hi
  obtain ⟨p1, p2, p3⟩ := p
  refine st.swap hi p2 (by simp [Res.at?, frn]) (fun k hk => h2 k (by simpa using hk)) (fun k hk => ?_) (frn_holds p1 fun k hk => ?_)
  · simp only [Res.at?, frn, Option.mem_toList] at hk ⊢
    exact p3 k hk
  · rcases p3 k hk with h | h
    · exact h2 k h
    · exact .inr (Nat.le_trans st.chg.size h)
theorem St.frnInit (h : w.ownsRow 0 E 1 v n xs) : St w v.ownBlock.toList [frn v.ownBlock.toList w.heap.size E v n xs] w :=
  ⟨Chg.refl _ _, List.pairwise_singleton _ _, by
    intro r hr
    simp only [List.mem_singleton] at hr
    subst hr
    exact frn_holds h (fun k hk => .inl (Option.mem_toList.2 hk))⟩
theorem St.frnDone {v0 : Value} (st : St w0 v0.ownBlock.toList hs w) {i : Nat} (hi : nth hs i = some (frn v0.ownBlock.toList w0.heap.size E v n xs)) : RowP E v0 v n xs w0 w := by
  obtain ⟨⟨h1, h2⟩, -⟩ := st.res hi
  exact ⟨h1, st.chg, fun k hk => (h2 k hk).imp (fun h => by simpa using h) id⟩
theorem St.frnGet (st : St w0 M hs w) {i : Nat} (hi : nth hs i = some (frn M w0.heap.size E v n xs)) : w.ownsRow 0 E 1 v n xs := (st.res hi).1.1

theorem St.frnN (st : St w0 M hs w) {i : Nat} (hi : nth hs i = some (frn M w0.heap.size E v n xs)) (hM : ∀ k ∈ M, n0 ≤ k) (hn : n0 ≤ w0.heap.size) : ∀ k, v.ownBlock = some k → n0 ≤ k := fun k hk => by
  rcases (st.res hi).1.2 k hk with h | h
  · exact hM k h
  · omega
theorem St.split2 {q r s : Res} (st : St w0 M (q :: hs) w) (h1 : ∀ k ∈ r.at?, k ∈ q.at?) (h2 : ∀ k ∈ s.at?, k ∈ q.at?) (h3 : ∀ k ∈ r.at?, k ∉ s.at?) (hr : r.holds w0.heap.size w) (hs' : s.holds w0.heap.size w) : St w0 M (r :: s :: hs) w := by
  have hnd := List.pairwise_cons.1 st.nodup
  refine ⟨st.chg, List.pairwise_cons.2 ⟨fun x hx => ?_, List.pairwise_cons.2 ⟨fun x hx k hk => hnd.1 x hx k (h2 k hk), hnd.2⟩⟩, fun x hx => ?_⟩
  · rcases List.mem_cons.1 hx with rfl | hx
    · exact h3
    · exact fun k hk => hnd.1 x hx k (h1 k hk)
  · rcases List.mem_cons.1 hx with rfl | hx
    · exact hr
    · rcases List.mem_cons.1 hx with rfl | hx
      · exact hs'
      · exact st.here x (.tail _ hx)

def Bx (E n0 T b : Nat) (v : Value) (l : List UInt8) (w : World) : Prop := w.heap[b]? = some (.cells #[v] T (0, 0)) ∧ w.ownsRow 0 E 1 v l.length (bytesL l) ∧ n0 ≤ b ∧ ∀ k, v.ownBlock = some k → n0 ≤ k ∧ k ≠ b
def BxP (E n0 T b : Nat) (v v' : Value) (l' : List UInt8) (w w' : World) : Prop := Bx E n0 T b v' l' w' ∧ Chg (b :: v.ownBlock.toList) w w' ∧ ∀ k, v'.ownBlock = some k → v.ownBlock = some k ∨ w.heap.size ≤ k
theorem Bx.lt (h : Bx E n0 T b v l w) : ∀ k ∈ b :: v.ownBlock.toList, k < w.heap.size := by
  obtain ⟨hb, ho, h1, h2⟩ := h
  intro k hk
  rcases List.mem_cons.1 hk with rfl | hk
  · exact (Array.getElem?_eq_some_iff.1 hb).1
  · exact (World.ownsRow.lt ho k (by simpa using hk)).2
theorem Bx.notin (h : Bx E n0 T b v l w) {k : Nat} (hk : k < n0) : k ∉ b :: v.ownBlock.toList := by
  obtain ⟨hb, ho, h1, h2⟩ := h
  intro h
  rcases List.mem_cons.1 h with rfl | h
  · omega
  · have := (h2 k (by simpa using h)).1; omega
/-- the box and its row, of the heads of what is held -/
theorem St.bxGet (st : St w0 M (.blk b (.cells [v].toArray T (0, 0)) :: frn M w0.heap.size E v l.length (bytesL l) :: hs) w) (hb : n0 ≤ b) (hn : ∀ k, v.ownBlock = some k → n0 ≤ k) : Bx E n0 T b v l w := by
  have h1 : w.heap[b]? = some (.cells #[v] T (0, 0)) := st.res (i := 0) rfl
  refine ⟨h1, (st.res (i := 1) rfl).1.1, hb, fun k hk => ⟨hn k hk, fun e => ?_⟩⟩
  subst e
  exact apart_nth (i := 0) (j := 1) st.nodup (by simp) rfl rfl k (.head _) (Option.mem_toList.2 hk)
theorem St.bxCall (st : St w0 M (.blk b (.cells [v].toArray T (0, 0)) :: frn M w0.heap.size E v l.length (bytesL l) :: hs) w) (hm : b ∈ M ∨ w0.heap.size ≤ b) (p : BxP E n0 T b v v' l' w w') :
    St w0 M (.blk b (.cells [v'].toArray T (0, 0)) :: frn M w0.heap.size E v' l'.length (bytesL l') :: hs) w' ∧ ∀ k, v'.ownBlock = some k → n0 ≤ k := by
  obtain ⟨⟨q1, q2, q3, q4⟩, p2, p3⟩ := p
  have h1 : w.heap[b]? = some (.cells #[v] T (0, 0)) := st.res (i := 0) rfl
  obtain ⟨⟨h2, h3⟩, -⟩ := st.res (i := 1) rfl
  have hb : b < w.heap.size := (Array.getElem?_eq_some_iff.1 h1).1
  have st1 := st.join (q := .tree (b :: v.ownBlock.toList) (fun _ => True)) (fun k hk => (List.mem_cons.1 hk).imp (fun h => by simp [Res.at?, h]) id) ⟨trivial, fun k hk => by
    rcases List.mem_cons.1 hk with rfl | hk
    · exact hb
    · exact (World.ownsRow.lt h2 k (by simpa using hk)).2, fun _ _ _ _ _ => trivial⟩
  have hlt : ∀ k ∈ b :: v'.ownBlock.toList, k < w'.heap.size := Bx.lt (n0 := n0) (l := l') ⟨q1, q2, q3, q4⟩
  have st2 := st1.swap (i := 0) (r' := .tree (b :: v'.ownBlock.toList) (fun _ => True)) rfl p2 (fun k hk => hk) (fun k hk => by
    rcases List.mem_cons.1 hk with rfl | hk
    · exact hm
    · exact h3 k (by simpa using hk)) (fun k hk => by
    rcases List.mem_cons.1 hk with rfl | hk
    · exact .inl (.head _)
    · exact (p3 k (by simpa using hk)).imp (fun h => .tail _ (Option.mem_toList.2 h)) id) ⟨trivial, hlt, fun _ _ _ _ _ => trivial⟩
  refine ⟨st2.split2 (fun k hk => by simp only [Res.at?, List.mem_singleton] at hk; subst hk; exact .head _) (fun k hk => .tail _ hk) (fun k hk hk' => ?_) q1 (frn_holds q2 fun k hk => ?_), fun k hk => (q4 k hk).1⟩
  · simp only [Res.at?, List.mem_singleton] at hk
    subst hk
    exact (q4 k (Option.mem_toList.1 hk')).2 rfl
  · rcases p3 k hk with h | h
    · exact h3 k h
    · exact .inr (Nat.le_trans st.chg.size h)
theorem St.bxInit (h : Bx E n0 T b v l w) : St w (b :: v.ownBlock.toList) [.blk b (.cells [v].toArray T (0, 0)), frn (b :: v.ownBlock.toList) w.heap.size E v l.length (bytesL l)] w := by
  obtain ⟨hb, ho, h1, h2⟩ := h
  refine ⟨Chg.refl _ _, List.pairwise_cons.2 ⟨fun s hs k hk hk' => ?_, List.pairwise_singleton _ _⟩, ?_⟩
  · simp only [List.mem_singleton] at hs
    subst hs
    simp only [Res.at?, List.mem_singleton] at hk
    subst hk
    exact (h2 k (Option.mem_toList.1 hk')).2 rfl
  · intro r hr
    simp only [List.mem_cons, List.not_mem_nil, or_false] at hr
    rcases hr with rfl | rfl
    · exact hb
    · exact frn_holds ho (fun k hk => .inl (.tail _ (Option.mem_toList.2 hk)))
theorem St.bxDone {v0 : Value} {i j len : Nat} (st : St w0 (b :: v0.ownBlock.toList) hs w) (hi : nth hs i = some (.blk b (.cells [v].toArray T (0, 0)))) (hj : nth hs j = some (frn (b :: v0.ownBlock.toList) w0.heap.size E v len (bytesL l))) (hl : l.length = len)
    (hn : n0 ≤ b) (h0 : ∀ k, v0.ownBlock = some k → n0 ≤ k ∧ k ≠ b) (hw : n0 ≤ w0.heap.size) : BxP E n0 T b v0 v l w0 w := by
  subst hl
  have hb : w.heap[b]? = some (.cells #[v] T (0, 0)) := st.res hi
  obtain ⟨⟨ho, hm⟩, -⟩ := st.res hj
  have key : ∀ k, v.ownBlock = some k → (v0.ownBlock = some k ∨ w0.heap.size ≤ k) ∧ n0 ≤ k ∧ k ≠ b := by
    intro k hk
    have hne : k ≠ b := by
      intro e
      have hij : i ≠ j := by
        rintro rfl
        rw [hi] at hj
        cases hj
      exact (apart_nth st.nodup hij hi hj) b (.head _) (Option.mem_toList.2 (e ▸ hk))
    rcases hm k hk with h | h
    · rcases List.mem_cons.1 h with rfl | h
      · exact absurd rfl hne
      · have h' : v0.ownBlock = some k := by simpa using h
        exact ⟨.inl h', (h0 k h').1, hne⟩
    · exact ⟨.inr h, by omega, hne⟩
  exact ⟨⟨hb, ho, hn, fun k hk => (key k hk).2⟩, st.chg, fun k hk => (key k hk).1⟩
end
end Sx

