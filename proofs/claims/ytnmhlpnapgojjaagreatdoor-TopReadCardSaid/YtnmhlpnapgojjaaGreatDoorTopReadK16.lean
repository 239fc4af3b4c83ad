/- A part of the proof: contracts of functions and plain laws; each theorem says its own conditions. -/
import Derived.Test.YtnmhlpnapgojjaaGreatDoorTopReadK15
import Derived.Test.YtnmhlpnapgojjaaGreatDoorTopReadK13
import Derived.Test.YtnmhlpnapgojjaaGreatDoorTopReadK7
import Derived.Test.YtnmhlpnapgojjaaGreatDoorTopReadK9
import Derived.Test.YtnmhlpnapgojjaaGreatDoorTopReadK8
import Derived.Test.YtnmhlpnapgojjaaGreatDoorTopReadK2
import Derived.Test.YtnmhlpnapgojjaaGreatDoorTopReadK14
import Derived.Test.YtnmhlpnapgojjaaGreatDoorTopReadK12
set_option linter.unusedVariables false
set_option linter.unusedSimpArgs false
/- How great a tree is that is parsed: no greater than its tokens make it. -/
namespace ParS
open Sx LexS
theorem name_le {l : List UInt8} (h : isName l = true) : l.length ≤ 32 := by
  match l, h with
  | c :: r, h => simp only [isName, Bool.and_eq_true, decide_eq_true_eq] at h; exact h.1.1.1
theorem tl {r : List Tok} (h : r ≠ []) : r.tail.length + 1 = r.length := by cases r with | nil => exact absurd rfl h | cons x l => simp
def BdE (u : List Tok → PR Ex) : Prop := ∀ r x r', TsOk r → u r = .ok (x, r') → szE x + 34 * r'.length ≤ 34 * r.length ∧ TsOk r'
theorem loopE_bd {u : List Tok → PR Ex} (hu : BdE u) : ∀ (n : Nat) (lv : Int) (x : Ex) (r : List Tok) (z : Ex) (r' : List Tok), TsOk r → loopE u n lv x r = .ok (z, r') → szE z + 34 * r'.length ≤ szE x + 34 * r.length ∧ TsOk r'
  | 0, lv, x, r, z, r', _, h => by simp [loopE] at h
  | n + 1, lv, x, r, z, r', hr, h => by
    simp only [loopE] at h
    cases hop : opT (here r) with
    | none => rw [hop] at h; cases h; exact ⟨Nat.le_refl _, hr⟩
    | some op =>
      rw [hop] at h; dsimp only at h
      have hne := tl (opT_ne hop)
      split at h
      · cases h; exact ⟨Nat.le_refl _, hr⟩
      · cases hy : u r.tail with
        | error f => rw [hy] at h; cases h
        | ok p =>
          obtain ⟨y, r1⟩ := p
          rw [hy] at h; dsimp only at h
          obtain ⟨a1, k1⟩ := hu _ _ _ hr.tail hy
          cases hz : loopE u n (lvlO (op : Int) + 1) y r1 with
          | error f => rw [hz] at h; cases h
          | ok q =>
            obtain ⟨z1, r2⟩ := q
            rw [hz] at h; dsimp only at h
            obtain ⟨a2, k2⟩ := loopE_bd hu n _ _ _ _ _ k1 hz
            obtain ⟨a3, k3⟩ := loopE_bd hu n _ _ _ _ _ k2 h
            have e : szE (binE op (here r).at_ x z1) = szE x + szE z1 + 1 := by simp [binE, szE, szEs]
            exact ⟨by omega, k3⟩
theorem exprW_bd {u : List Tok → PR Ex} (hg : Goes u) (hu : BdE u) : BdE (exprW u) := by
  intro r x r' hr h
  rw [← climbE_expr u hg] at h
  unfold climbE at h
  cases hx : u r with
  | error f => rw [hx] at h; cases h
  | ok p =>
    obtain ⟨y, r1⟩ := p
    rw [hx] at h; dsimp only at h
    obtain ⟨a1, k1⟩ := hu _ _ _ hr hx
    obtain ⟨a2, k2⟩ := loopE_bd hu _ _ _ _ _ _ k1 h
    exact ⟨by omega, k2⟩
theorem leaf_bd (e : Nat) : BdE (leafP e) := by
  intro r x r' hr h
  unfold leafP at h
  split at h
  · rename_i hk
    have := tl (kind_ne hk (by decide))
    cases h
    exact ⟨by simp [szE, szEs]; omega, hr.tail⟩
  · split at h
    · rename_i hk
      have := tl (kind_ne hk (by decide))
      have hn := name_le (hr.here.name hk)
      cases h
      refine ⟨?_, hr.tail⟩
      simp only [szE, szEs]; omega
    · cases h
theorem unary_bd (e : Nat) : ∀ m, BdE (unaryP e m)
  | 0 => by
    intro r x r' hr h
    simp only [unaryP] at h
    split at h
    · cases h
    · exact leaf_bd e r x r' hr h
  | m + 1 => by
    intro r x r' hr h
    simp only [unaryP] at h
    split at h
    · rename_i hi
      have hne := tl (inner_ne hi)
      split at h
      · cases hx : exprW (unaryP e m) r.tail with
        | error f => rw [hx] at h; cases h
        | ok p =>
          obtain ⟨y, r1⟩ := p
          rw [hx] at h; dsimp only at h
          obtain ⟨a1, k1⟩ := exprW_bd (unary_goes e m) (unary_bd e m) _ _ _ hr.tail hx
          cases hw : want e [41] r1 with
          | error f => rw [hw] at h; cases h
          | ok r2 => rw [hw] at h; cases h; have := want_len hw; exact ⟨by omega, want_ts k1 hw⟩
      · cases hx : unaryP e m r.tail with
        | error f => rw [hx] at h; cases h
        | ok p =>
          obtain ⟨y, r1⟩ := p
          rw [hx] at h; cases h
          obtain ⟨a1, k1⟩ := unary_bd e m _ _ _ hr.tail hx
          exact ⟨by simp [szE, szEs]; omega, k1⟩
    · exact leaf_bd e r x r' hr h
theorem expr_bd (e m : Nat) : BdE (exprP e m) := exprW_bd (unary_goes e m) (unary_bd e m)
section
variable {e : Nat}
theorem name_bd {r r' : List Tok} {t : Tok} (hr : TsOk r) (h : nameP e r = .ok (t, r')) : t.text.length + 34 * r'.length + 2 ≤ 34 * r.length ∧ TsOk r' := by
  unfold nameP at h; split at h
  · rename_i hk
    have := tl (kind_ne hk (by decide))
    have hn := name_le (hr.here.name hk)
    cases h; exact ⟨by omega, hr.tail⟩
  · cases h
theorem cond_bd {r r' : List Tok} {x : Ex} (hr : TsOk r) (h : condP e r = .ok (x, r')) : szE x + 34 * r'.length + 34 ≤ 34 * r.length ∧ TsOk r' := by
  unfold condP at h
  cases h1 : want e [40] r with
  | error f => rw [h1] at h; cases h
  | ok r1 =>
    rw [h1] at h; dsimp only at h
    have l1 := want_len h1
    have k1 := want_ts hr h1
    cases h2 : exprP e 64 r1 with
    | error f => rw [h2] at h; cases h
    | ok p =>
      obtain ⟨y, r2⟩ := p
      rw [h2] at h; dsimp only at h
      obtain ⟨a2, k2⟩ := expr_bd _ _ _ _ _ k1 h2
      cases h3 : want e [41] r2 with
      | error f => rw [h3] at h; cases h
      | ok r3 => rw [h3] at h; cases h; have := want_len h3; exact ⟨by omega, want_ts k2 h3⟩
theorem semi_bd {r r' : List Tok} {x : Ex} (hr : TsOk r) (h : exprSemi e r = .ok (x, r')) : szE x + 34 * r'.length + 34 ≤ 34 * r.length ∧ TsOk r' := by
  unfold exprSemi at h
  cases h2 : exprP e 64 r with
  | error f => rw [h2] at h; cases h
  | ok p =>
    obtain ⟨y, r2⟩ := p
    rw [h2] at h; dsimp only at h
    obtain ⟨a2, k2⟩ := expr_bd _ _ _ _ _ hr h2
    cases h3 : want e [59] r2 with
    | error f => rw [h3] at h; cases h
    | ok r3 => rw [h3] at h; cases h; have := want_len h3; exact ⟨by omega, want_ts k2 h3⟩
theorem swap_bd {r r' : List Tok} {o : List UInt8} {x : Ex} (hr : TsOk r) (h : swapP e r = .ok ((o, x), r')) : o.length + szE x + 34 * r'.length ≤ 34 * r.length ∧ TsOk r' := by
  rw [← swapQ_eq] at h
  unfold swapQ bnd bndW at h
  cases h1 : want e [40] r with
  | error f => rw [h1] at h; cases h
  | ok r1 =>
    rw [h1] at h; dsimp only at h
    have l1 := want_len h1
    have k1 := want_ts hr h1
    cases hn : nameP e r1 with
    | error f => rw [hn] at h; cases h
    | ok q =>
      obtain ⟨t, r2⟩ := q
      rw [hn] at h; dsimp only at h
      obtain ⟨a2, k2⟩ := name_bd k1 hn
      cases h3 : want e [44] r2 with
      | error f => rw [h3] at h; cases h
      | ok r3 =>
        rw [h3] at h; dsimp only at h
        have l3 := want_len h3
        have k3 := want_ts k2 h3
        cases h4 : exprP e 64 r3 with
        | error f => rw [h4] at h; cases h
        | ok y =>
          obtain ⟨y, r4⟩ := y
          rw [h4] at h; dsimp only at h
          obtain ⟨a4, k4⟩ := expr_bd _ _ _ _ _ k3 h4
          cases h5 : want e [41] r4 with
          | error f => rw [h5] at h; cases h
          | ok r5 =>
            rw [h5] at h; dsimp only at h
            have l5 := want_len h5
            have k5 := want_ts k4 h5
            cases h6 : want e [59] r5 with
            | error f => rw [h6] at h; cases h
            | ok r6 => rw [h6] at h; cases h; have := want_len h6; exact ⟨by omega, want_ts k5 h6⟩
theorem assign_bd {a : Nat} {r r' : List Tok} {s : Sm} (hr : TsOk r) (h : assignP e a r = .ok (s, r')) : szS s + 34 * r'.length ≤ 34 * r.length ∧ TsOk r' := by
  rw [← assign_eq] at h
  unfold bnd bndW at h
  cases hn : nameP e r with
  | error f => rw [hn] at h; cases h
  | ok q =>
    obtain ⟨t, r1⟩ := q
    rw [hn] at h; dsimp only at h
    obtain ⟨a2, k2⟩ := name_bd hr hn
    cases h3 : want e [61] r1 with
    | error f => rw [h3] at h; cases h
    | ok r3 =>
      rw [h3] at h; dsimp only at h
      have l3 := want_len h3
      have k3 := want_ts k2 h3
      unfold sideP bnd at h
      split at h
      · rw [swapQ_eq] at h
        cases h4 : swapP e r3.tail with
        | error f => rw [h4] at h; cases h
        | ok y =>
          obtain ⟨⟨o, x⟩, r4⟩ := y
          rw [h4] at h; cases h
          obtain ⟨a4, k4⟩ := swap_bd k3.tail h4
          simp only [List.length_tail] at a4
          exact ⟨by simp only [szS, szSs, szEs]; omega, k4⟩
      · cases h4 : exprSemi e r3 with
        | error f => rw [h4] at h; cases h
        | ok y =>
          obtain ⟨x, r4⟩ := y
          rw [h4] at h; cases h
          obtain ⟨a4, k4⟩ := semi_bd k3 h4
          exact ⟨by simp only [szS, szSs, szEs, List.length_nil]; omega, k4⟩
def BdB (bk : List Tok → PR (List Sm)) : Prop := ∀ r l r', TsOk r → bk r = .ok (l, r') → szSs l + 34 * r'.length ≤ 34 * r.length ∧ TsOk r'
theorem stmtW_bd {bk : List Tok → PR (List Sm)} (hb : BdB bk) {r r' : List Tok} {s : Sm} (hr : TsOk r) (h : stmtW e bk r = .ok (s, r')) : szS s + 34 * r'.length ≤ 34 * r.length ∧ TsOk r' := by
  rw [stmtW_eq] at h
  have hform : ∀ w, formT (here r) w = true → r.tail.length + 1 = r.length := fun w hw => tl (by
    unfold formT at hw
    simp only [Bool.and_eq_true, decide_eq_true_eq] at hw
    exact kind_ne hw.2 (by decide))
  split at h
  · rename_i hw
    have l0 := hform _ hw
    rw [← choice_eq] at h
    unfold bnd at h
    cases h1 : condP e r.tail with
    | error f => rw [h1] at h; cases h
    | ok p =>
      obtain ⟨x, r1⟩ := p
      rw [h1] at h; dsimp only at h
      obtain ⟨a1, k1⟩ := cond_bd hr.tail h1
      cases h2 : bk r1 with
      | error f => rw [h2] at h; cases h
      | ok q =>
        obtain ⟨b, r2⟩ := q
        rw [h2] at h; dsimp only at h
        obtain ⟨a2, k2⟩ := hb _ _ _ k1 h2
        unfold elseP bnd at h
        split at h
        · cases h3 : bk r2.tail with
          | error f => rw [h3] at h; cases h
          | ok y =>
            obtain ⟨l, r3⟩ := y
            rw [h3] at h; cases h
            obtain ⟨a3, k3⟩ := hb _ _ _ k2.tail h3
            simp only [List.length_tail] at a3
            exact ⟨by simp only [szS, szEs, List.length_nil]; omega, k3⟩
        · cases h
          exact ⟨by simp only [szS, szEs, szSs, List.length_nil]; omega, k2⟩
  · split at h
    · rename_i hw
      have l0 := hform _ hw
      unfold loopP at h
      cases h1 : condP e r.tail with
      | error f => rw [h1] at h; cases h
      | ok p =>
        obtain ⟨x, r1⟩ := p
        rw [h1] at h; dsimp only at h
        obtain ⟨a1, k1⟩ := cond_bd hr.tail h1
        cases h2 : bk r1 with
        | error f => rw [h2] at h; cases h
        | ok q =>
          obtain ⟨b, r2⟩ := q
          rw [h2] at h; cases h
          obtain ⟨a2, k2⟩ := hb _ _ _ k1 h2
          exact ⟨by simp only [szS, szEs, szSs, List.length_nil]; omega, k2⟩
    · split at h
      · rename_i hw
        have l0 := hform _ hw
        unfold guardP at h
        cases h1 : nameP e r.tail with
        | error f => rw [h1] at h; cases h
        | ok p =>
          obtain ⟨t, r1⟩ := p
          rw [h1] at h; dsimp only at h
          obtain ⟨a1, k1⟩ := name_bd hr.tail h1
          cases h2 : bk r1 with
          | error f => rw [h2] at h; cases h
          | ok q =>
            obtain ⟨b, r2⟩ := q
            rw [h2] at h; cases h
            obtain ⟨a2, k2⟩ := hb _ _ _ k1 h2
            exact ⟨by simp only [szS, szEs, szSs, List.length_nil]; omega, k2⟩
      · split at h
        · rename_i hw
          have l0 := hform _ hw
          unfold printP at h
          cases h2 : exprP e 64 r.tail with
          | error f => rw [h2] at h; cases h
          | ok p =>
            obtain ⟨y, r2⟩ := p
            rw [h2] at h; dsimp only at h
            obtain ⟨a2, k2⟩ := expr_bd _ _ _ _ _ hr.tail h2
            cases h3 : want e [59] r2 with
            | error f => rw [h3] at h; cases h
            | ok r3 => rw [h3] at h; cases h; have := want_len h3; exact ⟨by simp only [szS, szEs, szSs, List.length_nil]; omega, want_ts k2 h3⟩
        · split at h
          · rename_i hw
            have l0 := hform _ hw
            unfold skipP at h
            cases h3 : want e [59] r.tail with
            | error f => rw [h3] at h; cases h
            | ok r3 => rw [h3] at h; cases h; have := want_len h3; exact ⟨by simp only [szS, szEs, szSs, List.length_nil]; omega, want_ts hr.tail h3⟩
          · exact assign_bd hr h
theorem restW_bd {st : List Tok → PR Sm} (hs : ∀ r s r', TsOk r → st r = .ok (s, r') → szS s + 34 * r'.length ≤ 34 * r.length ∧ TsOk r') : ∀ (k : Nat) (r : List Tok) (l : List Sm) (r' : List Tok), TsOk r → restW st k r = .ok (l, r') → szSs l + 34 * r'.length ≤ 34 * r.length ∧ TsOk r'
  | 0, r, l, r', _, h => by simp [restW] at h
  | k + 1, r, l, r', hr, h => by
    simp only [restW] at h
    split at h
    · cases h; exact ⟨by simp only [szSs, List.length_tail]; omega, hr.tail⟩
    · cases h1 : st r with
      | error f => rw [h1] at h; cases h
      | ok p =>
        obtain ⟨s, r1⟩ := p
        rw [h1] at h; dsimp only at h
        obtain ⟨a1, k1⟩ := hs _ _ _ hr h1
        cases h2 : restW st k r1 with
        | error f => rw [h2] at h; cases h
        | ok q =>
          obtain ⟨l2, r2⟩ := q
          rw [h2] at h; cases h
          obtain ⟨a2, k2⟩ := restW_bd hs k _ _ _ k1 h2
          exact ⟨by simp only [szSs]; omega, k2⟩
theorem stmt_bd : ∀ (m : Nat) (r : List Tok) (s : Sm) (r' : List Tok), TsOk r → stmtP e m r = .ok (s, r') → szS s + 34 * r'.length ≤ 34 * r.length ∧ TsOk r'
  | 0, r, s, r', hr, h => by
    rw [stmtP_blk] at h
    refine stmtW_bd (bk := blkP e 0) (fun r l r' _ h => ?_) hr h
    simp only [blkP] at h
    split at h <;> cases h
  | m + 1, r, s, r', hr, h => by
    rw [stmtP_blk] at h
    refine stmtW_bd (bk := blkP e (m + 1)) (fun r l r' hr h => ?_) hr h
    simp only [blkP] at h
    cases h1 : want e [123] r with
    | error f => rw [h1] at h; cases h
    | ok r1 =>
      rw [h1] at h; dsimp only at h
      have := want_len h1
      obtain ⟨a, k⟩ := restW_bd (fun r s r' hr h => stmt_bd m r s r' hr h) _ _ _ _ (want_ts hr h1) h
      exact ⟨by omega, k⟩
theorem decl_bd {r r' : List Tok} {x : Dc} (hr : TsOk r) (h : declP e r = .ok (x, r')) : x.nm.length + 1 + 34 * r'.length ≤ 34 * r.length ∧ TsOk r' := by
  unfold declP at h
  cases hn : nameP e r with
  | error f => rw [hn] at h; cases h
  | ok p =>
    obtain ⟨t, r1⟩ := p
    rw [hn] at h; cases h
    obtain ⟨a, k⟩ := name_bd hr hn
    exact ⟨by dsimp only; omega, k⟩
theorem init_bd {r r' : List Tok} {x : Dc} (hr : TsOk r) (h : initP e r = .ok (x, r')) : x.nm.length + 1 + 34 * r'.length ≤ 34 * r.length ∧ TsOk r' := by
  have hts := (init_right hr h).2
  refine ⟨?_, hts⟩
  unfold initP at h
  cases hn : nameP e r with
  | error f => rw [hn] at h; cases h
  | ok p =>
    obtain ⟨t, r1⟩ := p
    rw [hn] at h; dsimp only at h
    obtain ⟨a, k⟩ := name_bd hr hn
    split at h
    · obtain ⟨R, hR⟩ : ∃ R, R = (if isT [45] r1.tail = true then r1.tail.tail else r1.tail) := ⟨_, rfl⟩
      have kR : R.length ≤ r1.length := by rw [hR]; split <;> simp only [List.length_tail] <;> omega
      rw [← hR] at h
      unfold wordP at h
      split at h
      · cases h
      · rename_i y r2 hw
        split at hw
        · cases hw; cases h
          have : R.tail.length ≤ R.length := by simp
          dsimp only; omega
        · cases hw
    · cases h; dsimp only; omega
theorem list_bd {one : List Tok → PR Dc} (ho : ∀ r x r', TsOk r → one r = .ok (x, r') → x.nm.length + 1 + 34 * r'.length ≤ 34 * r.length ∧ TsOk r') : ∀ (n : Nat) (r : List Tok) (l : List Dc) (r' : List Tok), TsOk r → listP e one n r = .ok (l, r') → szDs l + 34 * r'.length ≤ 34 * r.length ∧ TsOk r'
  | 0, r, l, r', _, h => by simp [listP] at h
  | n + 1, r, l, r', hr, h => by
    simp only [listP] at h
    cases h1 : one r with
    | error f => rw [h1] at h; cases h
    | ok p =>
      obtain ⟨x, r1⟩ := p
      rw [h1] at h; dsimp only at h
      obtain ⟨a1, k1⟩ := ho _ _ _ hr h1
      split at h
      · cases h2 : listP e one n r1.tail with
        | error f => rw [h2] at h; cases h
        | ok p =>
          obtain ⟨l2, r2⟩ := p
          rw [h2] at h; cases h
          obtain ⟨a2, k2⟩ := list_bd ho n _ _ _ k1.tail h2
          simp only [List.length_tail] at a2
          exact ⟨by simp only [szDs]; omega, k2⟩
      · cases h2 : want e [59] r1 with
        | error f => rw [h2] at h; cases h
        | ok r2 =>
          rw [h2] at h; cases h
          have := want_len h2
          exact ⟨by simp only [szDs]; omega, want_ts k1 h2⟩
theorem szDs_app (a b : List Dc) : szDs (a ++ b) = szDs a + szDs b := by
  induction a with
  | nil => simp [szDs]
  | cons x a ih => simp only [List.cons_append, szDs, ih]; omega
theorem locals_bd : ∀ (n : Nat) (r : List Tok) (l : List Dc) (r' : List Tok), TsOk r → localsP e n r = .ok (l, r') → szDs l + 34 * r'.length ≤ 34 * r.length ∧ TsOk r'
  | 0, r, l, r', _, h => by simp [localsP] at h
  | n + 1, r, l, r', hr, h => by
    simp only [localsP] at h
    split at h
    · cases hq : listP e (declP e) (r.length + 1) r.tail with
      | error f => rw [hq] at h; cases h
      | ok q =>
        obtain ⟨l1, r1⟩ := q
        rw [hq] at h; dsimp only at h
        obtain ⟨a1, k1⟩ := list_bd (fun _ _ _ h1 h2 => decl_bd h1 h2) _ _ _ _ hr.tail hq
        simp only [List.length_tail] at a1
        cases hz : localsP e n r1 with
        | error f => rw [hz] at h; cases h
        | ok z =>
          obtain ⟨l2, r2⟩ := z
          rw [hz] at h; cases h
          obtain ⟨a2, k2⟩ := locals_bd n _ _ _ k1 hz
          exact ⟨by rw [szDs_app]; omega, k2⟩
    · cases h; exact ⟨by simp [szDs], hr⟩
theorem thread_bd {r r' : List Tok} {t : Th} (hr : TsOk r) (h : threadP e r = .ok (t, r')) : t.nm.length + szDs t.locals + szSs t.body + 1 + 34 * r'.length ≤ 34 * r.length ∧ TsOk r' := by
  rw [← thread_eq] at h
  unfold bnd bndW at h
  cases hn : nameP e r with
  | error f => rw [hn] at h; cases h
  | ok p =>
    obtain ⟨n, r0⟩ := p
    rw [hn] at h; dsimp only at h
    obtain ⟨a1, k1⟩ := name_bd hr hn
    cases hw : want e [123] r0 with
    | error f => rw [hw] at h; cases h
    | ok r1 =>
      rw [hw] at h; dsimp only at h
      have l2 := want_len hw
      cases hl : localsP e (r1.length + 1) r1 with
      | error f => rw [hl] at h; cases h
      | ok q =>
        obtain ⟨l, r2⟩ := q
        rw [hl] at h; dsimp only at h
        obtain ⟨a3, k3⟩ := locals_bd _ _ _ _ (want_ts k1 hw) hl
        cases hb : restP e 63 r2 with
        | error f => rw [hb] at h; cases h
        | ok z =>
          obtain ⟨b, r3⟩ := z
          rw [hb] at h; cases h
          obtain ⟨a4, k4⟩ := restW_bd (fun r s r' hr h => stmt_bd 63 r s r' hr h) _ _ _ _ k3 hb
          exact ⟨by dsimp only; omega, k4⟩
theorem threads_bd : ∀ (n : Nat) (r : List Tok) (l : List Th) (r' : List Tok), TsOk r → threadsP e n r = .ok (l, r') → szTs l + 34 * r'.length ≤ 34 * r.length ∧ TsOk r'
  | 0, r, l, r', _, h => by simp [threadsP] at h
  | n + 1, r, l, r', hr, h => by
    simp only [threadsP] at h
    split at h
    · cases h1 : threadP e r.tail with
      | error f => rw [h1] at h; cases h
      | ok p =>
        obtain ⟨t, r1⟩ := p
        rw [h1] at h; dsimp only at h
        obtain ⟨a1, k1⟩ := thread_bd hr.tail h1
        simp only [List.length_tail] at a1
        cases h2 : threadsP e n r1 with
        | error f => rw [h2] at h; cases h
        | ok p =>
          obtain ⟨l2, r2⟩ := p
          rw [h2] at h; cases h
          obtain ⟨a2, k2⟩ := threads_bd n _ _ _ k1 h2
          exact ⟨by simp only [szTs]; omega, k2⟩
    · cases h; exact ⟨by simp [szTs], hr⟩
theorem prog_bd : ∀ (n : Nat) (r : List Tok) (p : Pg), TsOk r → progP e n r = .ok p → szP p ≤ 34 * r.length
  | 0, r, p, _, h => by simp [progP] at h
  | n + 1, r, p, hr, h => by
    simp only [progP] at h
    split at h
    · cases h1 : listP e (initP e) (r.length + 1) r.tail with
      | error f => rw [h1] at h; cases h
      | ok q =>
        obtain ⟨l, r1⟩ := q
        rw [h1] at h; dsimp only at h
        obtain ⟨a1, k1⟩ := list_bd (fun _ _ _ h1 h2 => init_bd h1 h2) _ _ _ _ hr.tail h1
        simp only [List.length_tail] at a1
        cases h2 : progP e n r1 with
        | error f => rw [h2] at h; cases h
        | ok p2 =>
          rw [h2] at h; cases h
          have := prog_bd n _ _ k1 h2
          simp only [szP, szDs_app] at this ⊢; omega
    · split at h
      · cases h1 : listP e (declP e) (r.length + 1) r.tail with
        | error f => rw [h1] at h; cases h
        | ok q =>
          obtain ⟨l, r1⟩ := q
          rw [h1] at h; dsimp only at h
          obtain ⟨a1, k1⟩ := list_bd (fun _ _ _ h1 h2 => decl_bd h1 h2) _ _ _ _ hr.tail h1
          simp only [List.length_tail] at a1
          cases h2 : progP e n r1 with
          | error f => rw [h2] at h; cases h
          | ok p2 =>
            rw [h2] at h; cases h
            have := prog_bd n _ _ k1 h2
            simp only [szP, szDs_app] at this ⊢; omega
      · cases h1 : threadsP e (r.length + 1) r with
        | error f => rw [h1] at h; cases h
        | ok q =>
          obtain ⟨l, r1⟩ := q
          rw [h1] at h; dsimp only at h
          obtain ⟨a1, k1⟩ := threads_bd _ _ _ _ hr h1
          split at h
          · cases h; simp only [szP, szDs]; omega
          · cases h
end
theorem parse_bd {s : List UInt8} {p : Pg} {e a b : Nat} (h : parseRes s = (p, e, a, b)) : szP p ≤ 2228224 := by
  unfold parseRes at h
  split at h
  · cases h; decide
  · rename_i hs
    split at h
    · cases h; decide
    · have hts := front_ts (s := s) (by omega)
      obtain ⟨hl, -⟩ := front_ok (s := s) (T := (front s).1) (f := (front s).2) rfl
      split at h
      · cases h; decide
      · rename_i q hq
        cases h
        have := prog_bd _ _ _ hts hq
        omega
end ParS


/- Turned names and places change no count and no depth; how great a renamed tree is. -/
namespace LexS
open Sx
section
variable {g : List UInt8 → List UInt8} {h : Int → Int}
mutual
theorem nE_tr : ∀ e : Ex, nE (trE g h e) = nE e
  | .mk k op wd nm kids a => by simp only [trE, nE, nEs_tr kids]
theorem nEs_tr : ∀ l : List Ex, nEs (trEs g h l) = nEs l
  | [] => rfl
  | e :: r => by simp only [trEs, nEs, nE_tr e, nEs_tr r]
end
mutual
theorem stS_tr : ∀ s : Sm, stS (trS g h s) = stS s
  | .mk k nm o e body els a => by simp only [trS, stS, stSs_tr body, stSs_tr els]
theorem stSs_tr : ∀ l : List Sm, stSs (trSs g h l) = stSs l
  | [] => rfl
  | e :: r => by simp only [trSs, stSs, stS_tr e, stSs_tr r]
end
mutual
theorem exS_tr : ∀ s : Sm, exS (trS g h s) = exS s
  | .mk k nm o e body els a => by simp only [trS, exS, nEs_tr e, exSs_tr body, exSs_tr els]
theorem exSs_tr : ∀ l : List Sm, exSs (trSs g h l) = exSs l
  | [] => rfl
  | e :: r => by simp only [trSs, exSs, exS_tr e, exSs_tr r]
end
theorem trSs_len (l : List Sm) : (trSs g h l).length = l.length := by rw [trSs_map, List.length_map]
mutual
theorem dpS_tr : ∀ s : Sm, dpS (trS g h s) = dpS s
  | .mk k nm o e body els a => by simp only [trS, dpS, dpL_tr body, dpL_tr els, trSs_len]
theorem dpL_tr : ∀ l : List Sm, dpL (trSs g h l) = dpL l
  | [] => rfl
  | e :: r => by simp only [trSs, dpL, dpS_tr e, dpL_tr r]
end
theorem stP_tr (p : Pg) : stP (trP g h p) = stP p := by
  unfold stP trP
  dsimp only
  generalize p.threads = l
  induction l with
  | nil => rfl
  | cons t r ih => simp only [List.map_cons, sm, ih]; simp only [trT, stSs_tr]
theorem exP_tr (p : Pg) : exP (trP g h p) = exP p := by
  unfold exP trP
  dsimp only
  generalize p.threads = l
  induction l with
  | nil => rfl
  | cons t r ih => simp only [List.map_cons, sm, ih]; simp only [trT, exSs_tr]
theorem dpP_tr (p : Pg) : dpP (trP g h p).threads = dpP p.threads := by
  unfold trP
  dsimp only
  generalize p.threads = l
  induction l with
  | nil => rfl
  | cons t r ih => simp only [List.map_cons, dpP, ih]; simp only [trT, dpL_tr]
section
mutual
theorem szE_tr (hg : ∀ s, (g s).length ≤ s.length + 32) : ∀ e : Ex, szE (trE g h e) ≤ 65 * szE e
  | .mk k op wd nm kids a => by have := szEs_tr hg kids; have := hg nm; simp only [trE, szE]; omega
theorem szEs_tr (hg : ∀ s, (g s).length ≤ s.length + 32) : ∀ l : List Ex, szEs (trEs g h l) ≤ 65 * szEs l
  | [] => by simp [trEs, szEs]
  | e :: r => by have := szE_tr hg e; have := szEs_tr hg r; simp only [trEs, szEs]; omega
end
mutual
theorem szS_tr (hg : ∀ s, (g s).length ≤ s.length + 32) : ∀ s : Sm, szS (trS g h s) ≤ 65 * szS s
  | .mk k nm o e body els a => by have := szEs_tr hg (h := h) e; have := szSs_tr hg body; have := szSs_tr hg els; have := hg nm; have := hg o; simp only [trS, szS]; omega
theorem szSs_tr (hg : ∀ s, (g s).length ≤ s.length + 32) : ∀ l : List Sm, szSs (trSs g h l) ≤ 65 * szSs l
  | [] => by simp [trSs, szSs]
  | e :: r => by have := szS_tr hg e; have := szSs_tr hg r; simp only [trSs, szSs]; omega
end
theorem szDs_tr (hg : ∀ s, (g s).length ≤ s.length + 32) : ∀ l : List Dc, szDs (l.map (trD g h)) ≤ 65 * szDs l
  | [] => by simp [szDs]
  | d :: r => by have := hg d.nm; have := szDs_tr hg r; simp only [List.map_cons, szDs, trD]; omega
theorem szTs_tr (hg : ∀ s, (g s).length ≤ s.length + 32) : ∀ l : List Th, szTs (l.map (trT g h)) ≤ 65 * szTs l
  | [] => by simp [szTs]
  | t :: r => by have := hg t.nm; have := szTs_tr hg r; have := szDs_tr hg (h := h) t.locals; have := szSs_tr hg (h := h) t.body; simp only [List.map_cons, szTs, trT]; omega
theorem szP_tr (hg : ∀ s, (g s).length ≤ s.length + 32) (p : Pg) : szP (trP g h p) ≤ 65 * szP p := by
  have := szDs_tr hg (h := h) p.shared
  have := szDs_tr hg (h := h) p.locks
  have := szTs_tr hg (h := h) p.threads
  simp only [szP, trP]; omega
end
end
end LexS


/- How many names a tree has, by its size: no program in sight. -/
namespace LexS
open Sx
theorem nE_len : ∀ (n : Nat) (e : Ex), SizeOf.sizeOf e = n → (nmsE e).length ≤ szE e := by
  intro n
  refine Nat.strongRecOn n fun n ih e hn => ?_
  subst hn
  have key : ∀ l : List Ex, (∀ x ∈ l, (nmsE x).length ≤ szE x) → (nmsEs l).length ≤ szEs l := fun l => by
    induction l with
    | nil => intro _; simp [nmsEs, szEs]
    | cons x r ih =>
      intro h
      have h1 := h x (by simp)
      have h2 := ih fun y hy => h y (by simp [hy])
      simp only [nmsEs, szEs, List.length_append]; omega
  have hk := key e.kids fun x hx => ih _ (memE_lt hx) x rfl
  cases e with
  | mk k op wd nm kids a =>
    simp only [Ex.kids] at hk
    simp only [nmsE, szE, List.length_append]
    split <;> simp <;> omega
theorem nEs_len (l : List Ex) : (nmsEs l).length ≤ szEs l := by
  induction l with
  | nil => simp [nmsEs, szEs]
  | cons x r ih => have := nE_len _ x rfl; simp only [nmsEs, szEs, List.length_append]; omega
mutual
theorem nS_len : ∀ s : Sm, (nmsS s).length ≤ 2 * szS s
  | .mk k nm other e body els a => by
    have h1 := nEs_len e
    have h2 := nSs_len body
    have h3 := nSs_len els
    simp only [nmsS, szS, List.length_append, List.length_cons, List.length_nil]; omega
termination_by structural s => s
theorem nSs_len : ∀ l : List Sm, (nmsSs l).length ≤ 2 * szSs l
  | [] => by simp [nmsSs, szSs]
  | s :: r => by
    have h1 := nS_len s
    have h2 := nSs_len r
    simp only [nmsSs, szSs, List.length_append]; omega
termination_by structural l => l
end
theorem nDs_len (l : List Dc) : (l.map (·.nm)).length ≤ szDs l := by
  induction l with
  | nil => simp [szDs]
  | cons x r ih => simp only [List.map_cons, List.length_cons, szDs]; omega
theorem nP_len (p : Pg) : (nmsP p).length ≤ 2 * szP p := by
  have h1 := nDs_len p.shared
  have h2 := nDs_len p.locks
  have h3 : ∀ l : List Th, (l.flatMap nmsT).length ≤ 2 * szTs l := fun l => by
    induction l with
    | nil => simp [szTs]
    | cons t r ih =>
      have h4 := nDs_len t.locals
      have h5 := nSs_len t.body
      simp only [List.flatMap_cons, List.length_append, nmsT, szTs, List.length_cons, List.length_nil]; omega
  have h4 := h3 p.threads
  simp only [nmsP, List.map_append, List.length_append, szP]; omega
end LexS


namespace Go.Proofs.YtnmhlpnapgojjaaGreatDoor
open Go.RowKit Sx LexS ParS _root_.Go.Proofs.Tryz
theorem pgQ_rows {w : World} {p : Pg} {gs gl gt : Option Addr} {gcs gcl gct : Nat} {B : List Nat} (h : PgS 42 67 63 69 w p (pgC p gs gl gt gcs gcl gct) B) : DcRow w (· < w.heap.size) gs p.shared ∧ DcRow w (· < w.heap.size) gl p.locks ∧ ThRow w (· < w.heap.size) gt p.threads := by
 obtain ⟨os, cs, ol, cl, ot, ct, e, h1, h2, h3⟩ := PgS.toV h (T := (· < w.heap.size)) (fun b hb => PgS.lt h b hb)
 simp only [List.cons.injEq, Value.slice.injEq, and_true, true_and] at e
 obtain ⟨⟨rfl, -⟩, ⟨rfl, -⟩, rfl, -⟩ := e
 exact ⟨h1, h2, h3⟩
theorem pgRes_z {p q : Pg} (h : zP q = zP p) : pgRes q = pgRes p := by
 rw [← pgRes_tr (h := fun _ => 0) q, ← pgRes_tr (h := fun _ => 0) p]
 exact congrArg pgRes h
theorem okP_none : OkP pg0 := ⟨⟨by simp [pg0], by simp [pg0]⟩, ⟨by simp [pg0], by simp [pg0]⟩, ⟨by simp [pg0], by simp [pg0]⟩⟩
theorem parse_not {s : List UInt8} {q : Pg} {e a b : Nat} (h : parseRes s = (q, e, a, b)) (h0 : e ≠ 0) : q = pg0 := by
 unfold parseRes at h
 split at h
 ·cases h; rfl
 ·split at h
  ·cases h; rfl
  ·split at h
   ·cases h; rfl
   ·cases h; exact absurd rfl h0
theorem okP_z {s : List UInt8} {q : Pg} {e a b : Nat} (h : parseRes s = (q, e, a, b)) : OkP q := by
 by_cases h0 : e = 0
 ·subst h0; exact (parse_right h).2
 ·rw [parse_not h h0]; exact okP_none
theorem parse_lens {s : List UInt8} {q : Pg} {e a b : Nat} (h : parseRes s = (q, e, a, b)) : pgOk q = true → (pgT q).length ≤ 1099511627776 := fun hp => by
 have := pgT_len q (okP_z h) hp
 have := parse_bd h
 omega
theorem parse_nms {s : List UInt8} {q : Pg} {e a b : Nat} (h : parseRes s = (q, e, a, b)) : (nmsP q).length ≤ 4398046511104 := by
 have := nP_len q
 have := parse_bd h
 omega
theorem parse_szT {s : List UInt8} {q : Pg} {e a b : Nat} (h : parseRes s = (q, e, a, b)) : szTs q.threads ≤ 268435456 := by
 have := parse_bd h
 unfold szP at this
 omega
theorem pgRes_zero {p : Pg} {s : List UInt8} (h : pgRes p = (s, 0)) : pgOk p = true ∧ (pgT p).length ≤ 65536 ∧ pgT p = s := by
 unfold pgRes at h
 split at h
 ·split at h
  ·rename_i h1 h2; cases h; exact ⟨h1, h2, rfl⟩
  ·cases h
 ·cases h
theorem pgRes_lng {p : Pg} {s : List UInt8} {e : Nat} (hp : pgOk p = true) (h : pgRes p = (s, e)) (he : e ≠ 0) : e = 4 := by
 unfold pgRes at h
 rw [if_pos hp] at h
 split at h
 ·cases h; exact absurd rfl he
 ·cases h; rfl
/-- what a renaming comes to: the tree and the fault -/
def renRes (p : Pg) (fr tn : Wd) : Pg × Int := if pgOk p = false then (pg0, 40) else if renOk p tn = false then (pg0, 2) else (renP p fr tn, 0)
theorem pgQ_nil (w : World) : PgQ w pg0 (pgL pg0 none none none 0 0 0) [] :=
 ⟨none, 0, none, 0, none, 0, [], [], [], rfl, ⟨World.ownsRow_nil _ _ _ _, rfl⟩, ⟨World.ownsRow_nil _ _ _ _, rfl⟩, ⟨[], [], World.ownsRow_nil _ _ _ _, rfl, by simp [ThSs, pg0]⟩, rfl⟩
theorem RenV.uni {p q : Pg} {fr tn : Wd} {y : Int} {v : Value} {w w' : World} (hq : renRes p fr tn = (q, y)) (h : RenV p fr tn v w w') :
    ∃ (gs gl gt : Option Addr) (gcs gcl gct : Nat) (S : List Nat), v = .tuple #[.agg (pgL q gs gl gt gcs gcl gct).toArray, .int .i64 y] ∧ PgQ w' q (pgL q gs gl gt gcs gcl gct) S ∧ Nw w.heap.size S := by
 unfold renRes at hq
 rcases h with ⟨h1, rfl⟩ | ⟨h1, h2, rfl⟩ | ⟨h1, h2, h3⟩
 ·rw [if_pos h1] at hq; cases hq; exact ⟨none, none, none, 0, 0, 0, [], rfl, pgQ_nil _, Nw.nil⟩
 ·rw [if_neg (by simp [h1]), if_pos h2] at hq; cases hq; exact ⟨none, none, none, 0, 0, 0, [], rfl, pgQ_nil _, Nw.nil⟩
 ·rw [if_neg (by simp [h1]), if_neg (by simp [h2])] at hq; cases hq; exact h3
theorem renRes_range {p q : Pg} {fr tn : Wd} {y : Int} (h : renRes p fr tn = (q, y)) (hp : pgOk p = true) : y = 0 ∨ y = 2 := by
 unfold renRes at h
 rw [if_neg (by simp [hp])] at h
 split at h
 ·cases h; exact .inr rfl
 ·cases h; exact .inl rfl
theorem renRes_zero {p q : Pg} {fr tn : Wd} (h : renRes p fr tn = (q, 0)) : renOk p tn = true ∧ renP p fr tn = q := by
 unfold renRes at h
 split at h
 ·cases h
 ·split at h
  ·cases h
  ·rename_i h1 h2; cases h; exact ⟨by simpa using h2, rfl⟩
theorem renOk_name {p : Pg} {tn : Wd} (h : renOk p tn = true) : isName tn = true := by
 unfold renOk at h
 simp only [Bool.and_eq_true] at h
 exact h.1
theorem ren_right {p : Pg} {fr tn : Wd} (hp : pgOk p = true) (h : renOk p tn = true) : pgOk (renP p fr tn) = true :=
 pgOk_ren (by unfold renG; rw [if_neg (by simp)]) hp fun s hs hn => by unfold renG; split; exact renOk_name h; exact hn
theorem isName_len {s : Wd} (h : isName s = true) : s.length ≤ 32 := by
 unfold isName at h
 split at h
 ·cases h
 ·simp only [Bool.and_eq_true, decide_eq_true_eq] at h
  exact h.1.1.1
theorem ren_len {s : List UInt8} {p : Pg} {a b : Nat} {fr tn : Wd} (hR : parseRes s = (p, 0, a, b)) (h : renOk p tn = true) (hok : OkP (renP p fr tn)) (hp : pgOk (renP p fr tn) = true) : (pgT (renP p fr tn)).length ≤ 1099511627776 := by
 have h1 := pgT_len _ hok hp
 have h2 := szP_tr (g := renG fr tn) (h := idN) (fun s => by unfold renG; split; (have := isName_len (renOk_name h); omega); omega) p
 have h3 := parse_bd hR
 have h4 : szP (renP p fr tn) ≤ 65 * szP p := h2
 omega
theorem sizes_z {p x : Pg} {fr tn : Wd} (h : zP x = zP (renP p fr tn)) : stP x = stP p ∧ exP x = exP p ∧ dpP x.threads = dpP p.threads := by
 have h1 : stP (zP x) = stP x := stP_tr x
 have h2 : exP (zP x) = exP x := exP_tr x
 have h3 : dpP (zP x).threads = dpP x.threads := dpP_tr x
 rw [← h1, ← h2, ← h3, h]
 exact ⟨(stP_tr _).trans (stP_tr p), (exP_tr _).trans (exP_tr p), (dpP_tr _).trans (dpP_tr p)⟩
theorem wadd_any (a b : Int) (w : World) (h : -9223372036854775808 ≤ a + b ∧ a + b ≤ 9223372036854775807) : Ret Tryz.prog 179 [.int .i64 a, .int .i64 b] w fun v w' => v = .int .i64 (a + b) ∧ w' = w := by
 refine ret_of [_, _] func179 rfl ntmps179 rfl ?_
 have st := St.init w []
 refine sr ?_
 refine ya ?_
 refine et (vk2 0 1 (sr ?_))
 iterate 2 refine ym ?_
 refine vy (y_add rfl rfl rfl (by omega) (by omega)) ?_
 refine ya ?_
 refine et (vk1 4 (vc_ret ?_))
 refine vr1 st results179 ?_
 exact ⟨rfl, rfl⟩
theorem operators_any (w : World) : Ret Tryz.prog 141 [] w fun v w' => ∃ vs : List Value, v = .agg vs.toArray ∧ nth vs 2 = some (.func (.func 179) #[] #[]) ∧ takeN 2 (dropN vs 2) = some [.func (.func 179) #[] #[], .nilFunc] ∧ Chg [] w w' := by
 refine ret_of [] func141 rfl ntmps141 rfl ?_
 have st := St.init w []
 refine sr ?_
 refine vc_e (e_al (l := [_, _, _, _, _, _, _, _, _, _, _, _, _, _, _, _, _, _, _, _, _, _, _, _, _, _, _, _, _, _, _, _, _, _, _, _, _, _]) st rfl rfl zeroValue173 rfl ?_)
 intro b0 w hb0 st
 refine et (vk1 0 (sr ?_))
 iterate 16 refine vy (ybd (.agg #[_, _]) [(0, _)]) ?_
 iterate 2 refine vy (ybd (.agg #[_, _]) [(1, _)]) ?_
 refine vy (ybd (.agg #[_, _, _, _, _, _, _, _, _, _, _, _, _, _, _, _, _, _, _, _, _, _, _, _, _, _, _, _, _, _, _, _, _, _, _, _, _, _]) [(1, _), (2, _), (3, _), (4, _), (5, _), (6, _), (7, _), (8, _), (9, _), (10, _), (11, _), (12, _), (13, _), (14, _), (15, _), (16, _), (17, _), (18, _)]) ?_
 first
 | refine vc_e (ests st 0 [_, _, _, _, _, _, _, _, _, _, _, _, _, _, _, _, _, _, _, _, _, _, _, _, _, _, _, _, _, _, _, _, _, _, _, _, _, _] sizeOf173 ?_)
 intro w st; dsimp only [setNth, wr] at st
 refine et (vk1 0 (vc_ret ?_))
 refine vq_ret1 st (.inl rfl) results141 (by first | exact .cell 0 rfl rfl isAgg173 sizeOf173) ?_
 refine ⟨_, rfl, ?_⟩
 exact ⟨_, rfl, rfl, rfl, st.chg⟩
theorem do_any (w : World) : Ret Tryz.prog 74 [.int .u8 1, .int .i64 2, .int .i64 3] w fun v w' => v = .tuple [.int .i64 5, .int .i64 0].toArray ∧ Chg [] w w' := by
 refine ret_of [_, _, _] func74 rfl ntmps74 rfl ?_
 have st := St.init w []
 refine sr ?_
 iterate 2 refine ya ?_
 refine et (vk3 0 1 2 (vc_seq (sr ?_)))
 refine ym ?_
 refine vc_e (e_call [_] rfl rfl call104 rfl (two_any _ _) ?_)
 rintro _ _ ⟨rfl, rfl⟩
 refine vy (y_not rfl) ?_
 refine et (vk4 0 1 2 11 ?_)
 refine vif ?_ ?_
 ·intro hc11
  (exfalso; revert hc11; decide)
 intro hc11
 try simp only [dn] at hc11
 refine kt (vk3 0 1 2 (sr ?_))
 refine vc_e (e_call [] rfl rfl call141 rfl (operators_any _) ?_)
 rintro _ w ⟨vs, rfl, hv2, htk, cw⟩
 replace st := st.call0 cw
 refine ym ?_
 refine vy (y_ixa (i := 1) (vs := [.func (.func 179) #[] #[], .nilFunc]) rfl rfl underlying173 sizeOf172 rfl rfl isAgg172 htk) ?_
 refine vy (y_fld rfl underlying172 rfl rfl isAgg169 rfl) ?_
 refine ya ?_
 refine et (vk3 1 2 8 (sr ?_))
 iterate 3 refine ym ?_
 refine vc_e (e_callv [_, _] rfl rfl rfl call179 rfl (wadd_any 2 3 _ (by omega)) ?_)
 rintro _ _ ⟨rfl, rfl⟩
 iterate 2 refine ya ?_
 refine et (vk2 6 7 (vc_ret ?_))
 refine vq_ret2 st (.inl rfl) results74 (.tmp rfl) (.tmp rfl) ?_
 refine ⟨_, rfl, ?_⟩
 exact ⟨rfl, st.chg⟩
def xT : List UInt8 := [120, 32, 61, 32, 49, 50, 59]
theorem scanRes_xT : scanRes xT = ([⟨1, [120], 0, 0⟩, ⟨4, [61], 0, 2⟩, ⟨3, [49, 50], 12, 4⟩, ⟨4, [59], 0, 6⟩], 0, 0, 0) := by kernel_rfl
theorem scan_eqT (s : List UInt8) (T : List Tok) (e a r : Nat) (he : scanRes s = (T, e, a, r)) (w : World) : Ret Tryz.prog 75 [str s] w fun v w' => Chg [] w w' ∧ ∃ oa cap, v = .tuple [.slice oa T.length cap, .int .i64 (e : Int), .agg [.int .i64 (a : Int), .int .i64 (r : Int)].toArray].toArray ∧
    w'.ownsRow w.heap.size 118 4 (.slice oa T.length cap) T.length (toksL T) ∧ (0 < T.length → ∃ b, oa = some ⟨b, 0, none⟩) :=
 (scan_any s w).mono fun v w' ⟨c, oa, cap, hv, ho⟩ => by
  rw [he] at hv ho
  refine ⟨c, oa, cap, hv, ho, fun h => ?_⟩
  obtain ⟨b, cap', e, _⟩ := own_form ho h
  simp only [Value.slice.injEq] at e
  exact ⟨b, e.1⟩

set_option maxHeartbeats 1000000 in
theorem tbegins_any (w : World) : Ret Tryz.prog 28 [] w fun v w' => v = .bool true ∧ Chg [] w w' := by
 refine ret_of [] func28 rfl ntmps28 rfl ?_
 have st := St.init w []
 refine sr ?_
 refine ya ?_
 refine et (vc_keep [] trivial (sr ?_))
 refine vc_e (e_call [_, _, _] rfl rfl call74 rfl (do_any _) ?_)
 rintro _ w ⟨rfl, cw⟩
 replace st := st.call0 cw
 refine ym ?_
 iterate 2 refine vy (y_ext rfl rfl) ?_
 iterate 2 refine ya ?_
 refine et (vk2 1 2 (sr ?_))
 refine vc_e (e_call [_] rfl rfl call75 rfl (scan_eqT xT _ _ _ _ scanRes_xT _) ?_)
 rintro _ w ⟨cw, oa, cap, rfl, how, hb⟩
 obtain ⟨bx, rfl⟩ := hb (by decide)
 replace st := st.pushOwn cw how
 refine ym ?_
 iterate 3 refine vy (y_ext rfl rfl) ?_
 refine vc_e (e_al (l := [_, _]) st rfl rfl zeroValue29 rfl ?_)
 intro b5 w hb5 st
 iterate 2 refine ya ?_
 refine vc_e (ests st 0 [_, _] sizeOf29 ?_)
 intro w st; dsimp only [setNth, wr] at st
 refine et (vk4 1 2 3 4 (sr ?_))
 refine ym ?_
 refine vy (y_eqi rfl rfl) ?_
 refine vmb ?_ ?_
 ·intro hg17
  try simp only [dn] at hg17
  refine ym ?_
  refine vy (y_eqi rfl rfl) ?_
  refine ypt ?_
  refine vmb ?_ ?_
  ·intro hg21
   try simp only [dn] at hg21
   refine vc_e (e_call [_] rfl rfl call76 rfl (wprint_any (-7) _ (by omega)) ?_)
   rintro _ w ⟨rfl, cw⟩
   replace st := st.call0 cw
   have h7 : shw (-7) = [45, 55] := by kernel_rfl
   rw [h7]
   refine vy (y_eqs rfl rfl) ?_
   refine ypt ?_
   refine vmb ?_ ?_
   ·intro hg25
    try simp only [dn] at hg25
    refine ym ?_
    refine vy (y_eqi rfl rfl) ?_
    refine ypt ?_
    refine vmb ?_ ?_
    ·intro hg29
     try simp only [dn] at hg29
     refine ym ?_
     refine vy (y_lensl rfl underlying89) ?_
     refine vy (y_eqi rfl rfl) ?_
     refine ypt ?_
     refine vmb ?_ ?_
     ·intro hg34
      try simp only [dn] at hg34
      refine ym ?_
      refine vy (y_ia0 (k := 2) rfl rfl underlying89 sizeOf118 rfl (by omega)) ?_
      refine vy (y_fa (k := 2) rfl underlying118 rfl rfl sizeOf2 rfl) ?_
      refine vy (y_ldo st 1 rfl isAgg2 rfl rfl) ?_
      refine vy (y_eqi rfl rfl) ?_
      refine ypt ?_
      refine vmb ?_ ?_
      ·intro hg41
       try simp only [dn] at hg41
       refine ym ?_
       refine vy (y_ia0 (k := 2) rfl rfl underlying89 sizeOf118 rfl (by omega)) ?_
       refine vy (y_fa0 rfl underlying118 rfl rfl sizeOf116 rfl) ?_
       refine vy (y_ldo st 1 rfl isAgg116 rfl rfl) ?_
       refine vy (y_eqi rfl rfl) ?_
       refine ypt ?_
       refine ya ?_
       refine et (vk1 0 (vc_ret ?_))
       refine vr1 st results28 ?_
       exact ⟨by rfl, st.chg⟩
      intro hg41
      (exfalso; revert hg41; decide)
     intro hg34
     (exfalso; revert hg34; decide)
    intro hg29
    (exfalso; revert hg29; decide)
   intro hg25
   (exfalso; revert hg25; decide)
  intro hg21
  (exfalso; revert hg21; decide)
 intro hg17
 (exfalso; revert hg17; decide)
set_option maxHeartbeats 8000000 in
theorem lawTopRead (s fr tn : Wd) (w : World) (hsg : Sig w) : Ret Tryz.prog 8 [str s, str fr, str tn] w fun v w' => v = .bool true ∧ Chg [] w w' := by
 refine ret_of [_, _, _] func8 rfl ntmps8 rfl ?_
 have st := St.init w []
 obtain ⟨w0, rfl⟩ : ∃ w0, w0 = w := ⟨_, rfl⟩
 obtain ⟨p, e1, fp, fr0, hR⟩ : ∃ p e1 fp fr, parseRes s = (p, e1, fp, fr) := ⟨_, _, _, _, rfl⟩
 have hok := okP_z hR
 have hlen := parse_lens hR
 have hnm := parse_nms hR
 have hsz := parse_szT hR
 refine sr ?_
 refine ya ?_
 refine et (vk3 0 1 2 (vc_seq (sr ?_)))
 refine vc_e (e_call [] rfl rfl call28 rfl (tbegins_any _) ?_)
 rintro _ w ⟨rfl, cw⟩
 replace st := st.call0 cw
 refine vy (y_not rfl) ?_
 refine et (vk4 0 1 2 24 ?_)
 refine vif ?_ ?_
 ·intro hc24
  exact absurd hc24 (by decide)
 intro hc24
 try simp only [dn] at hc24
 refine kt (vk3 0 1 2 (sr ?_))
 refine ym ?_
 refine vc_e (e_call [_] rfl rfl call10 rfl (Pq.parse_any s _ (SigAt.kept hsg st.chg (by simp))) ?_)
 rintro _ w h
 rw [Pq.ParsePost, hR] at h
 dsimp only at h
 obtain ⟨cw, _, ⟨os1, ol1, ot1, cs1, cl1, ct1, Sq1, rfl, hQ1, hN⟩, rfl⟩ := h
 have hNw1 := hN.le st.chg.size
 replace st := st.pushR cw (Sx.holds_pg hQ1) hN.2
 refine ym ?_
 iterate 3 refine vy (y_ext rfl rfl) ?_
 refine vc_e (e_al (l := [_, _, _]) st rfl rfl zeroValue26 rfl ?_)
 intro b7 w hb7 st
 refine vc_e (e_al (l := [_, _]) st rfl rfl zeroValue29 rfl ?_)
 intro b9 w hb9 st
 refine vc_e (ests st 1 [_, _, _] sizeOf26 ?_)
 intro w st; dsimp only [setNth, wr] at st
 refine ya ?_
 refine vc_e (ests st 0 [_, _] sizeOf29 ?_)
 intro w st; dsimp only [setNth, wr] at st
 refine et (vk4 1 2 7 8 (vc_seq (sr ?_)))
 refine ym ?_
 refine vy (y_nei rfl rfl) ?_
 refine et (vk4 1 2 7 32 ?_)
 refine vif ?_ ?_
 ·intro hc32
  try simp only [dn] at hc32
  have hp0 := parse_not hR (by omega)
  subst hp0
  refine sr ?_
  refine yfz 2 underlying26 sizeOf24 ?_
  refine yl st 1 isAgg24 ?_
  refine vy (y_lensl rfl underlying24) ?_
  refine vy (y_eqi rfl rfl) ?_
  refine vmb ?_ ?_
  ·intro hg37
   try simp only [dn] at hg37
   refine vy (y_fa0 rfl underlying26 rfl rfl sizeOf23 rfl) ?_
   refine yl st 1 isAgg23 ?_
   refine vy (y_lensl rfl underlying23) ?_
   refine vy (y_eqi rfl rfl) ?_
   refine ypt ?_
   refine vmb ?_ ?_
   ·intro hg43
    try simp only [dn] at hg43
    refine yfz 1 underlying26 sizeOf23 ?_
    refine yl st 1 isAgg23 ?_
    refine vy (y_lensl rfl underlying23) ?_
    refine vy (y_eqi rfl rfl) ?_
    refine ypt ?_
    refine ya ?_
    refine et (vk1 6 (vc_ret (vq_then_ret ?_)))
    refine vr1 st results8 ?_
    refine ⟨?_, st.chg⟩
    rfl
   intro hg43
   exact absurd hg43 (by simp [pg0])
  intro hg37
  exact absurd hg37 (by simp [pg0])
 intro hc32
 try simp only [dn] at hc32
 have he1 : e1 = 0 := by omega
 subst he1
 obtain ⟨hpg, -⟩ := parse_right hR
 obtain ⟨t, e2, hpr⟩ : ∃ s e1, pgRes p = (s, e1) := ⟨_, _, rfl⟩
 refine kt (vk3 1 2 7 (sr ?_))
 refine yla st 1 [_, _, _] isAgg26 sizeOf26 ?_
 refine vc_e (e_call [_] rfl rfl call11 rfl (wprintP_any p _ _ _ _ _ _ _ (pgQ_rows (st.res (i := 2) rfl).1).1 (pgQ_rows (st.res (i := 2) rfl).1).2.1 (pgQ_rows (st.res (i := 2) rfl).1).2.2 hok (hsg.kept st.chg) hlen) ?_)
 rintro _ w ⟨rfl, cw⟩
 replace st := st.call0 cw
 rw [hpr]
 refine ym ?_
 iterate 2 refine vy (y_ext rfl rfl) ?_
 iterate 2 refine ya ?_
 refine et (vk5 1 2 7 8 10 (vc_seq (sr ?_)))
 refine ym ?_
 refine vy (y_nei rfl rfl) ?_
 refine et (vk6 1 2 7 8 10 55 ?_)
 refine vif ?_ ?_
 ·intro hc55
  try simp only [dn] at hc55
  have h4 : e2 = 4 := pgRes_lng hpg hpr (by omega)
  subst h4
  refine sr ?_
  refine ym ?_
  refine vy (y_eqi rfl rfl) ?_
  refine ya ?_
  refine et (vk1 6 (vc_ret (vq_then_ret ?_)))
  refine vr1 st results8 ?_
  refine ⟨?_, st.chg⟩
  rfl
 intro hc55
 try simp only [dn] at hc55
 have he2 : e2 = 0 := by omega
 subst he2
 obtain ⟨-, hln, rfl⟩ := pgRes_zero hpr
 obtain ⟨q, hq, hz⟩ := parse_printed hpg hok hln
 have hqr := pgRes_z hz
 have hokq := okP_z hq
 have hlq := parse_lens hq
 refine kt (vk4 1 2 7 10 (sr ?_))
 refine ym ?_
 refine vc_e (e_call [_] rfl rfl call10 rfl (Pq.parse_any (pgT p) _ (SigAt.kept hsg st.chg (by simp))) ?_)
 rintro _ w h
 rw [Pq.ParsePost, hq] at h
 dsimp only at h
 obtain ⟨cw, _, ⟨os2, ol2, ot2, cs2, cl2, ct2, Sq2, rfl, hQ2, hN⟩, rfl⟩ := h
 have hNw2 := hN.le st.chg.size
 replace st := st.pushR cw (Sx.holds_pg hQ2) hN.2
 refine ym ?_
 iterate 3 refine vy (y_ext rfl rfl) ?_
 refine vc_e (e_al (l := [_, _, _]) st rfl rfl zeroValue26 rfl ?_)
 intro b11 w hb11 st
 refine vc_e (e_al (l := [_, _]) st rfl rfl zeroValue29 rfl ?_)
 intro b12 w hb12 st
 refine vc_e (ests st 1 [_, _, _] sizeOf26 ?_)
 intro w st; dsimp only [setNth, wr] at st
 refine ya ?_
 refine vc_e (ests st 0 [_, _] sizeOf29 ?_)
 intro w st; dsimp only [setNth, wr] at st
 refine et (vk6 1 2 7 8 10 11 (sr ?_))
 refine yla st 1 [_, _, _] isAgg26 sizeOf26 ?_
 refine vc_e (e_call [_] rfl rfl call11 rfl (wprintP_any q _ _ _ _ _ _ _ (pgQ_rows (st.res (i := 2) rfl).1).1 (pgQ_rows (st.res (i := 2) rfl).1).2.1 (pgQ_rows (st.res (i := 2) rfl).1).2.2 hokq (hsg.kept st.chg) hlq) ?_)
 rintro _ w ⟨rfl, cw⟩
 replace st := st.call0 cw
 rw [hqr, hpr]
 obtain ⟨r, y, hrn⟩ : ∃ q y, renRes p fr tn = (q, y) := ⟨_, _, rfl⟩
 refine ym ?_
 iterate 2 refine vy (y_ext rfl rfl) ?_
 iterate 2 refine ya ?_
 refine et (vk8 1 2 7 8 10 11 13 14 (vc_seq (sr ?_)))
 refine ym ?_
 refine vy (y_nei rfl rfl) ?_
 refine vmb ?_ ?_
 ·intro hg71
  exact absurd hg71 (by simp)
 intro hg71
 try simp only [dn] at hg71
 refine ym ?_
 refine vy (y_nei rfl rfl) ?_
 refine ypf ?_
 refine vmb ?_ ?_
 ·intro hg75
  exact absurd hg75 (by simp)
 intro hg75
 try simp only [dn] at hg75
 refine yla st 4 [_, _, _] isAgg26 sizeOf26 ?_
 refine yla st 1 [_, _, _] isAgg26 sizeOf26 ?_
 refine vc_e (e_call [_, _] rfl rfl call29 rfl (Pq.psameP_any (S := fun _ => True) p q hok _ _ _ _ _ _ _ _ _ _ _ _ _ (pgS_rows (st.res (i := 5) rfl).1).1 (pgS_rows (st.res (i := 5) rfl).1).2.1 (pgS_rows (st.res (i := 5) rfl).1).2.2 (pgS_rows (st.res (i := 2) rfl).1).1 (pgS_rows (st.res (i := 2) rfl).1).2.1 (pgS_rows (st.res (i := 2) rfl).1).2.2) ?_)
 rintro _ w ⟨rfl, cw⟩
 replace st := st.call0 cw
 rw [sameP_iff.2 hz.symm]
 refine vy (y_not rfl) ?_
 refine ypf ?_
 refine vmb ?_ ?_
 ·intro hg81
  exact absurd hg81 (by simp)
 intro hg81
 try simp only [dn] at hg81
 iterate 2 refine ym ?_
 refine vy (y_nes rfl rfl) ?_
 refine ypf ?_
 refine et (vk4 1 2 7 85 ?_)
 refine vif ?_ ?_
 ·intro hc85
  exact absurd hc85 (by simp)
 intro hc85
 try simp only [dn] at hc85
 refine kt (vk3 1 2 7 (sr ?_))
 refine yla st 4 [_, _, _] isAgg26 sizeOf26 ?_
 iterate 2 refine ym ?_
 refine vc_e (e_call [_, _, _] rfl rfl call18 rfl (rename_any p hok fr tn _ _ _ _ _ _ _ (pgQ_rows (st.res (i := 5) rfl).1).1 (pgQ_rows (st.res (i := 5) rfl).1).2.1 (pgQ_rows (st.res (i := 5) rfl).1).2.2 (Nat.le_refl _) (hsg.kept st.chg) hnm) ?_)
 rintro _ w ⟨hRv, cw⟩
 obtain ⟨g3s, g3l, g3t, c3s, c3l, c3t, S3, rfl, hQ, hN⟩ := RenV.uni hrn hRv
 replace st := St.pushR (r := .tree S3 (fun w => PgQ w r (pgL r g3s g3l g3t c3s c3l c3t) S3)) st cw (holds_of hQ hQ.lt (fun a b h hk => h.kept hk)) hN.2
 refine ym ?_
 iterate 2 refine vy (y_ext rfl rfl) ?_
 refine vc_e (e_al (l := [_, _, _]) st rfl rfl zeroValue26 rfl ?_)
 intro b15 w hb15 st
 refine vc_e (ests st 0 [_, _, _] sizeOf26 ?_)
 intro w st; dsimp only [setNth, wr] at st
 refine ya ?_
 refine et (vk3 7 8 15 (vc_seq (sr ?_)))
 refine ym ?_
 refine vy (y_nei rfl rfl) ?_
 refine et (vk4 7 8 15 94 ?_)
 refine vif ?_ ?_
 ·intro hc94
  try simp only [dn] at hc94
  have hy : y = 2 := (renRes_range hrn hpg).resolve_left (by omega)
  subst hy
  refine sr ?_
  refine ym ?_
  refine vy (y_eqi rfl rfl) ?_
  refine ya ?_
  refine et (vk1 6 (vc_ret (vq_then_ret ?_)))
  refine vr1 st results8 ?_
  refine ⟨?_, st.chg⟩
  rfl
 intro hc94
 try simp only [dn] at hc94
 have hy : y = 0 := by omega
 subst hy
 obtain ⟨hro, rfl⟩ := renRes_zero hrn
 have hrg := ren_right (fr := fr) hpg hro
 have hokr : OkP (renP p fr tn) := okP_tr (fun a h => h) hok
 obtain ⟨v, e5, hpv⟩ : ∃ s e1, pgRes (renP p fr tn) = (s, e1) := ⟨_, _, rfl⟩
 refine kt (vk2 7 15 (sr ?_))
 refine yla st 0 [_, _, _] isAgg26 sizeOf26 ?_
 refine vc_e (e_call [_] rfl rfl call11 rfl (wprintP_any (renP p fr tn) _ _ _ _ _ _ _ (pgQ_rows (st.res (i := 1) rfl).1).1 (pgQ_rows (st.res (i := 1) rfl).1).2.1 (pgQ_rows (st.res (i := 1) rfl).1).2.2 hokr (hsg.kept st.chg) (fun hp => ren_len hR hro hokr hp)) ?_)
 rintro _ w ⟨rfl, cw⟩
 replace st := st.call0 cw
 rw [hpv]
 refine ym ?_
 iterate 2 refine vy (y_ext rfl rfl) ?_
 iterate 2 refine ya ?_
 refine et (vk4 7 8 15 16 (vc_seq (sr ?_)))
 refine ym ?_
 refine vy (y_nei rfl rfl) ?_
 refine et (vk5 7 8 15 16 103 ?_)
 refine vif ?_ ?_
 ·intro hc103
  try simp only [dn] at hc103
  have h4 : e5 = 4 := pgRes_lng hrg hpv (by omega)
  subst h4
  refine sr ?_
  refine ym ?_
  refine vy (y_eqi rfl rfl) ?_
  refine ya ?_
  refine et (vk1 6 (vc_ret (vq_then_ret ?_)))
  refine vr1 st results8 ?_
  refine ⟨?_, st.chg⟩
  rfl
 intro hc103
 try simp only [dn] at hc103
 have he5 : e5 = 0 := by omega
 subst he5
 obtain ⟨-, hlnv, rfl⟩ := pgRes_zero hpv
 obtain ⟨x, hx, hzx⟩ := parse_printed hrg hokr hlnv
 have hokx := okP_z hx
 have hszx := parse_szT hx
 have hsx := sizes_z hzx
 refine kt (vk3 7 15 16 (sr ?_))
 refine ym ?_
 refine vc_e (e_call [_] rfl rfl call10 rfl (Pq.parse_any (pgT (renP p fr tn)) _ (SigAt.kept hsg st.chg (by simp))) ?_)
 rintro _ w h
 rw [Pq.ParsePost, hx] at h
 dsimp only at h
 obtain ⟨cw, _, ⟨os4, ol4, ot4, cs4, cl4, ct4, Sq4, rfl, hQ4, hN⟩, rfl⟩ := h
 have hNw4 := hN.le st.chg.size
 replace st := st.pushR cw (Sx.holds_pg hQ4) hN.2
 refine ym ?_
 iterate 3 refine vy (y_ext rfl rfl) ?_
 refine vc_e (e_al (l := [_, _, _]) st rfl rfl zeroValue26 rfl ?_)
 intro b17 w hb17 st
 refine vc_e (e_al (l := [_, _]) st rfl rfl zeroValue29 rfl ?_)
 intro b18 w hb18 st
 refine vc_e (ests st 1 [_, _, _] sizeOf26 ?_)
 intro w st; dsimp only [setNth, wr] at st
 refine ya ?_
 refine vc_e (ests st 0 [_, _] sizeOf29 ?_)
 intro w st; dsimp only [setNth, wr] at st
 refine et (vk4 7 8 15 17 (sr ?_))
 refine yla st 9 [_, _, _] isAgg26 sizeOf26 ?_
 refine vc_e (e_call [_] rfl rfl call30 rfl (Pq.psize_any (S := (· < w.heap.size)) p hok hsz _ _ _ _ _ _ _ (pgQ_rows (st.res (i := 10) rfl).1).2.2 (fun b hb => hb)) ?_)
 rintro _ w ⟨rfl, cw⟩
 replace st := st.call0 cw
 refine ym ?_
 iterate 2 refine vy (y_ext rfl rfl) ?_
 iterate 2 refine ya ?_
 refine et (vk6 7 8 15 17 19 20 (sr ?_))
 refine yla st 1 [_, _, _] isAgg26 sizeOf26 ?_
 refine vc_e (e_call [_] rfl rfl call30 rfl (Pq.psize_any (S := (· < w.heap.size)) x hokx hszx _ _ _ _ _ _ _ (pgQ_rows (st.res (i := 2) rfl).1).2.2 (fun b hb => hb)) ?_)
 rintro _ w ⟨rfl, cw⟩
 replace st := st.call0 cw
 refine ym ?_
 iterate 2 refine vy (y_ext rfl rfl) ?_
 iterate 2 refine ya ?_
 refine et (vk8 7 8 15 17 19 20 21 22 (vc_seq ?_))
 refine vdr0 Tryz.mixed [Yt 0, Yt 1, Yt 2, Yt 3, Yt 4, Nt 5, Yt 6, Yt 7, Yt 8, Yt 9, Yt 10, Yt 11, Yt 12, Yt 13, Yt 14, Yt 15, Yt 16, Yt 17, Yt 18, Yt 20, Nt 19, Nt 21, Yt 22, Yt 23, Yt 24] st ?_
 clear st; intro w st hS
 refine pm hS ?_
 refine vp_take rfl rfl rfl hS (fun w st => y_eqi rfl rfl) ?_
 refine vp_part rfl rfl rfl hS rfl ?_ ?_
 ·intro hg124
  try simp only [dn] at hg124
  refine vp_take rfl rfl rfl hS (fun w st => y_lda (vs := [_, _, _]) st 1 rfl isAgg26 sizeOf26 rfl rfl) ?_
  refine vp_take rfl rfl rfl hS (fun w st => y_lda (vs := [_, _, _]) st 3 rfl isAgg26 sizeOf26 rfl rfl) ?_
  refine vp_do rfl (e_call [_, _] rfl rfl call29 rfl (Pq.psameP_any (S := fun _ => True) x (renP p fr tn) hokx _ _ _ _ _ _ _ _ _ _ _ _ _ (pgS_rows (st.res (i := 2) rfl).1).1 (pgS_rows (st.res (i := 2) rfl).1).2.1 (pgS_rows (st.res (i := 2) rfl).1).2.2 (pgS_rows (st.res (i := 4) rfl).1).1 (pgS_rows (st.res (i := 4) rfl).1).2.1 (pgS_rows (st.res (i := 4) rfl).1).2.2) ?_)
  rintro _ w ⟨rfl, cw⟩
  replace st := st.call0 cw
  rw [sameP_iff.2 hzx]
  refine vp_next (by exact st) ?_; intro hS
  refine vp_take rfl rfl rfl hS (fun w st => y_pickt rfl rfl) ?_
  refine vp_part rfl rfl rfl hS rfl ?_ ?_
  ·intro hg129
   try simp only [dn] at hg129
   iterate 2 refine pm hS ?_
   refine vp_take rfl rfl rfl hS (fun w st => y_eqi rfl rfl) ?_
   refine vp_take rfl rfl rfl hS (fun w st => y_pickt rfl rfl) ?_
   refine vp_part rfl rfl rfl hS rfl ?_ ?_
   ·intro hg134
    try simp only [dn] at hg134
    iterate 2 refine pm hS ?_
    refine vp_take rfl rfl rfl hS (fun w st => y_eqi rfl rfl) ?_
    refine vp_take rfl rfl rfl hS (fun w st => y_pickt rfl rfl) ?_
    refine vp_part rfl rfl rfl hS rfl ?_ ?_
    ·intro hg139
     try simp only [dn] at hg139
     refine vp_take rfl rfl rfl hS (fun w st => y_lda (vs := [_, _, _]) st 9 rfl isAgg26 sizeOf26 rfl rfl) ?_
     refine vp_take rfl rfl rfl hS (fun w st => y_lda (vs := [_, _, _]) st 1 rfl isAgg26 sizeOf26 rfl rfl) ?_
     refine vp_do rfl (e_call [_] rfl rfl call31 rfl (Pq.pdeepP_any (S := fun _ => True) p hok hsz _ _ _ _ _ _ _ (pgS_rows (st.res (i := 10) rfl).1).2.2) ?_)
     rintro _ w ⟨rfl, cw⟩
     replace st := st.call0 cw
     refine vp_next (by exact st) ?_; intro hS
     refine vp_do rfl (e_call [_] rfl rfl call31 rfl (Pq.pdeepP_any (S := fun _ => True) x hokx hszx _ _ _ _ _ _ _ (pgS_rows (st.res (i := 2) rfl).1).2.2) ?_)
     rintro _ w ⟨rfl, cw⟩
     replace st := st.call0 cw
     rw [hsx.2.2]
     refine vp_next (by exact st) ?_; intro hS
     refine vp_take rfl rfl rfl hS (fun w st => y_eqi rfl rfl) ?_
     refine vp_take rfl rfl rfl hS (fun w st => y_pickt rfl rfl) ?_
     refine vp_take rfl rfl rfl hS (fun w st => y_as rfl) ?_
     refine vp_end (vq_then (vk1 6 (vc_ret ?_)))
     refine vr1 st results8 ?_
     refine ⟨?_, st.chg⟩
     (simp [pg0]; done)
    intro hg139
    exact absurd hg139 (by simp [hsx.2.1])
   intro hg134
   exact absurd hg134 (by simp [hsx.1])
  intro hg129
  exact absurd hg129 (by simp)
 intro hg124
 exact absurd hg124 (by decide)
end Go.Proofs.YtnmhlpnapgojjaaGreatDoor

