/- Tokens, their places left out: no program in sight. -/
import Derived.Test.YtakepmhgmgpkkaaDoorSpec2
namespace LexS
set_option linter.unusedVariables false
set_option linter.unusedSimpArgs false
theorem scan_inv {r : List UInt8} {i : Nat} {t : Tok} {T : List Tok} {f : Option (Nat × Nat)} (h : scanA r i = (t :: T, f)) :
    skip r < r.length ∧ tokAt (r.drop (skip r)) (i + skip r) = .tok t ∧ scanA (r.drop (skip r + t.text.length)) (i + skip r + t.text.length) = (T, f) := by
  rcases Nat.lt_or_ge (skip r) r.length with hk | hk
  · cases hx : tokAt (r.drop (skip r)) (i + skip r) with
    | bad rule q => rw [scanA_bad hk hx] at h; simp at h
    | tok x =>
      rw [scanA_tok hk hx] at h
      simp only [Prod.mk.injEq, List.cons.injEq] at h
      obtain ⟨⟨rfl, h1⟩, h2⟩ := h
      exact ⟨hk, rfl, Prod.ext h1 h2⟩
  · rw [scanA_end hk] at h; simp at h
theorem scan_nil_inv {r : List UInt8} {i : Nat} (h : scanA r i = ([], none)) : r.length ≤ skip r := by
  rcases Nat.lt_or_ge (skip r) r.length with hk | hk
  · cases hx : tokAt (r.drop (skip r)) (i + skip r) with
    | bad rule q => rw [scanA_bad hk hx] at h; simp at h
    | tok x => rw [scanA_tok hk hx] at h; simp at h
  · exact hk
/-- one token behind another, places left out -/
def SameN (A B : List Tok) : Prop := A.map (fun t => (t.kind, t.text, t.word)) = B.map (fun t => (t.kind, t.text, t.word))
theorem SameN.cons {A B : List Tok} (h : SameN A B) (t : Tok) (d : Nat) : SameN (t :: A) (moved d t :: B) := by
  unfold SameN at *; simp only [List.map_cons, h]; rfl
theorem scan_move : ∀ (T : List Tok) (r : List UInt8) (i j : Nat), scanA r i = (T, none) → ∃ T', scanA r j = (T', none) ∧ SameN T T'
  | [], r, i, j, h => ⟨[], scanA_end (scan_nil_inv h), rfl⟩
  | t :: T, r, i, j, h => by
    obtain ⟨h1, h2, h3⟩ := scan_inv h
    obtain ⟨T', h4, h5⟩ := scan_move T _ _ (j + skip r + t.text.length) h3
    refine ⟨moved (j + skip r) t :: T', ?_, h5.cons t _⟩
    rw [scanA_tok h1 (tokAt_move h2 _)]
    show (_ :: (scanA (r.drop (skip r + t.text.length)) (j + skip r + t.text.length)).1, _) = _
    rw [h4]
    show (_, (scanA (r.drop (skip r + t.text.length)) (j + skip r + t.text.length)).2) = _
    rw [h4]
theorem scan_at : ∀ (T : List Tok) (r : List UInt8) (i : Nat), scanA r i = (T, none) → ∀ t ∈ T, i ≤ t.at_ ∧ t.at_ + t.text.length ≤ i + r.length
  | [], r, i, h => by simp
  | t :: T, r, i, h => by
    obtain ⟨h1, h2, h3⟩ := scan_inv h
    obtain ⟨h4, h5, h6⟩ := tok_len h2
    have hl := congrArg List.length h5
    simp at hl
    intro u hu
    rcases List.mem_cons.1 hu with rfl | hu
    · omega
    · have := scan_at T _ _ h3 u hu
      simp at this
      omega
/-- something blank is put in between two tokens, or behind the last one -/
theorem scan_blanks (M : List UInt8) (y : UInt8) (M' : List UInt8) (hM : M = y :: M') (hy : isBlank y = true) (hsk : ∀ Z, skip (M ++ Z) = M.length + skip Z) :
    ∀ (k : Nat) (T : List Tok) (r : List UInt8) (i c : Nat), scanA r i = (T, none) → k ≤ T.length → (∀ t, T[k]? = some t → i + c = t.at_) → (k = T.length → c = r.length ∧ ∃ M'', M = 10 :: M'') →
      ∃ T', scanA (r.take c ++ (M ++ r.drop c)) i = (T', none) ∧ SameN T T'
  | 0, [], r, i, c, h, hk, h1, h2 => by
    obtain ⟨rfl, M'', hM''⟩ := h2 rfl
    have hr := scan_nil_inv h
    refine ⟨[], scanA_end ?_, rfl⟩
    have hs := skip_line r (M'' ++ []) hr
    have h3 := hsk []
    rw [hM'', List.cons_append] at h3
    rw [List.take_length, List.drop_length, hM'', List.cons_append, hs, h3]
    simp
  | 0, t :: T, r, i, c, h, hk, h1, h2 => by
    obtain ⟨a1, a2, a3⟩ := scan_inv h
    have hat := (tok_len a2).2.2
    have hc := h1 t rfl
    obtain rfl : c = skip r := by omega
    have e1 : skip (r.take (skip r) ++ (M ++ r.drop (skip r))) = skip r + M.length := by rw [skip_more r _ a1, hsk, skip_idem]; rfl
    have e2 : (r.take (skip r) ++ (M ++ r.drop (skip r))).drop (skip r + M.length) = r.drop (skip r) := by
      rw [← List.append_assoc, List.drop_append, List.drop_eq_nil_of_le (by simp; omega), List.nil_append]
      rw [show skip r + M.length - (r.take (skip r) ++ M).length = 0 by simp; omega, List.drop_zero]
    have e3 : skip (r.take (skip r) ++ (M ++ r.drop (skip r))) < (r.take (skip r) ++ (M ++ r.drop (skip r))).length := by rw [e1]; simp; omega
    obtain ⟨T', h4, h5⟩ := scan_move T _ _ (i + (skip r + M.length) + t.text.length) a3
    refine ⟨moved (i + (skip r + M.length)) t :: T', ?_, h5.cons t _⟩
    have ht : tokAt ((r.take (skip r) ++ (M ++ r.drop (skip r))).drop (skip (r.take (skip r) ++ (M ++ r.drop (skip r))))) (i + skip (r.take (skip r) ++ (M ++ r.drop (skip r)))) = .tok (moved (i + (skip r + M.length)) t) := by
      rw [e1, e2]; exact tokAt_move a2 _
    rw [scanA_tok e3 ht, e1]
    show (_ :: (scanA ((r.take (skip r) ++ (M ++ r.drop (skip r))).drop (skip r + M.length + t.text.length)) _).1, (scanA ((r.take (skip r) ++ (M ++ r.drop (skip r))).drop (skip r + M.length + t.text.length)) _).2) = _
    rw [← List.drop_drop, e2, List.drop_drop]
    show (_ :: (scanA _ (i + (skip r + M.length) + t.text.length)).1, (scanA _ (i + (skip r + M.length) + t.text.length)).2) = _
    rw [h4]
  | k + 1, [], r, i, c, h, hk, h1, h2 => by simp at hk
  | k + 1, t :: T, r, i, c, h, hk, h1, h2 => by
    obtain ⟨a1, a2, a3⟩ := scan_inv h
    obtain ⟨b1, b2, b3⟩ := tok_len a2
    have hl := congrArg List.length b2
    simp at hl
    have hc : skip r + t.text.length ≤ c ∧ c ≤ r.length := by
      rcases Nat.lt_or_ge k T.length with hkt | hkt
      · have e := h1 (T[k]) (by simp [hkt])
        have := scan_at T _ _ a3 (T[k]) (List.getElem_mem hkt)
        simp at this
        omega
      · have := (h2 (by simp at hk ⊢; omega)).1
        omega
    subst hM
    have e1 : skip (r.take c ++ (y :: M' ++ r.drop c)) = skip r := by rw [List.cons_append]; exact skip_keep r _ y c (by omega) hc.2 hy
    have e2 : ∀ n, n ≤ c → (r.take c ++ (y :: M' ++ r.drop c)).drop n = (r.drop n).take (c - n) ++ (y :: M' ++ (r.drop n).drop (c - n)) := fun n hn => by
      rw [drop_take_app _ _ hn hc.2, List.drop_drop, show n + (c - n) = c by omega]
    have e3 : skip (r.take c ++ (y :: M' ++ r.drop c)) < (r.take c ++ (y :: M' ++ r.drop c)).length := by rw [e1]; simp; omega
    have ht : tokAt ((r.take c ++ (y :: M' ++ r.drop c)).drop (skip (r.take c ++ (y :: M' ++ r.drop c)))) (i + skip (r.take c ++ (y :: M' ++ r.drop c))) = .tok t := by
      rw [e1, e2 _ (by omega)]
      exact tokAt_app a2 (by omega) hy
    obtain ⟨T', h4, h5⟩ := scan_blanks (y :: M') y M' rfl hy hsk k T _ _ (c - (skip r + t.text.length)) a3 (by simpa using hk) (fun u hu => by
        have := h1 u (by simpa using hu); omega) (fun e => by
        have := h2 (by simp; omega)
        exact ⟨by simp; omega, this.2⟩)
    refine ⟨t :: T', ?_, ?_⟩
    · rw [scanA_tok e3 ht, e1, e2 _ (by omega), h4]
    · unfold SameN at *; simp only [List.map_cons, h5]
theorem toLf_no : ∀ (q Z : List UInt8), (∀ c ∈ q, c ≠ 10) → toLf (q ++ 10 :: Z) = q.length
  | [], Z, h => by simp [toLf]
  | c :: q, Z, h => by
    rw [List.cons_append]
    simp only [toLf]
    rw [if_neg (h c (.head _)), toLf_no q Z (fun d hd => h d (.tail _ hd))]
    rfl
/-- the blanks and the remark -/
def someBlanks (rem : List UInt8) : List UInt8 := [32, 9, 13, 47, 47] ++ rem ++ [10]
theorem skip_someBlanks (rem : List UInt8) (h : ∀ c ∈ rem, c ≠ 10) (Z : List UInt8) : skip (someBlanks rem ++ Z) = (someBlanks rem).length + skip Z := by
  have e : someBlanks rem ++ Z = 32 :: 9 :: 13 :: ((47 :: 47 :: rem) ++ 10 :: Z) := by simp [someBlanks]
  have hr : isRem ((47 :: 47 :: rem) ++ 10 :: Z) = true := rfl
  have hno : ∀ c ∈ 47 :: 47 :: rem, c ≠ 10 := by
    intro c hc
    simp only [List.mem_cons] at hc
    rcases hc with rfl | rfl | hc
    · decide
    · decide
    · exact h c hc
  rw [e, skip_blank (by decide), skip_blank (by decide), skip_blank (by decide), skip_rem hr, toLf_no (47 :: 47 :: rem) Z hno]
  rw [List.drop_append, List.drop_length, Nat.sub_self, List.drop_zero, List.nil_append, skip_blank lf_blank]
  simp [someBlanks]; omega
end LexS
