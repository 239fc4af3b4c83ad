/- LexerFaults, the bounded form: a fault stays, and the tokens ahead of it, whatever stands behind its line. Condition: the lengths and elements of the arguments are 2^20 at most together. -/
import Derived.Test.YtakepmhgmgpkkaaT
import Derived.Test.YtakepmhgmgpkkaaN
import Derived.Test.YtakepmhgmgpkkaaSpec4
import Derived.Test.YtakepmhgmgpkkaaSxMore4
import Derived.WalkKit
import Derived.ProofKit
import Derived.OpenShut
import Derived.ShutString
import Derived.ChangeOld
import Derived.Below
import Derived.JoinedCond
namespace Go.Proofs.Ytakepmhgmgpkkaa
open Go.ChangeShapes Go.WideShapes Go.ChangeAt Go.RowKit
open Go.ChangeMaps (open_string shut_string)
open Sx LexS
set_option linter.unusedVariables false
set_option linter.unusedSimpArgs false
theorem scanRes_err {s : List UInt8} {T : List Tok} {e a r : Nat} (h : scanRes s = (T, e, a, r)) : (e = 0 ∨ e = 4) ∨ (e = 20 ∧ s.length ≤ 65536 ∧ front s = (toksE s, some (r, a)) ∧ T = []) := by
  unfold scanRes at h
  split at h
  · cases h; exact .inl (.inr rfl)
  · rename_i hl
    split at h
    · cases h; exact .inl (.inl rfl)
    · rename_i rule p hf
      cases h
      exact .inr ⟨rfl, by omega, by rw [← hf]; unfold toksE; rw [if_neg (by omega)], rfl⟩
theorem toLf_le (q : List UInt8) : toLf q ≤ q.length := by
  induction q with
  | nil => simp [toLf]
  | cons c q ih => simp only [toLf]; split <;> simp; omega
/-- a text that is cut at the end of the fault's line, and something behind -/
def cutOff (s t : List UInt8) (e : Nat) : List UInt8 := s.take e ++ [10] ++ t
theorem fault_stays {s : List UInt8} {a r : Nat} (h : front s = (toksE s, some (r, a))) (t : List UInt8) : front (cutOff s t (a + toLf (s.drop a))) = (toksE s, some (r, a)) := by
  have hf := front_at _ s 0 _ _ h
  have hle := toLf_le (s.drop a)
  have hd : (s.drop a).length = s.length - a := by simp
  obtain ⟨c, hc, hne⟩ := front_char _ s 0 _ _ h
  have h1 : 1 ≤ toLf (s.drop a) := by
    obtain ⟨hlt, hcc⟩ := List.getElem?_eq_some_iff.1 hc
    rw [List.drop_eq_getElem_cons (by omega : a < s.length)]
    have : s[a] = c := by simpa using hcc
    rw [this]
    simp only [toLf]
    rw [if_neg hne]; omega
  have key := scan_cut t (toksE s) s 0 (a + toLf (s.drop a)) r a h (by omega) (by
    rcases Nat.lt_or_ge (toLf (s.drop a)) (s.drop a).length with hk | hk
    · right
      obtain ⟨q, hq⟩ := toLf_lf hk
      rw [List.drop_drop] at hq
      have : (s.drop (a + toLf (s.drop a)))[0]? = some 10 := by rw [hq]; rfl
      rw [List.getElem?_drop, Nat.add_zero] at this
      exact this
    · left; omega) (by omega)
  show scanA _ 0 = _
  unfold cutOff
  rw [List.append_assoc]
  exact key
theorem scanRes_bad {s : List UInt8} {A : List Tok} {a r : Nat} (hl : s.length ≤ 65536) (h : front s = (A, some (r, a))) : scanRes s = ([], 20, a, r) := by
  unfold scanRes; rw [if_neg (by omega), h]
theorem toksE_of {s : List UInt8} {A : List Tok} {f : Option (Nat × Nat)} (hl : s.length ≤ 65536) (h : front s = (A, f)) : toksE s = A := by
  unfold toksE; rw [if_neg (by omega), h]

set_option maxHeartbeats 2000000 in
theorem lawLexerFaults (s : List UInt8) (hl : s.length ≤ maxLen) (t : List UInt8) (ht : t.length ≤ maxLen) (hsmall : s.length + t.length ≤ 1048576) (w : World) : Ret Try.prog 9 [str s, str t] w fun v w' => v = .bool true ∧ Chg [] w w' := by
  refine retM_of [_, _] Try.func9 rfl Try.ntmps9 rfl ?_
  have st := St.init w []
  obtain ⟨w0, rfl⟩ : ∃ w0, w0 = w := ⟨_, rfl⟩
  obtain ⟨T1, e1, a1, r1, hres⟩ : ∃ T e a r, scanRes s = (T, e, a, r) := ⟨_, _, _, _, rfl⟩
  have herr := scanRes_err hres
  have htl := toksE_le s
  refine vc_seq ?_
  refine vc_region ?_
  refine vc_y rfl rfl (y_as rfl) ?_
  refine vc_end ?_
  refine vq_then ?_
  refine vc_keep [(0, _), (1, _)] ⟨rfl, rfl, trivial⟩ ?_
  refine vc_seq ?_
  refine vc_seq ?_
  refine vc_region ?_
  refine vc_e (e_call [] rfl rfl Try.call20 rfl (begins_any _) ?_)
  rintro _ w ⟨rfl, cb⟩
  replace st := st.call0 cb
  refine vc_y rfl rfl (y_not rfl) ?_
  refine vc_end ?_
  refine vq_then ?_
  refine vc_keep [(0, _), (1, _), (16, _)] ⟨rfl, rfl, rfl, trivial⟩ ?_
  refine vc_ifs rfl ?_ ?_
  · intro hc16
    (exfalso; simp at hc16)
  · intro hc16
    try simp only [decide_eq_true_eq, decide_eq_false_iff_not, Bool.not_eq_true', Bool.not_eq_false', Bool.not_eq_true, Bool.not_eq_false, Int.not_lt, Int.not_le, Nat.not_lt, Nat.not_le, Bool.not_true, Bool.not_false, Bool.true_eq_false, Bool.false_eq_true] at hc16
    refine vc_code_skip ?_
    refine vq_then ?_
    refine vc_keep [(0, _), (1, _)] ⟨rfl, rfl, trivial⟩ ?_
    refine vc_seq ?_
    refine vc_region ?_
    refine vc_y rfl rfl (y_mv rfl) ?_
    refine vc_e (e_call [_] rfl rfl Try.call21 rfl (scan_eq s T1 (by rw [hres]) e1 a1 r1 (by rw [hres]) _) ?_)
    rintro _ w ⟨cw, oa, ca, rfl, how⟩
    replace st := st.call0 cw
    clear how
    refine vc_y rfl rfl (y_mv rfl) ?_
    refine vc_y rfl rfl (y_ext rfl rfl) ?_
    refine vc_y rfl rfl (y_ext rfl rfl) ?_
    refine vc_y rfl rfl (y_ext rfl rfl) ?_
    refine vc_e (e_al (l := [_, _]) st rfl rfl Try.zeroValue27 rfl ?_)
    intro b7 w hb7 st
    refine vc_y rfl rfl (y_as rfl) ?_
    refine vc_y rfl rfl (y_as rfl) ?_
    first
    | refine vc_e (e_sts (vs := [_, _]) st 0 rfl rfl rfl rfl rfl Try.sizeOf27 rfl rfl (by first | (right; assumption) | (left; simp)) ?_)
    | refine vc_e (e_sts (vs := [_, _]) st 1 rfl rfl rfl rfl rfl Try.sizeOf27 rfl rfl (by first | (right; assumption) | (left; simp)) ?_)
    | refine vc_e (e_sts (vs := [_, _]) st 2 rfl rfl rfl rfl rfl Try.sizeOf27 rfl rfl (by first | (right; assumption) | (left; simp)) ?_)
    | refine vc_e (e_sts (vs := [_, _]) st 3 rfl rfl rfl rfl rfl Try.sizeOf27 rfl rfl (by first | (right; assumption) | (left; simp)) ?_)
    | refine vc_e (e_sts (vs := [_, _]) st 4 rfl rfl rfl rfl rfl Try.sizeOf27 rfl rfl (by first | (right; assumption) | (left; simp)) ?_)
    | refine vc_e (e_sts (vs := [_, _]) st 5 rfl rfl rfl rfl rfl Try.sizeOf27 rfl rfl (by first | (right; assumption) | (left; simp)) ?_)
    | refine vc_e (e_sts (vs := [_, _]) st 6 rfl rfl rfl rfl rfl Try.sizeOf27 rfl rfl (by first | (right; assumption) | (left; simp)) ?_)
    | refine vc_e (e_sts (vs := [_, _]) st 7 rfl rfl rfl rfl rfl Try.sizeOf27 rfl rfl (by first | (right; assumption) | (left; simp)) ?_)
    intro w st; dsimp only [setNth, wr] at st
    refine vc_end ?_
    refine vq_then ?_
    refine vc_keep [(0, _), (1, _), (6, _), (7, _)] ⟨rfl, rfl, rfl, rfl, trivial⟩ ?_
    refine vc_seq ?_
    refine vc_seq ?_
    refine vc_region ?_
    refine vc_y rfl rfl (y_mv rfl) ?_
    refine vc_y rfl rfl (y_nei rfl rfl) ?_
    refine vc_end ?_
    refine vq_then ?_
    refine vc_keep [(0, _), (1, _), (6, _), (7, _), (24, _)] ⟨rfl, rfl, rfl, rfl, rfl, trivial⟩ ?_
    refine vc_ifs rfl ?_ ?_
    · intro hc24
      try simp only [decide_eq_true_eq, decide_eq_false_iff_not, Bool.not_eq_true', Bool.not_eq_false', Bool.not_eq_true, Bool.not_eq_false, Int.not_lt, Int.not_le, Nat.not_lt, Nat.not_le, Bool.not_true, Bool.not_false, Bool.true_eq_false, Bool.false_eq_true] at hc24
      refine vc_seq ?_
      refine vc_region ?_
      refine vc_y rfl rfl (y_mv rfl) ?_
      refine vc_y rfl rfl (y_eqi rfl rfl) ?_
      refine vc_e (e_mvb rfl rfl rfl ?_ ?_)
      · intro hg27
        try simp only [decide_eq_true_eq, decide_eq_false_iff_not, Bool.not_eq_true', Bool.not_eq_false', Bool.not_eq_true, Bool.not_eq_false, Int.not_lt, Int.not_le, Nat.not_lt, Nat.not_le, Bool.not_true, Bool.not_false, Bool.true_eq_false, Bool.false_eq_true] at hg27
        refine vc_e (e_skip rfl rfl ?_)
        refine vc_e (e_skip rfl rfl ?_)
        refine vc_y rfl rfl (y_pickt rfl rfl) ?_
        refine vc_y rfl rfl (y_as rfl) ?_
        refine vc_end ?_
        refine vq_then ?_
        refine vc_keep [(4, _)] ⟨rfl, trivial⟩ ?_
        refine vc_ret ?_
        refine vq_then_ret ?_
        refine vq_retM [] st (.inl rfl) Try.results9 rfl List.nodup_nil (fun D hD => by simp at hD) (fun w' c => ⟨_, rfl, ?_⟩)
        refine ⟨?_, c⟩
        rcases herr with h | ⟨h, _⟩
        · rcases h with rfl | rfl <;> simp at *
        · omega
      · intro hg27
        try simp only [decide_eq_true_eq, decide_eq_false_iff_not, Bool.not_eq_true', Bool.not_eq_false', Bool.not_eq_true, Bool.not_eq_false, Int.not_lt, Int.not_le, Nat.not_lt, Nat.not_le, Bool.not_true, Bool.not_false, Bool.true_eq_false, Bool.false_eq_true] at hg27
        refine vc_y rfl rfl (y_mv rfl) ?_
        refine vc_y rfl rfl (y_eqi rfl rfl) ?_
        refine vc_y rfl rfl (y_pickf rfl rfl) ?_
        refine vc_y rfl rfl (y_as rfl) ?_
        refine vc_end ?_
        refine vq_then ?_
        refine vc_keep [(4, _)] ⟨rfl, trivial⟩ ?_
        refine vc_ret ?_
        refine vq_then_ret ?_
        refine vq_retM [] st (.inl rfl) Try.results9 rfl List.nodup_nil (fun D hD => by simp at hD) (fun w' c => ⟨_, rfl, ?_⟩)
        refine ⟨?_, c⟩
        rcases herr with h | ⟨h, _⟩
        · rcases h with rfl | rfl <;> simp at *
        · omega
    · intro hc24
      try simp only [decide_eq_true_eq, decide_eq_false_iff_not, Bool.not_eq_true', Bool.not_eq_false', Bool.not_eq_true, Bool.not_eq_false, Int.not_lt, Int.not_le, Nat.not_lt, Nat.not_le, Bool.not_true, Bool.not_false, Bool.true_eq_false, Bool.false_eq_true] at hc24
      obtain ⟨rfl, hsl, hfront, rfl⟩ : e1 = 20 ∧ s.length ≤ 65536 ∧ front s = (toksE s, some (r1, a1)) ∧ T1 = [] := by
        rcases herr with h | h
        · omega
        · exact h
      clear herr
      have hfa := front_at _ s 0 _ _ hfront
      have hlf := toLf_le (s.drop a1)
      have hd1 : (s.drop a1).length = s.length - a1 := by simp
      obtain ⟨E, hE⟩ : ∃ E, E = a1 + toLf (s.drop a1) := ⟨_, rfl⟩
      refine vc_code_skip ?_
      refine vq_then ?_
      refine vc_keep [(0, _), (1, _), (7, _)] ⟨rfl, rfl, rfl, trivial⟩ ?_
      refine vc_seq ?_
      refine vc_seq ?_
      refine vc_region ?_
      refine vc_y rfl rfl (y_fa0 rfl Try.underlying27 rfl rfl Try.sizeOf3 rfl) ?_
      refine vc_y rfl rfl ((by first | exact y_ld st 0 rfl Try.isAgg3 rfl rfl | exact y_ld st 1 rfl Try.isAgg3 rfl rfl | exact y_ld st 2 rfl Try.isAgg3 rfl rfl | exact y_ld st 3 rfl Try.isAgg3 rfl rfl | exact y_ld st 4 rfl Try.isAgg3 rfl rfl | exact y_ld st 5 rfl Try.isAgg3 rfl rfl | exact y_ld st 6 rfl Try.isAgg3 rfl rfl | exact y_ld st 7 rfl Try.isAgg3 rfl rfl)) ?_
      refine vc_y rfl rfl (y_lss rfl rfl) ?_
      refine vc_e (e_mvb rfl rfl rfl ?_ ?_)
      · intro hg34
        (exfalso; simp at hg34; omega)
      · intro hg34
        try simp only [decide_eq_true_eq, decide_eq_false_iff_not, Bool.not_eq_true', Bool.not_eq_false', Bool.not_eq_true, Bool.not_eq_false, Int.not_lt, Int.not_le, Nat.not_lt, Nat.not_le, Bool.not_true, Bool.not_false, Bool.true_eq_false, Bool.false_eq_true] at hg34
        refine vc_y rfl rfl (y_fa0 rfl Try.underlying27 rfl rfl Try.sizeOf3 rfl) ?_
        refine vc_y rfl rfl ((by first | exact y_ld st 0 rfl Try.isAgg3 rfl rfl | exact y_ld st 1 rfl Try.isAgg3 rfl rfl | exact y_ld st 2 rfl Try.isAgg3 rfl rfl | exact y_ld st 3 rfl Try.isAgg3 rfl rfl | exact y_ld st 4 rfl Try.isAgg3 rfl rfl | exact y_ld st 5 rfl Try.isAgg3 rfl rfl | exact y_ld st 6 rfl Try.isAgg3 rfl rfl | exact y_ld st 7 rfl Try.isAgg3 rfl rfl)) ?_
        refine vc_y rfl rfl (y_mv rfl) ?_
        refine vc_y rfl rfl (y_lens rfl Try.underlying9) ?_
        refine vc_y rfl rfl (y_geq rfl rfl) ?_
        refine vc_y rfl rfl (y_pickf rfl rfl) ?_
        refine vc_e (e_mvb rfl rfl rfl ?_ ?_)
        · intro hg41
          (exfalso; simp at hg41; omega)
        · intro hg41
          try simp only [decide_eq_true_eq, decide_eq_false_iff_not, Bool.not_eq_true', Bool.not_eq_false', Bool.not_eq_true, Bool.not_eq_false, Int.not_lt, Int.not_le, Nat.not_lt, Nat.not_le, Bool.not_true, Bool.not_false, Bool.true_eq_false, Bool.false_eq_true] at hg41
          refine vc_y rfl rfl ((by first | exact y_faz (k := 1) rfl Try.underlying27 rfl rfl Try.sizeOf3 rfl | exact y_fa (k := 1) rfl Try.underlying27 rfl rfl Try.sizeOf3 rfl)) ?_
          refine vc_y rfl rfl ((by first | exact y_ld st 0 rfl Try.isAgg3 rfl rfl | exact y_ld st 1 rfl Try.isAgg3 rfl rfl | exact y_ld st 2 rfl Try.isAgg3 rfl rfl | exact y_ld st 3 rfl Try.isAgg3 rfl rfl | exact y_ld st 4 rfl Try.isAgg3 rfl rfl | exact y_ld st 5 rfl Try.isAgg3 rfl rfl | exact y_ld st 6 rfl Try.isAgg3 rfl rfl | exact y_ld st 7 rfl Try.isAgg3 rfl rfl)) ?_
          refine vc_y rfl rfl (y_lss rfl rfl) ?_
          refine vc_y rfl rfl (y_pickf rfl rfl) ?_
          refine vc_e (e_mvb rfl rfl rfl ?_ ?_)
          · intro hg46
            (exfalso; simp at hg46; omega)
          · intro hg46
            try simp only [decide_eq_true_eq, decide_eq_false_iff_not, Bool.not_eq_true', Bool.not_eq_false', Bool.not_eq_true, Bool.not_eq_false, Int.not_lt, Int.not_le, Nat.not_lt, Nat.not_le, Bool.not_true, Bool.not_false, Bool.true_eq_false, Bool.false_eq_true] at hg46
            refine vc_y rfl rfl ((by first | exact y_faz (k := 1) rfl Try.underlying27 rfl rfl Try.sizeOf3 rfl | exact y_fa (k := 1) rfl Try.underlying27 rfl rfl Try.sizeOf3 rfl)) ?_
            refine vc_y rfl rfl ((by first | exact y_ld st 0 rfl Try.isAgg3 rfl rfl | exact y_ld st 1 rfl Try.isAgg3 rfl rfl | exact y_ld st 2 rfl Try.isAgg3 rfl rfl | exact y_ld st 3 rfl Try.isAgg3 rfl rfl | exact y_ld st 4 rfl Try.isAgg3 rfl rfl | exact y_ld st 5 rfl Try.isAgg3 rfl rfl | exact y_ld st 6 rfl Try.isAgg3 rfl rfl | exact y_ld st 7 rfl Try.isAgg3 rfl rfl)) ?_
            refine vc_y rfl rfl (y_gtr rfl rfl) ?_
            refine vc_y rfl rfl (y_pickf rfl rfl) ?_
            refine vc_end ?_
            refine vq_then ?_
            refine vc_keep [(0, _), (1, _), (7, _), (50, _)] ⟨rfl, rfl, rfl, rfl, trivial⟩ ?_
            refine vc_ifs rfl ?_ ?_
            · intro hc50
              (exfalso; simp at hc50; omega)
            · intro hc50
              try simp only [decide_eq_true_eq, decide_eq_false_iff_not, Bool.not_eq_true', Bool.not_eq_false', Bool.not_eq_true, Bool.not_eq_false, Int.not_lt, Int.not_le, Nat.not_lt, Nat.not_le, Bool.not_true, Bool.not_false, Bool.true_eq_false, Bool.false_eq_true] at hc50
              refine vc_code_skip ?_
              refine vq_then ?_
              refine vc_keep [(0, _), (1, _), (7, _)] ⟨rfl, rfl, rfl, trivial⟩ ?_
              refine vc_seq ?_
              refine vc_region ?_
              refine vc_y rfl rfl (y_fa0 rfl Try.underlying27 rfl rfl Try.sizeOf3 rfl) ?_
              refine vc_y rfl rfl ((by first | exact y_ld st 0 rfl Try.isAgg3 rfl rfl | exact y_ld st 1 rfl Try.isAgg3 rfl rfl | exact y_ld st 2 rfl Try.isAgg3 rfl rfl | exact y_ld st 3 rfl Try.isAgg3 rfl rfl | exact y_ld st 4 rfl Try.isAgg3 rfl rfl | exact y_ld st 5 rfl Try.isAgg3 rfl rfl | exact y_ld st 6 rfl Try.isAgg3 rfl rfl | exact y_ld st 7 rfl Try.isAgg3 rfl rfl)) ?_
              refine vc_y rfl rfl (y_as rfl) ?_
              refine vc_end ?_
              refine vq_then ?_
              refine vc_keep [(0, _), (1, _), (7, _), (8, _)] ⟨rfl, rfl, rfl, rfl, trivial⟩ ?_
              refine vc_cut (w0 := w0) (M := []) (fun (_ : Unit) => [(0, str s), (1, str t), (7, .pointer (some ⟨b7, 0, none⟩)), (8, .int .i64 (E : Int))]) (fun _ => [.blk b7 (.cells [.int .i64 (a1 : Int), .int .i64 (r1 : Int)].toArray 27 (0, 0))]) (fun _ _ => True) ?_ ?_
              ·
                refine vc_block ?_
                refine vc_loop (w0 := _) (M := _) (fun (j : Nat) => [(0, str s), (1, str t), (7, .pointer (some ⟨b7, 0, none⟩)), (8, .int .i64 (j : Int))]) (fun _ => [.blk b7 (.cells [.int .i64 (a1 : Int), .int .i64 (r1 : Int)].toArray 27 (0, 0))]) (fun j _ => a1 ≤ j ∧ j ≤ s.length ∧ j + toLf (s.drop j) = E) (fun j => s.length - j) a1 ⟨rfl, rfl, rfl, rfl, trivial⟩ st ⟨by omega, by omega, by omega⟩ ?_
                rintro j w ⟨hj1, hj2, hj3⟩ st
                refine vc_seq ?_
                refine vc_seq ?_
                refine vc_region ?_
                refine vc_y rfl rfl (y_mv rfl) ?_
                refine vc_y rfl rfl (y_mv rfl) ?_
                refine vc_y rfl rfl (y_lens rfl Try.underlying9) ?_
                refine vc_y rfl rfl (y_lss rfl rfl) ?_
                refine vc_e (e_mvb rfl rfl rfl ?_ ?_)
                · intro hg57
                  try simp only [decide_eq_true_eq, decide_eq_false_iff_not, Bool.not_eq_true', Bool.not_eq_false', Bool.not_eq_true, Bool.not_eq_false, Int.not_lt, Int.not_le, Nat.not_lt, Nat.not_le, Bool.not_true, Bool.not_false, Bool.true_eq_false, Bool.false_eq_true] at hg57
                  refine vc_y rfl rfl (y_mv rfl) ?_
                  refine vc_y rfl rfl (y_mv rfl) ?_
                  refine vc_y rfl rfl (y_ixs (k := j) rfl rfl Try.underlying9 rfl (by omega)) ?_
                  refine vc_y rfl rfl (y_nei rfl rfl) ?_
                  refine vc_y rfl rfl (y_pickt rfl rfl) ?_
                  refine vc_end ?_
                  refine vq_then ?_
                  refine vc_keep [(0, _), (1, _), (7, _), (8, _), (62, _)] ⟨rfl, rfl, rfl, rfl, rfl, trivial⟩ ?_
                  refine vc_ifs rfl ?_ ?_
                  · intro hc62
                    try simp only [decide_eq_true_eq, decide_eq_false_iff_not, Bool.not_eq_true', Bool.not_eq_false', Bool.not_eq_true, Bool.not_eq_false, Int.not_lt, Int.not_le, Nat.not_lt, Nat.not_le, Bool.not_true, Bool.not_false, Bool.true_eq_false, Bool.false_eq_true] at hc62
                    refine vc_code_skip ?_
                    refine vq_then ?_
                    refine vc_keep [(0, _), (1, _), (7, _), (8, _)] ⟨rfl, rfl, rfl, rfl, trivial⟩ ?_
                    refine vc_block ?_
                    refine vc_region ?_
                    refine vc_y rfl rfl (y_mv rfl) ?_
                    refine vc_y rfl rfl (y_add rfl rfl rfl (by omega) (by omega)) ?_
                    refine vc_y rfl rfl (y_as rfl) ?_
                    refine vc_end ?_
                    refine vq_block ?_
                    refine vq_again (j + 1)  ⟨rfl, rfl, rfl, rfl, trivial⟩ st ?_ ?_
                    · have := toLf_step (s := s) (j := j) (by omega) (by assumption)
                      exact ⟨by omega, by omega, by omega⟩
                    · omega
                  · intro hc62
                    try simp only [decide_eq_true_eq, decide_eq_false_iff_not, Bool.not_eq_true', Bool.not_eq_false', Bool.not_eq_true, Bool.not_eq_false, Int.not_lt, Int.not_le, Nat.not_lt, Nat.not_le, Bool.not_true, Bool.not_false, Bool.true_eq_false, Bool.false_eq_true] at hc62
                    refine vc_exit ?_
                    refine vq_then_exit ?_
                    refine vq_then_exit ?_
                    refine vq_block_exit ?_
                    obtain rfl : j = E := by have := toLf_here (s := s) (j := j) (by first | (left; omega) | (right; assumption)); omega
                    exact vq_meet () ⟨rfl, rfl, rfl, rfl, trivial⟩ st trivial
                · intro hg57
                  try simp only [decide_eq_true_eq, decide_eq_false_iff_not, Bool.not_eq_true', Bool.not_eq_false', Bool.not_eq_true, Bool.not_eq_false, Int.not_lt, Int.not_le, Nat.not_lt, Nat.not_le, Bool.not_true, Bool.not_false, Bool.true_eq_false, Bool.false_eq_true] at hg57
                  refine vc_e (e_skip rfl rfl ?_)
                  refine vc_e (e_skip rfl rfl ?_)
                  refine vc_e (e_skip rfl rfl ?_)
                  refine vc_e (e_skip rfl rfl ?_)
                  refine vc_y rfl rfl (y_pickf rfl rfl) ?_
                  refine vc_end ?_
                  refine vq_then ?_
                  refine vc_keep [(0, _), (1, _), (7, _), (8, _), (62, _)] ⟨rfl, rfl, rfl, rfl, rfl, trivial⟩ ?_
                  refine vc_iff rfl ?_
                  refine vc_exit ?_
                  refine vq_then_exit ?_
                  refine vq_then_exit ?_
                  refine vq_block_exit ?_
                  obtain rfl : j = E := by have := toLf_here (s := s) (j := j) (by first | (left; omega) | (right; assumption)); omega
                  exact vq_meet () ⟨rfl, rfl, rfl, rfl, trivial⟩ st trivial
              ·
                clear st
                rintro ⟨⟩ w - st
                refine vc_seq ?_
                refine vc_seq ?_
                refine vc_region ?_
                refine vc_y rfl rfl (y_mv rfl) ?_
                refine vc_y rfl rfl (y_add rfl rfl rfl (by omega) (by omega)) ?_
                refine vc_y rfl rfl (y_mv rfl) ?_
                refine vc_y rfl rfl (y_lens rfl Try.underlying9) ?_
                refine vc_y rfl rfl (y_add rfl rfl rfl (by omega) (by omega)) ?_
                refine vc_y rfl rfl (y_gtr rfl rfl) ?_
                refine vc_end ?_
                refine vq_then ?_
                refine vc_keep [(0, _), (1, _), (7, _), (8, _), (70, _)] ⟨rfl, rfl, rfl, rfl, rfl, trivial⟩ ?_
                refine vc_ifs rfl ?_ ?_
                · intro hc70
                  try simp only [decide_eq_true_eq, decide_eq_false_iff_not, Bool.not_eq_true', Bool.not_eq_false', Bool.not_eq_true, Bool.not_eq_false, Int.not_lt, Int.not_le, Nat.not_lt, Nat.not_le, Bool.not_true, Bool.not_false, Bool.true_eq_false, Bool.false_eq_true] at hc70
                  refine vc_seq ?_
                  refine vc_region ?_
                  refine vc_y rfl rfl (y_as rfl) ?_
                  refine vc_end ?_
                  refine vq_then ?_
                  refine vc_keep [(4, _)] ⟨rfl, trivial⟩ ?_
                  refine vc_ret ?_
                  refine vq_then_ret ?_
                  refine vq_retM [] st (.inl rfl) Try.results9 rfl List.nodup_nil (fun D hD => by simp at hD) (fun w' c => ⟨_, rfl, ?_⟩)
                  exact ⟨rfl, c⟩
                · intro hc70
                  try simp only [decide_eq_true_eq, decide_eq_false_iff_not, Bool.not_eq_true', Bool.not_eq_false', Bool.not_eq_true, Bool.not_eq_false, Int.not_lt, Int.not_le, Nat.not_lt, Nat.not_le, Bool.not_true, Bool.not_false, Bool.true_eq_false, Bool.false_eq_true] at hc70
                  refine vc_code_skip ?_
                  refine vq_then ?_
                  refine vc_keep [(0, _), (1, _), (7, _), (8, _)] ⟨rfl, rfl, rfl, rfl, trivial⟩ ?_
                  refine vc_seq ?_
                  refine vc_region ?_
                  have hfr2 := fault_stays hfront t
                  rw [← hE] at hfr2
                  have hcl : (cutOff s t E).length ≤ 65536 := by unfold cutOff; simp only [List.length_append, List.length_take, List.length_cons, List.length_nil]; omega
                  have hres2 := scanRes_bad hcl hfr2
                  have htk2 := toksE_of hcl hfr2
                  have htl2 := toksE_le (cutOff s t E)
                  refine vc_y rfl rfl (y_mv rfl) ?_
                  refine vc_y rfl rfl (y_mv rfl) ?_
                  refine vc_y rfl rfl (y_slt (j := E) rfl rfl Try.underlying9 rfl (by omega)) ?_
                  refine vc_y rfl rfl (y_cat rfl rfl (by simp only [List.length_take, List.length_append, List.length_cons, List.length_nil]; omega)) ?_
                  refine vc_y rfl rfl (y_mv rfl) ?_
                  refine vc_y rfl rfl (y_cat rfl rfl (by simp only [List.length_take, List.length_append, List.length_cons, List.length_nil]; omega)) ?_
                  refine vc_e (e_call [_] rfl rfl Try.call21 rfl (scan_eq (cutOff s t E) [] (by rw [hres2]) 20 a1 r1 (by rw [hres2]) _) ?_)
                  rintro _ w ⟨cw, oa, ca, rfl, how⟩
                  replace st := st.call0 cw
                  clear how
                  refine vc_y rfl rfl (y_mv rfl) ?_
                  refine vc_y rfl rfl (y_ext rfl rfl) ?_
                  refine vc_y rfl rfl (y_ext rfl rfl) ?_
                  refine vc_y rfl rfl (y_ext rfl rfl) ?_
                  refine vc_e (e_al (l := [_, _]) st rfl rfl Try.zeroValue27 rfl ?_)
                  intro b10 w hb10 st
                  refine vc_y rfl rfl (y_as rfl) ?_
                  refine vc_y rfl rfl (y_as rfl) ?_
                  first
                  | refine vc_e (e_sts (vs := [_, _]) st 0 rfl rfl rfl rfl rfl Try.sizeOf27 rfl rfl (by first | (right; assumption) | (left; simp)) ?_)
                  | refine vc_e (e_sts (vs := [_, _]) st 1 rfl rfl rfl rfl rfl Try.sizeOf27 rfl rfl (by first | (right; assumption) | (left; simp)) ?_)
                  | refine vc_e (e_sts (vs := [_, _]) st 2 rfl rfl rfl rfl rfl Try.sizeOf27 rfl rfl (by first | (right; assumption) | (left; simp)) ?_)
                  | refine vc_e (e_sts (vs := [_, _]) st 3 rfl rfl rfl rfl rfl Try.sizeOf27 rfl rfl (by first | (right; assumption) | (left; simp)) ?_)
                  | refine vc_e (e_sts (vs := [_, _]) st 4 rfl rfl rfl rfl rfl Try.sizeOf27 rfl rfl (by first | (right; assumption) | (left; simp)) ?_)
                  | refine vc_e (e_sts (vs := [_, _]) st 5 rfl rfl rfl rfl rfl Try.sizeOf27 rfl rfl (by first | (right; assumption) | (left; simp)) ?_)
                  | refine vc_e (e_sts (vs := [_, _]) st 6 rfl rfl rfl rfl rfl Try.sizeOf27 rfl rfl (by first | (right; assumption) | (left; simp)) ?_)
                  | refine vc_e (e_sts (vs := [_, _]) st 7 rfl rfl rfl rfl rfl Try.sizeOf27 rfl rfl (by first | (right; assumption) | (left; simp)) ?_)
                  intro w st; dsimp only [setNth, wr] at st
                  refine vc_end ?_
                  refine vq_then ?_
                  refine vc_keep [(0, _), (1, _), (6, _), (7, _), (8, _), (10, _)] ⟨rfl, rfl, rfl, rfl, rfl, rfl, trivial⟩ ?_
                  refine vc_seq ?_
                  refine vc_region ?_
                  refine vc_e (e_al (l := [_]) st rfl rfl Try.zeroValue24 rfl ?_)
                  intro b11 w hb11 st
                  refine vc_end ?_
                  refine vq_then ?_
                  refine vc_keep [(0, _), (1, _), (6, _), (7, _), (8, _), (10, _), (11, _)] ⟨rfl, rfl, rfl, rfl, rfl, rfl, rfl, trivial⟩ ?_
                  refine vc_seq ?_
                  refine vc_seq ?_
                  refine vc_region ?_
                  refine vc_y rfl rfl (y_mv rfl) ?_
                  refine vc_e (e_call [_] rfl rfl Try.call25 rfl (each_any s _) ?_)
                  rintro _ w ⟨bE, hbE, rfl, hE1, cE⟩
                  replace st := st.pushR cE (r := .blk bE _) hE1 (by simpa [Res.at?] using hbE)
                  refine vc_end ?_
                  refine vq_then ?_
                  refine vc_keep [(0, _), (1, _), (6, _), (7, _), (8, _), (10, _), (11, _), (83, _)] ⟨rfl, rfl, rfl, rfl, rfl, rfl, rfl, rfl, trivial⟩ ?_
                  refine vc_block ?_
                  have hw00 := st.chg.size
                  replace st : St w0 [] [.blk b11 (.cells [.slice none ([] : List Tok).length 0].toArray 24 (0, 0)), .own (.slice none ([] : List Tok).length 0) 33 4 ([] : List Tok).length (toksL ([] : List Tok)), .blk b10 (.cells [.int .i64 (a1 : Int), .int .i64 (r1 : Int)].toArray 27 (0, 0)), .blk b7 (.cells [.int .i64 (a1 : Int), .int .i64 (r1 : Int)].toArray 27 (0, 0)), .blk bE (.cells [str s].toArray 9 (0, 0))] _ := (st.ownNil 33 4).pick [2, 0, 3, 4, 1] rfl (by decide)
                  refine vc_range (β := Option Addr × Nat) (γ := Unit) rfl (fun args w => Try.call38 args w) (each_seq bE s) isScn_book isScn_book rfl (fun y pre => pre.length ≤ 65536) (fun y pre => [.blk b11 (.cells [.slice y.1 pre.length y.2].toArray 24 (0, 0)), .own (.slice y.1 pre.length y.2) 33 4 pre.length (toksL pre), .blk b10 (.cells [.int .i64 (a1 : Int), .int .i64 (r1 : Int)].toArray 27 (0, 0)), .blk b7 (.cells [.int .i64 (a1 : Int), .int .i64 (r1 : Int)].toArray 27 (0, 0)), .blk bE (.cells [str s].toArray 9 (0, 0))]) (fun y c pre => False) (fun y c pre => []) (fun y pre => (by repeat (first | exact safeAll_nil | refine safeAll_cons (by first | rfl | exact fun _ _ => rfl) ?_))) (fun y c pre => (by repeat (first | exact safeAll_nil | refine safeAll_cons (by first | rfl | exact fun _ _ => rfl) ?_))) (none, 0) (by simp) st (fun W y h => h.res (i := 4) rfl) ?_ ?_ ?_
                  · rintro l pre x ⟨oa', cap'⟩ w hlt hN st
                    try dsimp only at *
                    refine vr_region (by repeat (first | exact noOut_round | exact noOut_false | exact noOut_bodyp (fun w h => by simp at h) | refine noOut_then ?_ | refine noOut_block ?_)) (fun hQ => ?_)
                    refine vi_e hQ rfl (e_al (l := [_, _, _, _]) st rfl rfl Try.zeroValue33 rfl ?_)
                    intro b12 w hb12 st
                    first
                    | refine vi_e hQ rfl (e_sts (vs := [_, _, _, _]) st 0 rfl rfl rfl rfl rfl Try.sizeOf33 rfl rfl (by first | (right; assumption) | (left; simp)) ?_)
                    | refine vi_e hQ rfl (e_sts (vs := [_, _, _, _]) st 1 rfl rfl rfl rfl rfl Try.sizeOf33 rfl rfl (by first | (right; assumption) | (left; simp)) ?_)
                    | refine vi_e hQ rfl (e_sts (vs := [_, _, _, _]) st 2 rfl rfl rfl rfl rfl Try.sizeOf33 rfl rfl (by first | (right; assumption) | (left; simp)) ?_)
                    | refine vi_e hQ rfl (e_sts (vs := [_, _, _, _]) st 3 rfl rfl rfl rfl rfl Try.sizeOf33 rfl rfl (by first | (right; assumption) | (left; simp)) ?_)
                    | refine vi_e hQ rfl (e_sts (vs := [_, _, _, _]) st 4 rfl rfl rfl rfl rfl Try.sizeOf33 rfl rfl (by first | (right; assumption) | (left; simp)) ?_)
                    | refine vi_e hQ rfl (e_sts (vs := [_, _, _, _]) st 5 rfl rfl rfl rfl rfl Try.sizeOf33 rfl rfl (by first | (right; assumption) | (left; simp)) ?_)
                    | refine vi_e hQ rfl (e_sts (vs := [_, _, _, _]) st 6 rfl rfl rfl rfl rfl Try.sizeOf33 rfl rfl (by first | (right; assumption) | (left; simp)) ?_)
                    | refine vi_e hQ rfl (e_sts (vs := [_, _, _, _]) st 7 rfl rfl rfl rfl rfl Try.sizeOf33 rfl rfl (by first | (right; assumption) | (left; simp)) ?_)
                    intro w st; dsimp only [setNth, wr] at st
                    refine vi_end ?_
                    refine fun a' ha' => ⟨[(11, _), (12, _)], [.blk b12 (.cells (tokL x).toArray 33 (0, 0)), .blk b11 (.cells [.slice oa' pre.length cap'].toArray 24 (0, 0)), .own (.slice oa' pre.length cap') 33 4 pre.length (toksL pre), .blk b10 (.cells [.int .i64 (a1 : Int), .int .i64 (r1 : Int)].toArray 27 (0, 0)), .blk b7 (.cells [.int .i64 (a1 : Int), .int .i64 (r1 : Int)].toArray 27 (0, 0)), .blk bE (.cells [str s].toArray 9 (0, 0))], ha'.sub ⟨rfl, rfl, trivial⟩, (by repeat (first | exact safeAll_nil | refine safeAll_cons (by first | rfl | exact fun _ _ => rfl) ?_)), st.drop (by repeat (first | exact List.Sublist.slnil | apply List.Sublist.cons_cons | apply List.Sublist.cons)), st.drop (by repeat (first | exact List.Sublist.slnil | apply List.Sublist.cons_cons | apply List.Sublist.cons)), fun w st => ?_⟩
                    refine vr_block ?_
                    refine vr_region (by repeat (first | exact noOut_round | exact noOut_false | exact noOut_bodyp (fun w h => by simp at h) | refine noOut_then ?_ | refine noOut_block ?_)) (fun hQ => ?_)
                    refine vi_y hQ rfl rfl rfl ((by first | exact y_ld st 0 rfl Try.isAgg24 rfl rfl | exact y_ld st 1 rfl Try.isAgg24 rfl rfl | exact y_ld st 2 rfl Try.isAgg24 rfl rfl | exact y_ld st 3 rfl Try.isAgg24 rfl rfl | exact y_ld st 4 rfl Try.isAgg24 rfl rfl | exact y_ld st 5 rfl Try.isAgg24 rfl rfl | exact y_ld st 6 rfl Try.isAgg24 rfl rfl | exact y_ld st 7 rfl Try.isAgg24 rfl rfl)) ?_
                    refine vi_y hQ rfl rfl rfl ((by first | exact y_lda (vs := [_, _, _, _]) st 0 rfl Try.isAgg33 Try.sizeOf33 rfl rfl | exact y_lda (vs := [_, _, _, _]) st 1 rfl Try.isAgg33 Try.sizeOf33 rfl rfl | exact y_lda (vs := [_, _, _, _]) st 2 rfl Try.isAgg33 Try.sizeOf33 rfl rfl | exact y_lda (vs := [_, _, _, _]) st 3 rfl Try.isAgg33 Try.sizeOf33 rfl rfl | exact y_lda (vs := [_, _, _, _]) st 4 rfl Try.isAgg33 Try.sizeOf33 rfl rfl | exact y_lda (vs := [_, _, _, _]) st 5 rfl Try.isAgg33 Try.sizeOf33 rfl rfl | exact y_lda (vs := [_, _, _, _]) st 6 rfl Try.isAgg33 Try.sizeOf33 rfl rfl | exact y_lda (vs := [_, _, _, _]) st 7 rfl Try.isAgg33 Try.sizeOf33 rfl rfl)) ?_
                    refine vi_e hQ rfl (e_bs1 (l := [_, _, _, _]) st rfl rfl rfl rfl Try.underlying24 Try.sizeOf33 rfl rfl rfl Try.zeroValue33 ?_)
                    intro b87 w hb87 st
                    refine vi_e hQ rfl (e_app (bytes := 40) st 4 0 rfl rfl rfl rfl rfl rfl Try.underlying24 Try.info33 rfl rfl rfl rfl rfl (by simp) rfl rfl (by unfold maxLen; omega) (by omega) ?_)
                    intro oa88 cap88 w st; dsimp only [setNth] at st
                    first
                    | refine vi_e hQ rfl (e_st st 0 rfl rfl rfl rfl Try.sizeOf24 rfl rfl (by first | (right; assumption) | (left; simp)) ?_)
                    | refine vi_e hQ rfl (e_st st 1 rfl rfl rfl rfl Try.sizeOf24 rfl rfl (by first | (right; assumption) | (left; simp)) ?_)
                    | refine vi_e hQ rfl (e_st st 2 rfl rfl rfl rfl Try.sizeOf24 rfl rfl (by first | (right; assumption) | (left; simp)) ?_)
                    | refine vi_e hQ rfl (e_st st 3 rfl rfl rfl rfl Try.sizeOf24 rfl rfl (by first | (right; assumption) | (left; simp)) ?_)
                    | refine vi_e hQ rfl (e_st st 4 rfl rfl rfl rfl Try.sizeOf24 rfl rfl (by first | (right; assumption) | (left; simp)) ?_)
                    | refine vi_e hQ rfl (e_st st 5 rfl rfl rfl rfl Try.sizeOf24 rfl rfl (by first | (right; assumption) | (left; simp)) ?_)
                    | refine vi_e hQ rfl (e_st st 6 rfl rfl rfl rfl Try.sizeOf24 rfl rfl (by first | (right; assumption) | (left; simp)) ?_)
                    | refine vi_e hQ rfl (e_st st 7 rfl rfl rfl rfl Try.sizeOf24 rfl rfl (by first | (right; assumption) | (left; simp)) ?_)
                    intro w st; dsimp only [setNth, wr] at st
                    refine vi_end ?_
                    refine vq_block ?_
                    refine fun a _ => ⟨(oa88, cap88), by simp; omega, ?_⟩
                    simp only [List.length_append, List.length_cons, List.length_nil, toksL_snoc]
                    exact st.drop (by repeat (first | exact List.Sublist.slnil | apply List.Sublist.cons_cons | apply List.Sublist.cons))
                  · rintro D1 xs ⟨oa1, cp1⟩ w hDg1 hD1 hnc1 hS hlt st
                    obtain rfl : xs = toksE s := hS
                    have hg1 : w0.heap.size ≤ D1 := Nat.le_trans hw00 hDg1
                    clear hw00 hDg1 hnc1 hlt
                    dsimp only at st
                    replace st := st.hold (T := fun o => !o.isCells) (by repeat (first | exact safeAll_nil | refine safeAll_cons (by first | rfl | exact fun _ _ => rfl) ?_))
                    refine vq_block ?_
                    refine vq_then ?_
                    refine vc_keep [(0, _), (1, _), (6, _), (7, _), (8, _), (10, _), (11, _)] ⟨rfl, rfl, rfl, rfl, rfl, rfl, rfl, trivial⟩ ?_
                    refine vc_seq ?_
                    refine vc_region ?_
                    refine vc_e (e_al (l := [_]) st rfl rfl Try.zeroValue24 rfl ?_)
                    intro b13 w hb13 st
                    refine vc_end ?_
                    refine vq_then ?_
                    refine vc_keep [(0, _), (1, _), (6, _), (7, _), (8, _), (10, _), (11, _), (13, _)] ⟨rfl, rfl, rfl, rfl, rfl, rfl, rfl, rfl, trivial⟩ ?_
                    refine vc_seq ?_
                    refine vc_seq ?_
                    refine vc_region ?_
                    refine vc_y rfl rfl (y_mv rfl) ?_
                    refine vc_y rfl rfl (y_mv rfl) ?_
                    refine vc_y rfl rfl (y_slt (j := E) rfl rfl Try.underlying9 rfl (by omega)) ?_
                    refine vc_y rfl rfl (y_cat rfl rfl (by simp only [List.length_take, List.length_append, List.length_cons, List.length_nil]; omega)) ?_
                    refine vc_y rfl rfl (y_mv rfl) ?_
                    refine vc_y rfl rfl (y_cat rfl rfl (by simp only [List.length_take, List.length_append, List.length_cons, List.length_nil]; omega)) ?_
                    refine vc_e (e_call [_] rfl rfl Try.call25 rfl (each_any (cutOff s t E) _) ?_)
                    rintro _ w ⟨bE2, hbE2, rfl, hE2, cE⟩
                    replace st := st.pushR cE (r := .blk bE2 _) hE2 (by simpa [Res.at?] using hbE2)
                    refine vc_end ?_
                    refine vq_then ?_
                    refine vc_keep [(6, _), (7, _), (10, _), (11, _), (13, _), (95, _)] ⟨rfl, rfl, rfl, rfl, rfl, rfl, trivial⟩ ?_
                    refine vc_block ?_
                    have hw00 := st.chg.size
                    have hD1' := (holdT (st.res (i := 2) rfl)).same D1 _ hD1 rfl
                    replace st : St w0 [] [.blk b13 (.cells [.slice none ([] : List Tok).length 0].toArray 24 (0, 0)), .own (.slice none ([] : List Tok).length 0) 33 4 ([] : List Tok).length (toksL ([] : List Tok)), .blk b11 (.cells [.slice oa1 (toksE s).length cp1].toArray 24 (0, 0)), .own (.slice oa1 (toksE s).length cp1) 33 4 (toksE s).length (toksL (toksE s)), .blk b10 (.cells [.int .i64 (a1 : Int), .int .i64 (r1 : Int)].toArray 27 (0, 0)), .blk b7 (.cells [.int .i64 (a1 : Int), .int .i64 (r1 : Int)].toArray 27 (0, 0)), .blk bE2 (.cells [str (cutOff s t E)].toArray 9 (0, 0))] _ := (st.ownNil 33 4).pick [2, 0, 4, 5, 6, 7, 1] rfl (by decide)
                    refine vc_range (β := Option Addr × Nat) (γ := Unit) rfl (fun args w => Try.call38 args w) (each_seq bE2 (cutOff s t E)) isScn_book isScn_book rfl (fun y pre => pre.length ≤ 65536) (fun y pre => [.blk b13 (.cells [.slice y.1 pre.length y.2].toArray 24 (0, 0)), .own (.slice y.1 pre.length y.2) 33 4 pre.length (toksL pre), .blk b11 (.cells [.slice oa1 (toksE s).length cp1].toArray 24 (0, 0)), .own (.slice oa1 (toksE s).length cp1) 33 4 (toksE s).length (toksL (toksE s)), .blk b10 (.cells [.int .i64 (a1 : Int), .int .i64 (r1 : Int)].toArray 27 (0, 0)), .blk b7 (.cells [.int .i64 (a1 : Int), .int .i64 (r1 : Int)].toArray 27 (0, 0)), .blk bE2 (.cells [str (cutOff s t E)].toArray 9 (0, 0))]) (fun y c pre => False) (fun y c pre => []) (fun y pre => (by repeat (first | exact safeAll_nil | refine safeAll_cons (by first | rfl | exact fun _ _ => rfl) ?_))) (fun y c pre => (by repeat (first | exact safeAll_nil | refine safeAll_cons (by first | rfl | exact fun _ _ => rfl) ?_))) (none, 0) (by simp) st (fun W y h => h.res (i := 6) rfl) ?_ ?_ ?_
                    · rintro l pre x ⟨oa', cap'⟩ w hlt hN st
                      try dsimp only at *
                      refine vr_region (by repeat (first | exact noOut_round | exact noOut_false | exact noOut_bodyp (fun w h => by simp at h) | refine noOut_then ?_ | refine noOut_block ?_)) (fun hQ => ?_)
                      refine vi_e hQ rfl (e_al (l := [_, _, _, _]) st rfl rfl Try.zeroValue33 rfl ?_)
                      intro b14 w hb14 st
                      first
                      | refine vi_e hQ rfl (e_sts (vs := [_, _, _, _]) st 0 rfl rfl rfl rfl rfl Try.sizeOf33 rfl rfl (by first | (right; assumption) | (left; simp)) ?_)
                      | refine vi_e hQ rfl (e_sts (vs := [_, _, _, _]) st 1 rfl rfl rfl rfl rfl Try.sizeOf33 rfl rfl (by first | (right; assumption) | (left; simp)) ?_)
                      | refine vi_e hQ rfl (e_sts (vs := [_, _, _, _]) st 2 rfl rfl rfl rfl rfl Try.sizeOf33 rfl rfl (by first | (right; assumption) | (left; simp)) ?_)
                      | refine vi_e hQ rfl (e_sts (vs := [_, _, _, _]) st 3 rfl rfl rfl rfl rfl Try.sizeOf33 rfl rfl (by first | (right; assumption) | (left; simp)) ?_)
                      | refine vi_e hQ rfl (e_sts (vs := [_, _, _, _]) st 4 rfl rfl rfl rfl rfl Try.sizeOf33 rfl rfl (by first | (right; assumption) | (left; simp)) ?_)
                      | refine vi_e hQ rfl (e_sts (vs := [_, _, _, _]) st 5 rfl rfl rfl rfl rfl Try.sizeOf33 rfl rfl (by first | (right; assumption) | (left; simp)) ?_)
                      | refine vi_e hQ rfl (e_sts (vs := [_, _, _, _]) st 6 rfl rfl rfl rfl rfl Try.sizeOf33 rfl rfl (by first | (right; assumption) | (left; simp)) ?_)
                      | refine vi_e hQ rfl (e_sts (vs := [_, _, _, _]) st 7 rfl rfl rfl rfl rfl Try.sizeOf33 rfl rfl (by first | (right; assumption) | (left; simp)) ?_)
                      intro w st; dsimp only [setNth, wr] at st
                      refine vi_end ?_
                      refine fun a' ha' => ⟨[(13, _), (14, _)], [.blk b14 (.cells (tokL x).toArray 33 (0, 0)), .blk b13 (.cells [.slice oa' pre.length cap'].toArray 24 (0, 0)), .own (.slice oa' pre.length cap') 33 4 pre.length (toksL pre), .blk b11 (.cells [.slice oa1 (toksE s).length cp1].toArray 24 (0, 0)), .own (.slice oa1 (toksE s).length cp1) 33 4 (toksE s).length (toksL (toksE s)), .blk b10 (.cells [.int .i64 (a1 : Int), .int .i64 (r1 : Int)].toArray 27 (0, 0)), .blk b7 (.cells [.int .i64 (a1 : Int), .int .i64 (r1 : Int)].toArray 27 (0, 0)), .blk bE2 (.cells [str (cutOff s t E)].toArray 9 (0, 0))], ha'.sub ⟨rfl, rfl, trivial⟩, (by repeat (first | exact safeAll_nil | refine safeAll_cons (by first | rfl | exact fun _ _ => rfl) ?_)), st.drop (by repeat (first | exact List.Sublist.slnil | apply List.Sublist.cons_cons | apply List.Sublist.cons)), st.drop (by repeat (first | exact List.Sublist.slnil | apply List.Sublist.cons_cons | apply List.Sublist.cons)), fun w st => ?_⟩
                      refine vr_block ?_
                      refine vr_region (by repeat (first | exact noOut_round | exact noOut_false | exact noOut_bodyp (fun w h => by simp at h) | refine noOut_then ?_ | refine noOut_block ?_)) (fun hQ => ?_)
                      refine vi_y hQ rfl rfl rfl ((by first | exact y_ld st 0 rfl Try.isAgg24 rfl rfl | exact y_ld st 1 rfl Try.isAgg24 rfl rfl | exact y_ld st 2 rfl Try.isAgg24 rfl rfl | exact y_ld st 3 rfl Try.isAgg24 rfl rfl | exact y_ld st 4 rfl Try.isAgg24 rfl rfl | exact y_ld st 5 rfl Try.isAgg24 rfl rfl | exact y_ld st 6 rfl Try.isAgg24 rfl rfl | exact y_ld st 7 rfl Try.isAgg24 rfl rfl)) ?_
                      refine vi_y hQ rfl rfl rfl ((by first | exact y_lda (vs := [_, _, _, _]) st 0 rfl Try.isAgg33 Try.sizeOf33 rfl rfl | exact y_lda (vs := [_, _, _, _]) st 1 rfl Try.isAgg33 Try.sizeOf33 rfl rfl | exact y_lda (vs := [_, _, _, _]) st 2 rfl Try.isAgg33 Try.sizeOf33 rfl rfl | exact y_lda (vs := [_, _, _, _]) st 3 rfl Try.isAgg33 Try.sizeOf33 rfl rfl | exact y_lda (vs := [_, _, _, _]) st 4 rfl Try.isAgg33 Try.sizeOf33 rfl rfl | exact y_lda (vs := [_, _, _, _]) st 5 rfl Try.isAgg33 Try.sizeOf33 rfl rfl | exact y_lda (vs := [_, _, _, _]) st 6 rfl Try.isAgg33 Try.sizeOf33 rfl rfl | exact y_lda (vs := [_, _, _, _]) st 7 rfl Try.isAgg33 Try.sizeOf33 rfl rfl)) ?_
                      refine vi_e hQ rfl (e_bs1 (l := [_, _, _, _]) st rfl rfl rfl rfl Try.underlying24 Try.sizeOf33 rfl rfl rfl Try.zeroValue33 ?_)
                      intro b99 w hb99 st
                      refine vi_e hQ rfl (e_app (bytes := 40) st 4 0 rfl rfl rfl rfl rfl rfl Try.underlying24 Try.info33 rfl rfl rfl rfl rfl (by simp) rfl rfl (by unfold maxLen; omega) (by omega) ?_)
                      intro oa100 cap100 w st; dsimp only [setNth] at st
                      first
                      | refine vi_e hQ rfl (e_st st 0 rfl rfl rfl rfl Try.sizeOf24 rfl rfl (by first | (right; assumption) | (left; simp)) ?_)
                      | refine vi_e hQ rfl (e_st st 1 rfl rfl rfl rfl Try.sizeOf24 rfl rfl (by first | (right; assumption) | (left; simp)) ?_)
                      | refine vi_e hQ rfl (e_st st 2 rfl rfl rfl rfl Try.sizeOf24 rfl rfl (by first | (right; assumption) | (left; simp)) ?_)
                      | refine vi_e hQ rfl (e_st st 3 rfl rfl rfl rfl Try.sizeOf24 rfl rfl (by first | (right; assumption) | (left; simp)) ?_)
                      | refine vi_e hQ rfl (e_st st 4 rfl rfl rfl rfl Try.sizeOf24 rfl rfl (by first | (right; assumption) | (left; simp)) ?_)
                      | refine vi_e hQ rfl (e_st st 5 rfl rfl rfl rfl Try.sizeOf24 rfl rfl (by first | (right; assumption) | (left; simp)) ?_)
                      | refine vi_e hQ rfl (e_st st 6 rfl rfl rfl rfl Try.sizeOf24 rfl rfl (by first | (right; assumption) | (left; simp)) ?_)
                      | refine vi_e hQ rfl (e_st st 7 rfl rfl rfl rfl Try.sizeOf24 rfl rfl (by first | (right; assumption) | (left; simp)) ?_)
                      intro w st; dsimp only [setNth, wr] at st
                      refine vi_end ?_
                      refine vq_block ?_
                      refine fun a _ => ⟨(oa100, cap100), by simp; omega, ?_⟩
                      simp only [List.length_append, List.length_cons, List.length_nil, toksL_snoc]
                      exact st.drop (by repeat (first | exact List.Sublist.slnil | apply List.Sublist.cons_cons | apply List.Sublist.cons))
                    · rintro D2 xs ⟨oa2, cp2⟩ w hDg2 hD2 hnc2 hS hlt st
                      obtain rfl : xs = toksE s := (show xs = toksE (cutOff s t E) from hS).trans htk2
                      have hg2 : w0.heap.size ≤ D2 := Nat.le_trans hw00 hDg2
                      have hD1w := hnc2 _ _ hD1' rfl
                      have hne : D2 ≠ D1 := by have := (Array.getElem?_eq_some_iff.1 hD1').1; omega
                      clear hw00 hDg2 hnc2 hlt
                      dsimp only at st
                      replace st := st.hold (T := fun o => !o.isCells) (by repeat (first | exact safeAll_nil | refine safeAll_cons (by first | rfl | exact fun _ _ => rfl) ?_))
                      refine vq_block ?_
                      refine vq_then ?_
                      refine vc_keep [(6, _), (7, _), (10, _), (11, _), (13, _)] ⟨rfl, rfl, rfl, rfl, rfl, trivial⟩ ?_
                      refine vc_seq ?_
                      refine vc_region ?_
                      refine vc_y rfl rfl (y_mv rfl) ?_
                      refine vc_y rfl rfl (y_eqi rfl rfl) ?_
                      refine vc_e (e_mvb rfl rfl rfl ?_ ?_)
                      · intro hg103
                        try simp only [decide_eq_true_eq, decide_eq_false_iff_not, Bool.not_eq_true', Bool.not_eq_false', Bool.not_eq_true, Bool.not_eq_false, Int.not_lt, Int.not_le, Nat.not_lt, Nat.not_le, Bool.not_true, Bool.not_false, Bool.true_eq_false, Bool.false_eq_true] at hg103
                        refine vc_y rfl rfl ((by first | exact y_lda (vs := [_, _]) st 0 rfl Try.isAgg27 Try.sizeOf27 rfl rfl | exact y_lda (vs := [_, _]) st 1 rfl Try.isAgg27 Try.sizeOf27 rfl rfl | exact y_lda (vs := [_, _]) st 2 rfl Try.isAgg27 Try.sizeOf27 rfl rfl | exact y_lda (vs := [_, _]) st 3 rfl Try.isAgg27 Try.sizeOf27 rfl rfl | exact y_lda (vs := [_, _]) st 4 rfl Try.isAgg27 Try.sizeOf27 rfl rfl | exact y_lda (vs := [_, _]) st 5 rfl Try.isAgg27 Try.sizeOf27 rfl rfl | exact y_lda (vs := [_, _]) st 6 rfl Try.isAgg27 Try.sizeOf27 rfl rfl | exact y_lda (vs := [_, _]) st 7 rfl Try.isAgg27 Try.sizeOf27 rfl rfl)) ?_
                        refine vc_y rfl rfl ((by first | exact y_lda (vs := [_, _]) st 0 rfl Try.isAgg27 Try.sizeOf27 rfl rfl | exact y_lda (vs := [_, _]) st 1 rfl Try.isAgg27 Try.sizeOf27 rfl rfl | exact y_lda (vs := [_, _]) st 2 rfl Try.isAgg27 Try.sizeOf27 rfl rfl | exact y_lda (vs := [_, _]) st 3 rfl Try.isAgg27 Try.sizeOf27 rfl rfl | exact y_lda (vs := [_, _]) st 4 rfl Try.isAgg27 Try.sizeOf27 rfl rfl | exact y_lda (vs := [_, _]) st 5 rfl Try.isAgg27 Try.sizeOf27 rfl rfl | exact y_lda (vs := [_, _]) st 6 rfl Try.isAgg27 Try.sizeOf27 rfl rfl | exact y_lda (vs := [_, _]) st 7 rfl Try.isAgg27 Try.sizeOf27 rfl rfl)) ?_
                        refine vc_y rfl rfl (y_bo (r := .bool true) rfl rfl (by simp [go_sem])) ?_
                        refine vc_y rfl rfl (y_pickt rfl rfl) ?_
                        refine vc_e (e_mvb rfl rfl rfl ?_ ?_)
                        · intro hg108
                          try simp only [decide_eq_true_eq, decide_eq_false_iff_not, Bool.not_eq_true', Bool.not_eq_false', Bool.not_eq_true, Bool.not_eq_false, Int.not_lt, Int.not_le, Nat.not_lt, Nat.not_le, Bool.not_true, Bool.not_false, Bool.true_eq_false, Bool.false_eq_true] at hg108
                          refine vc_y rfl rfl ((by first | exact y_ld st 0 rfl Try.isAgg24 rfl rfl | exact y_ld st 1 rfl Try.isAgg24 rfl rfl | exact y_ld st 2 rfl Try.isAgg24 rfl rfl | exact y_ld st 3 rfl Try.isAgg24 rfl rfl | exact y_ld st 4 rfl Try.isAgg24 rfl rfl | exact y_ld st 5 rfl Try.isAgg24 rfl rfl | exact y_ld st 6 rfl Try.isAgg24 rfl rfl | exact y_ld st 7 rfl Try.isAgg24 rfl rfl)) ?_
                          refine vc_y rfl rfl ((by first | exact y_ld st 0 rfl Try.isAgg24 rfl rfl | exact y_ld st 1 rfl Try.isAgg24 rfl rfl | exact y_ld st 2 rfl Try.isAgg24 rfl rfl | exact y_ld st 3 rfl Try.isAgg24 rfl rfl | exact y_ld st 4 rfl Try.isAgg24 rfl rfl | exact y_ld st 5 rfl Try.isAgg24 rfl rfl | exact y_ld st 6 rfl Try.isAgg24 rfl rfl | exact y_ld st 7 rfl Try.isAgg24 rfl rfl)) ?_
                          have ra := isToks_own (A := (toksE s).map tvOf) (oa := oa1) (cap := cp1) (by rw [List.length_map, ← toksL_tv]; exact st.res (i := 4) rfl)
                          have rb := isToks_own (A := (toksE s).map tvOf) (oa := oa2) (cap := cp2) (by rw [List.length_map, ← toksL_tv]; exact st.res (i := 2) rfl)
                          refine vc_e (e_call [_, _, _] rfl rfl Try.call23 rfl (by have h := rsame_any ((toksE s).map tvOf) ((toksE s).map tvOf) oa1 oa2 cp1 cp2 true _ ra rb (by unfold maxLen; simp; omega); rw [List.length_map] at h; exact h) ?_)
                          rintro _ w ⟨⟨r', rfl, hSame⟩, cw⟩
                          obtain rfl : r' = true := hSame.2 (SameP.refl _ _)
                          replace st := st.call0 cw
                          refine vc_y rfl rfl (y_pickt rfl rfl) ?_
                          refine vc_y rfl rfl (y_as rfl) ?_
                          refine vc_end ?_
                          refine vq_then ?_
                          refine vc_keep [(4, _)] ⟨rfl, trivial⟩ ?_
                          refine vc_ret ?_
                          have hk := holdT (st.res (i := 0) rfl)
                          have hmk : ∀ D ∈ [D2, D1], w.heap[D]? = some (.deferred (some [])) ∧ w0.heap.size ≤ D := by
                            intro D hD
                            simp only [List.mem_cons, List.not_mem_nil, or_false] at hD
                            rcases hD with rfl | rfl
                            · exact ⟨hk.same _ _ hD2 rfl, hg2⟩
                            · exact ⟨hk.same _ _ hD1w rfl, hg1⟩
                          refine vq_retM [D2, D1] st (.inl rfl) Try.results9 rfl (by simp [hne]) hmk (fun w' c => ⟨_, rfl, ?_⟩)
                          exact ⟨rfl, c⟩
                        · intro hg108
                          (exfalso; simp at hg108)
                      · intro hg103
                        (exfalso; simp at hg103)
                    · rintro D c xs y w hDg hD hnc hS h st
                      exact h.elim
                  · rintro D c xs y w hDg hD hnc hS h st
                    exact h.elim

theorem own9 : ownKnob Try.prog.godebug = none := by kernel_rfl
set_option maxRecDepth 100000 in
theorem liftedLexerFaults (os : Os) (started : os.Started) (H : Type) (enc : TypeId × Value → H) (F : Stop.Interp) :
    ReturnsInHanded {} Try.checked os 9 .any ((Rows.OpenSpec.upto Rows.lexerFaultsSpec).pre6 enc Try.prog Try.f9 Rows.lexerFaultsUptoRow.domain false) (((Rows.OpenSpec.upto Rows.lexerFaultsSpec).at F).post enc Try.prog Try.f9 false true false false) := by
  refine returnsInHanded_of_cond (C := Try.checked) (s := Rows.OpenSpec.upto Rows.lexerFaultsSpec) (k := Rows.uptoSmall) rfl own9 started (by kernel_rfl) Try.func9
    (OpenSpec.witness (enc := enc) (C := Try.checked) (s := Rows.OpenSpec.upto Rows.lexerFaultsSpec) (k := Rows.uptoSmall) rfl false ⟨#[], #[.string ⟨#[]⟩, .string ⟨#[]⟩], []⟩ 8 (by kernel_rfl) (by kernel_rfl) (by kernel_rfl)
      (x := ([.lit (.string []), .lit (.string [])], [], [])) (by kernel_rfl) rfl (by kernel_rfl)) ?_
  intro W base args ds gs before hval0 hW _ hk _
  have hval : ∀ (j : Nat) t v, Try.f9.params[j]? = some t → args[j]? = some v → Value.okWide Try.prog W .any base t v := hval0
  have hW' := hW
  obtain ⟨p, q, hA0, hV, rfl, hfz, hnd⟩ := hW
  have hA : DataW.TrodAll enc Try.prog W 0 (fun _ => true) true Try.f9.params.toList args.toList ds p := hA0
  rw [Try.params9] at hA hval
  obtain ⟨v0, vs0, d0, ds0, p0, q0, hargs, rfl, rfl, h0, r0⟩ := trodAll_cons hA
  obtain ⟨v1, vs1, d1, ds1, p1, q1, rfl, rfl, rfl, h1, r1⟩ := trodAll_cons r0
  obtain ⟨rfl, rfl, rfl⟩ := trodAll_nil r1
  obtain rfl : args = #[v0, v1] := by cases args; simp_all
  obtain ⟨rfl, rfl⟩ := trodVars_none hV
  obtain ⟨a0, rfl, rfl, rfl, w0⟩ := open_string Try.underlying9 (hval 0 9 v0 rfl rfl) h0
  obtain ⟨a1, rfl, rfl, rfl, w1⟩ := open_string Try.underlying9 (hval 1 9 v1 rfl rfl) h1
  clear hA0 hval0
  have hsmall : a0.data.toList.length + a1.data.toList.length ≤ 1048576 := by
    have h := of_decide_eq_true hk
    simp only [List.cons_append, List.nil_append, Rows.uptoBulkAll, Rows.uptoBulk] at h
    omega
  have hwalk := lawLexerFaults a0.data.toList w0 a1.data.toList w1 hsmall W
  refine Calls.mono hwalk fun e W' ⟨u, he, hu, hc⟩ => ?_
  subst he
  subst hu
  have bel := hc.below
  exact ⟨_, rfl, _, _, _, [], _, [], hW', trodAll_mk1 (shut_bool Try.underlying4 _), (trodAll_cons_mk (shut_string Try.underlying9 w0) (trodAll_cons_mk (shut_string Try.underlying9 w1) trodAll_mk0)), rfl, bel.frame _, fun h => by cases h⟩
theorem overLexerFaults : Rows.lexerFaultsUptoRow.holds Try.pinned (Rows.OpenSpec.upto Rows.lexerFaultsSpec) :=
  OpenClaim.holds_of_cond 9 Try.f9 rfl rfl rfl rfl rfl rfl rfl ⟨rfl, rfl, rfl, rfl, rfl⟩ rfl rfl rfl rfl rfl (by kernel_rfl) Try.func9 (by kernel_rfl)
    (of_decide_eq_true (by kernel_rfl)) (by unfold Func.isWrapper; first | (rw [if_pos (by decide +kernel)]; kernel_rfl) | (rw [if_neg (by decide +kernel)]; exact ⟨rfl, rfl⟩))
    (fun os started H enc _ F => liftedLexerFaults os started H enc F)
theorem provedLexerFaults : Rows.LexerFaultsUptoSaid := overLexerFaults

end Go.Proofs.Ytakepmhgmgpkkaa
