/- A part of the proof: contracts of functions and plain laws; each theorem says its own conditions. -/
import Derived.Test.YtakepmhgmgpkkaaS
import Derived.WalkKit
import Derived.ProofKit
import Derived.OpenShut
import Derived.ShutString
import Derived.ChangeOld
import Derived.Below
import Derived.JoinedCond
namespace Go.Proofs.Ytakepmhgmgpkkaa
open Go.ChangeShapes Go.WideShapes Go.ChangeAt Go.RowKit
open Go.ChangeMaps (open_string shut_string)
open Sx LexS
set_option linter.unusedVariables false
set_option linter.unusedSimpArgs false
def mm (most : Int) : Nat := if most < 1 then 1 else most.toNat
theorem mm_pos (most : Int) : 1 ≤ mm most := by unfold mm; split <;> omega
theorem pre_take {α : Type} {pre l : List α} {k : Nat} (h : pre <+: l) (hk : pre.length = k) : pre = l.take k := by
  obtain ⟨t, rfl⟩ := h; subst hk; simp
theorem safeAll_nil {T : Obj → Bool} : safeAll T [] := fun r hr => by simp at hr
theorem safeAll_cons {T : Obj → Bool} {r : Res} {rs : List Res} (h : r.safe T) (hs : safeAll T rs) : safeAll T (r :: rs) := fun q hq => by
  rcases List.mem_cons.1 hq with rfl | hq
  · exact h
  · exact hs q hq
theorem isScn_book (o : Obj) (h : isBook o = true) : isScn o = false := by cases o <;> first | rfl | simp [isBook] at h
theorem scanF_len : ∀ (k : Nat) (r : List UInt8) (i : Nat), (scanF k r i).1.length ≤ r.length
  | 0, _, _ => by simp [scanF]
  | k + 1, r, i => by
    simp only [scanF]
    cases hd : r.drop (skip r) with
    | nil => simp
    | cons c r' =>
      have hl : (c :: r').length ≤ r.length := by rw [← hd]; simp
      cases ht : tokAt (c :: r') (i + skip r) with
      | bad rule p => simp [ht]
      | tok t =>
        have h3 := (tok_len ht).1
        have e := scanF_len k ((c :: r').drop t.text.length) (i + skip r + t.text.length)
        simp only [ht, List.length_cons, List.length_drop] at *
        omega
theorem toksE_le (s : List UInt8) : (toksE s).length ≤ 65536 := by
  unfold toksE
  split
  · simp
  · have := scanF_len (s.length + 1) s 0; unfold front; omega
theorem IsToks.take {w : World} {oa : Option Addr} {A : List TV} (h : IsToks w oa A) (k : Nat) : IsToks w oa (A.take k) := by
  rcases h with rfl | ⟨g, off, e, hc⟩
  · exact .inl (by simp)
  · refine .inr ⟨g, off, e, fun j hj => ?_⟩
    rw [List.length_take] at hj
    have := hc j (by omega)
    rw [show (A.take k).getD j tv0 = A.getD j tv0 by simp [List.getD, List.getElem?_take, show j < k by omega]]
    exact this

set_option maxHeartbeats 2000000 in
theorem lawLexerEach (s : List UInt8) (hl : s.length ≤ maxLen) (most : Int) (hm : (Lit.int .i64 most).wf = true) (hsmall : s.length + 0 ≤ 1048576) (w : World) : Ret Try.prog 8 [str s, .int .i64 most] w fun v w' => v = .bool true ∧ Chg [] w w' := by
  refine retM_of [_, _] Try.func8 rfl Try.ntmps8 rfl ?_
  have st := St.init w []
  have hmb := bounds_i64 hm
  obtain ⟨w0, rfl⟩ : ∃ w0, w0 = w := ⟨_, rfl⟩
  have htl := toksE_le s
  refine vc_seq ?_
  refine vc_region ?_
  refine vc_e (e_bx (l := [_]) st rfl rfl rfl rfl ?_)
  intro b3 w hb3 st
  refine vc_y rfl rfl (y_as rfl) ?_
  refine vc_end ?_
  refine vq_then ?_
  refine vc_keep [(0, _), (3, _)] ⟨rfl, rfl, trivial⟩ ?_
  refine vc_seq ?_
  refine vc_seq ?_
  refine vc_region ?_
  refine vc_e (e_call [] rfl rfl Try.call20 rfl (begins_any _) ?_)
  rintro _ w ⟨rfl, cb⟩
  replace st := st.call0 cb
  refine vc_y rfl rfl (y_not rfl) ?_
  refine vc_end ?_
  refine vq_then ?_
  refine vc_keep [(0, _), (3, _), (13, _)] ⟨rfl, rfl, rfl, trivial⟩ ?_
  refine vc_ifs rfl ?_ ?_
  · intro hc13
    (exfalso; simp at hc13)
  · intro hc13
    try simp only [decide_eq_true_eq, decide_eq_false_iff_not, Bool.not_eq_true', Bool.not_eq_false', Bool.not_eq_true, Bool.not_eq_false, Int.not_lt, Int.not_le, Nat.not_lt, Nat.not_le, Bool.not_true, Bool.not_false, Bool.true_eq_false, Bool.false_eq_true] at hc13
    refine vc_code_skip ?_
    refine vq_then ?_
    refine vc_keep [(0, _), (3, _)] ⟨rfl, rfl, trivial⟩ ?_
    refine vc_seq ?_
    refine vc_region ?_
    refine vc_y rfl rfl (y_mv rfl) ?_
    refine vc_e (e_call [_] rfl rfl Try.call24 rfl (rfront_any s _ (by omega)) ?_)
    rintro _ w ⟨cw, oa, cap, rfl, how⟩
    replace st := st.pushOwn cw how
    refine vc_y rfl rfl (y_mv rfl) ?_
    refine vc_y rfl rfl (y_ext rfl rfl) ?_
    refine vc_y rfl rfl (y_ext rfl rfl) ?_
    refine vc_y rfl rfl (y_ext rfl rfl) ?_
    refine vc_y rfl rfl (y_as rfl) ?_
    refine vc_y rfl rfl (y_as rfl) ?_
    refine vc_y rfl rfl (y_as rfl) ?_
    refine vc_end ?_
    refine vq_then ?_
    refine vc_keep [(0, _), (3, _), (5, _)] ⟨rfl, rfl, rfl, trivial⟩ ?_
    refine vc_cut (w0 := w0) (M := []) (fun (x : Option Addr × Nat × Nat) => [(0, str s), (3, .pointer (some ⟨b3, 0, none⟩)), (5, .slice x.1 x.2.2 x.2.1)]) (fun x => [.blk b3 (.cells [.int .i64 most].toArray 3 (0, 0)), .own (.slice x.1 x.2.2 x.2.1) 33 4 x.2.2 (toksL (toksE s))]) (fun x _ => x.2.2 = (toksE s).length) ?_ ?_
    ·
      refine vc_seq ?_
      refine vc_region ?_
      refine vc_y rfl rfl (y_mv rfl) ?_
      refine vc_y rfl rfl (y_lens rfl Try.underlying9) ?_
      refine vc_y rfl rfl (y_gtr rfl rfl) ?_
      refine vc_end ?_
      refine vq_then ?_
      refine vc_keep [(0, _), (3, _), (5, _), (22, _)] ⟨rfl, rfl, rfl, rfl, trivial⟩ ?_
      refine vc_ifs rfl ?_ ?_
      · intro hc22
        try simp only [decide_eq_true_eq, decide_eq_false_iff_not, Bool.not_eq_true', Bool.not_eq_false', Bool.not_eq_true, Bool.not_eq_false, Int.not_lt, Int.not_le, Nat.not_lt, Nat.not_le, Bool.not_true, Bool.not_false, Bool.true_eq_false, Bool.false_eq_true] at hc22
        refine vc_region ?_
        refine vc_y rfl rfl (y_as rfl) ?_
        refine vc_end ?_
        refine vq_meet (none, 0, 0) ⟨rfl, rfl, rfl, trivial⟩ (by
          have e : toksE s = [] := by (unfold toksE; rw [if_pos (by omega)])
          rw [e]; exact ((st.ownNil 33 4).drop (by repeat (first | exact List.Sublist.slnil | apply List.Sublist.cons_cons | apply List.Sublist.cons)) : St _ _ [.own (.slice none 0 0) 33 4 0 [], .blk b3 (.cells [.int .i64 most].toArray 3 (0, 0))] _).perm (List.Perm.swap _ _ _)) ?_
        · unfold toksE; rw [if_pos (by omega)]; rfl
      · intro hc22
        try simp only [decide_eq_true_eq, decide_eq_false_iff_not, Bool.not_eq_true', Bool.not_eq_false', Bool.not_eq_true, Bool.not_eq_false, Int.not_lt, Int.not_le, Nat.not_lt, Nat.not_le, Bool.not_true, Bool.not_false, Bool.true_eq_false, Bool.false_eq_true] at hc22
        refine vc_code_skip ?_
        refine vq_meet (oa, cap, (front s).1.length) ⟨rfl, rfl, rfl, trivial⟩ (by
          have e : toksE s = (front s).1 := by (unfold toksE; rw [if_neg (by omega)])
          rw [e]; exact st.perm (List.Perm.swap _ _ _)) ?_
        · unfold toksE; rw [if_neg (by omega)]
    ·
      clear st how
      rintro ⟨oa, cap, n⟩ w hn st
      dsimp only at *
      refine vc_cut (w0 := w0) (M := []) (fun (_ : Unit) => [(0, str s), (3, .pointer (some ⟨b3, 0, none⟩)), (5, .slice oa n cap)]) (fun _ => [.blk b3 (.cells [.int .i64 (mm most : Int)].toArray 3 (0, 0)), .own (.slice oa n cap) 33 4 n (toksL (toksE s))]) (fun _ _ => True) ?_ ?_
      ·
        refine vc_seq ?_
        refine vc_region ?_
        refine vc_y rfl rfl ((by first | exact y_ld st 0 rfl Try.isAgg3 rfl rfl | exact y_ld st 1 rfl Try.isAgg3 rfl rfl | exact y_ld st 2 rfl Try.isAgg3 rfl rfl | exact y_ld st 3 rfl Try.isAgg3 rfl rfl | exact y_ld st 4 rfl Try.isAgg3 rfl rfl | exact y_ld st 5 rfl Try.isAgg3 rfl rfl)) ?_
        refine vc_y rfl rfl (y_lss rfl rfl) ?_
        refine vc_end ?_
        refine vq_then ?_
        refine vc_keep [(0, _), (3, _), (5, _), (24, _)] ⟨rfl, rfl, rfl, rfl, trivial⟩ ?_
        refine vc_ifs rfl ?_ ?_
        · intro hc24
          try simp only [decide_eq_true_eq, decide_eq_false_iff_not, Bool.not_eq_true', Bool.not_eq_false', Bool.not_eq_true, Bool.not_eq_false, Int.not_lt, Int.not_le, Nat.not_lt, Nat.not_le, Bool.not_true, Bool.not_false, Bool.true_eq_false, Bool.false_eq_true] at hc24
          refine vc_region ?_
          first
          | refine vc_e (e_st st 0 rfl rfl rfl rfl Try.sizeOf3 rfl rfl (by first | (right; assumption) | (left; simp)) ?_)
          | refine vc_e (e_st st 1 rfl rfl rfl rfl Try.sizeOf3 rfl rfl (by first | (right; assumption) | (left; simp)) ?_)
          | refine vc_e (e_st st 2 rfl rfl rfl rfl Try.sizeOf3 rfl rfl (by first | (right; assumption) | (left; simp)) ?_)
          | refine vc_e (e_st st 3 rfl rfl rfl rfl Try.sizeOf3 rfl rfl (by first | (right; assumption) | (left; simp)) ?_)
          | refine vc_e (e_st st 4 rfl rfl rfl rfl Try.sizeOf3 rfl rfl (by first | (right; assumption) | (left; simp)) ?_)
          | refine vc_e (e_st st 5 rfl rfl rfl rfl Try.sizeOf3 rfl rfl (by first | (right; assumption) | (left; simp)) ?_)
          intro w st; dsimp only [setNth, wr] at st
          refine vc_end ?_
          refine vq_meet () ⟨rfl, rfl, rfl, trivial⟩ (by
            have e : (mm most : Int) = 1 := by (unfold mm; rw [if_pos (by omega)]; rfl)
            rw [e]; exact st) ?_
          · trivial
        · intro hc24
          try simp only [decide_eq_true_eq, decide_eq_false_iff_not, Bool.not_eq_true', Bool.not_eq_false', Bool.not_eq_true, Bool.not_eq_false, Int.not_lt, Int.not_le, Nat.not_lt, Nat.not_le, Bool.not_true, Bool.not_false, Bool.true_eq_false, Bool.false_eq_true] at hc24
          refine vc_code_skip ?_
          refine vq_meet () ⟨rfl, rfl, rfl, trivial⟩ (by
            have e : (mm most : Int) = most := by (unfold mm; rw [if_neg (by omega)]; omega)
            rw [e]; exact st) ?_
          · trivial
      ·
        clear st
        rintro ⟨⟩ w - st
        have hmm : (mm most : Int) = if most < 1 then 1 else most := by unfold mm; split <;> omega
        have hmp := mm_pos most
        refine vc_cut (w0 := w0) (M := []) (fun (k : Nat) => [(0, str s), (3, .pointer (some ⟨b3, 0, none⟩)), (5, .slice oa k cap)]) (fun _ => [.blk b3 (.cells [.int .i64 (mm most : Int)].toArray 3 (0, 0)), .own (.slice oa n cap) 33 4 n (toksL (toksE s))]) (fun k _ => k = min (mm most) n) ?_ ?_
        ·
          refine vc_seq ?_
          refine vc_region ?_
          refine vc_y rfl rfl ((by first | exact y_ld st 0 rfl Try.isAgg3 rfl rfl | exact y_ld st 1 rfl Try.isAgg3 rfl rfl | exact y_ld st 2 rfl Try.isAgg3 rfl rfl | exact y_ld st 3 rfl Try.isAgg3 rfl rfl | exact y_ld st 4 rfl Try.isAgg3 rfl rfl | exact y_ld st 5 rfl Try.isAgg3 rfl rfl)) ?_
          refine vc_y rfl rfl (y_mv rfl) ?_
          refine vc_y rfl rfl (y_lensl rfl Try.underlying24) ?_
          refine vc_y rfl rfl (y_lss rfl rfl) ?_
          refine vc_end ?_
          refine vq_then ?_
          refine vc_keep [(0, _), (3, _), (5, _), (28, _)] ⟨rfl, rfl, rfl, rfl, trivial⟩ ?_
          refine vc_ifs rfl ?_ ?_
          · intro hc28
            try simp only [decide_eq_true_eq, decide_eq_false_iff_not, Bool.not_eq_true', Bool.not_eq_false', Bool.not_eq_true, Bool.not_eq_false, Int.not_lt, Int.not_le, Nat.not_lt, Nat.not_le, Bool.not_true, Bool.not_false, Bool.true_eq_false, Bool.false_eq_true] at hc28
            refine vc_region ?_
            refine vc_y rfl rfl (y_mv rfl) ?_
            refine vc_y rfl rfl ((by first | exact y_ld st 0 rfl Try.isAgg3 rfl rfl | exact y_ld st 1 rfl Try.isAgg3 rfl rfl | exact y_ld st 2 rfl Try.isAgg3 rfl rfl | exact y_ld st 3 rfl Try.isAgg3 rfl rfl | exact y_ld st 4 rfl Try.isAgg3 rfl rfl | exact y_ld st 5 rfl Try.isAgg3 rfl rfl)) ?_
            refine vc_y rfl rfl (y_slh (j := (mm most)) rfl rfl Try.underlying24 Try.sizeOf33 rfl (by have h := (st.res (i := 1) rfl : World.ownsRow _ _ _ _ _ _ _); rcases h.2 with ⟨h, _⟩ | ⟨g, cap', cur, h, _, _, hl, _⟩ <;> (simp only [Value.slice.injEq] at h; omega))) ?_
            refine vc_y rfl rfl (y_as rfl) ?_
            refine vc_end ?_
            refine vq_meet (mm most) ⟨rfl, rfl, rfl, trivial⟩ st ?_
            · omega
          · intro hc28
            try simp only [decide_eq_true_eq, decide_eq_false_iff_not, Bool.not_eq_true', Bool.not_eq_false', Bool.not_eq_true, Bool.not_eq_false, Int.not_lt, Int.not_le, Nat.not_lt, Nat.not_le, Bool.not_true, Bool.not_false, Bool.true_eq_false, Bool.false_eq_true] at hc28
            refine vc_code_skip ?_
            refine vq_meet n ⟨rfl, rfl, rfl, trivial⟩ st ?_
            · omega
        ·
          clear st
          rintro k w hk st
          refine vc_seq ?_
          refine vc_region ?_
          refine vc_y rfl rfl (y_mv rfl) ?_
          refine vc_e (e_call [_] rfl rfl Try.call25 rfl (each_any s _) ?_)
          rintro _ w ⟨bE, hbE, rfl, hE, cE⟩
          replace st := (st.pushR cE (r := .blk bE _) hE (by simpa [Res.at?] using hbE)).perm ((List.Perm.swap _ _ _).trans ((List.Perm.swap _ _ _).cons _))
          refine vc_y rfl rfl (y_as rfl) ?_
          refine vc_end ?_
          refine vq_then ?_
          refine vc_keep [(3, _), (5, _), (8, _)] ⟨rfl, rfl, rfl, trivial⟩ ?_
          refine vc_seq ?_
          refine vc_seq ?_
          refine vc_region ?_
          refine vc_y rfl rfl (y_as rfl) ?_
          refine vc_end ?_
          refine vq_then ?_
          refine vc_keep [(3, _), (5, _), (8, _), (9, _)] ⟨rfl, rfl, rfl, rfl, trivial⟩ ?_
          refine vc_block ?_
          refine vc_loopn (w0 := _) (M := _) (fun (x : Nat × List Nat) => (52, x.2.map Sx.mark)) (fun x => [(3, .pointer (some ⟨b3, 0, none⟩)), (5, .slice oa k cap), (8, .func (.func 38) #[] #[.pointer (some ⟨bE, 0, none⟩)]), (9, .int .i64 (x.1 : Int))]) (fun _ => [.blk b3 (.cells [.int .i64 (mm most : Int)].toArray 3 (0, 0)), .own (.slice oa n cap) 33 4 n (toksL (toksE s)), .blk bE (.cells [str s].toArray 9 (0, 0))]) (fun x w => x.1 ≤ 2 ∧ x.2.Nodup ∧ ∀ D ∈ x.2, w0.heap.size ≤ D ∧ w.heap[D]? = some (.deferred (some []))) (fun x => 2 - x.1) (0, []) rfl ⟨rfl, rfl, rfl, rfl, trivial⟩ st ⟨by simp, by simp, by simp⟩ ?_
          rintro ⟨r, Ds⟩ w ⟨hr, hnd, hge⟩ st
          dsimp only at *
          replace st := st.hold (T := fun o => !o.isCells) (by repeat (first | exact safeAll_nil | refine safeAll_cons (by first | rfl | exact fun _ _ => rfl) ?_))
          refine vc_seq ?_
          refine vc_seq ?_
          refine vc_region ?_
          refine vc_y rfl rfl (y_mv rfl) ?_
          refine vc_y rfl rfl (y_lss rfl rfl) ?_
          refine vc_end ?_
          refine vq_then ?_
          refine vc_keep [(3, _), (5, _), (8, _), (9, _), (35, _)] ⟨rfl, rfl, rfl, rfl, rfl, trivial⟩ ?_
          refine vc_ifs rfl ?_ ?_
          · intro hc35
            try simp only [decide_eq_true_eq, decide_eq_false_iff_not, Bool.not_eq_true', Bool.not_eq_false', Bool.not_eq_true, Bool.not_eq_false, Int.not_lt, Int.not_le, Nat.not_lt, Nat.not_le, Bool.not_true, Bool.not_false, Bool.true_eq_false, Bool.false_eq_true] at hc35
            refine vc_code_skip ?_
            refine vq_then ?_
            refine vc_keep [(3, _), (5, _), (8, _), (9, _)] ⟨rfl, rfl, rfl, rfl, trivial⟩ ?_
            refine vc_seq ?_
            refine vc_block ?_
            refine vc_seq ?_
            refine vc_region ?_
            refine vc_e (e_al (l := [_]) st rfl rfl Try.zeroValue24 rfl ?_)
            intro b10 w hb10 st
            refine vc_end ?_
            refine vq_then ?_
            refine vc_keep [(3, _), (5, _), (8, _), (9, _), (10, _)] ⟨rfl, rfl, rfl, rfl, rfl, trivial⟩ ?_
            refine vc_seq ?_
            refine vc_seq ?_
            refine vc_region ?_
            refine vc_y rfl rfl (y_mv rfl) ?_
            refine vc_end ?_
            refine vq_then ?_
            refine vc_keep [(3, _), (5, _), (8, _), (9, _), (10, _), (38, _)] ⟨rfl, rfl, rfl, rfl, rfl, rfl, trivial⟩ ?_
            refine vc_block ?_
            have hD0 : ∀ D ∈ Ds, _ := fun D hD => (holdT (st.res (i := 1) rfl)).same D _ (hge D hD).2 rfl
            have hw00 := st.chg.size
            replace st : St w0 [] [.blk b10 (.cells [.slice none ([] : List Tok).length 0].toArray 24 (0, 0)), .own (.slice none ([] : List Tok).length 0) 33 4 ([] : List Tok).length (toksL ([] : List Tok)), .blk b3 (.cells [.int .i64 (mm most : Int)].toArray 3 (0, 0)), .own (.slice oa n cap) 33 4 n (toksL (toksE s)), .blk bE (.cells [str s].toArray 9 (0, 0))] _ := ((st.ownNil 33 4).perm (List.Perm.swap _ _ _)).drop (by repeat (first | exact List.Sublist.slnil | apply List.Sublist.cons_cons | apply List.Sublist.cons))
            refine vc_range (β := Option Addr × Nat) (γ := Option Addr × Nat) rfl (fun args w => Try.call38 args w) (each_seq bE s) isScn_book isScn_book rfl (fun y pre => pre.length < mm most) (fun y pre => [.blk b10 (.cells [.slice y.1 pre.length y.2].toArray 24 (0, 0)), .own (.slice y.1 pre.length y.2) 33 4 pre.length (toksL pre), .blk b3 (.cells [.int .i64 (mm most : Int)].toArray 3 (0, 0)), .own (.slice oa n cap) 33 4 n (toksL (toksE s)), .blk bE (.cells [str s].toArray 9 (0, 0))]) (fun y c pre => c = .exit 2 ∧ pre.length = mm most) (fun y c pre => [.blk b10 (.cells [.slice y.1 pre.length y.2].toArray 24 (0, 0)), .own (.slice y.1 pre.length y.2) 33 4 pre.length (toksL pre), .blk b3 (.cells [.int .i64 (mm most : Int)].toArray 3 (0, 0)), .own (.slice oa n cap) 33 4 n (toksL (toksE s)), .blk bE (.cells [str s].toArray 9 (0, 0))]) (fun y pre => (by repeat (first | exact safeAll_nil | refine safeAll_cons (by first | rfl | exact fun _ _ => rfl) ?_))) (fun y c pre => (by repeat (first | exact safeAll_nil | refine safeAll_cons (by first | rfl | exact fun _ _ => rfl) ?_))) (none, 0) (by simp; omega) st (fun W y h => h.res (i := 4) rfl) ?_ ?_ ?_
            · rintro l pre x ⟨oa', cap'⟩ w hlt hN st
              clear hw00 hD0
              try dsimp only at *
              refine vr_region (by repeat (first | exact noOut_round | exact noOut_false | exact noOut_bodyp (fun w h => by simp at h) | refine noOut_then ?_ | refine noOut_block ?_)) (fun hQ => ?_)
              refine vi_e hQ rfl (e_al (l := [_, _, _, _]) st rfl rfl Try.zeroValue33 rfl ?_)
              intro b11 w hb11 st
              first
              | refine vi_e hQ rfl (e_sts (vs := [_, _, _, _]) st 0 rfl rfl rfl rfl rfl Try.sizeOf33 rfl rfl (by first | (right; assumption) | (left; simp)) ?_)
              | refine vi_e hQ rfl (e_sts (vs := [_, _, _, _]) st 1 rfl rfl rfl rfl rfl Try.sizeOf33 rfl rfl (by first | (right; assumption) | (left; simp)) ?_)
              | refine vi_e hQ rfl (e_sts (vs := [_, _, _, _]) st 2 rfl rfl rfl rfl rfl Try.sizeOf33 rfl rfl (by first | (right; assumption) | (left; simp)) ?_)
              | refine vi_e hQ rfl (e_sts (vs := [_, _, _, _]) st 3 rfl rfl rfl rfl rfl Try.sizeOf33 rfl rfl (by first | (right; assumption) | (left; simp)) ?_)
              | refine vi_e hQ rfl (e_sts (vs := [_, _, _, _]) st 4 rfl rfl rfl rfl rfl Try.sizeOf33 rfl rfl (by first | (right; assumption) | (left; simp)) ?_)
              | refine vi_e hQ rfl (e_sts (vs := [_, _, _, _]) st 5 rfl rfl rfl rfl rfl Try.sizeOf33 rfl rfl (by first | (right; assumption) | (left; simp)) ?_)
              intro w st; dsimp only [setNth, wr] at st
              refine vi_end ?_
              refine fun a' ha' => ⟨[(3, _), (10, _), (11, _)], [.blk b11 (.cells (tokL x).toArray 33 (0, 0)), .blk b10 (.cells [.slice oa' pre.length cap'].toArray 24 (0, 0)), .own (.slice oa' pre.length cap') 33 4 pre.length (toksL pre), .blk b3 (.cells [.int .i64 (mm most : Int)].toArray 3 (0, 0)), .own (.slice oa n cap) 33 4 n (toksL (toksE s)), .blk bE (.cells [str s].toArray 9 (0, 0))], ha'.sub ⟨rfl, rfl, rfl, trivial⟩, (by repeat (first | exact safeAll_nil | refine safeAll_cons (by first | rfl | exact fun _ _ => rfl) ?_)), st.drop (by repeat (first | exact List.Sublist.slnil | apply List.Sublist.cons_cons | apply List.Sublist.cons)), st.drop (by repeat (first | exact List.Sublist.slnil | apply List.Sublist.cons_cons | apply List.Sublist.cons)), fun w st => ?_⟩
              refine vr_block ?_
              refine vr_seq ?_
              refine vr_region (by repeat (first | exact noOut_round | exact noOut_false | exact noOut_bodyp (fun w h => by simp at h) | refine noOut_then ?_ | refine noOut_block ?_)) (fun hQ => ?_)
              refine vi_y hQ rfl rfl rfl ((by first | exact y_ld st 0 rfl Try.isAgg24 rfl rfl | exact y_ld st 1 rfl Try.isAgg24 rfl rfl | exact y_ld st 2 rfl Try.isAgg24 rfl rfl | exact y_ld st 3 rfl Try.isAgg24 rfl rfl | exact y_ld st 4 rfl Try.isAgg24 rfl rfl | exact y_ld st 5 rfl Try.isAgg24 rfl rfl)) ?_
              refine vi_y hQ rfl rfl rfl ((by first | exact y_lda (vs := [_, _, _, _]) st 0 rfl Try.isAgg33 Try.sizeOf33 rfl rfl | exact y_lda (vs := [_, _, _, _]) st 1 rfl Try.isAgg33 Try.sizeOf33 rfl rfl | exact y_lda (vs := [_, _, _, _]) st 2 rfl Try.isAgg33 Try.sizeOf33 rfl rfl | exact y_lda (vs := [_, _, _, _]) st 3 rfl Try.isAgg33 Try.sizeOf33 rfl rfl | exact y_lda (vs := [_, _, _, _]) st 4 rfl Try.isAgg33 Try.sizeOf33 rfl rfl | exact y_lda (vs := [_, _, _, _]) st 5 rfl Try.isAgg33 Try.sizeOf33 rfl rfl)) ?_
              refine vi_e hQ rfl (e_bs1 (l := [_, _, _, _]) st rfl rfl rfl rfl Try.underlying24 Try.sizeOf33 rfl rfl rfl Try.zeroValue33 ?_)
              intro b42 w hb42 st
              refine vi_e hQ rfl (e_app (bytes := 40) st 4 0 rfl rfl rfl rfl rfl rfl Try.underlying24 Try.info33 rfl rfl rfl rfl rfl (by simp) rfl rfl (by unfold maxLen; omega) (by omega) ?_)
              intro oa43 cap43 w st; dsimp only [setNth] at st
              first
              | refine vi_e hQ rfl (e_st st 0 rfl rfl rfl rfl Try.sizeOf24 rfl rfl (by first | (right; assumption) | (left; simp)) ?_)
              | refine vi_e hQ rfl (e_st st 1 rfl rfl rfl rfl Try.sizeOf24 rfl rfl (by first | (right; assumption) | (left; simp)) ?_)
              | refine vi_e hQ rfl (e_st st 2 rfl rfl rfl rfl Try.sizeOf24 rfl rfl (by first | (right; assumption) | (left; simp)) ?_)
              | refine vi_e hQ rfl (e_st st 3 rfl rfl rfl rfl Try.sizeOf24 rfl rfl (by first | (right; assumption) | (left; simp)) ?_)
              | refine vi_e hQ rfl (e_st st 4 rfl rfl rfl rfl Try.sizeOf24 rfl rfl (by first | (right; assumption) | (left; simp)) ?_)
              | refine vi_e hQ rfl (e_st st 5 rfl rfl rfl rfl Try.sizeOf24 rfl rfl (by first | (right; assumption) | (left; simp)) ?_)
              intro w st; dsimp only [setNth, wr] at st
              refine vi_end ?_
              refine vq_then_r ?_
              refine vr_seq ?_
              refine vr_region (by repeat (first | exact noOut_round | exact noOut_false | exact noOut_bodyp (fun w h => by simp at h) | refine noOut_then ?_ | refine noOut_block ?_)) (fun hQ => ?_)
              refine vi_y hQ rfl rfl rfl ((by first | exact y_ld st 0 rfl Try.isAgg24 rfl rfl | exact y_ld st 1 rfl Try.isAgg24 rfl rfl | exact y_ld st 2 rfl Try.isAgg24 rfl rfl | exact y_ld st 3 rfl Try.isAgg24 rfl rfl | exact y_ld st 4 rfl Try.isAgg24 rfl rfl | exact y_ld st 5 rfl Try.isAgg24 rfl rfl)) ?_
              refine vi_y hQ rfl rfl rfl (y_lensl rfl Try.underlying24) ?_
              refine vi_y hQ rfl rfl rfl ((by first | exact y_ld st 0 rfl Try.isAgg3 rfl rfl | exact y_ld st 1 rfl Try.isAgg3 rfl rfl | exact y_ld st 2 rfl Try.isAgg3 rfl rfl | exact y_ld st 3 rfl Try.isAgg3 rfl rfl | exact y_ld st 4 rfl Try.isAgg3 rfl rfl | exact y_ld st 5 rfl Try.isAgg3 rfl rfl)) ?_
              refine vi_y hQ rfl rfl rfl (y_geq rfl rfl) ?_
              refine vi_end ?_
              refine vq_then_r ?_
              refine vr_ifs rfl ?_ ?_
              · intro hc47
                try simp only [decide_eq_true_eq, decide_eq_false_iff_not, Bool.not_eq_true', Bool.not_eq_false', Bool.not_eq_true, Bool.not_eq_false, Int.not_lt, Int.not_le, Nat.not_lt, Nat.not_le, Bool.not_true, Bool.not_false, Bool.true_eq_false, Bool.false_eq_true] at hc47
                refine vr_exit ?_
                refine vq_block_other rfl ?_
                refine fun a _ => ⟨(oa43, cap43), ⟨rfl, by simp; omega⟩, ?_⟩
                simp only [List.length_append, List.length_cons, List.length_nil, toksL_snoc]
                exact st.drop (by repeat (first | exact List.Sublist.slnil | apply List.Sublist.cons_cons | apply List.Sublist.cons))
              · intro hc47
                try simp only [decide_eq_true_eq, decide_eq_false_iff_not, Bool.not_eq_true', Bool.not_eq_false', Bool.not_eq_true, Bool.not_eq_false, Int.not_lt, Int.not_le, Nat.not_lt, Nat.not_le, Bool.not_true, Bool.not_false, Bool.true_eq_false, Bool.false_eq_true] at hc47
                refine vr_skip ?_
                refine vq_block ?_
                refine fun a _ => ⟨(oa43, cap43), by simp; omega, ?_⟩
                simp only [List.length_append, List.length_cons, List.length_nil, toksL_snoc]
                exact st.drop (by repeat (first | exact List.Sublist.slnil | apply List.Sublist.cons_cons | apply List.Sublist.cons))
            · rintro D xs ⟨oa', cap'⟩ w hDg hD hnc hS hlt st
              have hG : xs = (toksE s).take (mm most) := by rw [show xs = toksE s from hS, List.take_of_length_le (by rw [← show xs = toksE s from hS]; omega)]
              clear hlt hS
              try dsimp only at *
              have hnd2 : (D :: Ds).Nodup := List.nodup_cons.2 ⟨fun h => by have := (Array.getElem?_eq_some_iff.1 (hD0 D h)).1; omega, hnd⟩
              have hge2 : ∀ D' ∈ D :: Ds, w0.heap.size ≤ D' ∧ w.heap[D']? = some (.deferred (some [])) := by
                intro D' h
                rcases List.mem_cons.1 h with rfl | h
                · exact ⟨Nat.le_trans hw00 hDg, hD⟩
                · exact ⟨(hge D' h).1, hnc _ _ (hD0 D' h) rfl⟩
              replace st := st.hold (T := fun o => !o.isCells) (by repeat (first | exact safeAll_nil | refine safeAll_cons (by first | rfl | exact fun _ _ => rfl) ?_))
              refine vq_block ?_
              refine vq_then ?_
              refine vc_keep [(3, _), (5, _), (8, _), (9, _), (10, _)] ⟨rfl, rfl, rfl, rfl, rfl, trivial⟩ ?_
              refine vc_seq ?_
              refine vc_region ?_
              refine vc_y rfl rfl ((by first | exact y_ld st 0 rfl Try.isAgg24 rfl rfl | exact y_ld st 1 rfl Try.isAgg24 rfl rfl | exact y_ld st 2 rfl Try.isAgg24 rfl rfl | exact y_ld st 3 rfl Try.isAgg24 rfl rfl | exact y_ld st 4 rfl Try.isAgg24 rfl rfl | exact y_ld st 5 rfl Try.isAgg24 rfl rfl)) ?_
              refine vc_y rfl rfl (y_mv rfl) ?_
              have hk2 : k = ((toksE s).take (mm most)).length := by rw [List.length_take]; omega
              have ra := isToks_own (A := xs.map tvOf) (oa := oa') (cap := cap') (by rw [List.length_map, ← toksL_tv]; exact st.res (i := 2) rfl)
              have rb := (isToks_own (A := (toksE s).map tvOf) (oa := oa) (cap := cap) (by rw [List.length_map, ← toksL_tv, ← hn]; exact st.res (i := 4) rfl)).take (mm most)
              refine vc_e (e_call [_, _, _] rfl rfl Try.call23 rfl (by have h := rsame_any (xs.map tvOf) (((toksE s).map tvOf).take (mm most)) oa' oa cap' cap true _ ra rb (by unfold maxLen; simp [hG]; omega); rw [List.length_map, ← List.map_take, List.length_map, ← hk2] at h; exact h) ?_)
              rintro _ w ⟨⟨r', rfl, hSame⟩, cw⟩
              obtain rfl : r' = true := hSame.2 (by rw [hG]; exact SameP.refl _ _)
              replace st := st.call0 cw
              refine vc_y rfl rfl (y_not rfl) ?_
              refine vc_end ?_
              refine vq_then ?_
              refine vc_keep [(3, _), (5, _), (8, _), (9, _), (51, _)] ⟨rfl, rfl, rfl, rfl, rfl, trivial⟩ ?_
              refine vc_ifs rfl ?_ ?_
              · intro hc51
                (exfalso; simp at hc51)
              · intro hc51
                try simp only [decide_eq_true_eq, decide_eq_false_iff_not, Bool.not_eq_true', Bool.not_eq_false', Bool.not_eq_true, Bool.not_eq_false, Int.not_lt, Int.not_le, Nat.not_lt, Nat.not_le, Bool.not_true, Bool.not_false, Bool.true_eq_false, Bool.false_eq_true] at hc51
                refine vc_code_skip ?_
                refine vq_block ?_
                refine vq_then ?_
                refine vc_keep [(3, _), (5, _), (8, _), (9, _)] ⟨rfl, rfl, rfl, rfl, trivial⟩ ?_
                refine vc_region ?_
                refine vc_y rfl rfl (y_mv rfl) ?_
                refine vc_y rfl rfl (y_add rfl rfl rfl (by omega) (by omega)) ?_
                refine vc_y rfl rfl (y_as rfl) ?_
                refine vc_end ?_
                refine vq_againn (r + 1, D :: Ds) rfl ⟨rfl, rfl, rfl, rfl, trivial⟩ (st.drop (by repeat (first | exact List.Sublist.slnil | apply List.Sublist.cons_cons | apply List.Sublist.cons))) ⟨by dsimp only; omega, hnd2, fun D' h => ⟨(hge2 D' h).1, (holdT (st.res (i := 0) rfl)).same D' _ (hge2 D' h).2 rfl⟩⟩ (by dsimp only; omega)
            · rintro D c xs ⟨oa', cap'⟩ w hDg hD hnc hS ⟨rfl, hlen⟩ st
              have hG : xs = (toksE s).take (mm most) := pre_take hS hlen
              clear hlen hS
              try dsimp only at *
              have hnd2 : (D :: Ds).Nodup := List.nodup_cons.2 ⟨fun h => by have := (Array.getElem?_eq_some_iff.1 (hD0 D h)).1; omega, hnd⟩
              have hge2 : ∀ D' ∈ D :: Ds, w0.heap.size ≤ D' ∧ w.heap[D']? = some (.deferred (some [])) := by
                intro D' h
                rcases List.mem_cons.1 h with rfl | h
                · exact ⟨Nat.le_trans hw00 hDg, hD⟩
                · exact ⟨(hge D' h).1, hnc _ _ (hD0 D' h) rfl⟩
              replace st := st.hold (T := fun o => !o.isCells) (by repeat (first | exact safeAll_nil | refine safeAll_cons (by first | rfl | exact fun _ _ => rfl) ?_))
              refine vc_exit ?_
              refine vq_block_exit ?_
              refine vq_then ?_
              refine vc_keep [(3, _), (5, _), (8, _), (9, _), (10, _)] ⟨rfl, rfl, rfl, rfl, rfl, trivial⟩ ?_
              refine vc_seq ?_
              refine vc_region ?_
              refine vc_y rfl rfl ((by first | exact y_ld st 0 rfl Try.isAgg24 rfl rfl | exact y_ld st 1 rfl Try.isAgg24 rfl rfl | exact y_ld st 2 rfl Try.isAgg24 rfl rfl | exact y_ld st 3 rfl Try.isAgg24 rfl rfl | exact y_ld st 4 rfl Try.isAgg24 rfl rfl | exact y_ld st 5 rfl Try.isAgg24 rfl rfl)) ?_
              refine vc_y rfl rfl (y_mv rfl) ?_
              have hk2 : k = ((toksE s).take (mm most)).length := by rw [List.length_take]; omega
              have ra := isToks_own (A := xs.map tvOf) (oa := oa') (cap := cap') (by rw [List.length_map, ← toksL_tv]; exact st.res (i := 2) rfl)
              have rb := (isToks_own (A := (toksE s).map tvOf) (oa := oa) (cap := cap) (by rw [List.length_map, ← toksL_tv, ← hn]; exact st.res (i := 4) rfl)).take (mm most)
              refine vc_e (e_call [_, _, _] rfl rfl Try.call23 rfl (by have h := rsame_any (xs.map tvOf) (((toksE s).map tvOf).take (mm most)) oa' oa cap' cap true _ ra rb (by unfold maxLen; simp [hG]; omega); rw [List.length_map, ← List.map_take, List.length_map, ← hk2] at h; exact h) ?_)
              rintro _ w ⟨⟨r', rfl, hSame⟩, cw⟩
              obtain rfl : r' = true := hSame.2 (by rw [hG]; exact SameP.refl _ _)
              replace st := st.call0 cw
              refine vc_y rfl rfl (y_not rfl) ?_
              refine vc_end ?_
              refine vq_then ?_
              refine vc_keep [(3, _), (5, _), (8, _), (9, _), (51, _)] ⟨rfl, rfl, rfl, rfl, rfl, trivial⟩ ?_
              refine vc_ifs rfl ?_ ?_
              · intro hc51
                (exfalso; simp at hc51)
              · intro hc51
                try simp only [decide_eq_true_eq, decide_eq_false_iff_not, Bool.not_eq_true', Bool.not_eq_false', Bool.not_eq_true, Bool.not_eq_false, Int.not_lt, Int.not_le, Nat.not_lt, Nat.not_le, Bool.not_true, Bool.not_false, Bool.true_eq_false, Bool.false_eq_true] at hc51
                refine vc_code_skip ?_
                refine vq_block ?_
                refine vq_then ?_
                refine vc_keep [(3, _), (5, _), (8, _), (9, _)] ⟨rfl, rfl, rfl, rfl, trivial⟩ ?_
                refine vc_region ?_
                refine vc_y rfl rfl (y_mv rfl) ?_
                refine vc_y rfl rfl (y_add rfl rfl rfl (by omega) (by omega)) ?_
                refine vc_y rfl rfl (y_as rfl) ?_
                refine vc_end ?_
                refine vq_againn (r + 1, D :: Ds) rfl ⟨rfl, rfl, rfl, rfl, trivial⟩ (st.drop (by repeat (first | exact List.Sublist.slnil | apply List.Sublist.cons_cons | apply List.Sublist.cons))) ⟨by dsimp only; omega, hnd2, fun D' h => ⟨(hge2 D' h).1, (holdT (st.res (i := 0) rfl)).same D' _ (hge2 D' h).2 rfl⟩⟩ (by dsimp only; omega)
          · intro hc35
            try simp only [decide_eq_true_eq, decide_eq_false_iff_not, Bool.not_eq_true', Bool.not_eq_false', Bool.not_eq_true, Bool.not_eq_false, Int.not_lt, Int.not_le, Nat.not_lt, Nat.not_le, Bool.not_true, Bool.not_false, Bool.true_eq_false, Bool.false_eq_true] at hc35
            refine vc_exit ?_
            refine vq_then_exit ?_
            refine vq_then_exit ?_
            refine vq_block_exit ?_
            refine vq_then ?_
            refine vc_keep [] trivial ?_
            refine vc_seq ?_
            refine vc_region ?_
            refine vc_y rfl rfl (y_as rfl) ?_
            refine vc_end ?_
            refine vq_then ?_
            refine vc_keep [(4, _)] ⟨rfl, trivial⟩ ?_
            refine vc_ret ?_
            refine vq_retM Ds st (.inl rfl) Try.results8 rfl hnd (fun D hD => ⟨(hge D hD).2, (hge D hD).1⟩) (fun w' c => ⟨_, rfl, ?_⟩)
            exact ⟨rfl, c⟩

theorem own8 : ownKnob Try.prog.godebug = none := by kernel_rfl
set_option maxRecDepth 100000 in
theorem liftedLexerEach (os : Os) (started : os.Started) (H : Type) (enc : TypeId × Value → H) (F : Stop.Interp) :
    ReturnsInHanded {} Try.checked os 8 .any ((Rows.OpenSpec.upto Rows.lexerEachSpec).pre6 enc Try.prog Try.f8 Rows.lexerEachUptoRow.domain false) (((Rows.OpenSpec.upto Rows.lexerEachSpec).at F).post enc Try.prog Try.f8 false true false false) := by
  refine returnsInHanded_of_cond (C := Try.checked) (s := Rows.OpenSpec.upto Rows.lexerEachSpec) (k := Rows.uptoSmall) rfl own8 started (by kernel_rfl) Try.func8
    (OpenSpec.witness (enc := enc) (C := Try.checked) (s := Rows.OpenSpec.upto Rows.lexerEachSpec) (k := Rows.uptoSmall) rfl false ⟨#[], #[.string ⟨#[]⟩, .int .i64 0], []⟩ 8 (by kernel_rfl) (by kernel_rfl) (by kernel_rfl)
      (x := ([.lit (.string []), .lit (.int .i64 0)], [], [])) (by kernel_rfl) rfl (by kernel_rfl)) ?_
  intro W base args ds gs before hval0 hW _ hk _
  have hval : ∀ (j : Nat) t v, Try.f8.params[j]? = some t → args[j]? = some v → Value.okWide Try.prog W .any base t v := hval0
  have hW' := hW
  obtain ⟨p, q, hA0, hV, rfl, hfz, hnd⟩ := hW
  have hA : DataW.TrodAll enc Try.prog W 0 (fun _ => true) true Try.f8.params.toList args.toList ds p := hA0
  rw [Try.params8] at hA hval
  obtain ⟨v0, vs0, d0, ds0, p0, q0, hargs, rfl, rfl, h0, r0⟩ := trodAll_cons hA
  obtain ⟨v1, vs1, d1, ds1, p1, q1, rfl, rfl, rfl, h1, r1⟩ := trodAll_cons r0
  obtain ⟨rfl, rfl, rfl⟩ := trodAll_nil r1
  obtain rfl : args = #[v0, v1] := by cases args; simp_all
  obtain ⟨rfl, rfl⟩ := trodVars_none hV
  obtain ⟨a0, rfl, rfl, rfl, w0⟩ := open_string Try.underlying9 (hval 0 9 v0 rfl rfl) h0
  obtain ⟨a1, rfl, rfl, rfl, w1⟩ := open_int Try.underlying3 (hval 1 3 v1 rfl rfl) h1
  clear hA0 hval0
  have hsmall : a0.data.toList.length + 0 ≤ 1048576 := by
    have h := of_decide_eq_true hk
    simp only [List.cons_append, List.nil_append, Rows.uptoBulkAll, Rows.uptoBulk] at h
    omega
  have hwalk := lawLexerEach a0.data.toList w0 a1 w1 hsmall W
  refine Calls.mono hwalk fun e W' ⟨u, he, hu, hc⟩ => ?_
  subst he
  subst hu
  have bel := hc.below
  exact ⟨_, rfl, _, _, _, [], _, [], hW', trodAll_mk1 (shut_bool Try.underlying4 _), (trodAll_cons_mk (shut_string Try.underlying9 w0) (trodAll_cons_mk (shut_int Try.underlying3 w1) trodAll_mk0)), rfl, bel.frame _, fun h => by cases h⟩
theorem overLexerEach : Rows.lexerEachUptoRow.holds Try.pinned (Rows.OpenSpec.upto Rows.lexerEachSpec) :=
  OpenClaim.holds_of_cond 8 Try.f8 rfl rfl rfl rfl rfl rfl rfl ⟨rfl, rfl, rfl, rfl, rfl⟩ rfl rfl rfl rfl rfl (by kernel_rfl) Try.func8 (by kernel_rfl)
    (of_decide_eq_true (by kernel_rfl)) (by unfold Func.isWrapper; first | (rw [if_pos (by decide +kernel)]; kernel_rfl) | (rw [if_neg (by decide +kernel)]; exact ⟨rfl, rfl⟩))
    (fun os started H enc _ F => liftedLexerEach os started H enc F)
theorem provedLexerEach : Rows.LexerEachUptoSaid := overLexerEach

end Go.Proofs.Ytakepmhgmgpkkaa
