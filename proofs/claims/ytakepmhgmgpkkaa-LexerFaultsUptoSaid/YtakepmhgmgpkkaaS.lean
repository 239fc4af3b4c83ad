/- A part of the proof: contracts of functions and plain laws; each theorem says its own conditions. -/
import Derived.Test.YtakepmhgmgpkkaaM
import Derived.Test.YtakepmhgmgpkkaaSxRange2
import Derived.Test.YtakepmhgmgpkkaaSxMore3
namespace Go.Proofs.Ytakepmhgmgpkkaa
open Go.RowKit Sx LexS
set_option linter.unusedVariables false
set_option linter.unusedSimpArgs false
/-- a scanner's block -/
def isScn (o : Obj) : Bool := match o with | .cells _ e _ => Nat.beq e 51 | _ => false
def toksE (s : List UInt8) : List Tok := if 65536 < s.length then [] else (front s).1
theorem keepO_chg {b : Nat} {T : Obj → Bool} {A C : World} (h : Chg [] A C) : KeepO b T A C :=
  ⟨h.os, h.tape, h.output, h.size, fun k o hk _ => h.heap hk (by simp)⟩
theorem keepO_chg1 {b p : Nat} {T : Obj → Bool} {A C : World} {o : Obj} (h : Chg [p] A C) (ho : A.heap[p]? = some o) (ht : T o = true) (hb : b ≤ p) : KeepO b T A C :=
  ⟨h.os, h.tape, h.output, h.size, fun k q hk hq => h.heap hk (by
    simp only [List.mem_singleton]
    rintro rfl
    rw [ho] at hk; cases hk
    rcases hq with hq | hq
    · omega
    · rw [ht] at hq; cases hq)⟩
theorem isScn_scn (s : List UInt8) (j a b : Int) : isScn (scn s j a b) = true := rfl

set_option maxHeartbeats 1000000 in
theorem each_seq (b1 : Nat) (s : List UInt8) : SeqX Try.prog isScn isScn 38 #[.pointer (some ⟨b1, 0, none⟩)] (fun x : Tok => #[.agg (tokL x).toArray]) (fun xs => xs = toksE s) (fun pre => pre <+: toksE s) (toksE s).length (fun W => W.heap[b1]? = some (.cells [str s].toArray 9 (0, 0))) := by
  intro l J Jx w hb hJ hJx hY hJ0
  refine callsIn_enter [_, _] Try.func38 rfl Try.ntmps38 rfl ?_
  
  have st := St.of1 [] hb
  refine vr_seq ?_
  refine vr_seq ?_
  refine vr_region (by repeat (first | exact noOut_round | exact noOut_false | exact noOut_bodyp (fun w h => by simp at h) | refine noOut_then ?_ | refine noOut_block ?_)) (fun hQ => ?_)
  refine vi_y hQ rfl rfl rfl ((by first | exact y_ld st 0 rfl Try.isAgg9 rfl rfl | exact y_ld st 1 rfl Try.isAgg9 rfl rfl | exact y_ld st 2 rfl Try.isAgg9 rfl rfl)) ?_
  refine vi_y hQ rfl rfl rfl (y_lens rfl Try.underlying9) ?_
  refine vi_y hQ rfl rfl rfl (y_gtr rfl rfl) ?_
  refine vi_end ?_
  refine vq_then_r ?_
  refine vr_ifs rfl ?_ ?_
  · intro hc8
    try simp only [decide_eq_true_eq, decide_eq_false_iff_not, Bool.not_eq_true', Bool.not_eq_false', Bool.not_eq_true, Bool.not_eq_false, Int.not_lt, Int.not_le, Nat.not_lt, Nat.not_le, Bool.not_true, Bool.not_false, Bool.true_eq_false, Bool.false_eq_true] at hc8
    refine vr_ret ?_
    refine vq_then_ret ?_
    refine vq_ret0 (.inl rfl) Try.results38 ?_
    refine ⟨⟨_, rfl⟩, ?_⟩
    refine .inl ⟨[], ?_, hJ0⟩
    unfold toksE; rw [if_pos (by omega)]
  · intro hc8
    try simp only [decide_eq_true_eq, decide_eq_false_iff_not, Bool.not_eq_true', Bool.not_eq_false', Bool.not_eq_true, Bool.not_eq_false, Int.not_lt, Int.not_le, Nat.not_lt, Nat.not_le, Bool.not_true, Bool.not_false, Bool.true_eq_false, Bool.false_eq_true] at hc8
    refine vr_skip ?_
    refine vq_then_r ?_
    refine vr_seq ?_
    refine vr_region (by repeat (first | exact noOut_round | exact noOut_false | exact noOut_bodyp (fun w h => by simp at h) | refine noOut_then ?_ | refine noOut_block ?_)) (fun hQ => ?_)
    refine vi_y hQ rfl rfl rfl ((by first | exact y_ld st 0 rfl Try.isAgg9 rfl rfl | exact y_ld st 1 rfl Try.isAgg9 rfl rfl | exact y_ld st 2 rfl Try.isAgg9 rfl rfl)) ?_
    refine vi_y hQ rfl rfl rfl (y_bld (.agg #[_, _, _, _]) [(0, _)] rfl (fun w => by simp [Instr.build, go_sem] <;> repeat' constructor)) ?_
    refine vi_e hQ rfl (e_bx (l := [_, _, _, _]) st rfl rfl rfl rfl ?_)
    intro b11 w hb11 st
    have hJ1 := hJ [] _ _ hJ0 (keepO_chg st.chg)
    refine vi_y hQ rfl rfl rfl (y_as rfl) ?_
    refine vi_end ?_
    refine vq_then_r ?_
    refine vr_block ?_
    have hsc0 := st.res (i := 0) rfl
    refine vr_loopw (fun (x : Nat × List Tok) => [(0, .func (.yield l) #[] #[]), (3, .pointer (some ⟨b11, 0, none⟩))]) (fun x w' => x.1 ≤ s.length ∧ w'.heap[b11]? = some (scn s x.1 0 0) ∧ J x.2 w' ∧ (front s).1 = x.2 ++ (scanA (s.drop x.1) x.1).1) (fun x => s.length - x.1) (0, []) ⟨rfl, rfl, trivial⟩ ⟨by simp, hsc0, hJ1, by simp [front_eq]⟩ ?_
    clear hJ1 hsc0 st
    have hbsc := hb11
    rintro ⟨i, pre⟩ w ⟨hi, hsc, hJp, hf1⟩
    dsimp only at *
    have st := St.of1 [b11] hsc
    refine vr_block ?_
    refine vr_seq ?_
    refine vr_region (by repeat (first | exact noOut_round | exact noOut_false | exact noOut_bodyp (fun w h => by simp at h) | refine noOut_then ?_ | refine noOut_block ?_)) (fun hQ => ?_)
    refine vi_y hQ rfl rfl rfl (y_mv rfl) ?_
    refine vi_e hQ rfl (e_call [_] rfl rfl Try.call35 rfl (next_any b11 s i _ (st.res (i := 0) rfl) hi (by omega)) ?_)
    rintro _ w ⟨cw, hp⟩
    obtain ⟨k, t, wd, a, ok, j, fa, fr, rfl, hw, hrel⟩ := nx_flat hp
    replace st := st.turn (i := 0) (r' := .blk b11 _) rfl rfl rfl cw (.inl (by simp)) hw
    dsimp only [setNth] at st
    refine vi_y hQ rfl rfl rfl (y_mv rfl) ?_
    refine vi_y hQ rfl rfl rfl (y_ext rfl rfl) ?_
    refine vi_y hQ rfl rfl rfl (y_ext rfl rfl) ?_
    refine vi_e hQ rfl (e_al (l := [_, _, _, _]) st rfl rfl Try.zeroValue33 rfl ?_)
    intro b4 w hb4 st
    first
    | refine vi_e hQ rfl (e_sts (vs := [_, _, _, _]) st 0 rfl rfl rfl rfl rfl Try.sizeOf33 rfl rfl (by first | (right; assumption) | (left; simp)) ?_)
    | refine vi_e hQ rfl (e_sts (vs := [_, _, _, _]) st 1 rfl rfl rfl rfl rfl Try.sizeOf33 rfl rfl (by first | (right; assumption) | (left; simp)) ?_)
    | refine vi_e hQ rfl (e_sts (vs := [_, _, _, _]) st 2 rfl rfl rfl rfl rfl Try.sizeOf33 rfl rfl (by first | (right; assumption) | (left; simp)) ?_)
    intro w st; dsimp only [setNth, wr] at st
    refine vi_y hQ rfl rfl rfl (y_as rfl) ?_
    refine vi_end ?_
    refine vq_then_r ?_
    refine vr_seq ?_
    refine vr_region (by repeat (first | exact noOut_round | exact noOut_false | exact noOut_bodyp (fun w h => by simp at h) | refine noOut_then ?_ | refine noOut_block ?_)) (fun hQ => ?_)
    refine vi_y hQ rfl rfl rfl (y_mv rfl) ?_
    refine vi_y hQ rfl rfl rfl (y_not rfl) ?_
    refine vi_e hQ rfl (e_mvb rfl rfl rfl ?_ ?_)
    · intro hg19
      try simp only [decide_eq_true_eq, decide_eq_false_iff_not, Bool.not_eq_true', Bool.not_eq_false', Bool.not_eq_true, Bool.not_eq_false, Int.not_lt, Int.not_le, Nat.not_lt, Nat.not_le, Bool.not_true, Bool.not_false, Bool.true_eq_false, Bool.false_eq_true] at hg19
      refine vi_e hQ rfl (e_skip rfl rfl ?_)
      refine vi_e hQ rfl (e_skip rfl rfl ?_)
      refine vi_e hQ rfl (e_skip rfl rfl ?_)
      refine vi_e hQ rfl (e_skip rfl rfl ?_)
      refine vi_y hQ rfl rfl rfl (y_pickt rfl rfl) ?_
      refine vi_end ?_
      refine vq_then_r ?_
      refine vr_ift rfl ?_
      refine vr_ret ?_
      refine vq_block_ret ?_
      refine vq_then_ret ?_
      refine vq_block_ret ?_
      refine vq_ret0 (.inl rfl) Try.results38 ?_
      refine ⟨⟨_, rfl⟩, ?_⟩
      refine .inl ⟨pre, ?_, hJ pre _ _ hJp (keepO_chg1 st.chg hsc (isScn_scn _ _ _ _) hbsc)⟩
      unfold toksE; rw [if_neg (by omega), hf1]
      rcases hrel with ⟨h, _⟩ | ⟨_, hle, _⟩ | ⟨_, rule, p, hlt, hx, rfl, rfl⟩
      · simp [h] at hg19
      · rw [scanA_end (by simp; omega)]; simp
      · rw [scanA_bad (by simp; omega) (by rw [List.drop_drop]; exact hx)]; simp
    · intro hg19
      try simp only [decide_eq_true_eq, decide_eq_false_iff_not, Bool.not_eq_true', Bool.not_eq_false', Bool.not_eq_true, Bool.not_eq_false, Int.not_lt, Int.not_le, Nat.not_lt, Nat.not_le, Bool.not_true, Bool.not_false, Bool.true_eq_false, Bool.false_eq_true] at hg19
      refine vi_y hQ rfl rfl rfl (y_mv rfl) ?_
      refine vi_y hQ rfl rfl rfl ((by first | exact y_lda (vs := [_, _, _, _]) st 0 rfl Try.isAgg33 Try.sizeOf33 rfl rfl | exact y_lda (vs := [_, _, _, _]) st 1 rfl Try.isAgg33 Try.sizeOf33 rfl rfl | exact y_lda (vs := [_, _, _, _]) st 2 rfl Try.isAgg33 Try.sizeOf33 rfl rfl)) ?_
      have hJ1 := hJ pre _ _ hJp (keepO_chg1 st.chg hsc (isScn_scn _ _ _ _) hbsc)
      rcases hrel with ⟨_, x, hlt, hx, rfl, rfl, rfl, rfl, rfl, rfl, rfl⟩ | ⟨h, _⟩ | ⟨h, _⟩
      case inr.inl => simp [h] at hg19
      case inr.inr => simp [h] at hg19
      have hx1 := tok_len hx
      have hxl : x.text.length ≤ s.length - (i + skip (List.drop i s)) := by have h := congrArg List.length hx1.2.1; simp at h; omega
      have hsc2 := scanA_tok (r := s.drop i) (i := i) (by simp; omega) (by rw [List.drop_drop]; exact hx)
      rw [List.drop_drop, ← Nat.add_assoc] at hsc2
      have hpl : pre.length < (front s).1.length := by rw [hf1, hsc2]; simp
      have hE : toksE s = (front s).1 := by unfold toksE; rw [if_neg (by omega)]
      refine vi_yield [_] rfl rfl rfl rfl (hY pre x _ hJ1 (by rw [hE]; exact hpl)) ?_
      rintro e w' (⟨rfl, hJ', hk⟩ | ⟨rfl, hJx'⟩) <;> refine ⟨_, rfl, ?_⟩
      · have hw3 := hk.same _ _ (st.res (i := 1) rfl) rfl
        refine vi_y hQ rfl rfl rfl (y_not rfl) ?_
        refine vi_y hQ rfl rfl rfl (y_pickf rfl rfl) ?_
        refine vi_end ?_
        refine vq_then_r ?_
        refine vr_iff rfl ?_
        refine vr_skip ?_
        refine vq_block ?_
        refine vq_againw (i + skip (List.drop i s) + x.text.length, pre ++ [x]) ⟨rfl, rfl, trivial⟩ ⟨by dsimp only; omega, hw3, hJ', ?_⟩ (by dsimp only; omega)
        rw [hf1, hsc2]; simp
      · 
        refine vi_y hQ rfl rfl rfl (y_not rfl) ?_
        refine vi_y hQ rfl rfl rfl (y_pickf rfl rfl) ?_
        refine vi_end ?_
        refine vq_then_r ?_
        refine vr_ift rfl ?_
        refine vr_ret ?_
        refine vq_block_ret ?_
        refine vq_then_ret ?_
        refine vq_block_ret ?_
        refine vq_ret0 (.inl rfl) Try.results38 ?_
        refine ⟨⟨_, rfl⟩, ?_⟩
        refine .inr ⟨pre ++ [x], ?_, hJx'⟩
        rw [hE, hf1, hsc2]
        simp

theorem each_any (s : List UInt8) (w : World) : Ret Try.prog 25 [str s] w fun v w' => ∃ b, w.heap.size ≤ b ∧ v = .func (.func 38) #[] #[.pointer (some ⟨b, 0, none⟩)] ∧ w'.heap[b]? = some (.cells [str s].toArray 9 (0, 0)) ∧ Chg [] w w' := by
  refine ret_of [_] Try.func25 rfl Try.ntmps25 rfl ?_
  have st := St.init w []
  refine vc_seq ?_
  refine vc_region ?_
  refine vc_e (e_bx (l := [_]) st rfl rfl rfl rfl ?_)
  intro b1 w hb1 st
  refine vc_y rfl rfl (y_as rfl) ?_
  refine vc_end ?_
  refine vq_then ?_
  refine vc_keep [(1, _)] ⟨rfl, trivial⟩ ?_
  refine vc_seq ?_
  refine vc_region ?_
  refine vc_y rfl rfl (y_mf [] [_] rfl rfl) ?_
  refine vc_y rfl rfl (y_as rfl) ?_
  refine vc_end ?_
  refine vq_then ?_
  refine vc_keep [(2, _)] ⟨rfl, trivial⟩ ?_
  refine vc_ret ?_
  refine vq_ret1 st (.inl rfl) Try.results25 (.tmp rfl) ?_
  refine ⟨_, rfl, ?_⟩
  exact ⟨_, hb1, rfl, st.res (i := 0) rfl, st.chg⟩

end Go.Proofs.Ytakepmhgmgpkkaa
