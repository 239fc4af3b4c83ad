/- A part of the proof: contracts of functions and plain laws; each theorem says its own conditions. -/
import Derived.Test.YtnmhlpnapgojjaaGreatDoorPrettyOwnK1
import Derived.Test.YtnmhlpnapgojjaaGreatDoorPrettyOwnK0
set_option linter.unusedVariables false
set_option linter.unusedSimpArgs false
namespace Go.Proofs.YtnmhlpnapgojjaaGreatDoor
open Go.RowKit Sx LexS _root_.Go.Proofs.Tryz
/-- the table of signs lies where the program has it -/
def Sig (w : World) : Prop := ∀ k, k < 19 → w.cell? ⟨0, k * 2, none⟩ = some (str (sgn k)) ∧ w.cell? ⟨0, k * 2 + 1, none⟩ = some (.int .i64 (lvl k))
theorem Sig.kept {w w' : World} (h : Sig w) (c : Chg [] w w') : Sig w' := fun k hk => ⟨c.cell (h k hk).1 (by simp), c.cell (h k hk).2 (by simp)⟩

theorem known_any (k : Int) (w : World) : Ret Tryz.prog 157 [.int .u8 k] w fun v w' => v = .bool (knownOp k) ∧ w' = w := by
  refine ret_of [_] func157 rfl ntmps157 rfl ?_
  have st := St.init w []
  refine vc_seq (vc_region ?_)
  refine ya ?_
  refine vc_end (vq_then (vk1 0 (vc_seq (vc_region ?_))))
  refine ym ?_
  refine vy (y_gtr rfl rfl) ?_
  refine vmb ?_ ?_
  · intro hg5
    try simp only [dn] at hg5
    refine ym ?_
    refine vy (y_lss rfl rfl) ?_
    refine ypt ?_
    refine ya ?_
    refine vc_end (vq_then (vk1 2 (vc_ret ?_)))
    refine vq_ret1 st (.inl rfl) results157 (.tmp rfl) ?_
    refine ⟨_, rfl, ?_⟩
    refine ⟨?_, rfl⟩
    congr 1
    unfold knownOp
    (symm; simp; omega)
  · intro hg5
    try simp only [dn] at hg5
    iterate 2 refine vsk ?_
    refine ypf ?_
    refine ya ?_
    refine vc_end (vq_then (vk1 2 (vc_ret ?_)))
    refine vq_ret1 st (.inl rfl) results157 (.tmp rfl) ?_
    refine ⟨_, rfl, ?_⟩
    refine ⟨?_, rfl⟩
    congr 1
    unfold knownOp
    (symm; simp; omega)

theorem two_any (k : Int) (w : World) : Ret Tryz.prog 104 [.int .u8 k] w fun v w' => v = .bool (twoOp k) ∧ w' = w := by
  refine ret_of [_] func104 rfl ntmps104 rfl ?_
  have st := St.init w []
  refine vc_seq (vc_region ?_)
  refine ya ?_
  refine vc_end (vq_then (vk1 0 (vc_seq (vc_region ?_))))
  refine ym ?_
  refine vc_e (e_call [_] rfl rfl call157 rfl (known_any _ _) ?_)
  rintro _ _ ⟨rfl, rfl⟩
  refine vmb ?_ ?_
  · intro hg5
    try simp only [dn] at hg5
    refine ym ?_
    refine vy (y_nei rfl rfl) ?_
    refine ypt ?_
    refine vmb ?_ ?_
    · intro hg9
      try simp only [dn] at hg9
      refine ym ?_
      refine vy (y_nei rfl rfl) ?_
      refine ypt ?_
      refine ya ?_
      refine vc_end (vq_then (vk1 2 (vc_ret ?_)))
      refine vq_ret1 st (.inl rfl) results104 (.tmp rfl) ?_
      refine ⟨_, rfl, ?_⟩
      refine ⟨?_, rfl⟩
      show Value.bool _ = Value.bool _
      congr 1
      unfold knownOp at *
      unfold twoOp
      simp only [decide_eq_true_eq, decide_eq_false_iff_not, Bool.not_eq_true', Bool.not_eq_false'] at *
      (rw [Bool.eq_iff_iff]; simp only [Bool.not_eq_true', decide_eq_false_iff_not, decide_eq_true_eq]; omega)
    · intro hg9
      try simp only [dn] at hg9
      iterate 2 refine vsk ?_
      refine ypf ?_
      refine ya ?_
      refine vc_end (vq_then (vk1 2 (vc_ret ?_)))
      refine vq_ret1 st (.inl rfl) results104 (.tmp rfl) ?_
      refine ⟨_, rfl, ?_⟩
      refine ⟨?_, rfl⟩
      show Value.bool _ = Value.bool _
      congr 1
      unfold knownOp at *
      unfold twoOp
      simp only [decide_eq_true_eq, decide_eq_false_iff_not, Bool.not_eq_true', Bool.not_eq_false'] at *
      (symm; rw [decide_eq_false_iff_not]; omega)
  · intro hg5
    try simp only [dn] at hg5
    iterate 2 refine vsk ?_
    refine ypf ?_
    refine ym ?_
    iterate 2 refine vsk ?_
    refine ypf ?_
    refine ya ?_
    refine vc_end (vq_then (vk1 2 (vc_ret ?_)))
    refine vq_ret1 st (.inl rfl) results104 (.tmp rfl) ?_
    refine ⟨_, rfl, ?_⟩
    refine ⟨?_, rfl⟩
    show Value.bool _ = Value.bool _
    congr 1
    unfold knownOp at *
    unfold twoOp
    simp only [decide_eq_true_eq, decide_eq_false_iff_not, Bool.not_eq_true', Bool.not_eq_false'] at *
    (symm; rw [decide_eq_false_iff_not]; omega)

theorem show_any (k : Int) (w : World) (hs : Sig w) : Ret Tryz.prog 107 [.int .u8 k] w fun v w' => v = str (if knownOp k = true then sgn k.toNat else []) ∧ w' = w := by
  refine ret_of [_] func107 rfl ntmps107 rfl ?_
  have st := St.init w []
  refine vc_seq (vc_region ?_)
  refine ya ?_
  refine vc_end (vq_then (vk1 0 (vc_seq (vc_seq (vc_region ?_)))))
  refine ym ?_
  refine vc_e (e_call [_] rfl rfl call157 rfl (known_any _ _) ?_)
  rintro _ _ ⟨rfl, rfl⟩
  refine vy (y_not rfl) ?_
  refine vc_end (vq_then (vk2 0 5 ?_))
  refine vc_ifs rfl ?_ ?_
  · intro hc5
    try simp only [dn] at hc5
    refine vc_seq (vc_region ?_)
    refine ya ?_
    refine vc_end (vq_then (vk1 2 (vc_ret (vq_then_ret ?_))))
    refine vq_ret1 st (.inl rfl) results107 (.tmp rfl) ?_
    refine ⟨_, rfl, ?_⟩
    refine ⟨?_, rfl⟩
    rw [if_neg (by simpa using hc5)]
  · intro hc5
    try simp only [dn] at hc5
    have hk : 0 < k ∧ k < 19 := by simpa [knownOp] using hc5
    obtain ⟨m, rfl⟩ : ∃ m : Nat, k = (m : Int) := ⟨k.toNat, by omega⟩
    refine vc_code_skip (vq_then (vk1 0 (vc_seq (vc_region ?_))))
    refine ym ?_
    refine vy (y_iaa (k := m) rfl rfl underlying204 sizeOf203 rfl (by omega)) ?_
    refine vy (y_fa0 rfl underlying203 rfl rfl sizeOf9 rfl) ?_
    refine vy ((by exact y_ldc rfl isAgg9 (by have h := (hs m (by omega)).1; rw [Nat.zero_add]; exact h))) ?_
    refine ya ?_
    refine vc_end (vq_then (vk1 2 (vc_ret ?_)))
    refine vq_ret1 st (.inl rfl) results107 (.tmp rfl) ?_
    refine ⟨_, rfl, ?_⟩
    refine ⟨?_, rfl⟩
    rw [if_pos (by simpa using hc5)]
    rfl

abbrev zs (k : Nat) : List Value := List.replicate k (.int .u8 0)
theorem zs_set (k : Nat) (t : List UInt8) (c : UInt8) (x : Int) (hx : (c.toNat : Int) = x) (hk : 0 < k) : (zs k ++ bytesL t).set (k - 1) (.int .u8 x) = zs (k - 1) ++ bytesL (c :: t) := by
  obtain ⟨m, rfl⟩ : ∃ m, k = m + 1 := ⟨k - 1, by omega⟩
  have e : zs (m + 1) = zs m ++ [.int .u8 0] := by simp [zs, List.replicate_succ']
  rw [e, Nat.add_sub_cancel, List.append_assoc, List.set_append_right _ _ (by simp)]
  subst hx
  simp
theorem zs_len (k : Nat) (t : List UInt8) : (zs k ++ bytesL t).length = k + t.length := by simp
theorem blk_rd {w : World} {b k E : Nat} {t : List UInt8} {c : Nat} (h : w.heap[b]? = some (.cells (zs k ++ bytesL t).toArray E (0, 0))) : RdRowP w (some ⟨b, 0 + k * 1, none⟩) c (bytesL t) :=
  .inr ⟨b, 0 + k * 1, rfl, fun j u hj => cell_blk h (by
    rw [nth_eq, List.getElem?_append_right (by simp)]
    simpa [show 0 + k * 1 + j - k = j by omega] using hj)⟩

set_option maxHeartbeats 1000000 in
theorem wprint_any (x : Int) (w : World) (hx : -9223372036854775808 ≤ x ∧ x ≤ 9223372036854775807) : Ret Tryz.prog 76 [.int .i64 x] w fun v w' => v = str (shw x) ∧ Chg [] w w' := by
  refine ret_of [_] func76 rfl ntmps76 rfl ?_
  have st := St.init w []
  obtain ⟨w0, rfl⟩ : ∃ w0, w0 = w := ⟨_, rfl⟩
  have hdl := dec_len 18 x.natAbs (by simp only [Nat.reducePow, Nat.reduceAdd]; omega)
  refine vc_seq (vc_region ?_)
  refine ya ?_
  refine vc_end (vq_then (vk1 0 (vc_seq (vc_region ?_))))
  refine vc_e (e_al (l := [_, _, _, _, _, _, _, _, _, _, _, _, _, _, _, _, _, _, _, _]) st rfl rfl zeroValue181 rfl ?_)
  intro b3 w hb3 st
  refine vc_end (vq_then (vk2 0 3 (vc_seq (vc_region ?_))))
  refine ya ?_
  refine vc_end (vq_then (vk3 0 3 4 (vc_seq (vc_region ?_))))
  refine ym ?_
  refine vy (y_cvi rfl underlying182 underlying2 (rfl : _ = IntKind.u64.wrap x)) ?_
  refine ya ?_
  refine vc_end (vq_then (vk4 0 3 4 5 ?_))
  refine vc_cut (w0 := w0) (M := []) (fun (_ : Unit) => [(0, .int .i64 x), (3, .pointer (some ⟨b3, 0, none⟩)), (4, .int .i64 20), (5, .int .u64 (x.natAbs : Int))]) (fun _ => [.blk b3 (.cells (zs 20 ++ bytesL []).toArray 181 (0, 0))]) (fun _ _ => True) ?_ ?_
  ·
    refine vc_seq (vc_region ?_)
    refine ym ?_
    refine vy (y_lss rfl rfl) ?_
    refine vc_end (vq_then (vk5 0 3 4 5 9 ?_))
    refine vc_ifs rfl ?_ ?_
    · intro hc9
      try simp only [dn] at hc9
      refine vc_region ?_
      refine ym ?_
      refine vy (y_neg rfl (by rw [wrap_u64, wrap_u64]; omega : _ = (x.natAbs : Int))) ?_
      refine ya ?_
      refine vc_end ?_
      exact vq_meet () ⟨rfl, rfl, rfl, rfl, trivial⟩ st trivial
    · intro hc9
      try simp only [dn] at hc9
      refine vc_code_skip ?_
      exact vq_meet () ⟨rfl, rfl, rfl, by simp only [find, Nat.beq]; congr 2; rw [wrap_u64]; omega, trivial⟩ st trivial
  ·
    clear st
    rintro ⟨⟩ w - st
    refine vc_seq (vc_block ?_)
    refine vc_loop (w0 := _) (M := _) (fun (y : Nat × Nat × List UInt8) => [(0, .int .i64 x), (3, .pointer (some ⟨b3, 0, none⟩)), (4, .int .i64 (y.1 : Int)), (5, .int .u64 (y.2.1 : Int))]) (fun y => [.blk b3 (.cells (zs y.1 ++ bytesL y.2.2).toArray 181 (0, 0))]) (fun y _ => y.1 + y.2.2.length = 20 ∧ dec y.2.1 ++ y.2.2 = dec x.natAbs ∧ y.2.1 ≤ x.natAbs) (fun y => y.1) (20, x.natAbs, []) ⟨rfl, rfl, rfl, rfl, trivial⟩ st ⟨rfl, by simp, by simp⟩ ?_
    rintro ⟨at_, n, t⟩ w ⟨hat, hdec, hnx⟩ st
    dsimp only at *
    have hdp := dec_pos n
    have hlen := congrArg List.length hdec
    rw [List.length_append] at hlen
    obtain ⟨hdg1, hdg2⟩ := digit_of (Nat.mod_lt n (by omega : 0 < 10))
    refine vc_block (vc_seq (vc_region ?_))
    refine ym ?_
    refine vy (y_sub rfl rfl (by omega : _ = ((at_ - 1 : Nat) : Int)) (by omega) (by omega)) ?_
    refine ya ?_
    refine vc_end (vq_then (vk4 0 3 4 5 (vc_seq (vc_region ?_))))
    iterate 2 refine ym ?_
    refine vy (y_remk rfl rfl (by omega) (by omega) (by omega : _ = ((n % 10 : Nat) : Int))) ?_
    refine vy (y_addk rfl rfl (by rw [wrap_u64]; omega : _ = ((48 + n % 10 : Nat) : Int))) ?_
    refine vy (y_cvi rfl underlying5 underlying182 (by rw [wrap_u8]; omega : _ = ((48 + n % 10 : Nat) : Int))) ?_
    refine vy (y_iaa (k := (at_ - 1)) rfl rfl underlying181 sizeOf5 rfl (by omega)) ?_
    refine vc_e (e_sta (l' := zs (at_ - 1) ++ bytesL (UInt8.ofNat (48 + n % 10) :: t)) st 0 rfl rfl rfl rfl sizeOf5 rfl (by rw [zs_len]; omega) (by rw [show 0 + (at_ - 1) * 1 = at_ - 1 by omega]; exact zs_set at_ t (UInt8.ofNat (48 + n % 10)) _ (by rw [hdg2]) (by omega)) (.inr hb3) ?_)
    intro w st; dsimp only [setNth] at st
    refine vc_end (vq_then (vk4 0 3 4 5 (vc_seq (vc_region ?_))))
    refine ym ?_
    refine vy (y_quok rfl rfl (by omega) (by omega) (by rw [wrap_u64]; omega : _ = ((n / 10 : Nat) : Int))) ?_
    refine ya ?_
    refine vc_end (vq_then (vk4 0 3 4 5 (vc_seq (vc_region ?_))))
    refine ym ?_
    refine vy (y_eqi rfl rfl) ?_
    refine vc_end (vq_then (vk5 0 3 4 5 23 ?_))
    refine vc_ifs rfl ?_ ?_
    · intro hc23
      try simp only [dn] at hc23
      have hn : n < 10 := by omega
      have hfin : UInt8.ofNat (48 + n % 10) :: t = dec x.natAbs := by rw [← hdec, dec_small hn, Nat.mod_eq_of_lt hn]; rfl
      rw [hfin] at st
      have hlen2 := congrArg List.length hfin
      simp only [List.length_cons] at hlen2
      refine vc_exit (vq_block_other rfl (vq_then_exit (vq_block_exit (vq_then (vk3 0 3 4 (vc_seq (vc_seq (vc_region ?_))))))))
      refine ym ?_
      refine vy (y_lss rfl rfl) ?_
      refine vc_end (vq_then (vk3 3 4 25 ?_))
      refine vc_ifs rfl ?_ ?_
      · intro hc25
        try simp only [dn] at hc25
        refine vc_seq (vc_region ?_)
        refine ym ?_
        refine vy (y_sub rfl rfl (by omega : _ = ((at_ - 2 : Nat) : Int)) (by omega) (by omega)) ?_
        refine ya ?_
        refine vc_end (vq_then (vk2 3 4 (vc_region ?_)))
        refine ym ?_
        refine vy (y_iaa (k := (at_ - 2)) rfl rfl underlying181 sizeOf5 rfl (by omega)) ?_
        refine vc_e (e_sta (l' := zs (at_ - 2) ++ bytesL (45 :: dec x.natAbs)) st 0 rfl rfl rfl rfl sizeOf5 rfl (by rw [zs_len]; omega) (by rw [show 0 + (at_ - 2) * 1 = (at_ - 1) - 1 by omega]; have := zs_set (at_ - 1) (dec x.natAbs) 45 45 (by rfl) (by omega); rw [show at_ - 1 - 1 = at_ - 2 by omega] at this ⊢; exact this) (.inr hb3) ?_)
        intro w st; dsimp only [setNth] at st
        refine vc_end (vq_then (vk2 3 4 (vc_seq (vc_region ?_))))
        refine ym ?_
        refine vy (y_sla (i := _) rfl rfl underlying181 sizeOf5 rfl (by omega)) ?_
        refine vy (y_b2s rfl (blk_rd (st.res (i := 0) rfl)) (by (simp only [List.length_cons]; omega)) underlying78 underlying5 underlying9) ?_
        refine ya ?_
        refine vc_end (vq_then (vk1 2 (vc_ret ?_)))
        refine vq_ret1 st (.inl rfl) results76 (.tmp rfl) ?_
        refine ⟨_, rfl, ?_⟩
        refine ⟨?_, st.chg⟩
        unfold shw
        rw [if_pos (by omega)]
      · intro hc25
        try simp only [dn] at hc25
        refine vc_code_skip (vq_then (vk2 3 4 (vc_seq (vc_region ?_))))
        refine ym ?_
        refine vy (y_sla (i := _) rfl rfl underlying181 sizeOf5 rfl (by omega)) ?_
        refine vy (y_b2s rfl (blk_rd (st.res (i := 0) rfl)) (by omega) underlying78 underlying5 underlying9) ?_
        refine ya ?_
        refine vc_end (vq_then (vk1 2 (vc_ret ?_)))
        refine vq_ret1 st (.inl rfl) results76 (.tmp rfl) ?_
        refine ⟨_, rfl, ?_⟩
        refine ⟨?_, st.chg⟩
        unfold shw
        rw [if_neg (by omega)]
    · intro hc23
      try simp only [dn] at hc23
      refine vc_code_skip (vq_block ?_)
      refine vq_again (at_ - 1, n / 10, UInt8.ofNat (48 + n % 10) :: t)  ⟨rfl, rfl, rfl, rfl, trivial⟩ st ?_ ?_
      · refine ⟨by simp; omega, ?_, by dsimp only; omega⟩
        dsimp only
        rw [← hdec, dec_big (n := n) (by omega)]; simp
      · dsimp only; omega

end Go.Proofs.YtnmhlpnapgojjaaGreatDoor


namespace Go.Proofs.YtnmhlpnapgojjaaGreatDoor
open Go.RowKit Sx LexS _root_.Go.Proofs.Tryz
theorem cell_nth {w : World} {b off E : Nat} {l : List Value} {v : Value} (h : w.heap[b]? = some (.cells l.toArray E (0, 0))) (hv : nth l off = some v) : w.cell? ⟨b, off, none⟩ = some v := cell_blk h hv

theorem level_any (k : Int) (w : World) (hs : Sig w) : Ret Tryz.prog 105 [.int .u8 k] w fun v w' => v = .int .i64 (lvlO k) ∧ w' = w := by
  refine ret_of [_] func105 rfl ntmps105 rfl ?_
  have st := St.init w []
  refine vc_seq (vc_region ?_)
  refine ya ?_
  refine vc_end (vq_then (vk1 0 (vc_seq (vc_seq (vc_region ?_)))))
  refine ym ?_
  refine vc_e (e_call [_] rfl rfl call157 rfl (known_any _ _) ?_)
  rintro _ _ ⟨rfl, rfl⟩
  refine vy (y_not rfl) ?_
  refine vc_end (vq_then (vk2 0 5 ?_))
  refine vc_ifs rfl ?_ ?_
  · intro hc5
    try simp only [dn] at hc5
    refine vc_seq (vc_region ?_)
    refine ya ?_
    refine vc_end (vq_then (vk1 2 (vc_ret (vq_then_ret ?_))))
    refine vq_ret1 st (.inl rfl) results105 (.tmp rfl) ?_
    refine ⟨_, rfl, ?_⟩
    refine ⟨?_, rfl⟩
    unfold lvlO
    rw [if_neg (by simpa using hc5)]
  · intro hc5
    try simp only [dn] at hc5
    have hk : 0 < k ∧ k < 19 := by simpa [knownOp] using hc5
    obtain ⟨m, rfl⟩ : ∃ m : Nat, k = (m : Int) := ⟨k.toNat, by omega⟩
    refine vc_code_skip (vq_then (vk1 0 (vc_seq (vc_region ?_))))
    refine ym ?_
    refine vy (y_iaa (k := m) rfl rfl underlying204 sizeOf203 rfl (by omega)) ?_
    refine vy (y_fa (k := 1) rfl underlying203 rfl rfl sizeOf3 rfl) ?_
    refine vy ((by exact y_ldc rfl isAgg3 (by have h := (hs m (by omega)).2; rw [Nat.zero_add]; exact h))) ?_
    refine ya ?_
    refine vc_end (vq_then (vk1 2 (vc_ret ?_)))
    refine vq_ret1 st (.inl rfl) results105 (.tmp rfl) ?_
    refine ⟨_, rfl, ?_⟩
    refine ⟨?_, rfl⟩
    unfold lvlO
    rw [if_pos (by simpa using hc5)]
    rfl

theorem named_any (l : List UInt8) (b : Bool) (w : World) : Ret Tryz.prog 149 [str l, .bool b] w fun v w' => v = .bool (if b = true then isName l else decide (l = [])) ∧ w' = w := by
  refine ret_of [_, _] func149 rfl ntmps149 rfl ?_
  have st := St.init w []
  refine vc_seq (vc_region ?_)
  refine ya ?_
  refine vc_end (vq_then (vk2 0 1 (vc_seq (vc_region ?_))))
  refine ym ?_
  refine vmb ?_ ?_
  · intro hg6
    try simp only [dn] at hg6
    refine ym ?_
    refine vc_e (e_call [_] rfl rfl call52 rfl (name_any _ _) ?_)
    rintro _ _ ⟨rfl, rfl⟩
    refine ypt ?_
    refine vmb ?_ ?_
    · intro hg10
      try simp only [dn] at hg10
      iterate 6 refine vsk ?_
      refine ypt ?_
      refine ya ?_
      refine vc_end (vq_then (vk1 4 (vc_ret ?_)))
      refine vq_ret1 st (.inl rfl) results149 (.tmp rfl) ?_
      refine ⟨_, rfl, ?_⟩
      refine ⟨?_, rfl⟩
      show Value.bool _ = Value.bool _
      congr 1
      cases b <;> simp_all
    · intro hg10
      try simp only [dn] at hg10
      refine ym ?_
      refine vy (y_not rfl) ?_
      refine vmb ?_ ?_
      · intro hg13
        try simp only [dn] at hg13
        refine ym ?_
        refine vy (y_eqs rfl rfl) ?_
        refine ypt ?_
        refine ypf ?_
        refine ya ?_
        refine vc_end (vq_then (vk1 4 (vc_ret ?_)))
        refine vq_ret1 st (.inl rfl) results149 (.tmp rfl) ?_
        refine ⟨_, rfl, ?_⟩
        refine ⟨?_, rfl⟩
        show Value.bool _ = Value.bool _
        congr 1
        cases b <;> simp_all
      · intro hg13
        try simp only [dn] at hg13
        iterate 2 refine vsk ?_
        iterate 2 refine ypf ?_
        refine ya ?_
        refine vc_end (vq_then (vk1 4 (vc_ret ?_)))
        refine vq_ret1 st (.inl rfl) results149 (.tmp rfl) ?_
        refine ⟨_, rfl, ?_⟩
        refine ⟨?_, rfl⟩
        show Value.bool _ = Value.bool _
        congr 1
        cases b <;> simp_all
  · intro hg6
    try simp only [dn] at hg6
    iterate 2 refine vsk ?_
    refine ypf ?_
    iterate 2 refine ym ?_
    refine vy (y_not rfl) ?_
    refine vmb ?_ ?_
    · intro hg13
      try simp only [dn] at hg13
      refine ym ?_
      refine vy (y_eqs rfl rfl) ?_
      refine ypt ?_
      refine ypf ?_
      refine ya ?_
      refine vc_end (vq_then (vk1 4 (vc_ret ?_)))
      refine vq_ret1 st (.inl rfl) results149 (.tmp rfl) ?_
      refine ⟨_, rfl, ?_⟩
      refine ⟨?_, rfl⟩
      show Value.bool _ = Value.bool _
      congr 1
      cases b <;> simp_all
    · intro hg13
      try simp only [dn] at hg13
      iterate 2 refine vsk ?_
      iterate 2 refine ypf ?_
      refine ya ?_
      refine vc_end (vq_then (vk1 4 (vc_ret ?_)))
      refine vq_ret1 st (.inl rfl) results149 (.tmp rfl) ?_
      refine ⟨_, rfl, ?_⟩
      refine ⟨?_, rfl⟩
      show Value.bool _ = Value.bool _
      congr 1
      cases b <;> simp_all

end Go.Proofs.YtnmhlpnapgojjaaGreatDoor


/- When a tree may be written, and its text: no program in sight. -/
namespace LexS
open Sx
/-! ## when a tree may be written, and its text -/
/-- does a kid of a binary expression stand in parentheses? -/
def inn (op : Int) (x : Ex) (second : Bool) : Bool := decide (x.k = 4) && (decide (lvlO x.op < lvlO op) || second && decide (lvlO x.op = lvlO op))
def rightE : Ex → Nat → Bool
  | .mk k op wd nm kids a, d => decide (d ≤ 64) && (
    if k = 1 then decide (0 ≤ wd ∧ op = 0 ∧ nm = [] ∧ kids.length = 0)
    else if k = 2 then isName nm && decide (op = 0 ∧ wd = 0 ∧ kids.length = 0)
    else if k = 3 then oneOp op && decide (wd = 0 ∧ nm = []) && (match kids with | [x] => rightE x (if x.k = 4 then d + 2 else d + 1) | _ => false)
    else if k = 4 then twoOp op && decide (wd = 0 ∧ nm = []) && (match kids with | [x, y] => rightE x (if inn op x false = true then d + 1 else d) && rightE y (if inn op y true = true then d + 1 else d) | _ => false)
    else false)
def par (b : Bool) (l : List UInt8) : List UInt8 := if b = true then [40] ++ l ++ [41] else l
def txtE : Ex → List UInt8
  | .mk k op wd nm kids a => if k = 1 then shw wd else if k = 2 then nm else if k = 3 then shwO op ++ (match kids with | [x] => par (decide (x.k = 4)) (txtE x) | _ => [])
    else (match kids with | [x, y] => par (inn op x false) (txtE x) ++ ([32] ++ shwO op ++ [32]) ++ par (inn op y true) (txtE y) | _ => [])
def mar (d : Nat) : List UInt8 := List.replicate (2 * d) 32
def hasN (k : Int) : Bool := decide (k = 1 ∨ k = 2 ∨ k = 5)
def hasE (k : Int) : Bool := decide (k = 1 ∨ k = 2 ∨ k = 3 ∨ k = 4 ∨ k = 6)
def hasB (k : Int) : Bool := decide (k = 3 ∨ k = 4 ∨ k = 5)
def nmOk (b : Bool) (l : List UInt8) : Bool := if b = true then isName l else decide (l = [])
def rightX (b : Bool) (e : List Ex) : Bool := if b = true then (match e with | [x] => rightE x 0 | _ => false) else decide (e.length = 0)
mutual
def rightS : Sm → Nat → Bool
  | .mk k nm other e body els a, d => decide (1 ≤ k ∧ k ≤ 7) && nmOk (hasN k) nm && nmOk (decide (k = 2)) other && rightX (hasE k) e && (hasB k || decide (body.length = 0)) && (decide (k = 3) || decide (els.length = 0)) &&
    (!(hasB k || decide (0 < els.length)) || decide (d < 64)) && rightSs body (d + 1) && rightSs els (d + 1)
termination_by structural s => s
def rightSs : List Sm → Nat → Bool
  | [], _ => true
  | s :: r, d => rightS s d && rightSs r d
termination_by structural l => l
end
def txX (e : List Ex) : List UInt8 := match e with | x :: _ => txtE x | [] => []
mutual
def txtS : Sm → Nat → List UInt8
  | .mk k nm other e body els a, d =>
    if k = 1 then mar d ++ (nm ++ [32, 61, 32] ++ txX e ++ [59, 10])
    else if k = 2 then mar d ++ (nm ++ [32, 61, 32, 115, 119, 97, 112, 40] ++ other ++ [44, 32] ++ txX e ++ [41, 59, 10])
    else if k = 6 then mar d ++ ([112, 114, 105, 110, 116, 32] ++ txX e ++ [59, 10])
    else if k = 7 then mar d ++ [115, 107, 105, 112, 59, 10]
    else if k = 5 then mar d ++ ([108, 111, 99, 107, 32] ++ nm ++ [32, 123, 10]) ++ txtSs body (d + 1) ++ mar d ++ [125, 10]
    else mar d ++ ((if k = 4 then [119, 104, 105, 108, 101, 32, 40] else [105, 102, 32, 40]) ++ txX e ++ [41, 32, 123, 10]) ++ txtSs body (d + 1) ++ (if 0 < els.length then mar d ++ [125, 32, 101, 108, 115, 101, 32, 123, 10] ++ txtSs els (d + 1) else []) ++ mar d ++ [125, 10]
termination_by structural s => s
def txtSs : List Sm → Nat → List UInt8
  | [], _ => []
  | s :: r, d => txtS s d ++ txtSs r d
termination_by structural l => l
end
def dcOk (shared : Bool) (x : Dc) : Bool := isName x.nm && (if shared = true then decide (x.wd ≠ -9223372036854775808) else decide (x.wd = 0))
def thOk (t : Th) : Bool := isName t.nm && t.locals.all (dcOk false) && rightSs t.body 1
def pgOk (p : Pg) : Bool := p.shared.all (dcOk true) && p.locks.all (dcOk false) && p.threads.all thOk
def dcT (x : Dc) : List UInt8 := x.nm ++ (if x.wd = 0 then [] else [32, 61, 32] ++ shw x.wd)
/-- ', ' between -/
def joinC : List (List UInt8) → List UInt8
  | [] => []
  | [x] => x
  | x :: y :: r => x ++ [44, 32] ++ joinC (y :: r)
def dcsT (word : List UInt8) (d : Nat) (l : List Dc) : List UInt8 := if l.length = 0 then [] else mar d ++ (word ++ [32] ++ joinC (l.map dcT) ++ [59, 10])
def thT (t : Th) : List UInt8 := ([116, 104, 114, 101, 97, 100, 32] ++ t.nm ++ [32, 123, 10]) ++ dcsT [108, 111, 99, 97, 108] 1 t.locals ++ txtSs t.body 1 ++ [125, 10]
def pgT (p : Pg) : List UInt8 := dcsT [115, 104, 97, 114, 101, 100] 0 p.shared ++ dcsT [108, 111, 99, 107] 0 p.locks ++ (p.threads.map thT).flatten
def pgRes (p : Pg) : List UInt8 × Nat := if pgOk p = true then (if (pgT p).length ≤ 65536 then (pgT p, 0) else ([], 4)) else ([], 40)
end LexS


namespace Go.Proofs.YtnmhlpnapgojjaaGreatDoor
open Go.RowKit Sx LexS _root_.Go.Proofs.Tryz
theorem rightE_le {e : Ex} {d : Nat} (h : rightE e d = true) : d ≤ 64 := by
 cases e
 unfold rightE at h
 simp only [Bool.and_eq_true, decide_eq_true_eq] at h
 exact h.1
theorem rightSs_get : ∀ {l : List Sm} {d j : Nat} {s : Sm}, rightSs l d = true → l[j]? = some s → rightS s d = true
 | [], d, j, s, _, h => by simp at h
 | x :: r, d, 0, s, h, hj => by
  simp only [List.getElem?_cons_zero, Option.some.injEq] at hj
  subst hj
  simp only [rightSs, Bool.and_eq_true] at h
  exact h.1
 | x :: r, d, j + 1, s, h, hj => by
  simp only [rightSs, Bool.and_eq_true] at h
  exact rightSs_get h.2 (by simpa using hj)
theorem rightSs_no : ∀ {l : List Sm} {d j : Nat} {s : Sm}, rightS s d = false → l[j]? = some s → rightSs l d = false
 | [], d, j, s, _, h => by simp at h
 | x :: r, d, 0, s, h, hj => by
  simp only [List.getElem?_cons_zero, Option.some.injEq] at hj
  subst hj
  simp [rightSs, h]
 | x :: r, d, j + 1, s, h, hj => by
  simp [rightSs, rightSs_no h (by simpa using hj : r[j]? = some s)]
/-! ## reading rows -/
theorem RowC.at {w : World} {S : Nat → Prop} {sz n : Nat} {oa : Option Addr} {vs : Nat → List Value} (h : RowC w S sz oa n vs) (hn : 0 < n) :
    ∃ b off, oa = some ⟨b, off, none⟩ ∧ S b ∧ b < w.heap.size ∧ ∀ j, j < n → (vs j).length = sz ∧ ∀ i v, (vs j)[i]? = some v → w.cell? ⟨b, off + j * sz + i, none⟩ = some v := by
 rcases h with h | h
 ·omega
 ·exact h
abbrev szo {α : Type} [SizeOf α] (x : α) : Nat := SizeOf.sizeOf x
theorem ex_size {k op wd : Int} {nm : List UInt8} {kids : List Ex} {a : Int} : szo kids < szo (Ex.mk k op wd nm kids a) := by
 simp only [szo, Ex.mk.sizeOf_spec]; omega
theorem mem_size {α : Type} [SizeOf α] {l : List α} {j : Nat} {x : α} (h : l[j]? = some x) : szo x < szo l := List.sizeOf_lt_of_mem (List.mem_of_getElem? h)
theorem sm_size {k : Int} {nm other : List UInt8} {e : List Ex} {body els : List Sm} {a : Int} : szo body < szo (Sm.mk k nm other e body els a) ∧ szo els < szo (Sm.mk k nm other e body els a) := by
 simp only [szo, Sm.mk.sizeOf_spec]; omega
section
variable {w w' : World} {S : Nat → Prop} {M : List Nat}
/-- an expression's value -/
abbrev exL (e : Ex) (oa : Option Addr) (cap : Nat) : List Value := [.int .u8 e.k, .int .u8 e.op, .int .i64 e.wd, str e.nm, .slice oa e.kids.length cap, .int .i64 e.a]
theorem ExV.inv {e : Ex} {l : List Value} (h : ExV w S e l) : ∃ oa cap, l = exL e oa cap ∧ ExRow w S oa e.kids := by
 cases h with
 | mk vs hr hk => exact ⟨_, _, rfl, vs, hr, hk⟩
theorem ExRow.at {oa : Option Addr} {es : List Ex} (h : ExRow w S oa es) (hn : 0 < es.length) : ∃ b off, oa = some ⟨b, off, none⟩ ∧ S b ∧ b < w.heap.size ∧
    ∀ j x, es[j]? = some x → ∃ o c, ExV w S x (exL x o c) ∧ ExRow w S o x.kids ∧ ∀ i v, (exL x o c)[i]? = some v → w.cell? ⟨b, off + j * 6 + i, none⟩ = some v := by
 obtain ⟨vs, hr, hk⟩ := h
 obtain ⟨b, off, e, hb, hl, hc⟩ := RowC.at hr hn
 refine ⟨b, off, e, hb, hl, fun j x hx => ?_⟩
 have hx' := hk j x hx
 obtain ⟨o, c, e2, hr2⟩ := ExV.inv hx'
 have := (hc j (List.getElem?_eq_some_iff.1 hx).1).2
 rw [e2] at hx' this
 exact ⟨o, c, hx', hr2, this⟩
/-- a statement's value -/
abbrev smL (s : Sm) (oe ob ol : Option Addr) (ce cb cl : Nat) : List Value := [.int .u8 s.k, str s.nm, str s.other, .slice oe s.e.length ce, .slice ob s.body.length cb, .slice ol s.els.length cl, .int .i64 s.a]
theorem SmV.inv {s : Sm} {l : List Value} (h : SmV w S s l) : ∃ oe ob ol ce cb cl, l = smL s oe ob ol ce cb cl ∧ ExRow w S oe s.e ∧ SmRow w S ob s.body ∧ SmRow w S ol s.els := by
 cases h with
 | mk vb vl he hb hbk hl hlk => exact ⟨_, _, _, _, _, _, rfl, he, ⟨vb, hb, hbk⟩, ⟨vl, hl, hlk⟩⟩
theorem SmRow.at {oa : Option Addr} {es : List Sm} (h : SmRow w S oa es) (hn : 0 < es.length) : ∃ b off, oa = some ⟨b, off, none⟩ ∧ S b ∧ b < w.heap.size ∧
    ∀ j s, es[j]? = some s → ∃ oe ob ol ce cb cl, SmV w S s (smL s oe ob ol ce cb cl) ∧ ExRow w S oe s.e ∧ SmRow w S ob s.body ∧ SmRow w S ol s.els ∧ ∀ i v, (smL s oe ob ol ce cb cl)[i]? = some v → w.cell? ⟨b, off + j * 7 + i, none⟩ = some v := by
 obtain ⟨vs, hr, hk⟩ := h
 obtain ⟨b, off, e, hb, hl, hc⟩ := RowC.at hr hn
 refine ⟨b, off, e, hb, hl, fun j x hx => ?_⟩
 have hx' := hk j x hx
 obtain ⟨oe, ob, ol, ce, cb, cl, e2, h1, h2, h3⟩ := SmV.inv hx'
 have := (hc j (List.getElem?_eq_some_iff.1 hx).1).2
 rw [e2] at hx' this
 exact ⟨oe, ob, ol, ce, cb, cl, hx', h1, h2, h3, this⟩
theorem DcRow.at {oa : Option Addr} {ds : List Dc} (h : DcRow w S oa ds) (hn : 0 < ds.length) : ∃ b off, oa = some ⟨b, off, none⟩ ∧ S b ∧ b < w.heap.size ∧
    ∀ j x, ds[j]? = some x → ∀ i v, (dcL x)[i]? = some v → w.cell? ⟨b, off + j * 3 + i, none⟩ = some v := by
 obtain ⟨b, off, e, hb, hl, hc⟩ := RowC.at h hn
 refine ⟨b, off, e, hb, hl, fun j x hx => ?_⟩
 have hj := (List.getElem?_eq_some_iff.1 hx).1
 have := (hc j hj).2
 simp only [List.getD, hx, Option.getD_some] at this
 exact this
abbrev thL (t : Th) (ol ob : Option Addr) (cl cb : Nat) : List Value := [str t.nm, .slice ol t.locals.length cl, .slice ob t.body.length cb, .int .i64 t.a]
theorem ThRow.at {oa : Option Addr} {ts : List Th} (h : ThRow w S oa ts) (hn : 0 < ts.length) : ∃ b off, oa = some ⟨b, off, none⟩ ∧ S b ∧ b < w.heap.size ∧
    ∀ j t, ts[j]? = some t → ∃ ol ob cl cb, DcRow w S ol t.locals ∧ SmRow w S ob t.body ∧ ∀ i v, (thL t ol ob cl cb)[i]? = some v → w.cell? ⟨b, off + j * 4 + i, none⟩ = some v := by
 obtain ⟨vs, hr, hk⟩ := h
 obtain ⟨b, off, e, hb, hl, hc⟩ := RowC.at hr hn
 refine ⟨b, off, e, hb, hl, fun j x hx => ?_⟩
 obtain ⟨ol, cl, ob, cb, e2, h1, h2⟩ := hk j x hx
 have := (hc j (List.getElem?_eq_some_iff.1 hx).1).2
 rw [e2] at this
 exact ⟨ol, ob, cl, cb, h1, h2, this⟩
theorem Sig.kept' (h : Sig w) (c : Chg M w w') (hm : 0 ∉ M) : Sig w' := fun k hk => ⟨c.cell (h k hk).1 (by simpa using hm), c.cell (h k hk).2 (by simpa using hm)⟩
end
theorem get0 {α : Type} {l : List α} {n : Nat} (h : l.length = n) (hn : 0 < n) : ∃ x, l[0]? = some x := by
 cases l with
 | nil => simp at h; omega
 | cons x r => exact ⟨x, rfl⟩
theorem one_form {α : Type} {l : List α} {x : α} (h : l.length = 1) (h0 : l[0]? = some x) : l = [x] := by
 match l, h with
 | [y], _ => simp at h0; rw [h0]
theorem two_form {α : Type} {l : List α} {x y : α} (h : l.length = 2) (h0 : l[0]? = some x) (h1 : l[1]? = some y) : l = [x, y] := by
 match l, h with
 | [a, b], _ => simp at h0 h1; rw [h0, h1]
theorem get1 {α : Type} {l : List α} (h : l.length = 2) : ∃ x, l[1]? = some x := by
 match l, h with
 | [a, b], _ => exact ⟨b, rfl⟩
theorem rightE_1 {e : Ex} {d : Nat} (h : e.k = 1) (hd : d ≤ 64) : rightE e d = decide (0 ≤ e.wd ∧ e.op = 0 ∧ e.nm = [] ∧ e.kids.length = 0) := by
 cases e; simp only [Ex.k] at h; subst h; unfold rightE; simp [hd, Ex.wd, Ex.op, Ex.nm, Ex.kids]
theorem rightE_2 {e : Ex} {d : Nat} (h : e.k = 2) (hd : d ≤ 64) : rightE e d = (isName e.nm && decide (e.op = 0 ∧ e.wd = 0 ∧ e.kids.length = 0)) := by
 cases e; simp only [Ex.k] at h; subst h; unfold rightE; simp [hd, Ex.wd, Ex.op, Ex.nm, Ex.kids]
theorem rightE_3 {e x : Ex} {d : Nat} (h : e.k = 3) (hd : d ≤ 64) (hx : e.kids = [x]) : rightE e d = (oneOp e.op && decide (e.wd = 0 ∧ e.nm = []) && rightE x (if x.k = 4 then d + 2 else d + 1)) := by
 cases e with
 | mk k op wd nm kids a =>
  change k = 3 at h; change kids = [x] at hx; subst h hx
  show rightE (.mk 3 op wd nm [x] a) d = (oneOp op && decide (wd = 0 ∧ nm = []) && rightE x (if x.k = 4 then d + 2 else d + 1))
  rw [rightE]; simp [hd]
theorem rightE_3n {e : Ex} {d : Nat} (h : e.k = 3) (hx : e.kids.length ≠ 1 ∨ oneOp e.op = false ∨ e.wd ≠ 0 ∨ e.nm ≠ []) : rightE e d = false := by
 cases e with
 | mk k op wd nm kids a =>
  simp only [Ex.k] at h; subst h
  simp only [Ex.kids, Ex.op, Ex.wd, Ex.nm] at hx
  rcases kids with _ | ⟨x, _ | ⟨y, _ | ⟨z, r⟩⟩⟩ <;> rw [rightE] <;> rcases hx with h | h | h | h <;> simp_all
theorem rightE_4 {e x y : Ex} {d : Nat} (h : e.k = 4) (hd : d ≤ 64) (hx : e.kids = [x, y]) : rightE e d = (twoOp e.op && decide (e.wd = 0 ∧ e.nm = []) && (rightE x (if inn e.op x false = true then d + 1 else d) && rightE y (if inn e.op y true = true then d + 1 else d))) := by
 cases e with
 | mk k op wd nm kids a =>
  change k = 4 at h; change kids = [x, y] at hx; subst h hx
  show rightE (.mk 4 op wd nm [x, y] a) d = (twoOp op && decide (wd = 0 ∧ nm = []) && (rightE x (if inn op x false = true then d + 1 else d) && rightE y (if inn op y true = true then d + 1 else d)))
  rw [rightE]; simp [hd]
theorem rightE_4n {e : Ex} {d : Nat} (h : e.k = 4) (hx : e.kids.length ≠ 2 ∨ twoOp e.op = false ∨ e.wd ≠ 0 ∨ e.nm ≠ []) : rightE e d = false := by
 cases e with
 | mk k op wd nm kids a =>
  simp only [Ex.k] at h; subst h
  simp only [Ex.kids, Ex.op, Ex.wd, Ex.nm] at hx
  rcases kids with _ | ⟨x, _ | ⟨y, _ | ⟨z, r⟩⟩⟩ <;> rw [rightE] <;> rcases hx with h | h | h | h <;> simp_all
theorem rightE_0 {e : Ex} {d : Nat} (h1 : e.k ≠ 1) (h2 : e.k ≠ 2) (h3 : e.k ≠ 3) (h4 : e.k ≠ 4) : rightE e d = false := by
 cases e; simp only [Ex.k] at *; unfold rightE; simp [h1, h2, h3, h4]
theorem inn_f {op : Int} {x : Ex} (h : x.k = 4) : inn op x false = decide (lvlO x.op < lvlO op) := by unfold inn; simp [h]
theorem inn_n {op : Int} {x : Ex} {b : Bool} (h : ¬x.k = 4) : inn op x b = false := by unfold inn; simp [h]
theorem inn_t {op : Int} {x : Ex} (h : x.k = 4) : inn op x true = decide (lvlO x.op ≤ lvlO op) := by
 unfold inn; rw [Bool.eq_iff_iff]; simp [h]; omega
theorem rightE_big {e : Ex} {d : Nat} (h : 64 < d) : rightE e d = false := by
 cases hr : rightE e d
 ·rfl
 ·have := rightE_le hr; omega
theorem rightE_3d {e : Ex} {d : Nat} (h : e.k = 3) (hd : 64 ≤ d) : rightE e d = false := by
 by_cases h1 : e.kids.length = 1
 ·obtain ⟨x, hx⟩ := get0 h1 (by omega)
  by_cases h2 : d ≤ 64
  ·rw [rightE_3 h h2 (one_form h1 hx), rightE_big (by split <;> omega), Bool.and_false]
  ·exact rightE_big (by omega)
 ·exact rightE_3n h (.inl h1)
theorem szo_kids (e : Ex) : szo e.kids < szo e := by cases e; exact ex_size
end Go.Proofs.YtnmhlpnapgojjaaGreatDoor


/- The engine, eighteenth part: trees whose rows lie each in a block of its own. -/
namespace Sx
open Go Go.RowKit

def obk : Option Addr → List Nat | some a => [a.block] | none => []
theorem obk_own {oa : Option Addr} {n cap : Nat} : (Value.slice oa n cap).ownBlock.toList = obk oa := by cases oa <;> rfl
theorem owns_kept {w w' : World} {base E size n : Nat} {oa : Option Addr} {m cap : Nat} {xs : List Value} (h : w.ownsRow base E size (.slice oa m cap) n xs) (hk : ∀ b ∈ obk oa, w'.heap[b]? = w.heap[b]?) : w'.ownsRow base E size (.slice oa m cap) n xs := by
  refine ⟨h.1, h.2.imp id fun ⟨g, c, cur, e, hb, hc, hr⟩ => ⟨g, c, cur, e, hb, ?_, hr⟩⟩
  simp only [Value.slice.injEq] at e
  rw [hk g (by rw [e.1]; simp [obk])]; exact hc
theorem owns_lt {w : World} {base E size n : Nat} {oa : Option Addr} {m cap : Nat} {xs : List Value} (h : w.ownsRow base E size (.slice oa m cap) n xs) : ∀ b ∈ obk oa, base ≤ b ∧ b < w.heap.size := by
  intro b hb
  rw [← obk_own (n := m) (cap := cap)] at hb
  exact World.ownsRow.lt h b (by simpa using hb)
theorem owns_mono {w : World} {base base' E size n : Nat} {v : Value} {xs : List Value} (h : w.ownsRow base E size v n xs) (hb : ∀ b, v.ownBlock = some b → base' ≤ b) : w.ownsRow base' E size v n xs :=
  ⟨h.1, h.2.imp id fun ⟨g, c, cur, e, hg, hr⟩ => ⟨g, c, cur, e, hb g (by rw [e]; rfl), hr⟩⟩

section
variable (tE tS tD tT : Nat)
mutual
/-- an expression's cells, and the blocks that its kids lie in -/
def ExS (w : World) : Ex → List Value → List Nat → Prop
  | .mk k op wd nm kids a, l, S => ∃ oa cap xs S', l = [.int .u8 k, .int .u8 op, .int .i64 wd, str nm, .slice oa kids.length cap, .int .i64 a] ∧ w.ownsRow 0 tE 6 (.slice oa kids.length cap) kids.length xs ∧ S = obk oa ++ S' ∧ ExSs w kids xs S'
termination_by structural e => e
def ExSs (w : World) : List Ex → List Value → List Nat → Prop
  | [], xs, S => xs = [] ∧ S = []
  | e :: r, xs, S => ∃ v S1 xr Sr, xs = v ++ xr ∧ S = S1 ++ Sr ∧ ExS w e v S1 ∧ ExSs w r xr Sr
termination_by structural l => l
end
def ExR (w : World) (oa : Option Addr) (cap : Nat) (es : List Ex) (S : List Nat) : Prop := ∃ xs S', w.ownsRow 0 tE 6 (.slice oa es.length cap) es.length xs ∧ S = obk oa ++ S' ∧ ExSs tE w es xs S'
mutual
def SmS (w : World) : Sm → List Value → List Nat → Prop
  | .mk k nm other e body els a, l, S => ∃ oe ce ob cb ol cl Se xb Sb xl Sl, l = [.int .u8 k, str nm, str other, .slice oe e.length ce, .slice ob body.length cb, .slice ol els.length cl, .int .i64 a] ∧ ExR tE w oe ce e Se ∧
      w.ownsRow 0 tS 7 (.slice ob body.length cb) body.length xb ∧ SmSs w body xb Sb ∧ w.ownsRow 0 tS 7 (.slice ol els.length cl) els.length xl ∧ SmSs w els xl Sl ∧ S = Se ++ ((obk ob ++ Sb) ++ (obk ol ++ Sl))
termination_by structural s => s
def SmSs (w : World) : List Sm → List Value → List Nat → Prop
  | [], xs, S => xs = [] ∧ S = []
  | s :: r, xs, S => ∃ v S1 xr Sr, xs = v ++ xr ∧ S = S1 ++ Sr ∧ SmS w s v S1 ∧ SmSs w r xr Sr
termination_by structural l => l
end
def SmR (w : World) (oa : Option Addr) (cap : Nat) (ss : List Sm) (S : List Nat) : Prop := ∃ xs S', w.ownsRow 0 tS 7 (.slice oa ss.length cap) ss.length xs ∧ S = obk oa ++ S' ∧ SmSs tE tS w ss xs S'
def DcR (w : World) (oa : Option Addr) (cap : Nat) (ds : List Dc) (S : List Nat) : Prop := w.ownsRow 0 tD 3 (.slice oa ds.length cap) ds.length (ds.flatMap dcL) ∧ S = obk oa
def ThS (w : World) (t : Th) (l : List Value) (S : List Nat) : Prop := ∃ ol cl ob cb Sl Sb, l = [str t.nm, .slice ol t.locals.length cl, .slice ob t.body.length cb, .int .i64 t.a] ∧ DcR tD w ol cl t.locals Sl ∧ SmR tE tS w ob cb t.body Sb ∧ S = Sl ++ Sb
def ThSs (w : World) : List Th → List Value → List Nat → Prop
  | [], xs, S => xs = [] ∧ S = []
  | t :: r, xs, S => ∃ v S1 xr Sr, xs = v ++ xr ∧ S = S1 ++ Sr ∧ ThS tE tS tD w t v S1 ∧ ThSs w r xr Sr
def ThR (w : World) (oa : Option Addr) (cap : Nat) (ts : List Th) (S : List Nat) : Prop := ∃ xs S', w.ownsRow 0 tT 4 (.slice oa ts.length cap) ts.length xs ∧ S = obk oa ++ S' ∧ ThSs tE tS tD w ts xs S'
def PgS (w : World) (p : Pg) (l : List Value) (S : List Nat) : Prop := ∃ os cs ol cl ot ct Ss Sl St, l = [.slice os p.shared.length cs, .slice ol p.locks.length cl, .slice ot p.threads.length ct] ∧ DcR tD w os cs p.shared Ss ∧ DcR tD w ol cl p.locks Sl ∧ ThR tE tS tD tT w ot ct p.threads St ∧ S = Ss ++ (Sl ++ St)
end

section
variable {tE tS tD tT : Nat} {w w' : World}
theorem ExS_iff {e : Ex} {l : List Value} {S : List Nat} : ExS tE w e l S ↔ ∃ oa cap, l = [.int .u8 e.k, .int .u8 e.op, .int .i64 e.wd, str e.nm, .slice oa e.kids.length cap, .int .i64 e.a] ∧ ExR tE w oa cap e.kids S := by
  cases e with
  | mk k op wd nm kids a =>
    rw [ExS]
    constructor
    · rintro ⟨oa, cap, xs, S', h1, h2, h3, h4⟩
      exact ⟨oa, cap, h1, xs, S', h2, h3, h4⟩
    · rintro ⟨oa, cap, h1, xs, S', h2, h3, h4⟩
      exact ⟨oa, cap, xs, S', h1, h2, h3, h4⟩
theorem SmS_iff {s : Sm} {l : List Value} {S : List Nat} : SmS tE tS w s l S ↔ ∃ oe ce ob cb ol cl Se Sb Sl, l = [.int .u8 s.k, str s.nm, str s.other, .slice oe s.e.length ce, .slice ob s.body.length cb, .slice ol s.els.length cl, .int .i64 s.a] ∧
    ExR tE w oe ce s.e Se ∧ SmR tE tS w ob cb s.body Sb ∧ SmR tE tS w ol cl s.els Sl ∧ S = Se ++ (Sb ++ Sl) := by
  cases s with
  | mk k nm other e body els a =>
    rw [SmS]
    constructor
    · rintro ⟨oe, ce, ob, cb, ol, cl, Se, xb, Sb, xl, Sl, h1, h2, h3, h4, h5, h6, h7⟩
      exact ⟨oe, ce, ob, cb, ol, cl, Se, _, _, h1, h2, ⟨xb, Sb, h3, rfl, h4⟩, ⟨xl, Sl, h5, rfl, h6⟩, h7⟩
    · rintro ⟨oe, ce, ob, cb, ol, cl, Se, _, _, h1, h2, ⟨xb, Sb, h3, rfl, h4⟩, ⟨xl, Sl, h5, rfl, h6⟩, h7⟩
      exact ⟨oe, ce, ob, cb, ol, cl, Se, xb, Sb, xl, Sl, h1, h2, h3, h4, h5, h6, h7⟩
theorem ExS.len {e : Ex} {l : List Value} {S : List Nat} (h : ExS tE w e l S) : l.length = 6 := by obtain ⟨oa, cap, rfl, _⟩ := ExS_iff.1 h; rfl
theorem SmS.len {s : Sm} {l : List Value} {S : List Nat} (h : SmS tE tS w s l S) : l.length = 7 := by obtain ⟨oe, ce, ob, cb, ol, cl, Se, Sb, Sl, rfl, _⟩ := SmS_iff.1 h; rfl
theorem ThS.len {t : Th} {l : List Value} {S : List Nat} (h : ThS tE tS tD w t l S) : l.length = 4 := by obtain ⟨ol, cl, ob, cb, Sl, Sb, rfl, _⟩ := h; rfl
/-! ### what is apart stays -/
mutual
theorem ExS.kept : ∀ {e : Ex} {l : List Value} {S : List Nat}, ExS tE w e l S → (∀ b ∈ S, w'.heap[b]? = w.heap[b]?) → ExS tE w' e l S
  | .mk k op wd nm kids a, l, S, h, hk => by
    rw [ExS] at h ⊢
    obtain ⟨oa, cap, xs, S', h1, h2, rfl, h4⟩ := h
    exact ⟨oa, cap, xs, S', h1, owns_kept h2 (fun b hb => hk b (List.mem_append.2 (.inl hb))), rfl, ExSs.kept h4 (fun b hb => hk b (List.mem_append.2 (.inr hb)))⟩
termination_by structural e => e
theorem ExSs.kept : ∀ {es : List Ex} {xs : List Value} {S : List Nat}, ExSs tE w es xs S → (∀ b ∈ S, w'.heap[b]? = w.heap[b]?) → ExSs tE w' es xs S
  | [], xs, S, h, hk => by rw [ExSs] at h ⊢; exact h
  | e :: r, xs, S, h, hk => by
    rw [ExSs] at h ⊢
    obtain ⟨v, S1, xr, Sr, rfl, rfl, h1, h2⟩ := h
    exact ⟨v, S1, xr, Sr, rfl, rfl, ExS.kept h1 (fun b hb => hk b (List.mem_append.2 (.inl hb))), ExSs.kept h2 (fun b hb => hk b (List.mem_append.2 (.inr hb)))⟩
termination_by structural es => es
end
theorem ExR.kept {oa : Option Addr} {cap : Nat} {es : List Ex} {S : List Nat} (h : ExR tE w oa cap es S) (hk : ∀ b ∈ S, w'.heap[b]? = w.heap[b]?) : ExR tE w' oa cap es S := by
  obtain ⟨xs, S', h1, rfl, h3⟩ := h
  exact ⟨xs, S', owns_kept h1 (fun b hb => hk b (List.mem_append.2 (.inl hb))), rfl, ExSs.kept h3 (fun b hb => hk b (List.mem_append.2 (.inr hb)))⟩
mutual
theorem SmS.kept : ∀ {e : Sm} {l : List Value} {S : List Nat}, SmS tE tS w e l S → (∀ b ∈ S, w'.heap[b]? = w.heap[b]?) → SmS tE tS w' e l S
  | .mk k nm other e body els a, l, S, h, hk => by
    rw [SmS] at h ⊢
    obtain ⟨oe, ce, ob, cb, ol, cl, Se, xb, Sb, xl, Sl, h1, h2, h3, h4, h5, h6, rfl⟩ := h
    exact ⟨oe, ce, ob, cb, ol, cl, Se, xb, Sb, xl, Sl, h1, h2.kept (fun b hb => hk b (by simp [hb])), owns_kept h3 (fun b hb => hk b (by simp [hb])), SmSs.kept h4 (fun b hb => hk b (by simp [hb])),
      owns_kept h5 (fun b hb => hk b (by simp [hb])), SmSs.kept h6 (fun b hb => hk b (by simp [hb])), rfl⟩
termination_by structural e => e
theorem SmSs.kept : ∀ {es : List Sm} {xs : List Value} {S : List Nat}, SmSs tE tS w es xs S → (∀ b ∈ S, w'.heap[b]? = w.heap[b]?) → SmSs tE tS w' es xs S
  | [], xs, S, h, hk => by rw [SmSs] at h ⊢; exact h
  | e :: r, xs, S, h, hk => by
    rw [SmSs] at h ⊢
    obtain ⟨v, S1, xr, Sr, rfl, rfl, h1, h2⟩ := h
    exact ⟨v, S1, xr, Sr, rfl, rfl, SmS.kept h1 (fun b hb => hk b (List.mem_append.2 (.inl hb))), SmSs.kept h2 (fun b hb => hk b (List.mem_append.2 (.inr hb)))⟩
termination_by structural es => es
end
theorem SmR.kept {oa : Option Addr} {cap : Nat} {es : List Sm} {S : List Nat} (h : SmR tE tS w oa cap es S) (hk : ∀ b ∈ S, w'.heap[b]? = w.heap[b]?) : SmR tE tS w' oa cap es S := by
  obtain ⟨xs, S', h1, rfl, h3⟩ := h
  exact ⟨xs, S', owns_kept h1 (fun b hb => hk b (List.mem_append.2 (.inl hb))), rfl, SmSs.kept h3 (fun b hb => hk b (List.mem_append.2 (.inr hb)))⟩
theorem DcR.kept {oa : Option Addr} {cap : Nat} {es : List Dc} {S : List Nat} (h : DcR tD w oa cap es S) (hk : ∀ b ∈ S, w'.heap[b]? = w.heap[b]?) : DcR tD w' oa cap es S := by
  obtain ⟨h1, rfl⟩ := h
  exact ⟨owns_kept h1 hk, rfl⟩
theorem ThS.kept {t : Th} {l : List Value} {S : List Nat} (h : ThS tE tS tD w t l S) (hk : ∀ b ∈ S, w'.heap[b]? = w.heap[b]?) : ThS tE tS tD w' t l S := by
  obtain ⟨ol, cl, ob, cb, Sl, Sb, h1, h2, h3, rfl⟩ := h
  exact ⟨ol, cl, ob, cb, Sl, Sb, h1, h2.kept (fun b hb => hk b (List.mem_append.2 (.inl hb))), h3.kept (fun b hb => hk b (List.mem_append.2 (.inr hb))), rfl⟩
theorem ThSs.kept : ∀ {es : List Th} {xs : List Value} {S : List Nat}, ThSs tE tS tD w es xs S → (∀ b ∈ S, w'.heap[b]? = w.heap[b]?) → ThSs tE tS tD w' es xs S
  | [], xs, S, h, hk => by rw [ThSs] at h ⊢; exact h
  | e :: r, xs, S, h, hk => by
    rw [ThSs] at h ⊢
    obtain ⟨v, S1, xr, Sr, rfl, rfl, h1, h2⟩ := h
    exact ⟨v, S1, xr, Sr, rfl, rfl, h1.kept (fun b hb => hk b (List.mem_append.2 (.inl hb))), ThSs.kept h2 (fun b hb => hk b (List.mem_append.2 (.inr hb)))⟩
theorem ThR.kept {oa : Option Addr} {cap : Nat} {es : List Th} {S : List Nat} (h : ThR tE tS tD tT w oa cap es S) (hk : ∀ b ∈ S, w'.heap[b]? = w.heap[b]?) : ThR tE tS tD tT w' oa cap es S := by
  obtain ⟨xs, S', h1, rfl, h3⟩ := h
  exact ⟨xs, S', owns_kept h1 (fun b hb => hk b (List.mem_append.2 (.inl hb))), rfl, ThSs.kept h3 (fun b hb => hk b (List.mem_append.2 (.inr hb)))⟩
theorem PgS.kept {p : Pg} {l : List Value} {S : List Nat} (h : PgS tE tS tD tT w p l S) (hk : ∀ b ∈ S, w'.heap[b]? = w.heap[b]?) : PgS tE tS tD tT w' p l S := by
  obtain ⟨os, cs, ol, cl, ot, ct, Ss, Sl, St, h1, h2, h3, h4, rfl⟩ := h
  exact ⟨os, cs, ol, cl, ot, ct, Ss, Sl, St, h1, h2.kept (fun b hb => hk b (by simp [hb])), h3.kept (fun b hb => hk b (by simp [hb])), h4.kept (fun b hb => hk b (by simp [hb])), rfl⟩

/-! ### the blocks are there -/
mutual
theorem ExS.lt : ∀ {e : Ex} {l : List Value} {S : List Nat}, ExS tE w e l S → ∀ b ∈ S, b < w.heap.size
  | .mk k op wd nm kids a, l, S, h, b, hb => by
    rw [ExS] at h
    obtain ⟨oa, cap, xs, S', h1, h2, rfl, h4⟩ := h
    rcases List.mem_append.1 hb with hb | hb
    · exact (owns_lt h2 b hb).2
    · exact ExSs.lt h4 b hb
termination_by structural e => e
theorem ExSs.lt : ∀ {es : List Ex} {xs : List Value} {S : List Nat}, ExSs tE w es xs S → ∀ b ∈ S, b < w.heap.size
  | [], xs, S, h, b, hb => by rw [ExSs] at h; rw [h.2] at hb; cases hb
  | e :: r, xs, S, h, b, hb => by
    rw [ExSs] at h
    obtain ⟨v, S1, xr, Sr, rfl, rfl, h1, h2⟩ := h
    rcases List.mem_append.1 hb with hb | hb
    · exact ExS.lt h1 b hb
    · exact ExSs.lt h2 b hb
termination_by structural es => es
end
theorem ExR.lt {oa : Option Addr} {cap : Nat} {es : List Ex} {S : List Nat} (h : ExR tE w oa cap es S) : ∀ b ∈ S, b < w.heap.size := by
  obtain ⟨xs, S', h1, rfl, h3⟩ := h
  intro b hb
  rcases List.mem_append.1 hb with hb | hb
  · exact (owns_lt h1 b hb).2
  · exact ExSs.lt h3 b hb
mutual
theorem SmS.lt : ∀ {e : Sm} {l : List Value} {S : List Nat}, SmS tE tS w e l S → ∀ b ∈ S, b < w.heap.size
  | .mk k nm other e body els a, l, S, h, b, hb => by
    rw [SmS] at h
    obtain ⟨oe, ce, ob, cb, ol, cl, Se, xb, Sb, xl, Sl, h1, h2, h3, h4, h5, h6, rfl⟩ := h
    simp only [List.mem_append] at hb
    rcases hb with hb | (hb | hb) | (hb | hb)
    · exact h2.lt b hb
    · exact (owns_lt h3 b hb).2
    · exact SmSs.lt h4 b hb
    · exact (owns_lt h5 b hb).2
    · exact SmSs.lt h6 b hb
termination_by structural e => e
theorem SmSs.lt : ∀ {es : List Sm} {xs : List Value} {S : List Nat}, SmSs tE tS w es xs S → ∀ b ∈ S, b < w.heap.size
  | [], xs, S, h, b, hb => by rw [SmSs] at h; rw [h.2] at hb; cases hb
  | e :: r, xs, S, h, b, hb => by
    rw [SmSs] at h
    obtain ⟨v, S1, xr, Sr, rfl, rfl, h1, h2⟩ := h
    rcases List.mem_append.1 hb with hb | hb
    · exact SmS.lt h1 b hb
    · exact SmSs.lt h2 b hb
termination_by structural es => es
end
theorem SmR.lt {oa : Option Addr} {cap : Nat} {es : List Sm} {S : List Nat} (h : SmR tE tS w oa cap es S) : ∀ b ∈ S, b < w.heap.size := by
  obtain ⟨xs, S', h1, rfl, h3⟩ := h
  intro b hb
  rcases List.mem_append.1 hb with hb | hb
  · exact (owns_lt h1 b hb).2
  · exact SmSs.lt h3 b hb
theorem DcR.lt {oa : Option Addr} {cap : Nat} {es : List Dc} {S : List Nat} (h : DcR tD w oa cap es S) : ∀ b ∈ S, b < w.heap.size := by
  obtain ⟨h1, rfl⟩ := h
  exact fun b hb => (owns_lt h1 b hb).2
theorem ThS.lt {t : Th} {l : List Value} {S : List Nat} (h : ThS tE tS tD w t l S) : ∀ b ∈ S, b < w.heap.size := by
  obtain ⟨ol, cl, ob, cb, Sl, Sb, h1, h2, h3, rfl⟩ := h
  intro b hb
  rcases List.mem_append.1 hb with hb | hb
  · exact h2.lt b hb
  · exact h3.lt b hb
theorem ThSs.lt : ∀ {es : List Th} {xs : List Value} {S : List Nat}, ThSs tE tS tD w es xs S → ∀ b ∈ S, b < w.heap.size
  | [], xs, S, h, b, hb => by rw [ThSs] at h; rw [h.2] at hb; cases hb
  | e :: r, xs, S, h, b, hb => by
    rw [ThSs] at h
    obtain ⟨v, S1, xr, Sr, rfl, rfl, h1, h2⟩ := h
    rcases List.mem_append.1 hb with hb | hb
    · exact h1.lt b hb
    · exact ThSs.lt h2 b hb
theorem ThR.lt {oa : Option Addr} {cap : Nat} {es : List Th} {S : List Nat} (h : ThR tE tS tD tT w oa cap es S) : ∀ b ∈ S, b < w.heap.size := by
  obtain ⟨xs, S', h1, rfl, h3⟩ := h
  intro b hb
  rcases List.mem_append.1 hb with hb | hb
  · exact (owns_lt h1 b hb).2
  · exact ThSs.lt h3 b hb
theorem PgS.lt {p : Pg} {l : List Value} {S : List Nat} (h : PgS tE tS tD tT w p l S) : ∀ b ∈ S, b < w.heap.size := by
  obtain ⟨os, cs, ol, cl, ot, ct, Ss, Sl, St, h1, h2, h3, h4, rfl⟩ := h
  intro b hb
  simp only [List.mem_append] at hb
  rcases hb with hb | hb | hb
  · exact h2.lt b hb
  · exact h3.lt b hb
  · exact h4.lt b hb

/-! ### lists of them -/
theorem ExSs_app : ∀ {a b : List Ex} {xs : List Value} {S : List Nat}, ExSs tE w (a ++ b) xs S ↔ ∃ xa xb Sa Sb, xs = xa ++ xb ∧ S = Sa ++ Sb ∧ ExSs tE w a xa Sa ∧ ExSs tE w b xb Sb
  | [], b, xs, S => by
    simp only [List.nil_append, ExSs]
    constructor
    · intro h; exact ⟨[], xs, [], S, rfl, rfl, ⟨rfl, rfl⟩, h⟩
    · rintro ⟨xa, xb, Sa, Sb, rfl, rfl, ⟨rfl, rfl⟩, h⟩; exact h
  | e :: r, b, xs, S => by
    simp only [List.cons_append, ExSs]
    constructor
    · rintro ⟨v, S1, xr, Sr, rfl, rfl, h1, h2⟩
      obtain ⟨xa, xb, Sa, Sb, rfl, rfl, h3, h4⟩ := ExSs_app.1 h2
      exact ⟨v ++ xa, xb, S1 ++ Sa, Sb, by simp, by simp, ⟨v, S1, xa, Sa, rfl, rfl, h1, h3⟩, h4⟩
    · rintro ⟨_, xb, _, Sb, rfl, rfl, ⟨v, S1, xa, Sa, rfl, rfl, h1, h3⟩, h4⟩
      exact ⟨v, S1, xa ++ xb, Sa ++ Sb, by simp, by simp, h1, ExSs_app.2 ⟨xa, xb, Sa, Sb, rfl, rfl, h3, h4⟩⟩
theorem SmSs_app : ∀ {a b : List Sm} {xs : List Value} {S : List Nat}, SmSs tE tS w (a ++ b) xs S ↔ ∃ xa xb Sa Sb, xs = xa ++ xb ∧ S = Sa ++ Sb ∧ SmSs tE tS w a xa Sa ∧ SmSs tE tS w b xb Sb
  | [], b, xs, S => by
    simp only [List.nil_append, SmSs]
    constructor
    · intro h; exact ⟨[], xs, [], S, rfl, rfl, ⟨rfl, rfl⟩, h⟩
    · rintro ⟨xa, xb, Sa, Sb, rfl, rfl, ⟨rfl, rfl⟩, h⟩; exact h
  | e :: r, b, xs, S => by
    simp only [List.cons_append, SmSs]
    constructor
    · rintro ⟨v, S1, xr, Sr, rfl, rfl, h1, h2⟩
      obtain ⟨xa, xb, Sa, Sb, rfl, rfl, h3, h4⟩ := SmSs_app.1 h2
      exact ⟨v ++ xa, xb, S1 ++ Sa, Sb, by simp, by simp, ⟨v, S1, xa, Sa, rfl, rfl, h1, h3⟩, h4⟩
    · rintro ⟨_, xb, _, Sb, rfl, rfl, ⟨v, S1, xa, Sa, rfl, rfl, h1, h3⟩, h4⟩
      exact ⟨v, S1, xa ++ xb, Sa ++ Sb, by simp, by simp, h1, SmSs_app.2 ⟨xa, xb, Sa, Sb, rfl, rfl, h3, h4⟩⟩
theorem ThSs_app : ∀ {a b : List Th} {xs : List Value} {S : List Nat}, ThSs tE tS tD w (a ++ b) xs S ↔ ∃ xa xb Sa Sb, xs = xa ++ xb ∧ S = Sa ++ Sb ∧ ThSs tE tS tD w a xa Sa ∧ ThSs tE tS tD w b xb Sb
  | [], b, xs, S => by
    simp only [List.nil_append, ThSs]
    constructor
    · intro h; exact ⟨[], xs, [], S, rfl, rfl, ⟨rfl, rfl⟩, h⟩
    · rintro ⟨xa, xb, Sa, Sb, rfl, rfl, ⟨rfl, rfl⟩, h⟩; exact h
  | e :: r, b, xs, S => by
    simp only [List.cons_append, ThSs]
    constructor
    · rintro ⟨v, S1, xr, Sr, rfl, rfl, h1, h2⟩
      obtain ⟨xa, xb, Sa, Sb, rfl, rfl, h3, h4⟩ := ThSs_app.1 h2
      exact ⟨v ++ xa, xb, S1 ++ Sa, Sb, by simp, by simp, ⟨v, S1, xa, Sa, rfl, rfl, h1, h3⟩, h4⟩
    · rintro ⟨_, xb, _, Sb, rfl, rfl, ⟨v, S1, xa, Sa, rfl, rfl, h1, h3⟩, h4⟩
      exact ⟨v, S1, xa ++ xb, Sa ++ Sb, by simp, by simp, h1, ThSs_app.2 ⟨xa, xb, Sa, Sb, rfl, rfl, h3, h4⟩⟩
theorem ExSs_one {e : Ex} {xs : List Value} {S : List Nat} : ExSs tE w [e] xs S ↔ ExS tE w e xs S := by
  simp only [ExSs]
  constructor
  · rintro ⟨v, S1, xr, Sr, rfl, rfl, h1, rfl, rfl⟩; simpa using h1
  · intro h; exact ⟨xs, S, [], [], by simp, by simp, h, rfl, rfl⟩
theorem SmSs_one {e : Sm} {xs : List Value} {S : List Nat} : SmSs tE tS w [e] xs S ↔ SmS tE tS w e xs S := by
  simp only [SmSs]
  constructor
  · rintro ⟨v, S1, xr, Sr, rfl, rfl, h1, rfl, rfl⟩; simpa using h1
  · intro h; exact ⟨xs, S, [], [], by simp, by simp, h, rfl, rfl⟩
theorem ThSs_one {e : Th} {xs : List Value} {S : List Nat} : ThSs tE tS tD w [e] xs S ↔ ThS tE tS tD w e xs S := by
  simp only [ThSs]
  constructor
  · rintro ⟨v, S1, xr, Sr, rfl, rfl, h1, rfl, rfl⟩; simpa using h1
  · intro h; exact ⟨xs, S, [], [], by simp, by simp, h, rfl, rfl⟩
theorem ExSs.snoc {a : List Ex} {e : Ex} {xs l : List Value} {S S1 : List Nat} (h : ExSs tE w a xs S) (h1 : ExS tE w e l S1) : ExSs tE w (a ++ [e]) (xs ++ l) (S ++ S1) := ExSs_app.2 ⟨xs, l, S, S1, rfl, rfl, h, ExSs_one.2 h1⟩
theorem SmSs.snoc {a : List Sm} {e : Sm} {xs l : List Value} {S S1 : List Nat} (h : SmSs tE tS w a xs S) (h1 : SmS tE tS w e l S1) : SmSs tE tS w (a ++ [e]) (xs ++ l) (S ++ S1) := SmSs_app.2 ⟨xs, l, S, S1, rfl, rfl, h, SmSs_one.2 h1⟩
theorem ThSs.snoc {a : List Th} {e : Th} {xs l : List Value} {S S1 : List Nat} (h : ThSs tE tS tD w a xs S) (h1 : ThS tE tS tD w e l S1) : ThSs tE tS tD w (a ++ [e]) (xs ++ l) (S ++ S1) := ThSs_app.2 ⟨xs, l, S, S1, rfl, rfl, h, ThSs_one.2 h1⟩
theorem ThSs.get : ∀ {es : List Th} {xs : List Value} {S : List Nat} {j : Nat} {e : Th}, ThSs tE tS tD w es xs S → es[j]? = some e → ∃ Sj, ThS tE tS tD w e ((xs.drop (j * 4)).take 4) Sj ∧ ∀ b ∈ Sj, b ∈ S
  | [], xs, S, j, e, h, hj => by simp at hj
  | x :: r, xs, S, 0, e, h, hj => by
    rw [ThSs] at h
    obtain ⟨v, S1, xr, Sr, rfl, rfl, h1, h2⟩ := h
    simp only [List.getElem?_cons_zero, Option.some.injEq] at hj
    subst hj
    refine ⟨S1, ?_, fun b hb => List.mem_append.2 (.inl hb)⟩
    simpa [List.take_append_of_le_length, List.take_of_length_le, h1.len] using h1
  | x :: r, xs, S, j + 1, e, h, hj => by
    rw [ThSs] at h
    obtain ⟨v, S1, xr, Sr, rfl, rfl, h1, h2⟩ := h
    obtain ⟨Sj, h3, h4⟩ := ThSs.get h2 (by simpa using hj)
    refine ⟨Sj, ?_, fun b hb => List.mem_append.2 (.inr (h4 b hb))⟩
    rw [show (j + 1) * 4 = v.length + j * 4 by rw [h1.len]; omega, ← List.drop_drop, List.drop_left]
    exact h3

/-! ### read as rows -/
theorem rowC_own {oa : Option Addr} {n cap E sz : Nat} {xs : List Value} {S : Nat → Prop} (h : w.ownsRow 0 E sz (.slice oa n cap) n xs) (hS : ∀ b ∈ obk oa, S b) : RowC w S sz oa n (fun j => (xs.drop (j * sz)).take sz) := by
  rcases Nat.eq_zero_or_pos n with h0 | h0
  · exact .inl h0
  · right
    obtain ⟨g, c, e, -⟩ := own_form h h0
    simp only [Value.slice.injEq] at e
    obtain ⟨rfl, -, rfl⟩ := e
    refine ⟨g, 0, rfl, hS g (by simp [obk]), (owns_lt h g (by simp [obk])).2, fun j hj => ⟨?_, fun i v hi => ?_⟩⟩
    · have h1 : xs.length = n * sz := h.1
      have h2 : j * sz + sz ≤ n * sz := by rw [← Nat.succ_mul]; exact Nat.mul_le_mul_right _ hj
      simp; omega
    · rw [List.getElem?_take] at hi
      split at hi
      · rw [List.getElem?_drop] at hi
        rw [Nat.zero_add]
        exact own_cell h hi
      · cases hi
mutual
theorem ExS.toV {T : Nat → Prop} : ∀ {e : Ex} {l : List Value} {S : List Nat}, ExS tE w e l S → (∀ b ∈ S, T b) → ExV w T e l
  | .mk k op wd nm kids a, l, S, h, hS => by
    rw [ExS] at h
    obtain ⟨oa, cap, xs, S', rfl, h2, rfl, h4⟩ := h
    refine .mk _ (rowC_own h2 fun b hb => hS b (List.mem_append.2 (.inl hb))) ?_
    exact ExSs.toV h4 (fun b hb => hS b (List.mem_append.2 (.inr hb)))
termination_by structural e => e
theorem ExSs.toV {T : Nat → Prop} : ∀ {es : List Ex} {xs : List Value} {S : List Nat}, ExSs tE w es xs S → (∀ b ∈ S, T b) → ∀ (j : Nat) x, es[j]? = some x → ExV w T x ((xs.drop (j * 6)).take 6)
  | [], xs, S, h, hS, j, x, hx => by simp at hx
  | e :: r, xs, S, h, hS, 0, x, hx => by
    rw [ExSs] at h
    obtain ⟨v, S1, xr, Sr, rfl, rfl, h1, h2⟩ := h
    simp only [List.getElem?_cons_zero, Option.some.injEq] at hx
    subst hx
    have := ExS.toV h1 (fun b hb => hS b (List.mem_append.2 (.inl hb)))
    simpa [List.take_append_of_le_length, List.take_of_length_le, h1.len] using this
  | e :: r, xs, S, h, hS, j + 1, x, hx => by
    rw [ExSs] at h
    obtain ⟨v, S1, xr, Sr, rfl, rfl, h1, h2⟩ := h
    have := ExSs.toV h2 (fun b hb => hS b (List.mem_append.2 (.inr hb))) j x (by simpa using hx)
    rw [show (j + 1) * 6 = v.length + j * 6 by rw [h1.len]; omega, ← List.drop_drop, List.drop_left]
    exact this
termination_by structural es => es
end
theorem ExR.toRow {T : Nat → Prop} {oa : Option Addr} {cap : Nat} {es : List Ex} {S : List Nat} (h : ExR tE w oa cap es S) (hS : ∀ b ∈ S, T b) : ExRow w T oa es := by
  obtain ⟨xs, S', h1, rfl, h3⟩ := h
  exact ⟨_, rowC_own h1 fun b hb => hS b (List.mem_append.2 (.inl hb)), ExSs.toV h3 (fun b hb => hS b (List.mem_append.2 (.inr hb)))⟩
mutual
theorem SmS.toV {T : Nat → Prop} : ∀ {e : Sm} {l : List Value} {S : List Nat}, SmS tE tS w e l S → (∀ b ∈ S, T b) → SmV w T e l
  | .mk k nm other e body els a, l, S, h, hS => by
    rw [SmS] at h
    obtain ⟨oe, ce, ob, cb, ol, cl, Se, xb, Sb, xl, Sl, rfl, h2, h3, h4, h5, h6, rfl⟩ := h
    exact .mk _ _ (h2.toRow fun b hb => hS b (by simp [hb])) (rowC_own h3 fun b hb => hS b (by simp [hb])) (SmSs.toV h4 fun b hb => hS b (by simp [hb])) (rowC_own h5 fun b hb => hS b (by simp [hb])) (SmSs.toV h6 fun b hb => hS b (by simp [hb]))
termination_by structural e => e
theorem SmSs.toV {T : Nat → Prop} : ∀ {es : List Sm} {xs : List Value} {S : List Nat}, SmSs tE tS w es xs S → (∀ b ∈ S, T b) → ∀ (j : Nat) x, es[j]? = some x → SmV w T x ((xs.drop (j * 7)).take 7)
  | [], xs, S, h, hS, j, x, hx => by simp at hx
  | e :: r, xs, S, h, hS, 0, x, hx => by
    rw [SmSs] at h
    obtain ⟨v, S1, xr, Sr, rfl, rfl, h1, h2⟩ := h
    simp only [List.getElem?_cons_zero, Option.some.injEq] at hx
    subst hx
    have := SmS.toV h1 (fun b hb => hS b (List.mem_append.2 (.inl hb)))
    simpa [List.take_append_of_le_length, List.take_of_length_le, h1.len] using this
  | e :: r, xs, S, h, hS, j + 1, x, hx => by
    rw [SmSs] at h
    obtain ⟨v, S1, xr, Sr, rfl, rfl, h1, h2⟩ := h
    have := SmSs.toV h2 (fun b hb => hS b (List.mem_append.2 (.inr hb))) j x (by simpa using hx)
    rw [show (j + 1) * 7 = v.length + j * 7 by rw [h1.len]; omega, ← List.drop_drop, List.drop_left]
    exact this
termination_by structural es => es
end
theorem SmR.toRow {T : Nat → Prop} {oa : Option Addr} {cap : Nat} {es : List Sm} {S : List Nat} (h : SmR tE tS w oa cap es S) (hS : ∀ b ∈ S, T b) : SmRow w T oa es := by
  obtain ⟨xs, S', h1, rfl, h3⟩ := h
  exact ⟨_, rowC_own h1 fun b hb => hS b (List.mem_append.2 (.inl hb)), SmSs.toV h3 (fun b hb => hS b (List.mem_append.2 (.inr hb)))⟩
theorem dcs_chunk : ∀ {ds : List Dc} {j : Nat} {d : Dc}, ds[j]? = some d → ((ds.flatMap dcL).drop (j * 3)).take 3 = dcL d
  | [], j, d, h => by simp at h
  | x :: r, 0, d, h => by
    simp only [List.getElem?_cons_zero, Option.some.injEq] at h
    subst h
    simp [dcL]
  | x :: r, j + 1, d, h => by
    rw [List.flatMap_cons, show (j + 1) * 3 = (dcL x).length + j * 3 by simp [dcL]; omega, ← List.drop_drop, List.drop_left]
    exact dcs_chunk (by simpa using h)
theorem DcR.toRow {T : Nat → Prop} {oa : Option Addr} {cap : Nat} {es : List Dc} {S : List Nat} (h : DcR tD w oa cap es S) (hS : ∀ b ∈ S, T b) : DcRow w T oa es := by
  obtain ⟨h1, rfl⟩ := h
  refine (rowC_own h1 hS).imp id fun ⟨b, off, e, hb, hl, hc⟩ => ⟨b, off, e, hb, hl, fun j hj => ?_⟩
  have := hc j hj
  dsimp only at this
  rw [dcs_chunk (List.getElem?_eq_getElem hj)] at this
  simpa only [List.getD, List.getElem?_eq_getElem hj, Option.getD_some] using this
theorem ThS.toV {T : Nat → Prop} {t : Th} {l : List Value} {S : List Nat} (h : ThS tE tS tD w t l S) (hS : ∀ b ∈ S, T b) : ThV w T t l := by
  obtain ⟨ol, cl, ob, cb, Sl, Sb, h1, h2, h3, rfl⟩ := h
  exact ⟨ol, cl, ob, cb, h1, h2.toRow fun b hb => hS b (by simp [hb]), h3.toRow fun b hb => hS b (by simp [hb])⟩
theorem ThSs.toV {T : Nat → Prop} {es : List Th} {xs : List Value} {S : List Nat} (h : ThSs tE tS tD w es xs S) (hS : ∀ b ∈ S, T b) (j : Nat) (x : Th) (hx : es[j]? = some x) : ThV w T x ((xs.drop (j * 4)).take 4) := by
  obtain ⟨Sj, h1, h2⟩ := h.get hx
  exact h1.toV fun b hb => hS b (h2 b hb)
theorem ThR.toRow {T : Nat → Prop} {oa : Option Addr} {cap : Nat} {es : List Th} {S : List Nat} (h : ThR tE tS tD tT w oa cap es S) (hS : ∀ b ∈ S, T b) : ThRow w T oa es := by
  obtain ⟨xs, S', h1, rfl, h3⟩ := h
  exact ⟨_, rowC_own h1 fun b hb => hS b (List.mem_append.2 (.inl hb)), h3.toV (fun b hb => hS b (List.mem_append.2 (.inr hb)))⟩
theorem PgS.toV {T : Nat → Prop} {p : Pg} {l : List Value} {S : List Nat} (h : PgS tE tS tD tT w p l S) (hS : ∀ b ∈ S, T b) : PgV w T p l := by
  obtain ⟨os, cs, ol, cl, ot, ct, Ss, Sl, St, h1, h2, h3, h4, rfl⟩ := h
  exact ⟨os, cs, ol, cl, ot, ct, h1, h2.toRow fun b hb => hS b (by simp [hb]), h3.toRow fun b hb => hS b (by simp [hb]), h4.toRow fun b hb => hS b (by simp [hb])⟩

/-! ### new trees, held -/
/-- the blocks are new since 'n', each is named once -/
def Nw (n : Nat) (S : List Nat) : Prop := S.Nodup ∧ ∀ b ∈ S, n ≤ b
theorem Nw.nil {n : Nat} : Nw n [] := ⟨List.nodup_nil, by simp⟩
theorem Nw.le {n m : Nat} {S : List Nat} (h : Nw n S) (hm : m ≤ n) : Nw m S := ⟨h.1, fun b hb => Nat.le_trans hm (h.2 b hb)⟩
theorem Nw.app {n : Nat} {S T : List Nat} (h : Nw n S) (k : Nw n T) (hd : ∀ b ∈ S, b ∉ T) : Nw n (S ++ T) := ⟨List.nodup_append.2 ⟨h.1, k.1, fun a ha b hb e => hd a ha (e ▸ hb)⟩, fun b hb => by
  rcases List.mem_append.1 hb with h1 | h1
  · exact h.2 b h1
  · exact k.2 b h1⟩
theorem Nw.left {n : Nat} {S T : List Nat} (h : Nw n (S ++ T)) : Nw n S := ⟨(List.nodup_append.1 h.1).1, fun b hb => h.2 b (List.mem_append.2 (.inl hb))⟩
theorem Nw.right {n : Nat} {S T : List Nat} (h : Nw n (S ++ T)) : Nw n T := ⟨(List.nodup_append.1 h.1).2.1, fun b hb => h.2 b (List.mem_append.2 (.inr hb))⟩
theorem Nw.ne {n : Nat} {S T : List Nat} (h : Nw n (S ++ T)) : ∀ b ∈ S, b ∉ T := fun b hb hb' => (List.nodup_append.1 h.1).2.2 b hb b hb' rfl
/-- what hangs on the blocks 'S' alone -/
theorem loc_of {S : List Nat} {φ : World → Prop} (h : ∀ w w', φ w → (∀ b ∈ S, w'.heap[b]? = w.heap[b]?) → φ w') : Loc S φ := fun a b _ hk hp => h a b hp hk
theorem holds_of {base : Nat} {S : List Nat} {φ : World → Prop} (h : φ w) (hlt : ∀ b ∈ S, b < w.heap.size) (hk : ∀ w w', φ w → (∀ b ∈ S, w'.heap[b]? = w.heap[b]?) → φ w') : (Res.tree S φ).holds base w := ⟨h, hlt, loc_of hk⟩
end
end Sx


/- The engine, nineteenth part: rows of another's copied; new trees put together. -/
namespace Sx
open Go Go.RowKit
section
variable {w0 w w' : World} {M : List Nat} {hs : List Res}
variable {P : Program} {n : Fr} {L : List Oper} {Q : Exit → Act → World → Prop} {kn : Kn} {N : Act → World → Prop}
variable {d ty : Nat} {pos : String} {aft : Array Edge} {g : Option (Nat × Bool)}
/-- a row that can be read, or an empty one -/
def RdRowC (w : World) (oa : Option Addr) (l : List Value) : Prop := l = [] ∨ ∃ a, oa = some a ∧ ∀ k u, l[k]? = some u → w.cell? (a.add k) = some u
theorem run_append_none' (base : Nat) (t ty e : TypeId) (i : TypeInfo) (size c : Nat) (ht : P.underlying t = some (.slice e)) (hi : P.info? e = some i) (v : Value) (n : Nat) (xs : List Value) (hown : w.ownsRow base e size v n xs) :
    (Builtin.append_ #[t, t] ty #[v, .slice none 0 c]).run P w = .ok v w := by
  rcases hown.2 with ⟨rfl, rfl⟩ | ⟨g, cap, cur, rfl, _, _, hnc, _⟩
  · simp [Builtin.append_, run_underlying ht, Go.sizeOf, typeInfo, hi, Builtin.lenOf, Builtin.firstCells]
  · simp [Builtin.append_, run_underlying ht, Go.sizeOf, typeInfo, hi, Builtin.lenOf, Builtin.firstCells, hnc, storeCells]
theorem e_appr (st : St w0 M hs w) (i : Nat) {T E size bytes m len c : Nat} {x y : Operand} {v z : Value} {oa : Option Addr} {xs l : List Value} {ti : TypeInfo} (hw : gd L kn g = some true) (hd : okDst n (some d) = true)
    (hx : evO kn x = some v) (hy : evO kn y = some (.slice oa m c)) (hi : nth hs i = some (.own v E size len xs)) (hsrc : RdRowC w oa l)
    (ht : P.underlying T = some (.slice E)) (hinfo : P.info? E = some ti) (hz : ti.zero = some z) (hsize : ti.size = size) (hby : ti.bytes = bytes) (hzs : z.cells.size = size) (hsz : Nat.blt 0 size = true)
    (hl : l.length = m * size) (h1 : ∀ u ∈ l, u.oneCell' = true) (h63 : len + m ≤ maxLen) (hbytes : (len + m) * bytes ≤ 140737488355328) {len' : Nat} {ys : List Value} (hlen' : len + m = len') (hys : xs ++ l = ys)
    (next : ∀ oa cap w', St w0 M (setNth hs i (.own (.slice oa len' cap) E size len' ys)) w' → vN n N ((d, .slice oa len' cap) :: kn) w') :
    vS P n L Q ⟨some d, .call ⟨.builtin .append, #[x, y], #[T, T]⟩, ty, pos, aft, g⟩ N kn w := by
  subst hlen' hys
  have hsz' : 0 < size := by simpa [Nat.blt_eq] using hsz
  have hown0 : w.ownsRow w0.heap.size E size v len xs := st.res hi
  obtain ⟨v', w', hr, hown, hg, hat, ⟨oa', cap, rfl⟩⟩ : ∃ v' w', (Builtin.append_ #[T, T] ty #[v, .slice oa m c]).run P w = .ok v' w' ∧ w'.ownsRow w0.heap.size E size v' (len + m) (xs ++ l) ∧ w.grownBy w' v.ownBlock ∧
      (v'.ownBlock = v.ownBlock ∨ v'.ownBlock = some w.heap.size) ∧ ∃ oa cap, v' = .slice oa (len + m) cap := by
    have hform : ∀ {v' : Value} {w' : World} {k : Nat} {ys : List Value}, w'.ownsRow w0.heap.size E size v' k ys → ∃ oa cap, v' = .slice oa k cap := by
      intro v' w' k ys hown
      rcases hown.2 with ⟨rfl, h0⟩ | ⟨g, cap, cur, rfl, _⟩
      · exact ⟨none, 0, by rw [h0]⟩
      · exact ⟨_, _, rfl⟩
    have key : ∀ a, oa = some a → (∀ k u, l[k]? = some u → w.cell? (a.add k) = some u) → ∃ v' w', (Builtin.append_ #[T, T] ty #[v, .slice oa m c]).run P w = .ok v' w' ∧ w'.ownsRow w0.heap.size E size v' (len + m) (xs ++ l) ∧ w.grownBy w' v.ownBlock ∧
      (v'.ownBlock = v.ownBlock ∨ v'.ownBlock = some w.heap.size) ∧ ∃ oa cap, v' = .slice oa (len + m) cap := by
      rintro a rfl hc
      obtain ⟨v', w', hr, hown, hg, hnil, hat⟩ := run_append_own_at (P := P) w w0.heap.size T ty E ti z size bytes ht hinfo hz hsize hby hzs hsz' v len xs hown0 a m c l hl
        (fun k u hk => hc k u hk) h1 h63 hbytes st.chg.size
      exact ⟨v', w', hr, hown, hg, hat, hform hown⟩
    rcases hsrc with rfl | ⟨a, ha, hc⟩
    · obtain rfl : m = 0 := by
        simp only [List.length_nil] at hl
        rcases Nat.eq_zero_or_pos m with h | h
        · exact h
        · have := Nat.mul_pos h hsz'; omega
      cases oa with
      | none => exact ⟨v, w, run_append_none' w0.heap.size T ty E ti size c ht hinfo v len xs hown0, by simpa using hown0, ⟨rfl, rfl, rfl, Nat.le_refl _, fun _ _ _ => rfl⟩, .inl rfl, hform hown0⟩
      | some a => exact key a rfl (fun k u hk => by simp at hk)
    · exact key a ha hc
  refine e_bi [v, .slice oa m c] hw hd (by simp [hx, hy]) (w' := w') (fun cs => ?_) (next oa' cap w' (st.app hi hg hown hat))
  simp only [builtin, Sem.run_bind, List.toArray, hr]
  rfl
theorem dcs_get : ∀ {ds : List Dc} {k : Nat} {u : Value}, (ds.flatMap dcL)[k]? = some u → ∃ j x i, ds[j]? = some x ∧ (dcL x)[i]? = some u ∧ k = j * 3 + i
  | [], k, u, h => by simp at h
  | x :: r, k, u, h => by
    rw [List.flatMap_cons] at h
    have h3 : (dcL x).length = 3 := rfl
    rcases Nat.lt_or_ge k 3 with hk | hk
    · rw [List.getElem?_append_left (by omega)] at h
      exact ⟨0, x, k, rfl, h, by omega⟩
    · rw [List.getElem?_append_right (by omega), h3] at h
      obtain ⟨j, y, i, h1, h2, h3⟩ := dcs_get h
      exact ⟨j + 1, y, i, by simpa using h1, h2, by omega⟩
theorem DcRow.rd {S : Nat → Prop} {oa : Option Addr} {ds : List Dc} (h : DcRow w S oa ds) : RdRowC w oa (ds.flatMap dcL) := by
  rcases h with h | ⟨b, off, rfl, hb, hl, hc⟩
  · exact .inl (by rw [List.eq_nil_of_length_eq_zero h]; rfl)
  · refine .inr ⟨_, rfl, fun k u hk => ?_⟩
    obtain ⟨j, x, i, h1, h2, rfl⟩ := dcs_get hk
    have hj := (List.getElem?_eq_some_iff.1 h1).1
    have := (hc j hj).2
    simp only [List.getD, h1, Option.getD_some] at this
    rw [addr_add, ← Nat.add_assoc]
    exact this i u h2
theorem dcs_len (ds : List Dc) : (ds.flatMap dcL).length = ds.length * 3 := by
  induction ds with
  | nil => rfl
  | cons x r ih => rw [List.flatMap_cons, List.length_append, ih]; simp [dcL]; omega
theorem dcs_one (ds : List Dc) : ∀ u ∈ ds.flatMap dcL, u.oneCell' = true := by
  intro u hu
  obtain ⟨x, _, hx⟩ := List.mem_flatMap.1 hu
  simp only [dcL, List.mem_cons, List.not_mem_nil, or_false] at hx
  rcases hx with rfl | rfl | rfl <;> rfl
/-- the owned row at 'i' is done: it is a tree with what hangs on it -/
theorem St.ownNw (st : St w0 M hs w) {i : Nat} {E size len cap : Nat} {oa : Option Addr} {xs : List Value} (hi : nth hs i = some (.own (.slice oa len cap) E size len xs)) : w.ownsRow 0 E size (.slice oa len cap) len xs ∧ Nw w0.heap.size (obk oa) := by
  have h : w.ownsRow w0.heap.size E size (.slice oa len cap) len xs := st.res hi
  refine ⟨owns_mono h (fun b _ => Nat.zero_le _), ?_, fun b hb => (owns_lt h b hb).1⟩
  cases oa <;> simp [obk]
/-- the first 'n' become one -/
theorem St.joinN (st : St w0 M hs w) (n : Nat) {q : Res} (hat : ∀ k ∈ q.at?, ∃ r ∈ hs.take n, k ∈ r.at?) (hq : q.holds w0.heap.size w) : St w0 M (q :: hs.drop n) w := by
  have hnd := st.nodup
  unfold Apart at hnd
  rw [← List.take_append_drop n hs, List.pairwise_append] at hnd
  obtain ⟨h1, h2, h3⟩ := hnd
  refine ⟨st.chg, List.pairwise_cons.2 ⟨fun x hx k hk hk' => ?_, h2⟩, fun x hx => ?_⟩
  · obtain ⟨r, hr, hkr⟩ := hat k hk
    exact h3 r hr x hx k hkr hk'
  · rcases List.mem_cons.1 hx with rfl | h
    · exact hq
    · exact st.here x (List.mem_of_mem_drop h)
/-- what two resources lie at is apart -/
theorem St.ne (st : St w0 M hs w) {i j : Nat} {r s : Res} (hij : i ≠ j) (hi : nth hs i = some r) (hj : nth hs j = some s) : ∀ k ∈ r.at?, k ∉ s.at? := apart_nth st.nodup hij hi hj
end
end Sx


/- The engine, twenty-first part: trees that are written over in their own places. -/
namespace Sx
open Go Go.RowKit

/-- a row of things, each with what hangs on it -/
def RowS {α : Type} (V : World → α → List Value → List Nat → Prop) (w : World) : List α → List Value → List Nat → Prop
  | [], xs, S => xs = [] ∧ S = []
  | e :: r, xs, S => ∃ v S1 xr Sr, xs = v ++ xr ∧ S = S1 ++ Sr ∧ V w e v S1 ∧ RowS V w r xr Sr
theorem exSs_row {tE : Nat} {w : World} : ∀ {es : List Ex} {xs : List Value} {S : List Nat}, ExSs tE w es xs S ↔ RowS (ExS tE) w es xs S
  | [], xs, S => by simp only [ExSs, RowS]
  | e :: r, xs, S => by simp only [ExSs, RowS, exSs_row (es := r)]
theorem smSs_row {tE tS : Nat} {w : World} : ∀ {es : List Sm} {xs : List Value} {S : List Nat}, SmSs tE tS w es xs S ↔ RowS (SmS tE tS) w es xs S
  | [], xs, S => by simp only [SmSs, RowS]
  | e :: r, xs, S => by simp only [SmSs, RowS, smSs_row (es := r)]
theorem thSs_row {tE tS tD : Nat} {w : World} : ∀ {es : List Th} {xs : List Value} {S : List Nat}, ThSs tE tS tD w es xs S ↔ RowS (ThS tE tS tD) w es xs S
  | [], xs, S => by simp only [ThSs, RowS]
  | e :: r, xs, S => by simp only [ThSs, RowS, thSs_row (es := r)]
section
variable {α : Type} {V : World → α → List Value → List Nat → Prop} {w w' : World} {sz : Nat}
theorem RowS.kept (hV : ∀ w w' x v S, V w x v S → (∀ b ∈ S, w'.heap[b]? = w.heap[b]?) → V w' x v S) : ∀ {es : List α} {xs : List Value} {S : List Nat}, RowS V w es xs S → (∀ b ∈ S, w'.heap[b]? = w.heap[b]?) → RowS V w' es xs S
  | [], xs, S, h, hk => h
  | e :: r, xs, S, h, hk => by
    obtain ⟨v, S1, xr, Sr, rfl, rfl, h1, h2⟩ := h
    exact ⟨v, S1, xr, Sr, rfl, rfl, hV _ _ _ _ _ h1 (fun b hb => hk b (List.mem_append.2 (.inl hb))), RowS.kept hV h2 (fun b hb => hk b (List.mem_append.2 (.inr hb)))⟩
/-- one of a row looked at; and another put in its place -/
theorem RowS.focus (hlen : ∀ w x v S, V w x v S → v.length = sz) (hV : ∀ w w' x v S, V w x v S → (∀ b ∈ S, w'.heap[b]? = w.heap[b]?) → V w' x v S) : ∀ {es : List α} {xs : List Value} {S : List Nat} {j : Nat} {e : α}, RowS V w es xs S → es[j]? = some e →
    ∃ v Sj S1 S2 xa xb, xs = xa ++ v ++ xb ∧ xa.length = j * sz ∧ S = S1 ++ Sj ++ S2 ∧ V w e v Sj ∧
      ∀ (w' : World) (e' : α) (v' : List Value), V w' e' v' Sj → (∀ b ∈ S1 ++ S2, w'.heap[b]? = w.heap[b]?) → RowS V w' (es.set j e') (xa ++ v' ++ xb) S
  | [], xs, S, j, e, h, hj => by simp at hj
  | x :: r, xs, S, 0, e, h, hj => by
    obtain ⟨v, S1, xr, Sr, rfl, rfl, h1, h2⟩ := h
    simp only [List.getElem?_cons_zero, Option.some.injEq] at hj
    subst hj
    refine ⟨v, S1, [], Sr, [], xr, by simp, by simp, by simp, h1, fun w' e' v' hv' hk => ?_⟩
    refine ⟨v', S1, xr, Sr, by simp, rfl, hv', RowS.kept hV h2 fun b hb => hk b (by simpa using hb)⟩
  | x :: r, xs, S, j + 1, e, h, hj => by
    obtain ⟨v, S1, xr, Sr, rfl, rfl, h1, h2⟩ := h
    obtain ⟨u, Sj, T1, T2, xa, xb, rfl, h3, rfl, h4, h5⟩ := RowS.focus hlen hV h2 (by simpa using hj)
    refine ⟨u, Sj, S1 ++ T1, T2, v ++ xa, xb, by simp, by rw [List.length_append, hlen _ _ _ _ h1, h3, Nat.succ_mul]; omega, by simp, h4, fun w' e' v' hv' hk => ?_⟩
    refine ⟨v, S1, xa ++ v' ++ xb, T1 ++ Sj ++ T2, by simp, by simp, hV _ _ _ _ _ h1 fun b hb => hk b (by simp [hb]), ?_⟩
    exact h5 w' e' v' hv' fun b hb => hk b (by simp only [List.mem_append] at hb ⊢; rcases hb with h | h; exact .inl (.inr h); exact .inr h)
/-- a row in a block of its own -/
def RowT {α : Type} (V : World → α → List Value → List Nat → Prop) (E sz : Nat) (w : World) (oa : Option Addr) (cap : Nat) (es : List α) (S : List Nat) : Prop := ∃ xs S', w.ownsRow 0 E sz (.slice oa es.length cap) es.length xs ∧ S = obk oa ++ S' ∧ RowS V w es xs S'
/-- the cells of one; a cell of it stored; what hangs on it turned -/
theorem RowT.focus {E : Nat} (hsz : 0 < sz) (hlen : ∀ w x v S, V w x v S → v.length = sz) (hV : ∀ w w' x v S, V w x v S → (∀ b ∈ S, w'.heap[b]? = w.heap[b]?) → V w' x v S) {oa : Option Addr} {cap : Nat} {es : List α} {S : List Nat} {j : Nat} {e : α} (h : RowT V E sz w oa cap es S) (hS : S.Nodup) (hj : es[j]? = some e) :
    ∃ b v Sj S1 S2, oa = some ⟨b, 0, none⟩ ∧ b < w.heap.size ∧ S = [b] ++ (S1 ++ Sj ++ S2) ∧ V w e v Sj ∧ (∀ i u, v[i]? = some u → w.cell? ⟨b, j * sz + i, none⟩ = some u) ∧ (∀ i, w.frozen? ⟨b, i, none⟩ = false) ∧
      (∀ (i : Nat) (u : Value) (e' : α), i < sz → V w e' (v.set i u) Sj → RowT V E sz (w.setCell ⟨b, j * sz + i, none⟩ u) oa cap (es.set j e') S) ∧
      (∀ (w' : World) (e' : α), V w' e' v Sj → w.heap.size ≤ w'.heap.size → (∀ k, k < w.heap.size → k ∉ Sj → w'.heap[k]? = w.heap[k]?) → (∀ k ∈ S, k < w.heap.size) → RowT V E sz w' oa cap (es.set j e') S) := by
  obtain ⟨xs, S', ho, rfl, hr⟩ := h
  obtain ⟨v, Sj, S1, S2, xa, xb, rfl, hxa, rfl, hv, hput⟩ := RowS.focus hlen hV hr hj
  have hjl := (List.getElem?_eq_some_iff.1 hj).1
  obtain ⟨b, c, e0, -⟩ := own_form ho (by omega)
  simp only [Value.slice.injEq] at e0
  obtain ⟨rfl, -, rfl⟩ := e0
  have hvl := hlen _ _ _ _ hv
  have hnd := List.nodup_append.1 hS
  have hbn : b ∉ S1 ++ Sj ++ S2 := fun hb => hnd.2.2 b (by simp [obk]) b hb rfl
  have hSj : ∀ k ∈ Sj, k ∉ S1 ++ S2 := by
    have h2 := hnd.2.1
    rw [List.nodup_append, List.nodup_append] at h2
    obtain ⟨⟨-, -, q1⟩, -, q2⟩ := h2
    intro k hk hk'
    rcases List.mem_append.1 hk' with h | h
    · exact q1 k h k hk rfl
    · exact q2 k (List.mem_append.2 (.inr hk)) k h rfl
  refine ⟨b, v, Sj, S1, S2, rfl, (owns_lt ho b (by simp [obk])).2, rfl, hv, fun i u hi => ?_, fun i => World.ownsRow.frozenAt ho i, fun i u e' hi hv' => ?_, fun w' e' hv' hle hk hlt => ?_⟩
  · have hil := (List.getElem?_eq_some_iff.1 hi).1
    refine own_cell ho ?_
    rw [List.append_assoc, List.getElem?_append_right (by omega), hxa, Nat.add_sub_cancel_left, List.getElem?_append_left hil]
    exact hi
  · have hst := World.ownsRow.stored ho (j * sz + i) u
    refine ⟨xa ++ v.set i u ++ xb, S1 ++ Sj ++ S2, ?_, rfl, ?_⟩
    · rw [List.length_set]
      have e1 : (xa ++ v ++ xb).set (j * sz + i) u = xa ++ v.set i u ++ xb := by
        rw [List.append_assoc, List.set_append_right _ _ (by omega), hxa, Nat.add_sub_cancel_left, List.set_append_left _ _ (by omega), ← List.append_assoc]
      rw [← e1]
      exact hst.1
    · have same : ∀ k ∈ S1 ++ Sj ++ S2, (w.setCell ⟨b, j * sz + i, none⟩ u).heap[k]? = w.heap[k]? := fun k hk => Below.heap_setCell w _ u k (by rintro rfl; exact hbn hk)
      exact hput _ e' _ (hV _ _ _ _ _ hv' fun k hk => same k (by simp [hk])) fun k hk => same k (by simp only [List.mem_append] at hk ⊢; rcases hk with h | h; exact .inl (.inl h); exact .inr h)
  · have same : ∀ k ∈ [b] ++ (S1 ++ S2), w'.heap[k]? = w.heap[k]? := fun k hkm => by
      have hin : k ∈ obk (some (⟨b, 0, none⟩ : Addr)) ++ (S1 ++ Sj ++ S2) := by
        simp only [obk, List.mem_append, List.mem_singleton] at hkm ⊢
        rcases hkm with h | h | h
        · exact .inl h
        · exact .inr (.inl (.inl h))
        · exact .inr (.inr h)
      refine hk k (hlt k hin) fun hkj => ?_
      simp only [List.mem_append, List.mem_singleton] at hkm
      rcases hkm with rfl | h
      · exact hbn (by simp [hkj])
      · exact hSj k hkj (by simpa using h)
    refine ⟨xa ++ v ++ xb, S1 ++ Sj ++ S2, ?_, rfl, ?_⟩
    · rw [List.length_set]
      exact owns_kept ho fun k hk => same k (by simp [obk] at hk; simp [hk])
    · exact hput w' e' v hv' fun k hk => same k (by simp at hk ⊢; exact .inr hk)
end
theorem exR_row {tE : Nat} {w : World} {oa : Option Addr} {cap : Nat} {es : List Ex} {S : List Nat} : ExR tE w oa cap es S ↔ RowT (ExS tE) tE 6 w oa cap es S := by
  simp only [ExR, RowT, exSs_row]
theorem smR_row {tE tS : Nat} {w : World} {oa : Option Addr} {cap : Nat} {es : List Sm} {S : List Nat} : SmR tE tS w oa cap es S ↔ RowT (SmS tE tS) tS 7 w oa cap es S := by
  simp only [SmR, RowT, smSs_row]
theorem thR_row {tE tS tD tT : Nat} {w : World} {oa : Option Addr} {cap : Nat} {es : List Th} {S : List Nat} : ThR tE tS tD tT w oa cap es S ↔ RowT (ThS tE tS tD) tT 4 w oa cap es S := by
  simp only [ThR, RowT, thSs_row]

section
variable {w0 w w' : World} {M : List Nat} {hs : List Res}
variable {P : Program} {n : Fr} {L : List Oper} {Q : Exit → Act → World → Prop} {kn : Kn} {N : Act → World → Prop}
variable {d ty : Nat} {pos : String} {aft : Array Edge} {g : Option (Nat × Bool)}
/-- a store into a tree that is held -/
theorem e_stT (st : St w0 M hs w) (i : Nat) {x y : Operand} {T b off : Nat} {v : Value} {S : List Nat} {φ ψ : World → Prop} (hw : gd L kn g = some true) (hx : evO kn x = some (.pointer (some ⟨b, off, none⟩)))
    (hy : evO kn y = some v) (h1 : v.oneCell' = true) (hsz : ∀ w, (Go.sizeOf T).run P w = .ok 1 w) (hi : nth hs i = some (.tree S φ)) (hb : b ∈ S) (hm : b ∈ M ∨ w0.heap.size ≤ b)
    (hc : ∃ u, w.cell? ⟨b, off, none⟩ = some u) (hf : w.frozen? ⟨b, off, none⟩ = false) (hψ : ψ (w.setCell ⟨b, off, none⟩ v)) (hψl : Loc S ψ)
    (next : ∀ w', St w0 M (setNth hs i (.tree S ψ)) w' → vN n N kn w') : vS P n L Q (⟨none, .store T x y, ty, pos, aft, g⟩) N kn w := by
  obtain ⟨u, hc⟩ := hc
  have hcs : v.cells = #[v] := by cases v <;> first | rfl | (simp [Value.oneCell'] at h1)
  have hc9 := Chg.setCell w ⟨b, off, none⟩ v
  have hlt : ∀ k ∈ S, k < w.heap.size := (st.res hi).2.1
  refine e_do hw rfl (w' := w.setCell ⟨b, off, none⟩ v) (fun a ha => ?_) (next _ (st.swap hi hc9 (fun k hk => by simp at hk; subst hk; exact hb) (fun k hk => by simp at hk; subst hk; exact hm) (fun k hk => .inl hk) ⟨hψ, fun k hk => Nat.lt_of_lt_of_le (hlt k hk) hc9.size, hψl⟩))
  simp only [execOp, ha.ev hx, ha.ev hy]
  have hst : (store ⟨b, off, none⟩ v).run P w = .ok () (w.setCell ⟨b, off, none⟩ v) := by
    cases v <;> first | (simp [Value.oneCell'] at h1; done) | simp [store, Sem.run, hc, hf]
  have key : (storeVar T ⟨b, off, none⟩ v).run P w = .ok () (w.setCell ⟨b, off, none⟩ v) := by
    simp only [storeVar, Sem.run_bind, hsz, Result.andThen_ok, hcs]
    simp [storeCells, addr_add0, hst]
  simp only [Instr.storeAt, Instr.sureAddr, Sem.run_bind, Sem.run_pure, Result.andThen_ok, key]
end
end Sx


/- The engine, twenty-third part: the rows of the language's trees, one of a row written over. -/
namespace Sx
open Go Go.RowKit
def Ex.setNm (s : List UInt8) : Ex → Ex | .mk k op wd _ kids a => .mk k op wd s kids a
def Ex.setAt (a : Int) : Ex → Ex | .mk k op wd nm kids _ => .mk k op wd nm kids a
def Ex.setKids (kids : List Ex) : Ex → Ex | .mk k op wd nm _ a => .mk k op wd nm kids a
def Sm.setNm (s : List UInt8) : Sm → Sm | .mk k _ o e b l a => .mk k s o e b l a
def Sm.setOther (s : List UInt8) : Sm → Sm | .mk k n _ e b l a => .mk k n s e b l a
def Sm.setE (x : List Ex) : Sm → Sm | .mk k n o _ b l a => .mk k n o x b l a
def Sm.setBody (x : List Sm) : Sm → Sm | .mk k n o e _ l a => .mk k n o e x l a
def Sm.setEls (x : List Sm) : Sm → Sm | .mk k n o e b _ a => .mk k n o e b x a
def Sm.setAt (a : Int) : Sm → Sm | .mk k n o e b l _ => .mk k n o e b l a
def Th.setNm (s : List UInt8) (t : Th) : Th := { t with nm := s }
def Th.setAt (a : Int) (t : Th) : Th := { t with a := a }
def Th.setLocals (l : List Dc) (t : Th) : Th := { t with locals := l }
def Th.setBody (b : List Sm) (t : Th) : Th := { t with body := b }
section
variable {tE tS tD tT : Nat} {w w' : World}
/-- what a row's block is: it is there, not frozen, and of the tree -/
structure RowAt (w : World) (b : Nat) (S : List Nat) : Prop where
  mem : b ∈ S
  lt : b < w.heap.size
  fz : ∀ i, w.frozen? ⟨b, i, none⟩ = false
/-! ### expressions -/
theorem exR_focus {oa : Option Addr} {cap : Nat} {es : List Ex} {S : List Nat} {j : Nat} {e : Ex} (h : ExR tE w oa cap es S) (hS : S.Nodup) (hj : es[j]? = some e) :
    ∃ b o c Sj, oa = some ⟨b, 0, none⟩ ∧ RowAt w b S ∧ (∀ i u, ([.int .u8 e.k, .int .u8 e.op, .int .i64 e.wd, str e.nm, .slice o e.kids.length c, .int .i64 e.a] : List Value)[i]? = some u → w.cell? ⟨b, j * 6 + i, none⟩ = some u) ∧ ExR tE w o c e.kids Sj ∧ Sj.Nodup ∧ (∀ k ∈ Sj, k ∈ S) ∧
      (∀ s, ExR tE (w.setCell ⟨b, j * 6 + 3, none⟩ (str s)) oa cap (es.set j (e.setNm s)) S) ∧ (∀ a, ExR tE (w.setCell ⟨b, j * 6 + 5, none⟩ (.int .i64 a)) oa cap (es.set j (e.setAt a)) S) ∧
      (∀ (w' : World) kids, kids.length = e.kids.length → ExR tE w' o c kids Sj → Chg Sj w w' → ExR tE w' oa cap (es.set j (e.setKids kids)) S) := by
  have hlt : ∀ k ∈ S, k < w.heap.size := h.lt
  obtain ⟨b, v, Sj, S1, S2, ho, hbl, hSe, hv, hcell, hfz, hset, hsub⟩ := RowT.focus (V := ExS tE) (by omega) (fun w x v S h => h.len) (fun w w' x v S h hk => h.kept hk) (exR_row.1 h) hS hj
  obtain ⟨o, c, rfl, hk⟩ := ExS_iff.1 hv
  subst hSe
  have hSj : Sj.Nodup := by
    have := (List.nodup_append.1 hS).2.1
    exact (List.nodup_append.1 (List.nodup_append.1 this).1).2.1
  refine ⟨b, o, c, Sj, ho, ⟨by simp, hbl, hfz⟩, hcell, hk, hSj, fun k hk => by simp [hk], fun s => ?_, fun a => ?_, fun w' kids hl hk' hc => ?_⟩
  · refine exR_row.2 (hset 3 _ _ (by omega) (ExS_iff.2 ?_))
    cases e; exact ⟨o, c, rfl, hk⟩
  · refine exR_row.2 (hset 5 _ _ (by omega) (ExS_iff.2 ?_))
    cases e; exact ⟨o, c, rfl, hk⟩
  · refine exR_row.2 (hsub w' _ (ExS_iff.2 ?_) hc.size (fun k hk hn => hc.block k hk hn) hlt)
    cases e with
    | mk k op wd nm ks a =>
      simp only [Ex.kids] at hl
      refine ⟨o, c, ?_, hk'⟩
      simp only [Ex.setKids, Ex.k, Ex.op, Ex.wd, Ex.nm, Ex.kids, Ex.a, hl]
/-! ### statements -/
theorem smR_focus {oa : Option Addr} {cap : Nat} {es : List Sm} {S : List Nat} {j : Nat} {e : Sm} (h : SmR tE tS w oa cap es S) (hS : S.Nodup) (hj : es[j]? = some e) :
    ∃ b oe ce ob cb ol cl Se Sb Sl, oa = some ⟨b, 0, none⟩ ∧ RowAt w b S ∧ (∀ i u, ([.int .u8 e.k, str e.nm, str e.other, .slice oe e.e.length ce, .slice ob e.body.length cb, .slice ol e.els.length cl, .int .i64 e.a] : List Value)[i]? = some u → w.cell? ⟨b, j * 7 + i, none⟩ = some u) ∧
      ExR tE w oe ce e.e Se ∧ SmR tE tS w ob cb e.body Sb ∧ SmR tE tS w ol cl e.els Sl ∧ Se.Nodup ∧ Sb.Nodup ∧ Sl.Nodup ∧ (∀ k ∈ Se, k ∈ S) ∧ (∀ k ∈ Sb, k ∈ S) ∧ (∀ k ∈ Sl, k ∈ S) ∧
      (∀ s, SmR tE tS (w.setCell ⟨b, j * 7 + 1, none⟩ (str s)) oa cap (es.set j (e.setNm s)) S) ∧ (∀ s, SmR tE tS (w.setCell ⟨b, j * 7 + 2, none⟩ (str s)) oa cap (es.set j (e.setOther s)) S) ∧ (∀ a, SmR tE tS (w.setCell ⟨b, j * 7 + 6, none⟩ (.int .i64 a)) oa cap (es.set j (e.setAt a)) S) ∧
      (∀ (w' : World) x, x.length = e.e.length → ExR tE w' oe ce x Se → Chg Se w w' → SmR tE tS w' oa cap (es.set j (e.setE x)) S) ∧
      (∀ (w' : World) x, x.length = e.body.length → SmR tE tS w' ob cb x Sb → Chg Sb w w' → SmR tE tS w' oa cap (es.set j (e.setBody x)) S) ∧
      (∀ (w' : World) x, x.length = e.els.length → SmR tE tS w' ol cl x Sl → Chg Sl w w' → SmR tE tS w' oa cap (es.set j (e.setEls x)) S) := by
  have hlt : ∀ k ∈ S, k < w.heap.size := h.lt
  obtain ⟨b, v, Sj, S1, S2, ho, hbl, hSe, hv, hcell, hfz, hset, hsub⟩ := RowT.focus (V := SmS tE tS) (by omega) (fun w x v S h => h.len) (fun w w' x v S h hk => h.kept hk) (smR_row.1 h) hS hj
  obtain ⟨oe, ce, ob, cb, ol, cl, Se, Sb, Sl, rfl, he, hb, hl, rfl⟩ := SmS_iff.1 hv
  subst hSe
  have hn1 := (List.nodup_append.1 (List.nodup_append.1 (List.nodup_append.1 hS).2.1).1).2.1
  obtain ⟨ne, hn2, d1⟩ := List.nodup_append.1 hn1
  obtain ⟨nb, nl, d2⟩ := List.nodup_append.1 hn2
  have len2 : ∀ {A B : List Nat}, (∀ a ∈ A, ∀ b ∈ B, a ≠ b) → ∀ k ∈ B, k ∉ A := fun h k hk hk' => h k hk' k hk rfl
  refine ⟨b, oe, ce, ob, cb, ol, cl, Se, Sb, Sl, ho, ⟨by simp, hbl, hfz⟩, hcell, he, hb, hl, ne, nb, nl, fun k hk => by simp [hk], fun k hk => by simp [hk], fun k hk => by simp [hk], fun s => ?_, fun s => ?_, fun a => ?_, fun w' x hx hx' hc => ?_, fun w' x hx hx' hc => ?_, fun w' x hx hx' hc => ?_⟩
  · refine smR_row.2 (hset 1 _ _ (by omega) (SmS_iff.2 ?_))
    cases e; exact ⟨oe, ce, ob, cb, ol, cl, Se, Sb, Sl, rfl, he, hb, hl, rfl⟩
  · refine smR_row.2 (hset 2 _ _ (by omega) (SmS_iff.2 ?_))
    cases e; exact ⟨oe, ce, ob, cb, ol, cl, Se, Sb, Sl, rfl, he, hb, hl, rfl⟩
  · refine smR_row.2 (hset 6 _ _ (by omega) (SmS_iff.2 ?_))
    cases e; exact ⟨oe, ce, ob, cb, ol, cl, Se, Sb, Sl, rfl, he, hb, hl, rfl⟩
  · have hb' := hb.kept (w' := w') fun k hk => hc.block k (hb.lt k hk) (fun hk' => d1 k hk' k (by simp [hk]) rfl)
    have hl' := hl.kept (w' := w') fun k hk => hc.block k (hl.lt k hk) (fun hk' => d1 k hk' k (by simp [hk]) rfl)
    refine smR_row.2 (hsub w' _ (SmS_iff.2 ?_) hc.size (fun k hk hn => hc.block k hk (fun h => hn (by simp [h]))) hlt)
    cases e with
    | mk k nm other xe bd el a =>
      simp only [Sm.e] at hx
      refine ⟨oe, ce, ob, cb, ol, cl, Se, Sb, Sl, ?_, hx', hb', hl', rfl⟩
      simp only [Sm.setE, Sm.k, Sm.nm, Sm.other, Sm.e, Sm.body, Sm.els, Sm.a, hx]
  · have he' := he.kept (w' := w') fun k hk => hc.block k (he.lt k hk) (fun hk' => d1 k hk k (by simp [hk']) rfl)
    have hl' := hl.kept (w' := w') fun k hk => hc.block k (hl.lt k hk) (fun hk' => d2 k hk' k hk rfl)
    refine smR_row.2 (hsub w' _ (SmS_iff.2 ?_) hc.size (fun k hk hn => hc.block k hk (fun h => hn (by simp [h]))) hlt)
    cases e with
    | mk k nm other xe bd el a =>
      simp only [Sm.body] at hx
      refine ⟨oe, ce, ob, cb, ol, cl, Se, Sb, Sl, ?_, he', hx', hl', rfl⟩
      simp only [Sm.setBody, Sm.k, Sm.nm, Sm.other, Sm.e, Sm.body, Sm.els, Sm.a, hx]
  · have he' := he.kept (w' := w') fun k hk => hc.block k (he.lt k hk) (fun hk' => d1 k hk k (by simp [hk']) rfl)
    have hb' := hb.kept (w' := w') fun k hk => hc.block k (hb.lt k hk) (fun hk' => d2 k hk k hk' rfl)
    refine smR_row.2 (hsub w' _ (SmS_iff.2 ?_) hc.size (fun k hk hn => hc.block k hk (fun h => hn (by simp [h]))) hlt)
    cases e with
    | mk k nm other xe bd el a =>
      simp only [Sm.els] at hx
      refine ⟨oe, ce, ob, cb, ol, cl, Se, Sb, Sl, ?_, he', hb', hx', rfl⟩
      simp only [Sm.setEls, Sm.k, Sm.nm, Sm.other, Sm.e, Sm.body, Sm.els, Sm.a, hx]
/-! ### threads -/
theorem thR_focus {oa : Option Addr} {cap : Nat} {es : List Th} {S : List Nat} {j : Nat} {e : Th} (h : ThR tE tS tD tT w oa cap es S) (hS : S.Nodup) (hj : es[j]? = some e) :
    ∃ b ol cl ob cb Sl Sb, oa = some ⟨b, 0, none⟩ ∧ RowAt w b S ∧ (∀ i u, ([str e.nm, .slice ol e.locals.length cl, .slice ob e.body.length cb, .int .i64 e.a] : List Value)[i]? = some u → w.cell? ⟨b, j * 4 + i, none⟩ = some u) ∧
      DcR tD w ol cl e.locals Sl ∧ SmR tE tS w ob cb e.body Sb ∧ Sl.Nodup ∧ Sb.Nodup ∧ (∀ k ∈ Sl, k ∈ S) ∧ (∀ k ∈ Sb, k ∈ S) ∧
      (∀ s, ThR tE tS tD tT (w.setCell ⟨b, j * 4 + 0, none⟩ (str s)) oa cap (es.set j (e.setNm s)) S) ∧ (∀ a, ThR tE tS tD tT (w.setCell ⟨b, j * 4 + 3, none⟩ (.int .i64 a)) oa cap (es.set j (e.setAt a)) S) ∧
      (∀ (w' : World) x, x.length = e.locals.length → DcR tD w' ol cl x Sl → Chg Sl w w' → ThR tE tS tD tT w' oa cap (es.set j (e.setLocals x)) S) ∧
      (∀ (w' : World) x, x.length = e.body.length → SmR tE tS w' ob cb x Sb → Chg Sb w w' → ThR tE tS tD tT w' oa cap (es.set j (e.setBody x)) S) := by
  have hlt : ∀ k ∈ S, k < w.heap.size := h.lt
  obtain ⟨b, v, Sj, S1, S2, ho, hbl, hSe, hv, hcell, hfz, hset, hsub⟩ := RowT.focus (V := ThS tE tS tD) (by omega) (fun w x v S h => h.len) (fun w w' x v S h hk => h.kept hk) (thR_row.1 h) hS hj
  obtain ⟨ol, cl, ob, cb, Sl, Sb, rfl, hl, hb, rfl⟩ := hv
  subst hSe
  have hn1 := (List.nodup_append.1 (List.nodup_append.1 (List.nodup_append.1 hS).2.1).1).2.1
  obtain ⟨nl, nb, d1⟩ := List.nodup_append.1 hn1
  refine ⟨b, ol, cl, ob, cb, Sl, Sb, ho, ⟨by simp, hbl, hfz⟩, hcell, hl, hb, nl, nb, fun k hk => by simp [hk], fun k hk => by simp [hk], fun s => ?_, fun a => ?_, fun w' x hx hx' hc => ?_, fun w' x hx hx' hc => ?_⟩
  · exact thR_row.2 (hset 0 _ _ (by omega) ⟨ol, cl, ob, cb, Sl, Sb, rfl, hl, hb, rfl⟩)
  · exact thR_row.2 (hset 3 _ _ (by omega) ⟨ol, cl, ob, cb, Sl, Sb, rfl, hl, hb, rfl⟩)
  · have hb' := hb.kept (w' := w') fun k hk => hc.block k (hb.lt k hk) (fun hk' => d1 k hk' k hk rfl)
    refine thR_row.2 (hsub w' (e.setLocals x) ⟨ol, cl, ob, cb, Sl, Sb, ?_, hx', hb', rfl⟩ hc.size (fun k hk hn => hc.block k hk (fun h => hn (by simp [h]))) hlt)
    simp only [Th.setLocals, hx]
  · have hl' := hl.kept (w' := w') fun k hk => hc.block k (hl.lt k hk) (fun hk' => d1 k hk k hk' rfl)
    refine thR_row.2 (hsub w' (e.setBody x) ⟨ol, cl, ob, cb, Sl, Sb, ?_, hl', hx', rfl⟩ hc.size (fun k hk hn => hc.block k hk (fun h => hn (by simp [h]))) hlt)
    simp only [Th.setBody, hx]
/-! ### declarations -/
theorem dcs_set {ds : List Dc} {j i : Nat} {d : Dc} {u : Value} {d' : Dc} (hj : ds[j]? = some d) (hi : i < 3) (he : (dcL d).set i u = dcL d') : (ds.flatMap dcL).set (j * 3 + i) u = (ds.set j d').flatMap dcL := by
  induction ds generalizing j with
  | nil => simp at hj
  | cons x r ih =>
    rw [List.flatMap_cons]
    have h3 : (dcL x).length = 3 := rfl
    cases j with
    | zero =>
      simp only [List.getElem?_cons_zero, Option.some.injEq] at hj
      subst hj
      rw [show 0 * 3 + i = i by omega, List.set_append_left _ _ (by omega), he]; rfl
    | succ j =>
      rw [show (j + 1) * 3 + i = (dcL x).length + (j * 3 + i) by omega, List.set_append_right _ _ (by omega), Nat.add_sub_cancel_left, ih (by simpa using hj)]; rfl
theorem dcR_focus {oa : Option Addr} {cap : Nat} {es : List Dc} {S : List Nat} {j : Nat} {e : Dc} (h : DcR tD w oa cap es S) (hj : es[j]? = some e) :
    ∃ b, oa = some ⟨b, 0, none⟩ ∧ RowAt w b S ∧ (∀ i u, (dcL e)[i]? = some u → w.cell? ⟨b, j * 3 + i, none⟩ = some u) ∧
      (∀ s, DcR tD (w.setCell ⟨b, j * 3 + 0, none⟩ (str s)) oa cap (es.set j { e with nm := s }) S) ∧ (∀ a, DcR tD (w.setCell ⟨b, j * 3 + 2, none⟩ (.int .i64 a)) oa cap (es.set j { e with a := a }) S) := by
  obtain ⟨ho, rfl⟩ := h
  have hjl := (List.getElem?_eq_some_iff.1 hj).1
  obtain ⟨b, c, e0, -⟩ := own_form ho (by omega)
  simp only [Value.slice.injEq] at e0
  obtain ⟨rfl, -, rfl⟩ := e0
  have put : ∀ (i : Nat) (u : Value) (e' : Dc), i < 3 → (dcL e).set i u = dcL e' → DcR tD (w.setCell ⟨b, j * 3 + i, none⟩ u) (some ⟨b, 0, none⟩) cap (es.set j e') (obk (some ⟨b, 0, none⟩)) := fun i u e' hi he => by
    have hst := (World.ownsRow.stored ho (j * 3 + i) u).1
    rw [dcs_set hj hi he] at hst
    refine ⟨?_, rfl⟩
    rw [List.length_set]; exact hst
  refine ⟨b, rfl, ⟨by simp [obk], (owns_lt ho b (by simp [obk])).2, fun i => World.ownsRow.frozenAt ho i⟩, fun i u hi => ?_, fun s => put 0 _ _ (by omega) rfl, fun a => put 2 _ _ (by omega) rfl⟩
  have hr := rowC_own (S := fun _ => True) ho (fun _ _ => trivial)
  rcases hr with h0 | ⟨b', off, e1, -, -, hc⟩
  · omega
  · simp only [Option.some.injEq, Addr.mk.injEq, and_true] at e1
    obtain ⟨rfl, rfl⟩ := e1
    have := (hc j hjl).2 i u (by dsimp only; rw [dcs_chunk hj]; exact hi)
    rwa [Nat.zero_add] at this
end
/-- a tree that may be written over, and what is read beside it -/
theorem St.two {w : World} {S E : List Nat} {φ ψ : World → Prop} (h1 : φ w) (h2 : ψ w) (l1 : ∀ b ∈ S, b < w.heap.size) (l2 : ∀ b ∈ E, b < w.heap.size) (k1 : Sx.Loc S φ) (k2 : Sx.Loc E ψ) (hd : ∀ b ∈ S, b ∉ E) : St w S [.tree S φ, .tree E ψ] w :=
  ⟨Chg.refl _ _, List.pairwise_cons.2 ⟨fun x hx k hk hk' => by
    simp only [List.mem_singleton] at hx
    subst hx
    exact hd k hk hk', List.pairwise_singleton _ _⟩, by
    intro r hr
    simp only [List.mem_cons, List.not_mem_nil, or_false] at hr
    rcases hr with rfl | rfl
    · exact ⟨h1, l1, k1⟩
    · exact ⟨h2, l2, k2⟩⟩
/-- a callee has turned a tree within the tree at 0 -/
theorem St.within {w0 w w' : World} {M S Sj : List Nat} {hs : List Res} {φ ψ : World → Prop} (st : St w0 M (.tree S φ :: hs) w) (c : Chg Sj w w') (hj : ∀ k ∈ Sj, k ∈ S) (hM : ∀ k ∈ S, k ∈ M ∨ w0.heap.size ≤ k) (hψ : ψ w') (hl : Sx.Loc S ψ) : St w0 M (.tree S ψ :: hs) w' := by
  have h := st.res (i := 0) rfl
  exact st.swap (i := 0) (r' := .tree S ψ) rfl c hj (fun k hk => hM k (hj k hk)) (fun k hk => .inl hk) ⟨hψ, fun k hk => Nat.lt_of_lt_of_le (h.2.1 k hk) c.size, hl⟩
/-- a callee has turned a tree within the tree at 'i' -/
theorem St.withinI {w0 w w' : World} {M S Sj : List Nat} {hs : List Res} {φ : World → Prop} (st : St w0 M hs w) {i : Nat} (ψ : World → Prop) (hi : nth hs i = some (.tree S φ)) (c : Chg Sj w w') (hj : ∀ k ∈ Sj, k ∈ S) (hM : ∀ k ∈ S, k ∈ M ∨ w0.heap.size ≤ k) (hψ : ψ w') (hl : Sx.Loc S ψ) : St w0 M (setNth hs i (.tree S ψ)) w' := by
  have h := st.res hi
  exact st.swap (r' := .tree S ψ) hi c hj (fun k hk => hM k (hj k hk)) (fun k hk => .inl hk) ⟨hψ, fun k hk => Nat.lt_of_lt_of_le (h.2.1 k hk) c.size, hl⟩
/-- a tree falls in two -/
theorem St.split {w0 w : World} {M S T : List Nat} {hs : List Res} {χ φ ψ : World → Prop} (st : St w0 M (.tree (S ++ T) χ :: hs) w) (hn : (S ++ T).Nodup) (h1 : φ w) (h2 : ψ w) (k1 : Sx.Loc S φ) (k2 : Sx.Loc T ψ) : St w0 M (.tree S φ :: .tree T ψ :: hs) w := by
  have h := st.res (i := 0) rfl
  have hnd := List.pairwise_cons.1 st.nodup
  refine ⟨st.chg, List.pairwise_cons.2 ⟨fun x hx => ?_, List.pairwise_cons.2 ⟨fun x hx k hk => hnd.1 x hx k (List.mem_append.2 (.inr hk)), hnd.2⟩⟩, fun x hx => ?_⟩
  · rcases List.mem_cons.1 hx with rfl | hx
    · exact fun k hk hk' => (List.nodup_append.1 hn).2.2 k hk k hk' rfl
    · exact fun k hk => hnd.1 x hx k (List.mem_append.2 (.inl hk))
  · rcases List.mem_cons.1 hx with rfl | hx
    · exact ⟨h1, fun k hk => h.2.1 k (List.mem_append.2 (.inl hk)), k1⟩
    · rcases List.mem_cons.1 hx with rfl | hx
      · exact ⟨h2, fun k hk => h.2.1 k (List.mem_append.2 (.inr hk)), k2⟩
      · exact st.here x (.tail _ hx)
end Sx

