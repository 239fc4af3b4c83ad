/- A part of the proof: contracts of functions and plain laws; each theorem says its own conditions. -/
import Derived.Test.YtjoepkpdanolkaaGreatDoorTopReckonedK2
import Derived.Test.YtjoepkpdanolkaaGreatDoorTopReckonedK3
import Derived.Test.YtjoepkpdanolkaaGreatDoorTopReckonedK4
import Derived.Test.YtjoepkpdanolkaaGreatDoorTopReckonedK0
import Derived.Test.YtjoepkpdanolkaaGreatDoorTopReckonedK1
set_option linter.unusedVariables false
set_option linter.unusedSimpArgs false
namespace Go.Proofs.YtjoepkpdanolkaaGreatDoor
open Go.RowKit Sx LexS ParS _root_.Go.Proofs.Tryz
theorem wU_pos (x : Int) : 0 ≤ IntKind.u64.wrap x := by rw [wrap_u64]; omega

theorem truth_any (b : Bool) (w : World) : Ret Tryz.prog 114 [.bool b] w fun v w' => v = .int .i64 (if b = true then 1 else 0) ∧ w' = w := by
 refine ret_of [_] func114 rfl ntmps114 rfl ?_
 have st := St.init w []
 refine sr ?_
 refine ya ?_
 refine et (vk1 0 (vc_seq (sr ?_)))
 refine ym ?_
 refine et (vk1 3 ?_)
 refine vif ?_ ?_
 ·intro hc3
  try simp only [dn] at hc3
  refine sr ?_
  refine ya ?_
  refine et (vk1 2 (vc_ret (vq_then_ret ?_)))
  refine vr1 st results114 ?_
  refine ⟨?_, rfl⟩
  rw [if_pos hc3]
 intro hc3
 try simp only [dn] at hc3
 refine kt (vc_keep [] trivial (sr ?_))
 refine ya ?_
 refine et (vk1 2 (vc_ret ?_))
 refine vr1 st results114 ?_
 refine ⟨?_, rfl⟩
 rw [if_neg (by rw [hc3]; simp)]
theorem wadd_any (a b : Int) (w : World) : Ret Tryz.prog 63 [.int .i64 a, .int .i64 b] w fun v w' => v = .int .i64 (wI (a + b)) ∧ w' = w := by
 refine ret_of [_, _] func63 rfl ntmps63 rfl ?_
 have st := St.init w []
 refine sr ?_
 refine ya ?_
 refine et (vk2 0 1 (sr ?_))
 iterate 2 refine ym ?_
 refine vy (y_addk rfl rfl rfl) ?_
 refine ya ?_
 refine et (vk1 4 (vc_ret ?_))
 refine vr1 st results63 ?_
 exact ⟨rfl, rfl⟩
theorem wsub_any (a b : Int) (w : World) : Ret Tryz.prog 64 [.int .i64 a, .int .i64 b] w fun v w' => v = .int .i64 (wI (a - b)) ∧ w' = w := by
 refine ret_of [_, _] func64 rfl ntmps64 rfl ?_
 have st := St.init w []
 refine sr ?_
 refine ya ?_
 refine et (vk2 0 1 (sr ?_))
 iterate 2 refine ym ?_
 refine vy (y_subk rfl rfl rfl) ?_
 refine ya ?_
 refine et (vk1 4 (vc_ret ?_))
 refine vr1 st results64 ?_
 exact ⟨rfl, rfl⟩
theorem wmul_any (a b : Int) (w : World) : Ret Tryz.prog 65 [.int .i64 a, .int .i64 b] w fun v w' => v = .int .i64 (wI (a * b)) ∧ w' = w := by
 refine ret_of [_, _] func65 rfl ntmps65 rfl ?_
 have st := St.init w []
 refine sr ?_
 refine ya ?_
 refine et (vk2 0 1 (sr ?_))
 iterate 2 refine ym ?_
 refine vy (y_mulk rfl rfl rfl) ?_
 refine ya ?_
 refine et (vk1 4 (vc_ret ?_))
 refine vr1 st results65 ?_
 exact ⟨rfl, rfl⟩
theorem wdiv_any (a b : Int) (w : World) : Ret Tryz.prog 66 [.int .i64 a, .int .i64 b] w fun v w' => v = .int .i64 (wDiv a b) ∧ w' = w := by
 refine ret_of [_, _] func66 rfl ntmps66 rfl ?_
 have st := St.init w []
 refine sr ?_
 refine ya ?_
 refine et (vk2 0 1 (vc_seq (sr ?_)))
 refine ym ?_
 refine et (vk3 0 1 5 (vc_block (sr ?_)))
 refine vy (y_eqi rfl rfl) ?_
 refine ya ?_
 refine et (vk4 0 1 5 6 ?_)
 refine vif ?_ ?_
 ·intro hc6
  try simp only [dn] at hc6
  refine sr ?_
  refine ya ?_
  refine et (vk1 4 (vc_ret (vq_block_ret (vq_then_ret ?_))))
  refine vr1 st results66 ?_
  refine ⟨?_, rfl⟩
  unfold wDiv
  rw [if_pos hc6]
 intro hc6
 try simp only [dn] at hc6
 refine sr ?_
 refine vy (y_eqi rfl rfl) ?_
 refine ya ?_
 refine et (vk3 0 1 8 ?_)
 refine vif ?_ ?_
 ·intro hc8
  try simp only [dn] at hc8
  refine sr ?_
  refine ym ?_
  refine vy (y_neg rfl rfl) ?_
  refine ya ?_
  refine et (vk1 4 (vc_ret (vq_block_ret (vq_then_ret ?_))))
  refine vr1 st results66 ?_
  refine ⟨?_, rfl⟩
  unfold wDiv
  rw [if_neg hc6, if_pos hc8]
  rfl
 intro hc8
 try simp only [dn] at hc8
 refine vc_code_skip (vq_block (vq_then (vk2 0 1 (sr ?_))))
 iterate 2 refine ym ?_
 refine vy (y_quoz rfl rfl hc6 rfl) ?_
 refine ya ?_
 refine et (vk1 4 (vc_ret ?_))
 refine vr1 st results66 ?_
 refine ⟨?_, rfl⟩
 unfold wDiv
 rw [if_neg hc6, if_neg hc8]
 rfl
theorem wrem_any (a b : Int) (w : World) : Ret Tryz.prog 67 [.int .i64 a, .int .i64 b] w fun v w' => v = .int .i64 (if b = 0 then a else wI (a - wI (wDiv a b * b))) ∧ w' = w := by
 refine ret_of [_, _] func67 rfl ntmps67 rfl ?_
 have st := St.init w []
 refine sr ?_
 refine ya ?_
 refine et (vk2 0 1 (vc_seq (sr ?_)))
 refine ym ?_
 refine vy (y_eqi rfl rfl) ?_
 refine et (vk3 0 1 6 ?_)
 refine vif ?_ ?_
 ·intro hc6
  try simp only [dn] at hc6
  refine sr ?_
  refine ym ?_
  refine ya ?_
  refine et (vk1 4 (vc_ret (vq_then_ret ?_)))
  refine vr1 st results67 ?_
  refine ⟨?_, rfl⟩
  rw [if_pos hc6]
 intro hc6
 try simp only [dn] at hc6
 refine kt (vk2 0 1 (sr ?_))
 iterate 3 refine ym ?_
 refine vc_e (e_call [_, _] rfl rfl call66 rfl (wdiv_any _ _ _) ?_)
 rintro _ _ ⟨rfl, rfl⟩
 refine ym ?_
 refine vy (y_mulk rfl rfl rfl) ?_
 refine vy (y_subk rfl rfl rfl) ?_
 refine ya ?_
 refine et (vk1 4 (vc_ret ?_))
 refine vr1 st results67 ?_
 refine ⟨?_, rfl⟩
 rw [if_neg hc6]
 rfl
theorem wand_any (a b : Int) (w : World) : Ret Tryz.prog 68 [.int .i64 a, .int .i64 b] w fun v w' => v = .int .i64 (wI ((BitVec.ofInt 64 a) &&& (BitVec.ofInt 64 b)).toNat) ∧ w' = w := by
 refine ret_of [_, _] func68 rfl ntmps68 rfl ?_
 have st := St.init w []
 refine sr ?_
 refine ya ?_
 refine et (vk2 0 1 (sr ?_))
 iterate 2 refine ym ?_
 refine vy (y_and rfl rfl rfl) ?_
 refine ya ?_
 refine et (vk1 4 (vc_ret ?_))
 refine vr1 st results68 ?_
 exact ⟨rfl, rfl⟩
theorem wor_any (a b : Int) (w : World) : Ret Tryz.prog 69 [.int .i64 a, .int .i64 b] w fun v w' => v = .int .i64 (wI ((BitVec.ofInt 64 a) ||| (BitVec.ofInt 64 b)).toNat) ∧ w' = w := by
 refine ret_of [_, _] func69 rfl ntmps69 rfl ?_
 have st := St.init w []
 refine sr ?_
 refine ya ?_
 refine et (vk2 0 1 (sr ?_))
 iterate 2 refine ym ?_
 refine vy (y_or rfl rfl rfl) ?_
 refine ya ?_
 refine et (vk1 4 (vc_ret ?_))
 refine vr1 st results69 ?_
 exact ⟨rfl, rfl⟩
theorem wxor_any (a b : Int) (w : World) : Ret Tryz.prog 70 [.int .i64 a, .int .i64 b] w fun v w' => v = .int .i64 (wI ((BitVec.ofInt 64 a) ^^^ (BitVec.ofInt 64 b)).toNat) ∧ w' = w := by
 refine ret_of [_, _] func70 rfl ntmps70 rfl ?_
 have st := St.init w []
 refine sr ?_
 refine ya ?_
 refine et (vk2 0 1 (sr ?_))
 iterate 2 refine ym ?_
 refine vy (y_xor rfl rfl rfl) ?_
 refine ya ?_
 refine et (vk1 4 (vc_ret ?_))
 refine vr1 st results70 ?_
 exact ⟨rfl, rfl⟩
theorem wshl_any (a b : Int) (w : World) : Ret Tryz.prog 71 [.int .i64 a, .int .i64 b] w fun v w' => v = .int .i64 (wI (a * 2 ^ wSh b)) ∧ w' = w := by
 refine ret_of [_, _] func71 rfl ntmps71 rfl ?_
 have st := St.init w []
 refine sr ?_
 refine ya ?_
 refine et (vk2 0 1 (sr ?_))
 iterate 2 refine ym ?_
 refine vy (y_cvi rfl underlying126 underlying119 rfl) ?_
 refine vy (y_and rfl rfl rfl) ?_
 refine vy (y_shl rfl rfl (wU_pos _) rfl) ?_
 refine ya ?_
 refine et (vk1 4 (vc_ret ?_))
 refine vr1 st results71 ?_
 exact ⟨rfl, rfl⟩
theorem wshr_any (a b : Int) (w : World) : Ret Tryz.prog 72 [.int .i64 a, .int .i64 b] w fun v w' => v = .int .i64 (a.fdiv (2 ^ wSh b)) ∧ w' = w := by
 refine ret_of [_, _] func72 rfl ntmps72 rfl ?_
 have st := St.init w []
 refine sr ?_
 refine ya ?_
 refine et (vk2 0 1 (sr ?_))
 iterate 2 refine ym ?_
 refine vy (y_cvi rfl underlying126 underlying119 rfl) ?_
 refine vy (y_and rfl rfl rfl) ?_
 refine vy (y_shr rfl rfl (wU_pos _) rfl) ?_
 refine ya ?_
 refine et (vk1 4 (vc_ret ?_))
 refine vr1 st results72 ?_
 exact ⟨rfl, rfl⟩
theorem wis_any (a b : Int) (w : World) : Ret Tryz.prog 73 [.int .i64 a, .int .i64 b] w fun v w' => v = .int .i64 (wT (a = b)) ∧ w' = w := by
 refine ret_of [_, _] func73 rfl ntmps73 rfl ?_
 have st := St.init w []
 refine sr ?_
 refine ya ?_
 refine et (vk2 0 1 (sr ?_))
 iterate 2 refine ym ?_
 refine vy (y_eqi rfl rfl) ?_
 refine vc_e (e_call [_] rfl rfl call114 rfl (truth_any _ _) ?_)
 rintro _ _ ⟨rfl, rfl⟩
 refine ya ?_
 refine et (vk1 4 (vc_ret ?_))
 refine vr1 st results73 ?_
 refine ⟨?_, rfl⟩
 unfold wT
 simp only [decide_eq_true_eq, Bool.not_eq_true', decide_eq_false_iff_not]
theorem wisNot_any (a b : Int) (w : World) : Ret Tryz.prog 74 [.int .i64 a, .int .i64 b] w fun v w' => v = .int .i64 (wT (¬ a = b)) ∧ w' = w := by
 refine ret_of [_, _] func74 rfl ntmps74 rfl ?_
 have st := St.init w []
 refine sr ?_
 refine ya ?_
 refine et (vk2 0 1 (sr ?_))
 iterate 2 refine ym ?_
 refine vy (y_nei rfl rfl) ?_
 refine vc_e (e_call [_] rfl rfl call114 rfl (truth_any _ _) ?_)
 rintro _ _ ⟨rfl, rfl⟩
 refine ya ?_
 refine et (vk1 4 (vc_ret ?_))
 refine vr1 st results74 ?_
 refine ⟨?_, rfl⟩
 unfold wT
 simp only [decide_eq_true_eq, Bool.not_eq_true', decide_eq_false_iff_not]
theorem wless_any (a b : Int) (w : World) : Ret Tryz.prog 75 [.int .i64 a, .int .i64 b] w fun v w' => v = .int .i64 (wT (a < b)) ∧ w' = w := by
 refine ret_of [_, _] func75 rfl ntmps75 rfl ?_
 have st := St.init w []
 refine sr ?_
 refine ya ?_
 refine et (vk2 0 1 (sr ?_))
 iterate 2 refine ym ?_
 refine vy (y_lss rfl rfl) ?_
 refine vc_e (e_call [_] rfl rfl call114 rfl (truth_any _ _) ?_)
 rintro _ _ ⟨rfl, rfl⟩
 refine ya ?_
 refine et (vk1 4 (vc_ret ?_))
 refine vr1 st results75 ?_
 refine ⟨?_, rfl⟩
 unfold wT
 simp only [decide_eq_true_eq, Bool.not_eq_true', decide_eq_false_iff_not]
theorem wmost_any (a b : Int) (w : World) : Ret Tryz.prog 76 [.int .i64 a, .int .i64 b] w fun v w' => v = .int .i64 (wT (a ≤ b)) ∧ w' = w := by
 refine ret_of [_, _] func76 rfl ntmps76 rfl ?_
 have st := St.init w []
 refine sr ?_
 refine ya ?_
 refine et (vk2 0 1 (sr ?_))
 iterate 2 refine ym ?_
 refine vy (y_leq rfl rfl) ?_
 refine vc_e (e_call [_] rfl rfl call114 rfl (truth_any _ _) ?_)
 rintro _ _ ⟨rfl, rfl⟩
 refine ya ?_
 refine et (vk1 4 (vc_ret ?_))
 refine vr1 st results76 ?_
 refine ⟨?_, rfl⟩
 unfold wT
 simp only [decide_eq_true_eq, Bool.not_eq_true', decide_eq_false_iff_not]
theorem wabove_any (a b : Int) (w : World) : Ret Tryz.prog 77 [.int .i64 a, .int .i64 b] w fun v w' => v = .int .i64 (wT (b < a)) ∧ w' = w := by
 refine ret_of [_, _] func77 rfl ntmps77 rfl ?_
 have st := St.init w []
 refine sr ?_
 refine ya ?_
 refine et (vk2 0 1 (sr ?_))
 iterate 2 refine ym ?_
 refine vy (y_gtr rfl rfl) ?_
 refine vc_e (e_call [_] rfl rfl call114 rfl (truth_any _ _) ?_)
 rintro _ _ ⟨rfl, rfl⟩
 refine ya ?_
 refine et (vk1 4 (vc_ret ?_))
 refine vr1 st results77 ?_
 refine ⟨?_, rfl⟩
 unfold wT
 simp only [decide_eq_true_eq, Bool.not_eq_true', decide_eq_false_iff_not]
theorem wleast_any (a b : Int) (w : World) : Ret Tryz.prog 78 [.int .i64 a, .int .i64 b] w fun v w' => v = .int .i64 (wT (b ≤ a)) ∧ w' = w := by
 refine ret_of [_, _] func78 rfl ntmps78 rfl ?_
 have st := St.init w []
 refine sr ?_
 refine ya ?_
 refine et (vk2 0 1 (sr ?_))
 iterate 2 refine ym ?_
 refine vy (y_geq rfl rfl) ?_
 refine vc_e (e_call [_] rfl rfl call114 rfl (truth_any _ _) ?_)
 rintro _ _ ⟨rfl, rfl⟩
 refine ya ?_
 refine et (vk1 4 (vc_ret ?_))
 refine vr1 st results78 ?_
 refine ⟨?_, rfl⟩
 unfold wT
 simp only [decide_eq_true_eq, Bool.not_eq_true', decide_eq_false_iff_not]
theorem wminus_any (a : Int) (w : World) : Ret Tryz.prog 79 [.int .i64 a] w fun v w' => v = .int .i64 (wI (0 - a)) ∧ w' = w := by
 refine ret_of [_] func79 rfl ntmps79 rfl ?_
 have st := St.init w []
 refine sr ?_
 refine ya ?_
 refine et (vk1 0 (sr ?_))
 refine ym ?_
 refine vy (y_neg rfl rfl) ?_
 refine ya ?_
 refine et (vk1 2 (vc_ret ?_))
 refine vr1 st results79 ?_
 exact ⟨rfl, rfl⟩
theorem wnot_any (a : Int) (w : World) : Ret Tryz.prog 80 [.int .i64 a] w fun v w' => v = .int .i64 (wT (a = 0)) ∧ w' = w := by
 refine ret_of [_] func80 rfl ntmps80 rfl ?_
 have st := St.init w []
 refine sr ?_
 refine ya ?_
 refine et (vk1 0 (sr ?_))
 refine ym ?_
 refine vy (y_eqi rfl rfl) ?_
 refine vc_e (e_call [_] rfl rfl call114 rfl (truth_any _ _) ?_)
 rintro _ _ ⟨rfl, rfl⟩
 refine ya ?_
 refine et (vk1 2 (vc_ret ?_))
 refine vr1 st results80 ?_
 refine ⟨?_, rfl⟩
 unfold wT
 simp only [decide_eq_true_eq, Bool.not_eq_true', decide_eq_false_iff_not]
/-- the operators of two, by their numbers -/
theorem wtwo_any (a b : Int) (w : World) : ∀ m : Nat, 1 ≤ m ∧ m ≤ 16 → Ret Tryz.prog (62 + m) [.int .i64 a, .int .i64 b] w fun v w' => v = .int .i64 (wTwo (m : Int) a b) ∧ w' = w
 | 1, _ => (wadd_any a b w).mono fun v w' ⟨h1, h2⟩ => ⟨h1.trans (by simp [wTwo]), h2⟩
 | 2, _ => (wsub_any a b w).mono fun v w' ⟨h1, h2⟩ => ⟨h1.trans (by simp [wTwo]), h2⟩
 | 3, _ => (wmul_any a b w).mono fun v w' ⟨h1, h2⟩ => ⟨h1.trans (by simp [wTwo]), h2⟩
 | 4, _ => (wdiv_any a b w).mono fun v w' ⟨h1, h2⟩ => ⟨h1.trans (by simp [wTwo]), h2⟩
 | 5, _ => (wrem_any a b w).mono fun v w' ⟨h1, h2⟩ => ⟨h1.trans (by simp [wTwo]), h2⟩
 | 6, _ => (wand_any a b w).mono fun v w' ⟨h1, h2⟩ => ⟨h1.trans (by simp [wTwo]), h2⟩
 | 7, _ => (wor_any a b w).mono fun v w' ⟨h1, h2⟩ => ⟨h1.trans (by simp [wTwo]), h2⟩
 | 8, _ => (wxor_any a b w).mono fun v w' ⟨h1, h2⟩ => ⟨h1.trans (by simp [wTwo]), h2⟩
 | 9, _ => (wshl_any a b w).mono fun v w' ⟨h1, h2⟩ => ⟨h1.trans (by simp [wTwo]), h2⟩
 | 10, _ => (wshr_any a b w).mono fun v w' ⟨h1, h2⟩ => ⟨h1.trans (by simp [wTwo]), h2⟩
 | 11, _ => (wis_any a b w).mono fun v w' ⟨h1, h2⟩ => ⟨h1.trans (by simp [wTwo]), h2⟩
 | 12, _ => (wisNot_any a b w).mono fun v w' ⟨h1, h2⟩ => ⟨h1.trans (by simp [wTwo]), h2⟩
 | 13, _ => (wless_any a b w).mono fun v w' ⟨h1, h2⟩ => ⟨h1.trans (by simp [wTwo]), h2⟩
 | 14, _ => (wmost_any a b w).mono fun v w' ⟨h1, h2⟩ => ⟨h1.trans (by simp [wTwo]), h2⟩
 | 15, _ => (wabove_any a b w).mono fun v w' ⟨h1, h2⟩ => ⟨h1.trans (by simp [wTwo]), h2⟩
 | 16, _ => (wleast_any a b w).mono fun v w' ⟨h1, h2⟩ => ⟨h1.trans (by simp [wTwo]), h2⟩
 | 0, h => absurd h.1 (by decide)
 | _ + 17, h => absurd h.2 (by omega)
theorem wcall (az : Array Value) (w : World) : ∀ m : Nat, 1 ≤ m ∧ m ≤ 18 → (callFunc (62 + m) az).run Tryz.prog w = .ok (.enter (62 + m) az) w
 | 1, _ => call63 az w
 | 2, _ => call64 az w
 | 3, _ => call65 az w
 | 4, _ => call66 az w
 | 5, _ => call67 az w
 | 6, _ => call68 az w
 | 7, _ => call69 az w
 | 8, _ => call70 az w
 | 9, _ => call71 az w
 | 10, _ => call72 az w
 | 11, _ => call73 az w
 | 12, _ => call74 az w
 | 13, _ => call75 az w
 | 14, _ => call76 az w
 | 15, _ => call77 az w
 | 16, _ => call78 az w
 | 17, _ => call79 az w
 | 18, _ => call80 az w
 | 0, h => absurd h.1 (by decide)
 | _ + 19, h => absurd h.2 (by omega)
theorem wone_any (a : Int) (w : World) (m : Nat) (h : m = 17 ∨ m = 18) : Ret Tryz.prog (62 + m) [.int .i64 a] w fun v w' => v = .int .i64 (wOne (m : Int) a) ∧ w' = w := by
 rcases h with rfl | rfl
 ·exact (wminus_any a w).mono fun v w' ⟨h1, h2⟩ => ⟨h1.trans (by simp [wOne]), h2⟩
 ·exact (wnot_any a w).mono fun v w' ⟨h1, h2⟩ => ⟨h1.trans (by simp [wOne]), h2⟩
def opsV : List Value := [.nilFunc, .nilFunc, .func (.func 63) #[] #[], .nilFunc, .func (.func 64) #[] #[], .nilFunc, .func (.func 65) #[] #[], .nilFunc, .func (.func 66) #[] #[], .nilFunc, .func (.func 67) #[] #[], .nilFunc, .func (.func 68) #[] #[], .nilFunc, .func (.func 69) #[] #[], .nilFunc, .func (.func 70) #[] #[], .nilFunc, .func (.func 71) #[] #[], .nilFunc, .func (.func 72) #[] #[], .nilFunc, .func (.func 73) #[] #[], .nilFunc, .func (.func 74) #[] #[], .nilFunc, .func (.func 75) #[] #[], .nilFunc, .func (.func 76) #[] #[], .nilFunc, .func (.func 77) #[] #[], .nilFunc, .func (.func 78) #[] #[], .nilFunc, .nilFunc, .func (.func 79) #[] #[], .nilFunc, .func (.func 80) #[] #[]]
theorem opsV_two : ∀ m : Nat, 1 ≤ m ∧ m ≤ 16 → takeN 2 (dropN opsV (m * 2)) = some [.func (.func (62 + m)) #[] #[], .nilFunc]
 | 1, _ => rfl
 | 2, _ => rfl
 | 3, _ => rfl
 | 4, _ => rfl
 | 5, _ => rfl
 | 6, _ => rfl
 | 7, _ => rfl
 | 8, _ => rfl
 | 9, _ => rfl
 | 10, _ => rfl
 | 11, _ => rfl
 | 12, _ => rfl
 | 13, _ => rfl
 | 14, _ => rfl
 | 15, _ => rfl
 | 16, _ => rfl
 | 0, h => absurd h.1 (by decide)
 | _ + 17, h => absurd h.2 (by omega)
theorem opsV_one (m : Nat) (h : m = 17 ∨ m = 18) : takeN 2 (dropN opsV (m * 2)) = some [.nilFunc, .func (.func (62 + m)) #[] #[]] := by rcases h with rfl | rfl <;> rfl

theorem operators_any (w : World) : Ret Tryz.prog 33 [] w fun v w' => v = .agg opsV.toArray ∧ Chg [] w w' := by
 refine ret_of [] func33 rfl ntmps33 rfl ?_
 have st := St.init w []
 refine sr ?_
 refine vc_e (e_al (l := [_, _, _, _, _, _, _, _, _, _, _, _, _, _, _, _, _, _, _, _, _, _, _, _, _, _, _, _, _, _, _, _, _, _, _, _, _, _]) st rfl rfl zeroValue117 rfl ?_)
 intro b0 w hb0 st
 refine et (vk1 0 (sr ?_))
 iterate 16 refine vy (ybd (.agg #[_, _]) [(0, _)]) ?_
 iterate 2 refine vy (ybd (.agg #[_, _]) [(1, _)]) ?_
 refine vy (ybd (.agg #[_, _, _, _, _, _, _, _, _, _, _, _, _, _, _, _, _, _, _, _, _, _, _, _, _, _, _, _, _, _, _, _, _, _, _, _, _, _]) [(1, _), (2, _), (3, _), (4, _), (5, _), (6, _), (7, _), (8, _), (9, _), (10, _), (11, _), (12, _), (13, _), (14, _), (15, _), (16, _), (17, _), (18, _)]) ?_
 first
 | refine vc_e (ests st 0 [_, _, _, _, _, _, _, _, _, _, _, _, _, _, _, _, _, _, _, _, _, _, _, _, _, _, _, _, _, _, _, _, _, _, _, _, _, _] sizeOf117 ?_)
 intro w st; dsimp only [setNth, wr] at st
 refine et (vk1 0 (vc_ret ?_))
 refine vq_ret1 st (.inl rfl) results33 (by first | exact .cell 0 rfl rfl isAgg117 sizeOf117) ?_
 refine ⟨_, rfl, ?_⟩
 exact ⟨rfl, st.chg⟩
theorem do_any (m : Nat) (hm : 1 ≤ m ∧ m ≤ 16) (a b : Int) (w : World) : Ret Tryz.prog 14 [.int .u8 (m : Int), .int .i64 a, .int .i64 b] w fun v w' => v = .tuple [.int .i64 (wTwo (m : Int) a b), .int .i64 0].toArray ∧ Chg [] w w' := by
 refine ret_of [_, _, _] func14 rfl ntmps14 rfl ?_
 have st := St.init w []
 have h2 : twoOp (m : Int) = true := by simp only [twoOp, decide_eq_true_eq]; omega
 refine sr ?_
 iterate 2 refine ya ?_
 refine et (vk3 0 1 2 (vc_seq (sr ?_)))
 refine ym ?_
 refine vc_e (e_call [_] rfl rfl call32 rfl (two_any _ _) ?_)
 rintro _ _ ⟨rfl, rfl⟩
 refine vy (y_not rfl) ?_
 refine et (vk4 0 1 2 11 ?_)
 refine vif ?_ ?_
 ·intro hc11
  exfalso; simp_all
 intro hc11
 try simp only [dn] at hc11
 refine kt (vk3 0 1 2 (sr ?_))
 refine vc_e (e_call [] rfl rfl call33 rfl (operators_any _) ?_)
 rintro _ w ⟨rfl, cw⟩
 replace st := st.call0 cw
 refine ym ?_
 refine vy (y_ixa (i := m) (vs := [.func (.func (62 + m)) #[] #[], .nilFunc]) rfl rfl underlying117 sizeOf116 rfl (by simp only [Nat.blt_eq]; omega) isAgg116 (opsV_two m hm)) ?_
 refine vy (y_fld rfl underlying116 rfl rfl isAgg113 rfl) ?_
 refine ya ?_
 refine et (vk3 1 2 8 (sr ?_))
 iterate 3 refine ym ?_
 refine vc_e (e_callv [_, _] rfl rfl rfl (fun az w => wcall az w m ⟨hm.1, by omega⟩) rfl (wtwo_any a b _ m hm) ?_)
 rintro _ _ ⟨rfl, rfl⟩
 iterate 2 refine ya ?_
 refine et (vk2 6 7 (vc_ret ?_))
 refine vq_ret2 st (.inl rfl) results14 (.tmp rfl) (.tmp rfl) ?_
 refine ⟨_, rfl, ?_⟩
 exact ⟨rfl, st.chg⟩
theorem one_any (m : Nat) (hm : m = 17 ∨ m = 18) (a : Int) (w : World) : Ret Tryz.prog 21 [.int .u8 (m : Int), .int .i64 a] w fun v w' => v = .tuple [.int .i64 (wOne (m : Int) a), .int .i64 0].toArray ∧ Chg [] w w' := by
 refine ret_of [_, _] func21 rfl ntmps21 rfl ?_
 have st := St.init w []
 have h2 : twoOp (m : Int) = false := by simp only [twoOp, decide_eq_false_iff_not]; omega
 have h3 : knownOp (m : Int) = true := by simp only [knownOp, decide_eq_true_eq]; omega
 refine sr ?_
 iterate 2 refine ya ?_
 refine et (vk2 0 1 (vc_seq (sr ?_)))
 refine ym ?_
 refine vc_e (e_call [_] rfl rfl call41 rfl (known_any _ _) ?_)
 rintro _ _ ⟨rfl, rfl⟩
 refine vy (y_not rfl) ?_
 refine vmb ?_ ?_
 ·intro hg10
  exfalso; simp_all
 intro hg10
 try simp only [dn] at hg10
 refine ym ?_
 refine vc_e (e_call [_] rfl rfl call32 rfl (two_any _ _) ?_)
 rintro _ _ ⟨rfl, rfl⟩
 refine ypf ?_
 refine et (vk3 0 1 13 ?_)
 refine vif ?_ ?_
 ·intro hc13
  exfalso; simp_all
 intro hc13
 try simp only [dn] at hc13
 refine kt (vk2 0 1 (sr ?_))
 refine vc_e (e_call [] rfl rfl call33 rfl (operators_any _) ?_)
 rintro _ w ⟨rfl, cw⟩
 replace st := st.call0 cw
 refine ym ?_
 refine vy (y_ixa (i := m) (vs := [.nilFunc, .func (.func (62 + m)) #[] #[]]) rfl rfl underlying117 sizeOf116 rfl (by simp only [Nat.blt_eq]; omega) isAgg116 (opsV_one m hm)) ?_
 refine vy (y_fld rfl underlying116 rfl rfl isAgg114 rfl) ?_
 refine ya ?_
 refine et (vk2 1 6 (sr ?_))
 iterate 2 refine ym ?_
 refine vc_e (e_callv [_] rfl rfl rfl (fun az w => wcall az w m ⟨by omega, by omega⟩) rfl (wone_any a _ m hm) ?_)
 rintro _ _ ⟨rfl, rfl⟩
 iterate 2 refine ya ?_
 refine et (vk2 4 5 (vc_ret ?_))
 refine vq_ret2 st (.inl rfl) results21 (.tmp rfl) (.tmp rfl) ?_
 refine ⟨_, rfl, ?_⟩
 exact ⟨rfl, st.chg⟩
end Go.Proofs.YtjoepkpdanolkaaGreatDoor


namespace Go.Proofs.YtjoepkpdanolkaaGreatDoor
open Go.RowKit Sx LexS _root_.Go.Proofs.Tryz
theorem cell_nth {w : World} {b off E : Nat} {l : List Value} {v : Value} (h : w.heap[b]? = some (.cells l.toArray E (0, 0))) (hv : nth l off = some v) : w.cell? ⟨b, off, none⟩ = some v := cell_blk h hv

theorem level_any (k : Int) (w : World) (hs : Sig w) : Ret Tryz.prog 38 [.int .u8 k] w fun v w' => v = .int .i64 (lvlO k) ∧ w' = w := by
 refine ret_of [_] Tryz.func38 rfl Tryz.ntmps38 rfl ?_;have st := St.init w [];refine a9 ?_;refine vc_e (e_call [_] rfl rfl Tryz.call41 rfl (known_any _ _) ?_);rintro _ _ ⟨rfl, rfl⟩;refine a3 ?_;refine vif ?_ ?_;intro hc5;refine a7 ?_;refine vr1 st Tryz.results38 ?_;refine ⟨?_, rfl⟩;unfold lvlO;rw [if_neg (by simpa using hc5)];intro hc5;have hk : 0 < k ∧ k < 19 := by simpa [knownOp] using hc5
 obtain ⟨m, rfl⟩ : ∃ m : Nat, k = (m : Int) := ⟨k.toNat, by omega⟩
 refine a5 ?_;refine vy (y_iaa (k := m) rfl rfl Tryz.underlying160 Tryz.sizeOf159 rfl (by omega)) ?_;refine vy (y_fa (k := 1) rfl Tryz.underlying159 rfl rfl Tryz.sizeOf3 rfl) ?_;refine vy ((by exact y_ldc rfl Tryz.isAgg3 (by have h := (hs m (by omega)).2; rw [Nat.zero_add]; exact h))) ?_;refine a4 ?_;refine vr1 st Tryz.results38 ?_;refine ⟨?_, rfl⟩;unfold lvlO;rw [if_pos (by simpa using hc5)];rfl
end Go.Proofs.YtjoepkpdanolkaaGreatDoor


namespace Go.Proofs.YtjoepkpdanolkaaGreatDoor
open Go.RowKit Sx LexS _root_.Go.Proofs.Tryz
theorem rightE_le {e : Ex} {d : Nat} (h : rightE e d = true) : d ≤ 64 := by
 cases e;unfold rightE at h;simp only [Bool.and_eq_true, decide_eq_true_eq] at h;exact h.1
/-! ## reading rows -/
theorem RowC.at {w : World} {S : Nat → Prop} {sz n : Nat} {oa : Option Addr} {vs : Nat → List Value} (h : RowC w S sz oa n vs) (hn : 0 < n) :
    ∃ b off, oa = some ⟨b, off, none⟩ ∧ S b ∧ b < w.heap.size ∧ ∀ j, j < n → (vs j).length = sz ∧ ∀ i v, (vs j)[i]? = some v → w.cell? ⟨b, off + j * sz + i, none⟩ = some v := by
 rcases h with h | h;omega;exact h
abbrev szo {α : Type} [SizeOf α] (x : α) : Nat := SizeOf.sizeOf x
theorem ex_size {k op wd : Int} {nm : List UInt8} {kids : List Ex} {a : Int} : szo kids < szo (Ex.mk k op wd nm kids a) := by
 simp only [szo, Ex.mk.sizeOf_spec]; omega
theorem mem_size {α : Type} [SizeOf α] {l : List α} {j : Nat} {x : α} (h : l[j]? = some x) : szo x < szo l := List.sizeOf_lt_of_mem (List.mem_of_getElem? h)
section
variable {w w' : World} {S : Nat → Prop} {M : List Nat}
/-- an expression's value -/
abbrev exL (e : Ex) (oa : Option Addr) (cap : Nat) : List Value := [.int .u8 e.k, .int .u8 e.op, .int .i64 e.wd, str e.nm, .slice oa e.kids.length cap, .int .i64 e.a]
theorem ExV.inv {e : Ex} {l : List Value} (h : ExV w S e l) : ∃ oa cap, l = exL e oa cap ∧ ExRow w S oa e.kids := by
 cases h with
 | mk vs hr hk => exact ⟨_, _, rfl, vs, hr, hk⟩
theorem ExRow.at {oa : Option Addr} {es : List Ex} (h : ExRow w S oa es) (hn : 0 < es.length) : ∃ b off, oa = some ⟨b, off, none⟩ ∧ S b ∧ b < w.heap.size ∧
    ∀ j x, es[j]? = some x → ∃ o c, ExV w S x (exL x o c) ∧ ExRow w S o x.kids ∧ ∀ i v, (exL x o c)[i]? = some v → w.cell? ⟨b, off + j * 6 + i, none⟩ = some v := by
 obtain ⟨vs, hr, hk⟩ := h;obtain ⟨b, off, e, hb, hl, hc⟩ := RowC.at hr hn;refine ⟨b, off, e, hb, hl, fun j x hx => ?_⟩;have hx' := hk j x hx;obtain ⟨o, c, e2, hr2⟩ := ExV.inv hx';have := (hc j (List.getElem?_eq_some_iff.1 hx).1).2;rw [e2] at hx' this;exact ⟨o, c, hx', hr2, this⟩
/-- a statement's value -/
abbrev smL (s : Sm) (oe ob ol : Option Addr) (ce cb cl : Nat) : List Value := [.int .u8 s.k, str s.nm, str s.other, .slice oe s.e.length ce, .slice ob s.body.length cb, .slice ol s.els.length cl, .int .i64 s.a]
theorem SmV.inv {s : Sm} {l : List Value} (h : SmV w S s l) : ∃ oe ob ol ce cb cl, l = smL s oe ob ol ce cb cl ∧ ExRow w S oe s.e ∧ SmRow w S ob s.body ∧ SmRow w S ol s.els := by
 cases h with
 | mk vb vl he hb hbk hl hlk => exact ⟨_, _, _, _, _, _, rfl, he, ⟨vb, hb, hbk⟩, ⟨vl, hl, hlk⟩⟩
theorem SmRow.at {oa : Option Addr} {es : List Sm} (h : SmRow w S oa es) (hn : 0 < es.length) : ∃ b off, oa = some ⟨b, off, none⟩ ∧ S b ∧ b < w.heap.size ∧
    ∀ j s, es[j]? = some s → ∃ oe ob ol ce cb cl, SmV w S s (smL s oe ob ol ce cb cl) ∧ ExRow w S oe s.e ∧ SmRow w S ob s.body ∧ SmRow w S ol s.els ∧ ∀ i v, (smL s oe ob ol ce cb cl)[i]? = some v → w.cell? ⟨b, off + j * 7 + i, none⟩ = some v := by
 obtain ⟨vs, hr, hk⟩ := h;obtain ⟨b, off, e, hb, hl, hc⟩ := RowC.at hr hn;refine ⟨b, off, e, hb, hl, fun j x hx => ?_⟩;have hx' := hk j x hx;obtain ⟨oe, ob, ol, ce, cb, cl, e2, h1, h2, h3⟩ := SmV.inv hx';have := (hc j (List.getElem?_eq_some_iff.1 hx).1).2;rw [e2] at hx' this;exact ⟨oe, ob, ol, ce, cb, cl, hx', h1, h2, h3, this⟩
abbrev thL (t : Th) (ol ob : Option Addr) (cl cb : Nat) : List Value := [str t.nm, .slice ol t.locals.length cl, .slice ob t.body.length cb, .int .i64 t.a]
theorem ThRow.at {oa : Option Addr} {ts : List Th} (h : ThRow w S oa ts) (hn : 0 < ts.length) : ∃ b off, oa = some ⟨b, off, none⟩ ∧ S b ∧ b < w.heap.size ∧
    ∀ j t, ts[j]? = some t → ∃ ol ob cl cb, DcRow w S ol t.locals ∧ SmRow w S ob t.body ∧ ∀ i v, (thL t ol ob cl cb)[i]? = some v → w.cell? ⟨b, off + j * 4 + i, none⟩ = some v := by
 obtain ⟨vs, hr, hk⟩ := h;obtain ⟨b, off, e, hb, hl, hc⟩ := RowC.at hr hn;refine ⟨b, off, e, hb, hl, fun j x hx => ?_⟩;obtain ⟨ol, cl, ob, cb, e2, h1, h2⟩ := hk j x hx;have := (hc j (List.getElem?_eq_some_iff.1 hx).1).2;rw [e2] at this;exact ⟨ol, ob, cl, cb, h1, h2, this⟩
theorem Sig.kept' (h : Sig w) (c : Chg M w w') (hm : 0 ∉ M) : Sig w' := fun k hk => ⟨c.cell (h k hk).1 (by simpa using hm), c.cell (h k hk).2 (by simpa using hm)⟩
end
theorem get0 {α : Type} {l : List α} {n : Nat} (h : l.length = n) (hn : 0 < n) : ∃ x, l[0]? = some x := by
 cases l with
 | nil => simp at h; omega
 | cons x r => exact ⟨x, rfl⟩
theorem one_form {α : Type} {l : List α} {x : α} (h : l.length = 1) (h0 : l[0]? = some x) : l = [x] := by
 match l, h with
 | [y], _ => simp at h0; rw [h0]
theorem two_form {α : Type} {l : List α} {x y : α} (h : l.length = 2) (h0 : l[0]? = some x) (h1 : l[1]? = some y) : l = [x, y] := by
 match l, h with
 | [a, b], _ => simp at h0 h1; rw [h0, h1]
theorem get1 {α : Type} {l : List α} (h : l.length = 2) : ∃ x, l[1]? = some x := by
 match l, h with
 | [a, b], _ => exact ⟨b, rfl⟩
theorem rightE_1 {e : Ex} {d : Nat} (h : e.k = 1) (hd : d ≤ 64) : rightE e d = decide (0 ≤ e.wd ∧ e.op = 0 ∧ e.nm = [] ∧ e.kids.length = 0) := by
 cases e; simp only [Ex.k] at h; subst h; unfold rightE; simp [hd, Ex.wd, Ex.op, Ex.nm, Ex.kids]
theorem rightE_2 {e : Ex} {d : Nat} (h : e.k = 2) (hd : d ≤ 64) : rightE e d = (isName e.nm && decide (e.op = 0 ∧ e.wd = 0 ∧ e.kids.length = 0)) := by
 cases e; simp only [Ex.k] at h; subst h; unfold rightE; simp [hd, Ex.wd, Ex.op, Ex.nm, Ex.kids]
theorem rightE_3 {e x : Ex} {d : Nat} (h : e.k = 3) (hd : d ≤ 64) (hx : e.kids = [x]) : rightE e d = (oneOp e.op && decide (e.wd = 0 ∧ e.nm = []) && rightE x (if x.k = 4 then d + 2 else d + 1)) := by
 cases e with
 | mk k op wd nm kids a =>
  change k = 3 at h; change kids = [x] at hx; subst h hx
  show rightE (.mk 3 op wd nm [x] a) d = (oneOp op && decide (wd = 0 ∧ nm = []) && rightE x (if x.k = 4 then d + 2 else d + 1))
  rw [rightE]; simp [hd]
theorem rightE_3n {e : Ex} {d : Nat} (h : e.k = 3) (hx : e.kids.length ≠ 1 ∨ oneOp e.op = false ∨ e.wd ≠ 0 ∨ e.nm ≠ []) : rightE e d = false := by
 cases e with
 | mk k op wd nm kids a =>
  simp only [Ex.k] at h; subst h
  simp only [Ex.kids, Ex.op, Ex.wd, Ex.nm] at hx
  rcases kids with _ | ⟨x, _ | ⟨y, _ | ⟨z, r⟩⟩⟩ <;> rw [rightE] <;> rcases hx with h | h | h | h <;> simp_all
theorem rightE_4 {e x y : Ex} {d : Nat} (h : e.k = 4) (hd : d ≤ 64) (hx : e.kids = [x, y]) : rightE e d = (twoOp e.op && decide (e.wd = 0 ∧ e.nm = []) && (rightE x (if inn e.op x false = true then d + 1 else d) && rightE y (if inn e.op y true = true then d + 1 else d))) := by
 cases e with
 | mk k op wd nm kids a =>
  change k = 4 at h; change kids = [x, y] at hx; subst h hx
  show rightE (.mk 4 op wd nm [x, y] a) d = (twoOp op && decide (wd = 0 ∧ nm = []) && (rightE x (if inn op x false = true then d + 1 else d) && rightE y (if inn op y true = true then d + 1 else d)))
  rw [rightE]; simp [hd]
theorem rightE_4n {e : Ex} {d : Nat} (h : e.k = 4) (hx : e.kids.length ≠ 2 ∨ twoOp e.op = false ∨ e.wd ≠ 0 ∨ e.nm ≠ []) : rightE e d = false := by
 cases e with
 | mk k op wd nm kids a =>
  simp only [Ex.k] at h; subst h
  simp only [Ex.kids, Ex.op, Ex.wd, Ex.nm] at hx
  rcases kids with _ | ⟨x, _ | ⟨y, _ | ⟨z, r⟩⟩⟩ <;> rw [rightE] <;> rcases hx with h | h | h | h <;> simp_all
theorem rightE_0 {e : Ex} {d : Nat} (h1 : e.k ≠ 1) (h2 : e.k ≠ 2) (h3 : e.k ≠ 3) (h4 : e.k ≠ 4) : rightE e d = false := by
 cases e; simp only [Ex.k] at *; unfold rightE; simp [h1, h2, h3, h4]
theorem inn_f {op : Int} {x : Ex} (h : x.k = 4) : inn op x false = decide (lvlO x.op < lvlO op) := by unfold inn; simp [h]
theorem inn_n {op : Int} {x : Ex} {b : Bool} (h : ¬x.k = 4) : inn op x b = false := by unfold inn; simp [h]
theorem inn_t {op : Int} {x : Ex} (h : x.k = 4) : inn op x true = decide (lvlO x.op ≤ lvlO op) := by
 unfold inn; rw [Bool.eq_iff_iff]; simp [h]; omega
theorem rightE_big {e : Ex} {d : Nat} (h : 64 < d) : rightE e d = false := by
 cases hr : rightE e d;rfl;have := rightE_le hr; omega
theorem rightE_3d {e : Ex} {d : Nat} (h : e.k = 3) (hd : 64 ≤ d) : rightE e d = false := by
 by_cases h1 : e.kids.length = 1
 obtain ⟨x, hx⟩ := get0 h1 (by omega)
 by_cases h2 : d ≤ 64
 rw [rightE_3 h h2 (one_form h1 hx), rightE_big (by split <;> omega), Bool.and_false];exact rightE_big (by omega);exact rightE_3n h (.inl h1)
theorem szo_kids (e : Ex) : szo e.kids < szo e := by cases e; exact ex_size
end Go.Proofs.YtjoepkpdanolkaaGreatDoor


namespace Go.Proofs.YtjoepkpdanolkaaGreatDoor
open Go.RowKit Sx LexS _root_.Go.Proofs.Tryz
section
variable {S : Nat → Prop}

theorem kidx_any (x : Ex) (hrec : ∀ (d : Nat), d ≤ 64 → ∀ (l : List Value) (w : World), ExV w S x l → Sig w → Ret Tryz.prog 22 [.agg l.toArray, .int .i64 (d : Int)] w fun v w' => v = .bool (rightE x d) ∧ Chg [] w w') (d : Nat) (hd : d ≤ 64) (b : Bool) (o : Option Addr) (c : Nat) (w : World)
    (hV : ExV w S x (exL x o c)) (hs : Sig w) (b3 : Nat) (hc : w.cell? ⟨b3, 0, none⟩ = some (.int .i64 (d : Int))) : Ret Tryz.prog 42 [.agg (exL x o c).toArray, .bool b, .pointer (some ⟨b3, 0, none⟩)] w fun v w' => v = .bool (rightE x (if b = true then d + 1 else d)) ∧ Chg [] w w' := by
 refine ret_of [_, _, _] Tryz.func42 rfl Tryz.ntmps42 rfl ?_;have st := St.init w [];refine a2 ?_;refine vc_e (e_bx (l := [_, _, _, _, _, _]) st rfl rfl rfl rfl ?_);intro b3 w hb3 st;refine a9 ?_;refine vif ?_ ?_;intro hc6;(try simp only [dn] at hc6);refine a2 ?_;refine vy (y_ldc rfl Tryz.isAgg3 (st.chg.cell hc (by simp))) ?_;refine a1 ?_;refine vmb ?_ ?_;intro hg9;(try simp only [dn] at hg9);refine yla st 0 [_, _, _, _, _, _] Tryz.isAgg27 Tryz.sizeOf27 ?_;refine vy (y_ldc rfl Tryz.isAgg3 (st.chg.cell hc (by simp))) ?_;refine vy (yin ((d + 1 : Nat) : Int)) ?_;refine vc_e (e_call [_, _] rfl rfl Tryz.call22 rfl (hrec (d + 1) (by omega) _ _ (hV.kept st.sm) (hs.kept st.chg)) ?_);rintro _ w ⟨rfl, cw⟩;replace st := st.call0 cw;refine a6 ?_;refine vr1 st Tryz.results42 ?_;refine ⟨?_, st.chg⟩;rw [if_pos hc6];intro hg9;(try simp only [dn] at hg9);refine a10 ?_;refine vr1 st Tryz.results42 ?_;refine ⟨?_, st.chg⟩;rw [if_pos hc6, rightE_big (by omega)];intro hc6;(try simp only [dn] at hc6);refine a4 ?_;refine yla st 0 [_, _, _, _, _, _] Tryz.isAgg27 Tryz.sizeOf27 ?_;refine vy (y_ldc rfl Tryz.isAgg3 (st.chg.cell hc (by simp))) ?_;refine vc_e (e_call [_, _] rfl rfl Tryz.call22 rfl (hrec d hd _ _ (hV.kept st.sm) (hs.kept st.chg)) ?_);rintro _ w ⟨rfl, cw⟩;replace st := st.call0 cw;refine a4 ?_;refine vr1 st Tryz.results42 ?_;refine ⟨?_, st.chg⟩;rw [if_neg (by rw [hc6]; simp)]
theorem op_one {k : Int} : oneOp k = true ↔ k = 17 ∨ k = 18 := by unfold oneOp; simp

set_option maxHeartbeats 2000000 in
theorem expr_any : ∀ (n : Nat) (e : Ex), szo e = n → ∀ (d : Nat), d ≤ 64 → ∀ (l : List Value) (w : World), ExV w S e l → Sig w → Ret Tryz.prog 22 [.agg l.toArray, .int .i64 (d : Int)] w fun v w' => v = .bool (rightE e d) ∧ Chg [] w w' := by
 intro n;refine Nat.strongRecOn n fun n ih => ?_
 intro e hn d hd l w hV hs;subst hn;obtain ⟨oa, cap, rfl, hr⟩ := ExV.inv hV;refine ret_of [_, _] Tryz.func22 rfl Tryz.ntmps22 rfl ?_;have st := St.init w [];refine a2 ?_;refine vc_e (e_bx (l := [_, _, _, _, _, _]) st rfl rfl rfl rfl ?_);intro b2 w hb2 st;refine vc_e (e_bx (l := [_]) st rfl rfl rfl rfl ?_);intro b3 w hb3 st;refine a5 ?_;refine vy (y_mf [] [_] rfl rfl) ?_;refine a6 ?_;refine vy (y_fa0 rfl Tryz.underlying27 rfl rfl Tryz.sizeOf23 rfl) ?_;refine yl st 1 Tryz.isAgg23 ?_;refine a9 ?_;refine vif ?_ ?_
 ·intro hc13;(try simp only [dn] at hc13);refine a2 ?_;refine yfz 2 Tryz.underlying27 Tryz.sizeOf2 ?_;refine yl st 1 Tryz.isAgg2 ?_;refine a1 ?_;refine vmb ?_ ?_
  focus
   intro hg18;(try simp only [dn] at hg18);refine yfz 1 Tryz.underlying27 Tryz.sizeOf24 ?_;refine yl st 1 Tryz.isAgg24 ?_;refine a2 ?_;refine vmb ?_ ?_
   focus
    intro hg23;(try simp only [dn] at hg23);refine yfz 3 Tryz.underlying27 Tryz.sizeOf9 ?_;refine yl st 1 Tryz.isAgg9 ?_;refine a2 ?_;refine vmb ?_ ?_;intro hg28;(try simp only [dn] at hg28);refine yfz 4 Tryz.underlying27 Tryz.sizeOf25 ?_;refine yl st 1 Tryz.isAgg25 ?_;refine vy (y_lensl rfl Tryz.underlying25) ?_;refine a2 ?_
    rotate_left
    intro hg28;(try simp only [dn] at hg28);refine a5 ?_
   rotate_left 2
   intro hg23;(try simp only [dn] at hg23);refine a10 ?_
  rotate_left 3
  intro hg18;(try simp only [dn] at hg18);refine a15 ?_
  all_goals
   refine a6 ?_;refine vr1 st Tryz.results22 ?_;refine ⟨?_, st.chg⟩;show Value.bool _ = Value.bool _;congr 1;clear st;symm
   (rw [rightE_1 (e := e) (by assumption) hd]; clear hV hr hs ih; rw [Bool.eq_iff_iff]; simp_all <;> omega)
 intro hc13;(try simp only [dn] at hc13);refine a6 ?_;refine vif ?_ ?_
 ·intro hc34;(try simp only [dn] at hc34);refine a2 ?_;refine yfz 3 Tryz.underlying27 Tryz.sizeOf9 ?_;refine yl st 1 Tryz.isAgg9 ?_;refine vc_e (e_call [_] rfl rfl Tryz.call43 rfl (name_any _ _) ?_);rintro _ _ ⟨rfl, rfl⟩;refine vmb ?_ ?_
  focus
   intro hg39;(try simp only [dn] at hg39);refine yfz 1 Tryz.underlying27 Tryz.sizeOf24 ?_;refine yl st 1 Tryz.isAgg24 ?_;refine a2 ?_;refine vmb ?_ ?_
   focus
    intro hg44;(try simp only [dn] at hg44);refine yfz 2 Tryz.underlying27 Tryz.sizeOf2 ?_;refine yl st 1 Tryz.isAgg2 ?_;refine a2 ?_;refine vmb ?_ ?_;intro hg49;(try simp only [dn] at hg49);refine yfz 4 Tryz.underlying27 Tryz.sizeOf25 ?_;refine yl st 1 Tryz.isAgg25 ?_;refine vy (y_lensl rfl Tryz.underlying25) ?_;refine a2 ?_
    rotate_left
    intro hg49;(try simp only [dn] at hg49);refine a5 ?_
   rotate_left 2
   intro hg44;(try simp only [dn] at hg44);refine a10 ?_
  rotate_left 3
  intro hg39;(try simp only [dn] at hg39);refine a15 ?_
  all_goals
   refine a6 ?_;refine vr1 st Tryz.results22 ?_;refine ⟨?_, st.chg⟩;show Value.bool _ = Value.bool _;congr 1;clear st;symm
   (rw [rightE_2 (e := e) (by assumption) hd]; clear hV hr hs ih; rw [Bool.eq_iff_iff]; simp_all <;> omega)
 intro hc34;(try simp only [dn] at hc34);refine a6 ?_;refine vif ?_ ?_
 ·intro hc55;(try simp only [dn] at hc55);refine a3 ?_;refine yfz 1 Tryz.underlying27 Tryz.sizeOf24 ?_;refine yl st 1 Tryz.isAgg24 ?_;refine a1 ?_;refine vmb ?_ ?_
  focus
   intro hg60;(try simp only [dn] at hg60);refine yfz 1 Tryz.underlying27 Tryz.sizeOf24 ?_;refine yl st 1 Tryz.isAgg24 ?_;refine a2 ?_;refine vmb ?_ ?_;intro hg65;(try simp only [dn] at hg65);refine a16 ?_;refine a13 ?_
   rotate_left
   focus
    intro hg65;(try simp only [dn] at hg65);refine yfz 4 Tryz.underlying27 Tryz.sizeOf25 ?_;refine yl st 1 Tryz.isAgg25 ?_;refine vy (y_lensl rfl Tryz.underlying25) ?_;refine a2 ?_;refine vmb ?_ ?_;intro hg71;(try simp only [dn] at hg71);refine a16 ?_;refine a7 ?_
    rotate_left
    focus
     intro hg71;(try simp only [dn] at hg71);refine yfz 2 Tryz.underlying27 Tryz.sizeOf2 ?_;refine yl st 1 Tryz.isAgg2 ?_;refine a2 ?_;refine vmb ?_ ?_;intro hg76;(try simp only [dn] at hg76);refine a16 ?_;refine a2 ?_
     rotate_left
     focus
      intro hg76;(try simp only [dn] at hg76);refine yfz 3 Tryz.underlying27 Tryz.sizeOf9 ?_;refine yl st 1 Tryz.isAgg9 ?_;refine a2 ?_;refine vmb ?_ ?_;intro hg81;(try simp only [dn] at hg81);refine a13 ?_
      rotate_left
      focus
       intro hg81;(try simp only [dn] at hg81);refine yl st 0 Tryz.isAgg3 ?_;refine a4 ?_;refine vif ?_ ?_;intro hc84;(try simp only [dn] at hc84);refine a7 ?_
       rotate_left
       focus
        intro hc84;(try simp only [dn] at hc84);obtain ⟨x, hx⟩ := get0 (l := e.kids) (n := e.kids.length) rfl (by omega);obtain ⟨gb, go, rfl, hgS, hgl, hg⟩ := ExRow.at hr (by omega);obtain ⟨o0, c0, hV0, hr0, hc0⟩ := hg 0 x hx;refine a4 ?_;refine yfz 4 Tryz.underlying27 Tryz.sizeOf25 ?_;refine yl st 1 Tryz.isAgg25 ?_;refine vy (y_ia (k := 0) rfl rfl Tryz.underlying25 Tryz.sizeOf27 rfl (by omega)) ?_;refine vy (y_ldca (exL x o0 c0) rfl Tryz.isAgg27 Tryz.sizeOf27 rfl (fun i v hi => st.chg.cell (hc0 i v hi) (by simp))) ?_;refine vc_e (e_al (l := [_, _, _, _, _, _]) st rfl rfl Tryz.zeroValue27 rfl ?_);intro b6 w hb6 st;refine vc_e (ests st 0 [_, _, _, _, _, _] Tryz.sizeOf27 ?_);intro w st; dsimp only [setNth, wr] at st;refine a5 ?_;refine vy (y_fa0 rfl Tryz.underlying27 rfl rfl Tryz.sizeOf23 rfl) ?_;refine yl st 0 Tryz.isAgg23 ?_;refine a3 ?_;refine vif ?_ ?_
        focus
         intro hc91;(try simp only [dn] at hc91);refine a2 ?_;refine yl st 1 Tryz.isAgg3 ?_;refine vy (yin ((d + 1 : Nat) : Int)) ?_;refine a1 ?_;refine vmb ?_ ?_;intro hg95;(try simp only [dn] at hg95);refine yla st 0 [_, _, _, _, _, _] Tryz.isAgg27 Tryz.sizeOf27 ?_;refine yl st 1 Tryz.isAgg3 ?_;refine vy (yin ((d + 2 : Nat) : Int)) ?_;refine vc_e (e_call [_, _] rfl rfl Tryz.call22 rfl (ih (szo x) (by have := mem_size hx; have := szo_kids e; omega) x rfl (d + 2) (by omega) _ _ (hV0.kept st.sm) (hs.kept st.chg)) ?_);rintro _ w ⟨rfl, cw⟩;replace st := st.call0 cw;refine a1 ?_
         rotate_left
         intro hg95;(try simp only [dn] at hg95);refine a5 ?_
         all_goals
          refine a5 ?_
        rotate_left 2
        intro hc91;(try simp only [dn] at hc91);refine a4 ?_;refine yla st 0 [_, _, _, _, _, _] Tryz.isAgg27 Tryz.sizeOf27 ?_;refine yl st 1 Tryz.isAgg3 ?_;refine vy (yin ((d + 1 : Nat) : Int)) ?_;refine vc_e (e_call [_, _] rfl rfl Tryz.call22 rfl (ih (szo x) (by have := mem_size hx; have := szo_kids e; omega) x rfl (d + 1) (by omega) _ _ (hV0.kept st.sm) (hs.kept st.chg)) ?_);rintro _ w ⟨rfl, cw⟩;replace st := st.call0 cw;refine a4 ?_
  rotate_left 8
  focus
   intro hg60;(try simp only [dn] at hg60);refine a5 ?_;refine yfz 4 Tryz.underlying27 Tryz.sizeOf25 ?_;refine yl st 1 Tryz.isAgg25 ?_;refine vy (y_lensl rfl Tryz.underlying25) ?_;refine a2 ?_;refine vmb ?_ ?_;intro hg71;(try simp only [dn] at hg71);refine a16 ?_;refine a7 ?_
   rotate_left
   focus
    intro hg71;(try simp only [dn] at hg71);refine yfz 2 Tryz.underlying27 Tryz.sizeOf2 ?_;refine yl st 1 Tryz.isAgg2 ?_;refine a2 ?_;refine vmb ?_ ?_;intro hg76;(try simp only [dn] at hg76);refine a16 ?_;refine a2 ?_
    rotate_left
    focus
     intro hg76;(try simp only [dn] at hg76);refine yfz 3 Tryz.underlying27 Tryz.sizeOf9 ?_;refine yl st 1 Tryz.isAgg9 ?_;refine a2 ?_;refine vmb ?_ ?_;intro hg81;(try simp only [dn] at hg81);refine a13 ?_
     rotate_left
     focus
      intro hg81;(try simp only [dn] at hg81);refine yl st 0 Tryz.isAgg3 ?_;refine a4 ?_;refine vif ?_ ?_;intro hc84;(try simp only [dn] at hc84);refine a7 ?_
      rotate_left
      focus
       intro hc84;(try simp only [dn] at hc84);obtain ⟨x, hx⟩ := get0 (l := e.kids) (n := e.kids.length) rfl (by omega);obtain ⟨gb, go, rfl, hgS, hgl, hg⟩ := ExRow.at hr (by omega);obtain ⟨o0, c0, hV0, hr0, hc0⟩ := hg 0 x hx;refine a4 ?_;refine yfz 4 Tryz.underlying27 Tryz.sizeOf25 ?_;refine yl st 1 Tryz.isAgg25 ?_;refine vy (y_ia (k := 0) rfl rfl Tryz.underlying25 Tryz.sizeOf27 rfl (by omega)) ?_;refine vy (y_ldca (exL x o0 c0) rfl Tryz.isAgg27 Tryz.sizeOf27 rfl (fun i v hi => st.chg.cell (hc0 i v hi) (by simp))) ?_;refine vc_e (e_al (l := [_, _, _, _, _, _]) st rfl rfl Tryz.zeroValue27 rfl ?_);intro b6 w hb6 st;refine vc_e (ests st 0 [_, _, _, _, _, _] Tryz.sizeOf27 ?_);intro w st; dsimp only [setNth, wr] at st;refine a5 ?_;refine vy (y_fa0 rfl Tryz.underlying27 rfl rfl Tryz.sizeOf23 rfl) ?_;refine yl st 0 Tryz.isAgg23 ?_;refine a3 ?_;refine vif ?_ ?_
       focus
        intro hc91;(try simp only [dn] at hc91);refine a2 ?_;refine yl st 1 Tryz.isAgg3 ?_;refine vy (yin ((d + 1 : Nat) : Int)) ?_;refine a1 ?_;refine vmb ?_ ?_;intro hg95;(try simp only [dn] at hg95);refine yla st 0 [_, _, _, _, _, _] Tryz.isAgg27 Tryz.sizeOf27 ?_;refine yl st 1 Tryz.isAgg3 ?_;refine vy (yin ((d + 2 : Nat) : Int)) ?_;refine vc_e (e_call [_, _] rfl rfl Tryz.call22 rfl (ih (szo x) (by have := mem_size hx; have := szo_kids e; omega) x rfl (d + 2) (by omega) _ _ (hV0.kept st.sm) (hs.kept st.chg)) ?_);rintro _ w ⟨rfl, cw⟩;replace st := st.call0 cw;refine a1 ?_
        rotate_left
        intro hg95;(try simp only [dn] at hg95);refine a5 ?_
        all_goals
         refine a5 ?_
       rotate_left 2
       intro hc91;(try simp only [dn] at hc91);refine a4 ?_;refine yla st 0 [_, _, _, _, _, _] Tryz.isAgg27 Tryz.sizeOf27 ?_;refine yl st 1 Tryz.isAgg3 ?_;refine vy (yin ((d + 1 : Nat) : Int)) ?_;refine vc_e (e_call [_, _] rfl rfl Tryz.call22 rfl (ih (szo x) (by have := mem_size hx; have := szo_kids e; omega) x rfl (d + 1) (by omega) _ _ (hV0.kept st.sm) (hs.kept st.chg)) ?_);rintro _ w ⟨rfl, cw⟩;replace st := st.call0 cw;refine a4 ?_
  all_goals
   refine a2 ?_;refine vr1 st Tryz.results22 ?_;refine ⟨?_, st.chg⟩;show Value.bool _ = Value.bool _;congr 1;clear st;symm
   first
    | exact rightE_3n (e := e) (by assumption) (by first | exact .inl (by omega) | exact .inr (.inr (.inl (by assumption))) | exact .inr (.inr (.inr (by assumption))) | exact .inr (.inl (by simp [oneOp]; omega)))
    | exact rightE_3d (e := e) (by assumption) (by omega)
    | (rw [rightE_3 (e := e) (by assumption) hd (one_form (by omega) hx), op_one.2 (by omega)]; first | rw [if_pos (by assumption)] | rw [if_neg (by assumption)]
       first | (rw [rightE_big (e := x) (by omega)]; simp) | (clear hV hr hs ih hg hc0 hV0 hr0; simp_all))
 intro hc55;(try simp only [dn] at hc55);refine a6 ?_;refine vif ?_ ?_
 ·intro hc105;(try simp only [dn] at hc105);refine a3 ?_;refine yfz 1 Tryz.underlying27 Tryz.sizeOf24 ?_;refine yl st 1 Tryz.isAgg24 ?_;refine vc_e (e_call [_] rfl rfl Tryz.call32 rfl (two_any _ _) ?_);rintro _ _ ⟨rfl, rfl⟩;refine a1 ?_;refine vmb ?_ ?_;intro hg111;(try simp only [dn] at hg111);refine a16 ?_;refine a11 ?_;refine vr1 st Tryz.results22 ?_;refine ⟨?_, st.chg⟩;show Value.bool _ = Value.bool _;congr 1;clear st;symm;exact rightE_4n (e := e) (by assumption) (by exact .inr (.inl (by assumption)));intro hg111;(try simp only [dn] at hg111);refine yfz 4 Tryz.underlying27 Tryz.sizeOf25 ?_;refine yl st 1 Tryz.isAgg25 ?_;refine vy (y_lensl rfl Tryz.underlying25) ?_;refine a2 ?_;refine vmb ?_ ?_;intro hg117;(try simp only [dn] at hg117);refine a16 ?_;refine a5 ?_;refine vr1 st Tryz.results22 ?_;refine ⟨?_, st.chg⟩;show Value.bool _ = Value.bool _;congr 1;clear st;symm;exact rightE_4n (e := e) (by assumption) (by exact .inl (by omega));intro hg117;(try simp only [dn] at hg117);refine yfz 2 Tryz.underlying27 Tryz.sizeOf2 ?_;refine yl st 1 Tryz.isAgg2 ?_;refine a2 ?_;refine vmb ?_ ?_;intro hg122;(try simp only [dn] at hg122);refine a16 ?_;refine vr1 st Tryz.results22 ?_;refine ⟨?_, st.chg⟩;show Value.bool _ = Value.bool _;congr 1;clear st;symm;exact rightE_4n (e := e) (by assumption) (by exact .inr (.inr (.inl (by assumption))));intro hg122;(try simp only [dn] at hg122);refine yfz 3 Tryz.underlying27 Tryz.sizeOf9 ?_;refine yl st 1 Tryz.isAgg9 ?_;refine a4 ?_;refine vif ?_ ?_;intro hc126;(try simp only [dn] at hc126);refine a9 ?_;refine vr1 st Tryz.results22 ?_;refine ⟨?_, st.chg⟩;show Value.bool _ = Value.bool _;congr 1;clear st;symm;exact rightE_4n (e := e) (by assumption) (by exact .inr (.inr (.inr (by assumption))));intro hc126;(try simp only [dn] at hc126);have hk2 : e.kids.length = 2 := by omega
  obtain ⟨x, hx⟩ := get0 hk2 (by omega);obtain ⟨y, hy⟩ := get1 hk2;obtain ⟨gb, go, rfl, hgS, hgl, hg⟩ := ExRow.at hr (by omega);obtain ⟨o0, c0, hV0, hr0, hc0⟩ := hg 0 x hx;obtain ⟨o1, c1, hV1, hr1, hc1⟩ := hg 1 y hy;refine a4 ?_;refine yfz 1 Tryz.underlying27 Tryz.sizeOf24 ?_;refine yl st 1 Tryz.isAgg24 ?_;refine vc_e (e_call [_] rfl rfl Tryz.call38 rfl (level_any _ _ (hs.kept st.chg)) ?_);rintro _ _ ⟨rfl, rfl⟩;refine a4 ?_;refine ddr0 Tryz.mixed (.take 0 (.take 1 (.take 2 (.take 3 (.take 4 (.take 5 (.take 6 (.take 7 (.two 8 9 (.one 9 (.one 10 (.one 11 .done))) (.one 8 (.one 10 (.one 11 .done)))))))))))) st ?_;clear st; intro w st hS;refine dfz hS 4 Tryz.underlying27 Tryz.sizeOf25 ?_;refine dld hS 1 Tryz.isAgg25 ?_;refine vd_take rfl rfl rfl hS (fun w st => y_ia (k := 0) rfl rfl Tryz.underlying25 Tryz.sizeOf27 rfl (by omega)) ?_;refine vd_take rfl rfl rfl hS (fun w st => y_ldca (exL x o0 c0) rfl Tryz.isAgg27 Tryz.sizeOf27 rfl (fun i v hi => st.chg.cell (hc0 i v hi) (by simp))) ?_;refine dfz hS 4 Tryz.underlying27 Tryz.sizeOf25 ?_;refine dld hS 1 Tryz.isAgg25 ?_;refine vd_take rfl rfl rfl hS (fun w st => y_ia (k := 1) rfl rfl Tryz.underlying25 Tryz.sizeOf27 rfl (by omega)) ?_;refine vd_take rfl rfl rfl hS (fun w st => y_ldca (exL y o1 c1) rfl Tryz.isAgg27 Tryz.sizeOf27 rfl (fun i v hi => st.chg.cell (hc1 i v hi) (by simp))) ?_;refine vd_two rfl rfl ?_ ?_;refine (e_al (l := [_, _, _, _, _, _]) st rfl rfl Tryz.zeroValue27 rfl ?_);intro b8 w hb8 st;refine vd_next st.dr ?_; intro hS;refine vd_do rfl (e_al (l := [_, _, _, _, _, _]) st rfl rfl Tryz.zeroValue27 rfl ?_);intro b9 w hb9 st
  rotate_left
  refine (e_al (l := [_, _, _, _, _, _]) st rfl rfl Tryz.zeroValue27 rfl ?_);intro b9 w hb9 st;refine vd_next st.dr ?_; intro hS;refine vd_do rfl (e_al (l := [_, _, _, _, _, _]) st rfl rfl Tryz.zeroValue27 rfl ?_);intro b8 w hb8 st
  all_goals
   refine vd_next st.dr ?_; intro hS
   first
   | refine vd_do rfl (ests st 0 [_, _, _, _, _, _] Tryz.sizeOf27 ?_)
   | refine vd_do rfl (ests st 1 [_, _, _, _, _, _] Tryz.sizeOf27 ?_)
   intro w st; dsimp only [setNth, wr] at st;refine vd_next st.dr ?_; intro hS
   first
   | refine vd_do rfl (ests st 0 [_, _, _, _, _, _] Tryz.sizeOf27 ?_)
   | refine vd_do rfl (ests st 1 [_, _, _, _, _, _] Tryz.sizeOf27 ?_)
   intro w st; dsimp only [setNth, wr] at st;refine vd_next st.dr ?_; intro hS;refine vd_end (vq_then (vc_seq ?_));refine vdr0 Tryz.mixed [Yt 0, Yt 1, Yt 2, Yt 3, Yt 4, Yt 5, Yt 6, Yt 7, Yt 9, Nt 8, Yt 10, Yt 11, Nt 12, Yt 13, Yt 14, Yt 15, Yt 16, Yt 17, Yt 18, Yt 19, Yt 20, Yt 21, Yt 23, Nt 22, Yt 24, Yt 25, Nt 26, Yt 27, Yt 28] st ?_;clear st; intro w st hS;refine pm hS ?_;refine vp_take rfl rfl rfl hS (fun w st => (by first | exact y_lda (vs := [_, _, _, _, _, _]) st 0 rfl Tryz.isAgg27 Tryz.sizeOf27 rfl rfl | exact y_lda (vs := [_, _, _, _, _, _]) st 1 rfl Tryz.isAgg27 Tryz.sizeOf27 rfl rfl)) ?_;refine pf0 hS Tryz.underlying27 Tryz.sizeOf23 ?_;refine vp_take rfl rfl rfl hS (fun w st => (by first | exact y_ld st 0 rfl Tryz.isAgg23 rfl rfl | exact y_ld st 1 rfl Tryz.isAgg23 rfl rfl)) ?_;refine vp_take rfl rfl rfl hS (fun w st => y_eqi rfl rfl) ?_;refine vp_part rfl rfl rfl hS rfl ?_ ?_;intro hg143;(try simp only [dn] at hg143);refine pfz hS 1 Tryz.underlying27 Tryz.sizeOf24 ?_;refine vp_take rfl rfl rfl hS (fun w st => (by first | exact y_ld st 0 rfl Tryz.isAgg24 rfl rfl | exact y_ld st 1 rfl Tryz.isAgg24 rfl rfl)) ?_;refine pm hS ?_;refine vp_do rfl (e_call [_] rfl rfl Tryz.call38 rfl (level_any _ _ (hs.kept st.chg)) ?_);rintro _ _ ⟨rfl, rfl⟩;refine vp_next (by exact st) ?_; intro hS;refine vp_take rfl rfl rfl hS (fun w st => y_lss rfl rfl) ?_;refine vp_take rfl rfl rfl hS (fun w st => y_pickt rfl rfl) ?_
   rotate_left
   intro hg143;(try simp only [dn] at hg143);(iterate 3 refine vp_skip rfl rfl rfl hS ?_);refine vp_do rfl (e_skip rfl rfl (vp_next hS (fun hS => ?_)));refine vp_skip rfl rfl rfl hS ?_;refine vp_take rfl rfl rfl hS (fun w st => y_pickf rfl rfl) ?_
   all_goals
    refine vp_do rfl (e_callv [_, _] rfl rfl rfl Tryz.call42 rfl (kidx_any _ (fun d hd l w hV hs => ih (szo x) (by have := mem_size hx; have := szo_kids e; omega) x rfl d hd l w hV hs) d hd _ _ _ _ (hV0.kept st.sm) (hs.kept st.chg) _ (by exact cell_nth (st.res (i := 2) rfl) rfl)) ?_);rintro _ w ⟨rfl, cw⟩;replace st := st.call0 cw;refine vp_next (by exact st) ?_; intro hS;refine vp_part rfl rfl rfl hS rfl ?_ ?_
    focus
     intro hg151;(try simp only [dn] at hg151);refine pm hS ?_;refine vp_take rfl rfl rfl hS (fun w st => (by first | exact y_lda (vs := [_, _, _, _, _, _]) st 0 rfl Tryz.isAgg27 Tryz.sizeOf27 rfl rfl | exact y_lda (vs := [_, _, _, _, _, _]) st 1 rfl Tryz.isAgg27 Tryz.sizeOf27 rfl rfl)) ?_;refine pf0 hS Tryz.underlying27 Tryz.sizeOf23 ?_;refine vp_take rfl rfl rfl hS (fun w st => (by first | exact y_ld st 0 rfl Tryz.isAgg23 rfl rfl | exact y_ld st 1 rfl Tryz.isAgg23 rfl rfl)) ?_;refine vp_take rfl rfl rfl hS (fun w st => y_eqi rfl rfl) ?_;refine vp_part rfl rfl rfl hS rfl ?_ ?_;intro hg157;(try simp only [dn] at hg157);refine pfz hS 1 Tryz.underlying27 Tryz.sizeOf24 ?_;refine vp_take rfl rfl rfl hS (fun w st => (by first | exact y_ld st 0 rfl Tryz.isAgg24 rfl rfl | exact y_ld st 1 rfl Tryz.isAgg24 rfl rfl)) ?_;refine pm hS ?_;refine vp_do rfl (e_call [_] rfl rfl Tryz.call38 rfl (level_any _ _ (hs.kept st.chg)) ?_);rintro _ _ ⟨rfl, rfl⟩;refine vp_next (by exact st) ?_; intro hS;refine vp_take rfl rfl rfl hS (fun w st => y_leq rfl rfl) ?_;refine vp_take rfl rfl rfl hS (fun w st => y_pickt rfl rfl) ?_
     rotate_left
     intro hg157;(try simp only [dn] at hg157);(iterate 3 refine vp_skip rfl rfl rfl hS ?_);refine vp_do rfl (e_skip rfl rfl (vp_next hS (fun hS => ?_)));refine vp_skip rfl rfl rfl hS ?_;refine vp_take rfl rfl rfl hS (fun w st => y_pickf rfl rfl) ?_
     all_goals
      refine vp_do rfl (e_callv [_, _] rfl rfl rfl Tryz.call42 rfl (kidx_any _ (fun d hd l w hV hs => ih (szo y) (by have := mem_size hy; have := szo_kids e; omega) y rfl d hd l w hV hs) d hd _ _ _ _ (hV1.kept st.sm) (hs.kept st.chg) _ (by exact cell_nth (st.res (i := 2) rfl) rfl)) ?_);rintro _ w ⟨rfl, cw⟩;replace st := st.call0 cw;refine vp_next (by exact st) ?_; intro hS;refine vp_take rfl rfl rfl hS (fun w st => y_pickt rfl rfl) ?_
    rotate_left 2
    intro hg151;(try simp only [dn] at hg151);(iterate 9 refine vp_skip rfl rfl rfl hS ?_);refine vp_do rfl (e_skip rfl rfl (vp_next hS (fun hS => ?_)));(iterate 2 refine vp_skip rfl rfl rfl hS ?_);refine vp_do rfl (e_skip rfl rfl (vp_next hS (fun hS => ?_)));refine vp_take rfl rfl rfl hS (fun w st => y_pickf rfl rfl) ?_
    all_goals
     refine vp_take rfl rfl rfl hS (fun w st => y_as rfl) ?_;refine vp_end (vq_then (vc_ret (vq_block_ret (vq_then_ret ?_))));refine vr1 st Tryz.results22 ?_;refine ⟨?_, st.chg⟩;show Value.bool _ = Value.bool _;congr 1;clear st;symm
     first
      | (rw [rightE_4 (e := e) (by assumption) hd (two_form hk2 hx hy)]
         clear hV hr hs ih hg hc0 hc1 hV0 hV1 hr0 hr1
         first | rw [inn_f (x := x) (by assumption)] | rw [inn_n (x := x) (by assumption)]
         first | rw [inn_t (x := y) (by assumption)] | rw [inn_n (x := y) (by assumption)] | skip
         simp_all)
 intro hc105;(try simp only [dn] at hc105);refine a9 ?_;refine vr1 st Tryz.results22 ?_;refine ⟨?_, st.chg⟩;show Value.bool _ = Value.bool _;congr 1;clear st;symm;exact rightE_0 (e := e) (by assumption) (by assumption) (by assumption) (by assumption)
end
end Go.Proofs.YtjoepkpdanolkaaGreatDoor


namespace Go.Proofs.YtjoepkpdanolkaaGreatDoor
open Go.RowKit Sx LexS ParS _root_.Go.Proofs.Tryz
theorem rk_1 {e : Ex} (h : e.k = 1) : rkX e = (e.wd, true) := by
 cases e with | mk k op wd nm kids a => (have h' : k = 1 := h); subst h'; exact rkX_1 op wd nm kids a
theorem rk_3 {e x : Ex} (h : e.k = 3) (hk : e.kids = [x]) : rkX e = (oneW e.op (rkX x).1, (rkX x).2) := by
 cases e with | mk k op wd nm kids a => (have h' : k = 3 := h); (have h2 : kids = [x] := hk); subst h'; subst h2; exact rkX_3 op wd nm x a
theorem rk_4 {e x y : Ex} (h : e.k = 4) (hk : e.kids = [x, y]) : rkX e = (doW e.op (rkX x).1 (rkX y).1, (rkX x).2 && (rkX y).2) := by
 cases e with | mk k op wd nm kids a => (have h' : k = 4 := h); (have h2 : kids = [x, y] := hk); subst h'; subst h2; exact rkX_4 op wd nm x y a
theorem rk_0 {e : Ex} (h1 : e.k ≠ 1) (h3 : e.k ≠ 3) (h4 : e.k ≠ 4) : rkX e = (0, false) := by
 cases e with | mk k op wd nm kids a => exact rkX_0 h1 h3 h4
section
variable {S : Nat → Prop}

set_option maxHeartbeats 1000000 in
theorem reckoned_any : ∀ (n : Nat) (e : Ex), szo e = n → ∀ (d : Nat), rightE e d = true → ∀ (l : List Value) (w : World), ExV w S e l → Ret Tryz.prog 6 [.agg l.toArray] w fun v w' => v = .tuple [.int .i64 (rkX e).1, .bool (rkX e).2].toArray ∧ Chg [] w w' := by
 intro n
 refine Nat.strongRecOn n fun n ih => ?_
 intro e hn d hd l w hV
 subst hn
 obtain ⟨oa, cap, rfl, hr⟩ := ExV.inv hV
 obtain ⟨-, hd⟩ := rightE_iff.1 hd
 refine ret_of [_] func6 rfl ntmps6 rfl ?_
 have st := St.init w []
 refine sr ?_
 refine vc_e (e_bx (l := [_, _, _, _, _, _]) st rfl rfl rfl rfl ?_)
 intro b1 w hb1 st
 iterate 2 refine ya ?_
 refine et (vk1 1 (vc_seq (sr ?_)))
 refine vy (y_fa0 rfl underlying27 rfl rfl sizeOf23 rfl) ?_
 refine vy ((by exact y_ld st 0 rfl isAgg23 rfl rfl)) ?_
 refine et (vk2 1 15 (vc_block (sr ?_)))
 refine vy (y_eqi rfl rfl) ?_
 refine ya ?_
 refine et (vk3 1 15 16 ?_)
 refine vif ?_ ?_
 ·intro hc16
  try simp only [dn] at hc16
  refine sr ?_
  refine vy ((by exact y_faz (k := 2) rfl underlying27 rfl rfl sizeOf2 rfl)) ?_
  refine vy ((by exact y_ld st 0 rfl isAgg2 rfl rfl)) ?_
  iterate 2 refine ya ?_
  refine et (vk2 2 3 (vc_ret (vq_block_ret (vq_then_ret ?_))))
  refine vq_ret2 st (.inl rfl) results6 (.tmp rfl) (.tmp rfl) ?_
  refine ⟨_, rfl, ?_⟩
  refine ⟨?_, st.chg⟩
  rw [rk_1 hc16]
 intro hc16
 try simp only [dn] at hc16
 refine sr ?_
 refine vy (y_eqi rfl rfl) ?_
 refine ya ?_
 refine et (vk3 1 15 20 ?_)
 refine vif ?_ ?_
 ·intro hc20
  try simp only [dn] at hc20
  obtain ⟨h3, hop, hwd, hnm, x, hk, hx0⟩ : e.k = 3 ∧ oneOp e.op = true ∧ e.wd = 0 ∧ e.nm = [] ∧ ∃ x, e.kids = [x] ∧ rightE x (if x.k = 4 then d + 2 else d + 1) = true := by rcases hd with h | h | h | h <;> first | (exfalso; omega) | exact h
  have hx : e.kids[0]? = some x := by rw [hk]; rfl
  obtain ⟨gb, go, rfl, hgS, hgl, hg⟩ := ExRow.at hr (by rw [hk]; simp)
  obtain ⟨o0, c0, hV0, hr0, hc0⟩ := hg 0 x hx
  have hl1 : e.kids.length = 1 := by rw [hk]; rfl
  obtain ⟨m, hm⟩ : ∃ m : Nat, e.op = (m : Int) := ⟨e.op.toNat, by simp only [oneOp, decide_eq_true_eq] at hop; omega⟩
  have hm2 : m = 17 ∨ m = 18 := by simp only [oneOp, decide_eq_true_eq] at hop; omega
  refine sr ?_
  refine vy ((by exact y_faz (k := 4) rfl underlying27 rfl rfl sizeOf25 rfl)) ?_
  refine vy ((by exact y_ld st 0 rfl isAgg25 rfl rfl)) ?_
  refine vy ((by exact y_ia (k := 0) rfl rfl underlying25 sizeOf27 rfl (by omega))) ?_
  refine vy ((by exact y_ldca (exL x o0 c0) rfl isAgg27 sizeOf27 rfl (fun i v hi => st.chg.cell (hc0 i v hi) (by simp)))) ?_
  refine vc_e (e_call [_] rfl rfl call6 rfl (ih (szo x) (by have := mem_size hx; have := szo_kids e; omega) x rfl _ hx0 _ _ (hV0.kept st.sm)) ?_)
  rintro _ w ⟨rfl, cw⟩
  replace st := st.call0 cw
  refine ym ?_
  iterate 2 refine vy (y_ext rfl rfl) ?_
  iterate 2 refine ya ?_
  refine et (vk3 1 4 5 (sr ?_))
  refine vy ((by exact y_faz (k := 1) rfl underlying27 rfl rfl sizeOf24 rfl)) ?_
  refine vy ((by exact y_ld st 0 rfl isAgg24 rfl rfl)) ?_
  refine ym ?_
  refine vc_e (e_call [_, _] rfl rfl call21 rfl (by rw [hm]; exact one_any m hm2 _ _) ?_)
  rintro _ w ⟨rfl, cw⟩
  replace st := st.call0 cw
  refine ym ?_
  iterate 2 refine vy (y_ext rfl rfl) ?_
  iterate 2 refine ya ?_
  refine et (vk2 5 6 (sr ?_))
  iterate 2 refine ym ?_
  iterate 2 refine ya ?_
  refine et (vk2 2 3 (vc_ret (vq_block_ret (vq_then_ret ?_))))
  refine vq_ret2 st (.inl rfl) results6 (.tmp rfl) (.tmp rfl) ?_
  refine ⟨_, rfl, ?_⟩
  refine ⟨?_, st.chg⟩
  rw [rk_3 h3 hk, hm]; rfl
 intro hc20
 try simp only [dn] at hc20
 refine sr ?_
 refine vy (y_eqi rfl rfl) ?_
 refine ya ?_
 refine et (vk2 1 39 ?_)
 refine vif ?_ ?_
 ·intro hc39
  try simp only [dn] at hc39
  obtain ⟨h4, hop, hwd, hnm, x, y, hk, hx0, hy0⟩ : e.k = 4 ∧ twoOp e.op = true ∧ e.wd = 0 ∧ e.nm = [] ∧ ∃ x y, e.kids = [x, y] ∧ rightE x (if inn e.op x false = true then d + 1 else d) = true ∧ rightE y (if inn e.op y true = true then d + 1 else d) = true := by rcases hd with h | h | h | h <;> first | (exfalso; omega) | exact h
  have hx : e.kids[0]? = some x := by rw [hk]; rfl
  have hy : e.kids[1]? = some y := by rw [hk]; rfl
  obtain ⟨gb, go, rfl, hgS, hgl, hg⟩ := ExRow.at hr (by rw [hk]; simp)
  obtain ⟨o0, c0, hV0, hr0, hc0⟩ := hg 0 x hx
  obtain ⟨o1, c1, hV1, hr1, hc1⟩ := hg 1 y hy
  have hl2 : e.kids.length = 2 := by rw [hk]; rfl
  obtain ⟨m, hm⟩ : ∃ m : Nat, e.op = (m : Int) := ⟨e.op.toNat, by simp only [twoOp, decide_eq_true_eq] at hop; omega⟩
  have hm2 : 1 ≤ m ∧ m ≤ 16 := by simp only [twoOp, decide_eq_true_eq] at hop; omega
  refine sr ?_
  refine vy ((by exact y_faz (k := 4) rfl underlying27 rfl rfl sizeOf25 rfl)) ?_
  refine vy ((by exact y_ld st 0 rfl isAgg25 rfl rfl)) ?_
  refine vy ((by exact y_ia (k := 0) rfl rfl underlying25 sizeOf27 rfl (by omega))) ?_
  refine vy ((by exact y_ldca (exL x o0 c0) rfl isAgg27 sizeOf27 rfl (fun i v hi => st.chg.cell (hc0 i v hi) (by simp)))) ?_
  refine vc_e (e_call [_] rfl rfl call6 rfl (ih (szo x) (by have := mem_size hx; have := szo_kids e; omega) x rfl _ hx0 _ _ (hV0.kept st.sm)) ?_)
  rintro _ w ⟨rfl, cw⟩
  replace st := st.call0 cw
  refine ym ?_
  iterate 2 refine vy (y_ext rfl rfl) ?_
  iterate 2 refine ya ?_
  refine et (vk3 1 8 9 (sr ?_))
  refine vy ((by exact y_faz (k := 4) rfl underlying27 rfl rfl sizeOf25 rfl)) ?_
  refine vy ((by exact y_ld st 0 rfl isAgg25 rfl rfl)) ?_
  refine vy ((by exact y_ia (k := 1) rfl rfl underlying25 sizeOf27 rfl (by omega))) ?_
  refine vy ((by exact y_ldca (exL y o1 c1) rfl isAgg27 sizeOf27 rfl (fun i v hi => st.chg.cell (hc1 i v hi) (by simp)))) ?_
  refine vc_e (e_call [_] rfl rfl call6 rfl (ih (szo y) (by have := mem_size hy; have := szo_kids e; omega) y rfl _ hy0 _ _ (hV1.kept st.sm)) ?_)
  rintro _ w ⟨rfl, cw⟩
  replace st := st.call0 cw
  refine ym ?_
  iterate 2 refine vy (y_ext rfl rfl) ?_
  iterate 2 refine ya ?_
  refine et (vk5 1 8 9 10 11 (sr ?_))
  refine vy ((by exact y_faz (k := 1) rfl underlying27 rfl rfl sizeOf24 rfl)) ?_
  refine vy ((by exact y_ld st 0 rfl isAgg24 rfl rfl)) ?_
  iterate 2 refine ym ?_
  refine vc_e (e_call [_, _, _] rfl rfl call14 rfl (by rw [hm]; exact do_any m hm2 _ _ _) ?_)
  rintro _ w ⟨rfl, cw⟩
  replace st := st.call0 cw
  refine ym ?_
  iterate 2 refine vy (y_ext rfl rfl) ?_
  iterate 2 refine ya ?_
  refine et (vk3 9 11 12 (sr ?_))
  iterate 2 refine ym ?_
  refine vmb ?_ ?_
  intro hg67
  try simp only [dn] at hg67
  refine ym ?_
  refine ypt ?_
  rotate_left
  intro hg67
  try simp only [dn] at hg67
  refine vsk ?_
  refine ypf ?_
  all_goals
   iterate 2 refine ya ?_
   refine et (vk2 2 3 (vc_ret (vq_block_ret (vq_then_ret ?_))))
   refine vq_ret2 st (.inl rfl) results6 (.tmp rfl) (.tmp rfl) ?_
   refine ⟨_, rfl, ?_⟩
   refine ⟨?_, st.chg⟩
   rw [rk_4 h4 hk, hm]; simp_all [doW]
 intro hc39
 try simp only [dn] at hc39
 refine vc_code_skip (vq_block (vq_then (vc_keep [] trivial (sr ?_))))
 iterate 2 refine ya ?_
 refine et (vk2 2 3 (vc_ret ?_))
 refine vq_ret2 st (.inl rfl) results6 (.tmp rfl) (.tmp rfl) ?_
 refine ⟨_, rfl, ?_⟩
 refine ⟨?_, st.chg⟩
 rw [rk_0 (by omega) (by omega) (by omega)]
end
end Go.Proofs.YtjoepkpdanolkaaGreatDoor


namespace Go.Proofs.YtjoepkpdanolkaaGreatDoor
open Go.RowKit Sx LexS ParS _root_.Go.Proofs.Tryz
/-- a rule is broken -/
def BrkM (M : List Nat) (w : World) (v : Value) (w' : World) : Prop := (∃ p r : Int, v = .iface 191 (.agg #[.int .i64 p, .int .i64 r])) ∧ Chg M w w'
abbrev Brk := BrkM []
section
variable {S : Nat → Prop}

theorem when_any (r : Int) (b : Bool) (w : World) : Ret Tryz.prog 125 [.int .i64 r, .bool b] w fun v w' => v = .int .i64 (if b = true then r else 0) ∧ w' = w := by
 refine ret_of [_, _] func125 rfl ntmps125 rfl ?_
 have st := St.init w []
 refine sr ?_
 refine ya ?_
 refine et (vk2 0 1 (vc_seq (sr ?_)))
 refine ym ?_
 refine et (vk2 0 5 ?_)
 refine vif ?_ ?_
 ·intro hc5
  try simp only [dn] at hc5
  refine sr ?_
  refine ym ?_
  refine ya ?_
  refine et (vk1 4 (vc_ret (vq_then_ret ?_)))
  refine vr1 st results125 ?_
  refine ⟨?_, rfl⟩
  rw [if_pos hc5]
 intro hc5
 try simp only [dn] at hc5
 refine kt (vc_keep [] trivial (sr ?_))
 refine ya ?_
 refine et (vk1 4 (vc_ret ?_))
 refine vr1 st results125 ?_
 refine ⟨?_, rfl⟩
 rw [if_neg (by rw [hc5]; simp)]
theorem kid_num {e x : Ex} {d j : Nat} (h : rightE e d = true) (hk : (rkX e).2 = true) (hx : e.kids[j]? = some x) : (∃ d0, rightE x d0 = true) ∧ (rkX x).2 = true := by
 rcases num_form h hk with ⟨-, -, -, -, h5⟩ | ⟨y, d', -, -, -, -, h5, hy, hky⟩ | ⟨y, z, d', d2, -, -, -, -, h5, hy, hz, hky, hkz⟩
 ·rw [h5] at hx; simp at hx
 ·rw [h5] at hx
  match j, hx with
  | 0, hx => simp at hx; subst hx; exact ⟨⟨_, hy⟩, hky⟩
  | j + 1, hx => simp at hx
 ·rw [h5] at hx
  match j, hx with
  | 0, hx => simp at hx; subst hx; exact ⟨⟨_, hy⟩, hky⟩
  | 1, hx => simp at hx; subst hx; exact ⟨⟨_, hz⟩, hkz⟩
  | j + 2, hx => simp at hx
theorem num_kids {e : Ex} {d : Nat} (h : rightE e d = true) (hk : (rkX e).2 = true) : e.kids.length ≤ 2 := by
 rcases num_form h hk with ⟨-, -, -, -, h5⟩ | ⟨y, d', -, -, -, -, h5, -⟩ | ⟨y, z, d', d2, -, -, -, -, h5, -⟩ <;> rw [h5] <;> simp
theorem nth_num {l : List Int} {j : Nat} (h : j < l.length) : nth (l.map iV) (j * 1) = some (iV (l[j])) := by rw [nth_eq, Nat.mul_one, List.getElem?_map, List.getElem?_eq_getElem h]; rfl

theorem breaks_any (at_ : Int) (l : List Int) (b c E : Nat) (fz : Nat × Nat) (w : World) (hb : w.heap[b]? = some (.cells (l.map iV).toArray E fz)) (hlen : l.length ≤ 100) : RetP Tryz.prog 124 [.int .i64 at_, .slice (some ⟨b, 0, none⟩) l.length c] w (fun v w' => Chg [] w w') (Brk w) := by
 refine retp_of [_, _] func124 rfl ntmps124 rfl ?_
 have st := St.init w []
 obtain ⟨w0, rfl⟩ : ∃ w0, w0 = w := ⟨_, rfl⟩
 replace st := St.of1 [] hb
 refine sr ?_
 refine ya ?_
 refine et (vk3 0 1 4 (vc_seq (sr ?_)))
 refine ym ?_
 refine vy (y_lensl rfl underlying88) ?_
 refine ym ?_
 refine et (vk5 0 4 7 8 9 (vc_block ?_))
 refine vc_loop (w0 := w0) (M := []) (fun (x : Nat × Int) => [(0, .int .i64 at_), (4, .int .i64 x.2), (7, .slice (some ⟨b, 0, none⟩) l.length c), (8, .int .i64 (l.length : Int)), (9, .int .i64 (x.1 : Int))]) (fun _ => [.blk b (.cells (l.map iV).toArray E fz)]) (fun x w' => x.1 ≤ l.length) (fun x => l.length - x.1) (0, 0) ⟨rfl, rfl, rfl, rfl, rfl, trivial⟩ st (by simp) ?_
 clear st
 rintro ⟨j, t⟩ w hj st
 dsimp only at hj ⊢
 refine sr ?_
 refine vy (y_lss rfl rfl) ?_
 refine et (vk6 0 4 7 8 9 10 (vc_seq ?_))
 refine vif ?_ ?_
 ·intro hc10
  try simp only [dn] at hc10
  refine kt (vk5 0 4 7 8 9 (vc_seq (vc_block (sr ?_))))
  refine vy ((by exact y_ia0 (k := j) rfl rfl underlying88 sizeOf3 rfl (by omega))) ?_
  refine vy ((by exact y_ld st 0 rfl isAgg3 rfl (nth_num (by omega)))) ?_
  refine ya ?_
  refine et (vk6 0 4 6 7 8 9 (sr ?_))
  refine ym ?_
  refine vy (y_gtr rfl rfl) ?_
  refine vmb ?_ ?_
  focus
   intro hg15
   try simp only [dn] at hg15
   refine ym ?_
   refine vy (y_eqi rfl rfl) ?_
   refine vmb ?_ ?_
   intro hg18
   try simp only [dn] at hg18
   iterate 3 refine vsk ?_
   iterate 2 refine ypt ?_
   refine et (vk7 0 4 6 7 8 9 23 ?_)
   refine vc_ift rfl ?_
   refine vc_region ?_
   refine ym ?_
   refine ya ?_
   refine vc_end ?_
   rotate_left
   focus
    intro hg18
    try simp only [dn] at hg18
    iterate 2 refine ym ?_
    refine vy (y_lss rfl rfl) ?_
    refine ypf ?_
    refine ypt ?_
    refine et (vk7 0 4 6 7 8 9 23 ?_)
    refine vif ?_ ?_
    intro hc23
    try simp only [dn] at hc23
    refine vc_region ?_
    refine ym ?_
    refine ya ?_
    refine vc_end ?_
    rotate_left
    intro hc23
    try simp only [dn] at hc23
    refine vc_code_skip ?_
  rotate_left 3
  intro hg15
  try simp only [dn] at hg15
  iterate 7 refine vsk ?_
  refine ypf ?_
  refine et (vk7 0 4 6 7 8 9 23 ?_)
  refine vc_iff rfl ?_
  refine vc_code_skip ?_
  all_goals
   refine vq_block (vq_then (vk5 0 4 7 8 9 (vc_region ?_)))
   refine vy (y_add rfl rfl (by omega : _ = ((j + 1 : Nat) : Int)) (by omega) (by omega)) ?_
   refine ym ?_
   refine vc_end ?_
   refine vq_again (j + 1, _)  ⟨rfl, rfl, rfl, rfl, rfl, trivial⟩ st ?_ ?_
   ·exact (by dsimp only; omega)
   ·dsimp only; omega
 intro hc10
 try simp only [dn] at hc10
 refine vc_exit (vq_then_exit (vq_then_exit (vq_block_exit (vq_then (vk2 0 4 (sr ?_))))))
 refine ym ?_
 refine vy (y_gtr rfl rfl) ?_
 refine et (vk3 0 4 27 ?_)
 refine vif ?_ ?_
 ·intro hc27
  try simp only [dn] at hc27
  refine vc_region ?_
  iterate 2 refine ym ?_
  refine vy (ybd (.agg #[_, _]) [(0, _), (1, _)]) ?_
  refine vy (ybd (.agg #[_, _]) [(0, _)]) ?_
  refine vy (y_mki rfl underlying191) ?_
  refine vc_e (e_panicI rfl rfl (by intro a ha; exact And.intro ha (Or.inr ⟨_, rfl, ⟨_, _, rfl⟩, st.chg⟩)))
 intro hc27
 try simp only [dn] at hc27
 refine vc_code_skip ?_
 refine vq_ret0 (.inr rfl) results124 ?_
 refine .inl ⟨_, rfl, ?_⟩
 exact st.chg
theorem breaks_ok (at_ : Int) (l : List Int) (h0 : ∀ x ∈ l, x = 0) (b c E : Nat) (fz : Nat × Nat) (w : World) (hb : w.heap[b]? = some (.cells (l.map iV).toArray E fz)) (hlen : l.length ≤ 100) : Ret Tryz.prog 124 [.int .i64 at_, .slice (some ⟨b, 0, none⟩) l.length c] w (fun v w' => Chg [] w w') := by
 refine ret_of [_, _] func124 rfl ntmps124 rfl ?_
 have st := St.init w []
 obtain ⟨w0, rfl⟩ : ∃ w0, w0 = w := ⟨_, rfl⟩
 replace st := St.of1 [] hb
 refine sr ?_
 refine ya ?_
 refine et (vk3 0 1 4 (vc_seq (sr ?_)))
 refine ym ?_
 refine vy (y_lensl rfl underlying88) ?_
 refine ym ?_
 refine et (vk5 0 4 7 8 9 (vc_block ?_))
 refine vc_loop (w0 := w0) (M := []) (fun (x : Nat × Int) => [(0, .int .i64 at_), (4, .int .i64 x.2), (7, .slice (some ⟨b, 0, none⟩) l.length c), (8, .int .i64 (l.length : Int)), (9, .int .i64 (x.1 : Int))]) (fun _ => [.blk b (.cells (l.map iV).toArray E fz)]) (fun x w' => x.1 ≤ l.length ∧ x.2 = 0) (fun x => l.length - x.1) (0, 0) ⟨rfl, rfl, rfl, rfl, rfl, trivial⟩ st ⟨by simp, rfl⟩ ?_
 clear st
 rintro ⟨j, t⟩ w ⟨hj, ht⟩ st
 dsimp only at hj ht ⊢
 subst ht
 refine sr ?_
 refine vy (y_lss rfl rfl) ?_
 refine et (vk6 0 4 7 8 9 10 (vc_seq ?_))
 refine vif ?_ ?_
 ·intro hc10
  try simp only [dn] at hc10
  have hz := h0 _ (List.getElem_mem (by omega : j < l.length))
  refine kt (vk5 0 4 7 8 9 (vc_seq (vc_block (sr ?_))))
  refine vy ((by exact y_ia0 (k := j) rfl rfl underlying88 sizeOf3 rfl (by omega))) ?_
  refine vy ((by exact y_ld st 0 rfl isAgg3 rfl (nth_num (by omega)))) ?_
  refine ya ?_
  refine et (vk6 0 4 6 7 8 9 (sr ?_))
  refine ym ?_
  refine vy (y_gtr rfl rfl) ?_
  refine vmb ?_ ?_
  ·intro hg15
   exfalso; simp only [decide_eq_true_eq] at hg15; omega
  intro hg15
  try simp only [dn] at hg15
  iterate 7 refine vsk ?_
  refine ypf ?_
  refine et (vk7 0 4 6 7 8 9 23 ?_)
  refine vc_iff rfl ?_
  refine vc_code_skip (vq_block (vq_then (vk5 0 4 7 8 9 (vc_region ?_))))
  refine vy (y_add rfl rfl (by omega : _ = ((j + 1 : Nat) : Int)) (by omega) (by omega)) ?_
  refine ym ?_
  refine vc_end ?_
  refine vq_again (j + 1, 0)  ⟨rfl, rfl, rfl, rfl, rfl, trivial⟩ st ?_ ?_
  ·exact ⟨by dsimp only; omega, rfl⟩
  dsimp only; omega
 intro hc10
 try simp only [dn] at hc10
 refine vc_exit (vq_then_exit (vq_then_exit (vq_block_exit (vq_then (vk2 0 4 (sr ?_))))))
 refine ym ?_
 refine vy (y_gtr rfl rfl) ?_
 refine et (vk3 0 4 27 ?_)
 refine vif ?_ ?_
 ·intro hc27
  exfalso; simp_all
 intro hc27
 try simp only [dn] at hc27
 refine vc_code_skip ?_
 refine vq_ret0 (.inr rfl) results124 ?_
 refine ⟨_, rfl, ?_⟩
 exact st.chg
theorem fits_any (e : Ex) (oa : Option Addr) (cap : Nat) (w : World) : Ret Tryz.prog 167 [.agg (exL e oa cap).toArray] w fun v w' => (∃ b, v = .bool b) ∧ Chg [] w w' := by
 refine ret_of [_] func167 rfl ntmps167 rfl ?_
 have st := St.init w []
 refine sr ?_
 refine vc_e (e_bx (l := [_, _, _, _, _, _]) st rfl rfl rfl rfl ?_)
 intro b1 w hb1 st
 refine ya ?_
 refine et (vk1 1 (vc_seq (sr ?_)))
 refine vy (y_fa0 rfl underlying27 rfl rfl sizeOf23 rfl) ?_
 refine vy ((by exact y_ld st 0 rfl isAgg23 rfl rfl)) ?_
 refine et (vk2 1 4 (vc_block (sr ?_)))
 refine vy (y_eqi rfl rfl) ?_
 refine ya ?_
 refine et (vk3 1 4 5 ?_)
 refine vif ?_ ?_
 focus
  intro hc5
  try simp only [dn] at hc5
  refine sr ?_
  refine vy ((by exact y_faz (k := 2) rfl underlying27 rfl rfl sizeOf2 rfl)) ?_
  refine vy ((by exact y_ld st 0 rfl isAgg2 rfl rfl)) ?_
  refine vy (y_geq rfl rfl) ?_
  refine vmb ?_ ?_
  focus
   intro hg10
   try simp only [dn] at hg10
   refine vy ((by exact y_faz (k := 1) rfl underlying27 rfl rfl sizeOf24 rfl)) ?_
   refine vy ((by exact y_ld st 0 rfl isAgg24 rfl rfl)) ?_
   refine vy (y_eqi rfl rfl) ?_
   refine ypt ?_
   refine vmb ?_ ?_
   focus
    intro hg15
    try simp only [dn] at hg15
    refine vy ((by exact y_faz (k := 3) rfl underlying27 rfl rfl sizeOf9 rfl)) ?_
    refine vy ((by exact y_ld st 0 rfl isAgg9 rfl rfl)) ?_
    refine vy (y_eqs rfl rfl) ?_
    refine ypt ?_
    refine vmb ?_ ?_
    intro hg20
    try simp only [dn] at hg20
    refine vy ((by exact y_faz (k := 4) rfl underlying27 rfl rfl sizeOf25 rfl)) ?_
    refine vy ((by exact y_ld st 0 rfl isAgg25 rfl rfl)) ?_
    refine vy (y_lensl rfl underlying25) ?_
    refine vy (y_eqi rfl rfl) ?_
    refine ypt ?_
    rotate_left
    intro hg20
    try simp only [dn] at hg20
    iterate 4 refine vsk ?_
    refine ypf ?_
   rotate_left 2
   intro hg15
   try simp only [dn] at hg15
   iterate 3 refine vsk ?_
   refine ypf ?_
   refine ym ?_
   iterate 4 refine vsk ?_
   refine ypf ?_
  rotate_left 3
  intro hg10
  try simp only [dn] at hg10
  iterate 3 refine vsk ?_
  refine ypf ?_
  refine ym ?_
  iterate 3 refine vsk ?_
  refine ypf ?_
  refine ym ?_
  iterate 4 refine vsk ?_
  refine ypf ?_
  all_goals
   refine ya ?_
   refine et (vk1 2 (vc_ret (vq_block_ret (vq_then_ret ?_))))
 rotate_left 4
 focus
  intro hc5
  try simp only [dn] at hc5
  refine sr ?_
  refine vy (y_eqi rfl rfl) ?_
  refine ya ?_
  refine et (vk3 1 4 26 ?_)
  refine vif ?_ ?_
  focus
   intro hc26
   try simp only [dn] at hc26
   refine sr ?_
   refine vy ((by exact y_faz (k := 2) rfl underlying27 rfl rfl sizeOf2 rfl)) ?_
   refine vy ((by exact y_ld st 0 rfl isAgg2 rfl rfl)) ?_
   refine vy (y_eqi rfl rfl) ?_
   refine vmb ?_ ?_
   focus
    intro hg31
    try simp only [dn] at hg31
    refine vy ((by exact y_faz (k := 1) rfl underlying27 rfl rfl sizeOf24 rfl)) ?_
    refine vy ((by exact y_ld st 0 rfl isAgg24 rfl rfl)) ?_
    refine vy (y_eqi rfl rfl) ?_
    refine ypt ?_
    refine vmb ?_ ?_
    intro hg36
    try simp only [dn] at hg36
    refine vy ((by exact y_faz (k := 4) rfl underlying27 rfl rfl sizeOf25 rfl)) ?_
    refine vy ((by exact y_ld st 0 rfl isAgg25 rfl rfl)) ?_
    refine vy (y_lensl rfl underlying25) ?_
    refine vy (y_eqi rfl rfl) ?_
    refine ypt ?_
    rotate_left
    intro hg36
    try simp only [dn] at hg36
    iterate 4 refine vsk ?_
    refine ypf ?_
   rotate_left 2
   intro hg31
   try simp only [dn] at hg31
   iterate 3 refine vsk ?_
   refine ypf ?_
   refine ym ?_
   iterate 4 refine vsk ?_
   refine ypf ?_
   all_goals
    refine ya ?_
    refine et (vk1 2 (vc_ret (vq_block_ret (vq_then_ret ?_))))
  rotate_left 3
  focus
   intro hc26
   try simp only [dn] at hc26
   refine sr ?_
   refine vy (y_eqi rfl rfl) ?_
   refine ya ?_
   refine et (vk3 1 4 42 ?_)
   refine vif ?_ ?_
   focus
    intro hc42
    try simp only [dn] at hc42
    refine sr ?_
    refine vy ((by exact y_faz (k := 2) rfl underlying27 rfl rfl sizeOf2 rfl)) ?_
    refine vy ((by exact y_ld st 0 rfl isAgg2 rfl rfl)) ?_
    refine vy (y_eqi rfl rfl) ?_
    refine vmb ?_ ?_
    focus
     intro hg47
     try simp only [dn] at hg47
     refine vy ((by exact y_faz (k := 3) rfl underlying27 rfl rfl sizeOf9 rfl)) ?_
     refine vy ((by exact y_ld st 0 rfl isAgg9 rfl rfl)) ?_
     refine vy (y_eqs rfl rfl) ?_
     refine ypt ?_
     refine vmb ?_ ?_
     focus
      intro hg52
      try simp only [dn] at hg52
      refine vy ((by exact y_faz (k := 1) rfl underlying27 rfl rfl sizeOf24 rfl)) ?_
      refine vy ((by exact y_ld st 0 rfl isAgg24 rfl rfl)) ?_
      refine vy (y_eqi rfl rfl) ?_
      refine vmb ?_ ?_
      intro hg56
      try simp only [dn] at hg56
      iterate 3 refine vsk ?_
      iterate 2 refine ypt ?_
      refine ym ?_
      refine vy ((by exact y_faz (k := 4) rfl underlying27 rfl rfl sizeOf25 rfl)) ?_
      refine vy ((by exact y_ld st 0 rfl isAgg25 rfl rfl)) ?_
      refine vy (y_lensl rfl underlying25) ?_
      refine vy (y_eqi rfl rfl) ?_
      refine ypt ?_
      rotate_left
      focus
       intro hg56
       try simp only [dn] at hg56
       refine vy ((by exact y_faz (k := 1) rfl underlying27 rfl rfl sizeOf24 rfl)) ?_
       refine vy ((by exact y_ld st 0 rfl isAgg24 rfl rfl)) ?_
       refine vy (y_eqi rfl rfl) ?_
       refine ypf ?_
       refine ypt ?_
       refine vmb ?_ ?_
       intro hg62
       try simp only [dn] at hg62
       refine vy ((by exact y_faz (k := 4) rfl underlying27 rfl rfl sizeOf25 rfl)) ?_
       refine vy ((by exact y_ld st 0 rfl isAgg25 rfl rfl)) ?_
       refine vy (y_lensl rfl underlying25) ?_
       refine vy (y_eqi rfl rfl) ?_
       refine ypt ?_
       rotate_left
       intro hg62
       try simp only [dn] at hg62
       iterate 4 refine vsk ?_
       refine ypf ?_
     rotate_left 3
     intro hg52
     try simp only [dn] at hg52
     iterate 8 refine vsk ?_
     refine ypf ?_
     refine ym ?_
     iterate 4 refine vsk ?_
     refine ypf ?_
    rotate_left 4
    intro hg47
    try simp only [dn] at hg47
    iterate 3 refine vsk ?_
    refine ypf ?_
    refine ym ?_
    iterate 8 refine vsk ?_
    refine ypf ?_
    refine ym ?_
    iterate 4 refine vsk ?_
    refine ypf ?_
    all_goals
     refine ya ?_
     refine et (vk1 2 (vc_ret (vq_block_ret (vq_then_ret ?_))))
   rotate_left 5
   focus
    intro hc42
    try simp only [dn] at hc42
    refine sr ?_
    refine vy (y_eqi rfl rfl) ?_
    refine ya ?_
    refine et (vk2 1 68 ?_)
    refine vif ?_ ?_
    focus
     intro hc68
     try simp only [dn] at hc68
     refine sr ?_
     refine vy ((by exact y_faz (k := 2) rfl underlying27 rfl rfl sizeOf2 rfl)) ?_
     refine vy ((by exact y_ld st 0 rfl isAgg2 rfl rfl)) ?_
     refine vy (y_eqi rfl rfl) ?_
     refine vmb ?_ ?_
     focus
      intro hg73
      try simp only [dn] at hg73
      refine vy ((by exact y_faz (k := 3) rfl underlying27 rfl rfl sizeOf9 rfl)) ?_
      refine vy ((by exact y_ld st 0 rfl isAgg9 rfl rfl)) ?_
      refine vy (y_eqs rfl rfl) ?_
      refine ypt ?_
      refine vmb ?_ ?_
      focus
       intro hg78
       try simp only [dn] at hg78
       refine vy ((by exact y_faz (k := 1) rfl underlying27 rfl rfl sizeOf24 rfl)) ?_
       refine vy ((by exact y_ld st 0 rfl isAgg24 rfl rfl)) ?_
       refine vc_e (e_call [_] rfl rfl call32 rfl (two_any _ _) ?_)
       rintro _ _ ⟨rfl, rfl⟩
       refine ypt ?_
       refine vmb ?_ ?_
       intro hg83
       try simp only [dn] at hg83
       refine vy ((by exact y_faz (k := 4) rfl underlying27 rfl rfl sizeOf25 rfl)) ?_
       refine vy ((by exact y_ld st 0 rfl isAgg25 rfl rfl)) ?_
       refine vy (y_lensl rfl underlying25) ?_
       refine vy (y_eqi rfl rfl) ?_
       refine ypt ?_
       rotate_left
       intro hg83
       try simp only [dn] at hg83
       iterate 4 refine vsk ?_
       refine ypf ?_
      rotate_left 2
      intro hg78
      try simp only [dn] at hg78
      iterate 3 refine vsk ?_
      refine ypf ?_
      refine ym ?_
      iterate 4 refine vsk ?_
      refine ypf ?_
     rotate_left 3
     intro hg73
     try simp only [dn] at hg73
     iterate 3 refine vsk ?_
     refine ypf ?_
     refine ym ?_
     iterate 3 refine vsk ?_
     refine ypf ?_
     refine ym ?_
     iterate 4 refine vsk ?_
     refine ypf ?_
     all_goals
      refine ya ?_
      refine et (vk1 2 (vc_ret (vq_block_ret (vq_then_ret ?_))))
    rotate_left 4
    intro hc68
    try simp only [dn] at hc68
    refine vc_code_skip (vq_block (vq_then (vc_keep [] trivial (sr ?_))))
    refine ya ?_
    refine et (vk1 2 (vc_ret ?_))
 all_goals
  refine vr1 st results167 ?_
  exact ⟨⟨_, rfl⟩, st.chg⟩
set_option maxHeartbeats 1000000 in
theorem cexpr_any (wv : Value) : ∀ (n : Nat) (e : Ex), szo e = n → (∃ d0, rightE e d0 = true) → (rkX e).2 = true → ∀ (d : Nat), d + szE e ≤ 4000000 → ∀ (l : List Value) (w : World), ExV w S e l → RetP Tryz.prog 160 [wv, .agg l.toArray, .int .i64 (d : Int)] w (fun v w' => Chg [] w w') (Brk w) := by
 intro n
 refine Nat.strongRecOn n fun n ih => ?_
 intro e hn ⟨d0, hd0⟩ hk d hd l w hV
 subst hn
 obtain ⟨oa, cap, rfl, hr⟩ := ExV.inv hV
 have hform := num_form hd0 hk
 have hkl := num_kids hd0 hk
 refine retp_of [_, _, _] func160 rfl ntmps160 rfl ?_
 have st := St.init w []
 obtain ⟨w0, rfl⟩ : ∃ w0, w0 = w := ⟨_, rfl⟩
 refine sr ?_
 refine vc_e (e_bx (l := [_, _, _, _, _, _]) st rfl rfl rfl rfl ?_)
 intro b4 w hb4 st
 refine et (vk3 0 2 4 (sr ?_))
 refine ya ?_
 refine et (vk4 0 2 4 6 (vc_seq (sr ?_)))
 refine vy (y_fa0 rfl underlying27 rfl rfl sizeOf23 rfl) ?_
 refine vy ((by exact y_ld st 0 rfl isAgg23 rfl rfl)) ?_
 refine vy (y_eqi rfl rfl) ?_
 refine et (vk5 0 2 4 6 11 ?_)
 refine vif ?_ ?_
 ·intro hc11
  exfalso; rcases hform with ⟨h, -⟩ | ⟨_, _, h, -⟩ | ⟨_, _, _, _, h, -⟩ <;> (simp only [decide_eq_true_eq] at hc11; omega)
 intro hc11
 try simp only [dn] at hc11
 refine kt (vk4 0 2 4 6 (vc_seq ?_))
 refine vdr0 Tryz.mixed [Yt 0, Yt 1, Yt 2, Yt 6, Yt 7, Yt 8, Nt 3, Yt 4, Nt 5, Nt 9, Nt 10, Nt 11] st ?_
 clear st; intro w st hS
 refine vp_take rfl rfl rfl hS (fun w st => (by exact y_faz (k := 5) rfl underlying27 rfl rfl sizeOf3 rfl)) ?_
 refine vp_take rfl rfl rfl hS (fun w st => (by exact y_ld st 0 rfl isAgg3 rfl rfl)) ?_
 refine vp_take rfl rfl rfl hS (fun w st => (by exact y_lda (vs := [_, _, _, _, _, _]) st 0 rfl isAgg27 sizeOf27 rfl rfl)) ?_
 iterate 2 refine pm hS ?_
 refine vp_take rfl rfl rfl hS (fun w st => y_gtr rfl rfl) ?_
 refine vp_do rfl (e_call [_] rfl rfl call167 rfl (fits_any e oa cap _) ?_)
 rintro _ w ⟨⟨bf, rfl⟩, cw⟩
 replace st := st.call0 cw
 refine vp_next (by exact st) ?_; intro hS
 refine vp_take rfl rfl rfl hS (fun w st => y_not rfl) ?_
 refine vp_do rfl (e_call [_, _] rfl rfl call125 rfl (when_any _ _ _) ?_)
 rintro _ _ ⟨rfl, rfl⟩
 refine vp_next (by exact st) ?_; intro hS
 refine vp_do rfl (e_call [_, _] rfl rfl call125 rfl (when_any _ _ _) ?_)
 rintro _ _ ⟨rfl, rfl⟩
 refine vp_next (by exact st) ?_; intro hS
 refine vp_do rfl (e_bsn (l := [if (!bf) = true then 4 else 0, 0, if decide (64 < (d : Int)) = true then 7 else 0].map iV) (E := 3) st [(0, _), (1, _), (2, _)] rfl rfl rfl (fun w => by simp [Instr.buildSlice, run_underlying underlying88, sizeOf3, zeroValue3, Instr.fill, newRow, newObj, Sem.run, go_sem, Value.cells]) ?_)
 intro b26 w hb26 st
 refine vp_next (by exact st.drop (by repeat (first | exact sl0 | apply sl1 | apply sl2))) ?_; intro hS
 refine vp_do rfl (e_callp [_, _] rfl rfl call124 rfl (breaks_any _ [if (!bf) = true then 4 else 0, 0, if decide (64 < (d : Int)) = true then 7 else 0] b26 _ _ _ _ (st.res (i := 0) rfl) (by simp)) (by rintro _ w' ⟨hv, ch⟩ a ha; exact And.intro ha (Or.inr ⟨_, rfl, hv, st.chg.trans ch⟩)) ?_)
 intro _ w cw
 replace st := st.call0 cw
 refine vp_next (by exact st.drop (by repeat (first | exact sl0 | apply sl1 | apply sl2))) ?_; intro hS
 refine vp_end (vq_then (vk3 0 2 4 (sr ?_)))
 refine vy ((by exact y_faz (k := 4) rfl underlying27 rfl rfl sizeOf25 rfl)) ?_
 refine vy ((by exact y_ld st 1 rfl isAgg25 rfl rfl)) ?_
 refine vy (y_lensl rfl underlying25) ?_
 refine ym ?_
 refine et (vk5 0 2 29 30 31 (vc_block ?_))
 refine vc_loop (w0 := w0) (M := []) (fun (j : Nat) => [(0, wv), (2, .int .i64 (d : Int)), (29, .slice oa e.kids.length cap), (30, .int .i64 (e.kids.length : Int)), (31, .int .i64 (j : Int))]) (fun _ => []) (fun j w' => j ≤ e.kids.length) (fun j => e.kids.length - j) 0 ⟨rfl, rfl, rfl, rfl, rfl, trivial⟩ (st.drop (by simp)) (by simp) ?_
 clear st
 intro j w hj st
 refine sr ?_
 refine vy (y_lss rfl rfl) ?_
 refine et (vk6 0 2 29 30 31 32 (vc_seq ?_))
 refine vif ?_ ?_
 ·intro hc32
  try simp only [dn] at hc32
  have stK := st
  have hj2 : j < e.kids.length := by omega
  obtain ⟨x, hx⟩ : ∃ x, e.kids[j]? = some x := ⟨_, List.getElem?_eq_getElem hj2⟩
  obtain ⟨gb, go, rfl, hgS, hgl, hg⟩ := ExRow.at hr (by omega)
  obtain ⟨o0, c0, hV0, hr0, hc0⟩ := hg j x hx
  have hkx := kid_num hd0 hk hx
  have hm := mem_size hx
  have hz := szo_kids e
  have hzz := szE_kid hx
  have st := stK
  refine kt (vk5 0 2 29 30 31 (vc_seq (vc_block (sr ?_))))
  refine vy ((by exact y_ia (k := j) rfl rfl underlying25 sizeOf27 rfl (by omega))) ?_
  refine vy ((by exact y_ldca (exL x o0 c0) rfl isAgg27 sizeOf27 rfl (fun i v hi => st.chg.cell (hc0 i v hi) (by simp)))) ?_
  refine vc_e (e_al (l := [_, _, _, _, _, _]) st rfl rfl zeroValue27 rfl ?_)
  intro b8 w hb8 st
  refine vc_e (ests st 0 [_, _, _, _, _, _] sizeOf27 ?_)
  intro w st; dsimp only [setNth, wr] at st
  refine et (vk6 0 2 8 29 30 31 (vc_region ?_))
  refine ym ?_
  refine vy ((by exact y_lda (vs := [_, _, _, _, _, _]) st 0 rfl isAgg27 sizeOf27 rfl rfl)) ?_
  refine ym ?_
  refine vy (y_add rfl rfl (by omega : _ = ((d + 1 : Nat) : Int)) (by omega) (by omega)) ?_
  refine vc_e (e_callp [_, _, _] rfl rfl call160 rfl (ih (szo x) (by omega) x rfl hkx.1 hkx.2 (d + 1) (by omega) _ _ (hV0.kept st.sm)) (by rintro _ w' ⟨hv, ch⟩ a ha; exact And.intro ha (Or.inr ⟨_, rfl, hv, st.chg.trans ch⟩)) ?_)
  intro _ w cw
  replace st := st.call0 cw
  refine vc_end (vq_block (vq_then (vk5 0 2 29 30 31 (vc_region ?_))))
  refine vy (y_add rfl rfl (by omega : _ = ((j + 1 : Nat) : Int)) (by omega) (by omega)) ?_
  refine ym ?_
  refine vc_end ?_
  refine vq_again (j + 1)  ⟨rfl, rfl, rfl, rfl, rfl, trivial⟩ (st.drop (by simp)) ?_ ?_
  ·omega
  omega
 intro hc32
 try simp only [dn] at hc32
 refine vc_exit (vq_then_exit (vq_then_exit (vq_block_exit ?_)))
 refine vq_ret0 (.inr rfl) results160 ?_
 refine .inl ⟨_, rfl, ?_⟩
 exact st.chg
theorem uses_any (w : World) : Ret Tryz.prog 166 [.int .u8 6] w fun v w' => v = .tuple [.agg [.bool false, .bool false, .bool true, .bool false, .bool false].toArray, .bool true].toArray ∧ Chg [] w w' := by
 refine ret_of [_] func166 rfl ntmps166 rfl ?_
 have st := St.init w []
 refine sr ?_
 refine vc_e (e_al (l := [_, _, _, _, _]) st rfl rfl zeroValue231 rfl ?_)
 intro b2 w hb2 st
 refine ya ?_
 refine et (vk2 0 2 (vc_seq (sr ?_)))
 refine ym ?_
 refine et (vk2 2 4 (vc_block (sr ?_)))
 refine vy (y_eqi rfl rfl) ?_
 refine ya ?_
 refine et (vk3 2 4 5 ?_)
 refine vif ?_ ?_
 ·intro hc5
  exfalso; revert hc5; decide
 intro hc5
 try simp only [dn] at hc5
 refine sr ?_
 refine vy (y_eqi rfl rfl) ?_
 refine ya ?_
 refine et (vk3 2 4 8 ?_)
 refine vif ?_ ?_
 ·intro hc8
  exfalso; revert hc8; decide
 intro hc8
 try simp only [dn] at hc8
 refine sr ?_
 refine vy (y_eqi rfl rfl) ?_
 refine ya ?_
 refine et (vk3 2 4 11 ?_)
 refine vif ?_ ?_
 ·intro hc11
  exfalso; revert hc11; decide
 intro hc11
 try simp only [dn] at hc11
 refine sr ?_
 refine vy (y_eqi rfl rfl) ?_
 refine ya ?_
 refine et (vk3 2 4 14 ?_)
 refine vif ?_ ?_
 ·intro hc14
  exfalso; revert hc14; decide
 intro hc14
 try simp only [dn] at hc14
 refine sr ?_
 refine vy (y_eqi rfl rfl) ?_
 refine ya ?_
 refine et (vk3 2 4 17 ?_)
 refine vif ?_ ?_
 ·intro hc17
  exfalso; revert hc17; decide
 intro hc17
 try simp only [dn] at hc17
 refine sr ?_
 refine vy (y_eqi rfl rfl) ?_
 refine ya ?_
 refine et (vk3 2 4 20 ?_)
 refine vif ?_ ?_
 ·intro hc20
  try simp only [dn] at hc20
  refine sr ?_
  refine vy (ybd (.agg #[_, _, _, _, _]) [(2, _)]) ?_
  refine vc_e (ests st 0 [_, _, _, _, _] sizeOf231 ?_)
  intro w st; dsimp only [setNth, wr] at st
  refine ya ?_
  refine et (vk2 2 3 (vc_ret (vq_block_ret (vq_then_ret ?_))))
  refine vq_ret2 st (.inl rfl) results166 (by exact .cell 0 rfl rfl isAgg231 sizeOf231) (.tmp rfl) ?_
  refine ⟨_, rfl, ?_⟩
  exact ⟨rfl, st.chg⟩
 intro hc20
 exfalso; revert hc20; decide
theorem shape_any (e : Ex) (at_ : Int) (v1 v2 v3 : Option Addr) (c1 c2 c3 : Nat) (w : World) : Ret Tryz.prog 157 [.agg [.int .u8 6, str [], str [], .slice v1 1 c1, .slice v2 0 c2, .slice v3 0 c3, .int .i64 at_].toArray] w fun v w' => v = .bool true ∧ Chg [] w w' := by
 refine ret_of [_] func157 rfl ntmps157 rfl ?_
 have st := St.init w []
 refine sr ?_
 refine vc_e (e_bx (l := [_, _, _, _, _, _, _]) st rfl rfl rfl rfl ?_)
 intro b1 w hb1 st
 refine ya ?_
 refine et (vk1 1 (sr ?_))
 refine vy (y_fa0 rfl underlying171 rfl rfl sizeOf169 rfl) ?_
 refine vy ((by exact y_ld st 0 rfl isAgg169 rfl rfl)) ?_
 refine vc_e (e_call [_] rfl rfl call166 rfl (uses_any _) ?_)
 rintro _ w ⟨rfl, cw⟩
 replace st := st.call0 cw
 refine ym ?_
 iterate 2 refine vy (y_ext rfl rfl) ?_
 refine vc_e (e_al (l := [_, _, _, _, _]) st rfl rfl zeroValue231 rfl ?_)
 intro b3 w hb3 st
 refine vc_e (ests st 0 [_, _, _, _, _] sizeOf231 ?_)
 intro w st; dsimp only [setNth, wr] at st
 refine ya ?_
 refine et (vk3 1 3 4 (sr ?_))
 refine ya ?_
 refine et (vk4 1 3 4 5 (vc_seq (sr ?_)))
 refine vy ((by exact y_faz (k := 2) rfl underlying231 rfl rfl sizeOf4 rfl)) ?_
 refine vy ((by exact y_ld st 0 rfl isAgg4 rfl rfl)) ?_
 refine et (vk5 1 3 4 5 13 ?_)
 refine vif ?_ ?_
 ·intro hc13
  try simp only [dn] at hc13
  refine vc_region ?_
  refine ya ?_
  refine et (vk4 1 3 4 5 (sr ?_))
  refine ym ?_
  refine vmb ?_ ?_
  ·intro hg15
   try simp only [dn] at hg15
   refine vy ((by exact y_faz (k := 3) rfl underlying171 rfl rfl sizeOf25 rfl)) ?_
   refine vy ((by exact y_ld st 1 rfl isAgg25 rfl rfl)) ?_
   refine vy (y_lensl rfl underlying25) ?_
   refine ym ?_
   refine vy (y_eqi rfl rfl) ?_
   refine ypt ?_
   refine vmb ?_ ?_
   ·intro hg22
    try simp only [dn] at hg22
    refine vy (y_fa0 rfl underlying231 rfl rfl sizeOf4 rfl) ?_
    refine vy ((by exact y_ld st 0 rfl isAgg4 rfl rfl)) ?_
    refine vmb ?_ ?_
    ·intro hg25
     exfalso; revert hg25; decide
    intro hg25
    try simp only [dn] at hg25
    refine vy ((by exact y_faz (k := 1) rfl underlying171 rfl rfl sizeOf9 rfl)) ?_
    refine vy ((by exact y_ld st 1 rfl isAgg9 rfl rfl)) ?_
    refine vy (y_eqs rfl rfl) ?_
    refine ypf ?_
    refine ypt ?_
    refine vmb ?_ ?_
    ·intro hg31
     try simp only [dn] at hg31
     refine vy ((by exact y_faz (k := 1) rfl underlying231 rfl rfl sizeOf4 rfl)) ?_
     refine vy ((by exact y_ld st 0 rfl isAgg4 rfl rfl)) ?_
     refine vmb ?_ ?_
     ·intro hg34
      exfalso; revert hg34; decide
     intro hg34
     try simp only [dn] at hg34
     refine vy ((by exact y_faz (k := 2) rfl underlying171 rfl rfl sizeOf9 rfl)) ?_
     refine vy ((by exact y_ld st 1 rfl isAgg9 rfl rfl)) ?_
     refine vy (y_eqs rfl rfl) ?_
     refine ypf ?_
     refine ypt ?_
     refine vmb ?_ ?_
     ·intro hg40
      try simp only [dn] at hg40
      refine vy ((by exact y_faz (k := 3) rfl underlying231 rfl rfl sizeOf4 rfl)) ?_
      refine vy ((by exact y_ld st 0 rfl isAgg4 rfl rfl)) ?_
      refine vmb ?_ ?_
      ·intro hg43
       exfalso; revert hg43; decide
      intro hg43
      try simp only [dn] at hg43
      refine vy ((by exact y_faz (k := 4) rfl underlying171 rfl rfl sizeOf141 rfl)) ?_
      refine vy ((by exact y_ld st 1 rfl isAgg141 rfl rfl)) ?_
      refine vy (y_lensl rfl underlying141) ?_
      refine vy (y_eqi rfl rfl) ?_
      refine ypf ?_
      refine ypt ?_
      refine vmb ?_ ?_
      ·intro hg50
       try simp only [dn] at hg50
       refine vy ((by exact y_faz (k := 4) rfl underlying231 rfl rfl sizeOf4 rfl)) ?_
       refine vy ((by exact y_ld st 0 rfl isAgg4 rfl rfl)) ?_
       refine vmb ?_ ?_
       ·intro hg53
        exfalso; revert hg53; decide
       intro hg53
       try simp only [dn] at hg53
       refine vy ((by exact y_faz (k := 5) rfl underlying171 rfl rfl sizeOf141 rfl)) ?_
       refine vy ((by exact y_ld st 1 rfl isAgg141 rfl rfl)) ?_
       refine vy (y_lensl rfl underlying141) ?_
       refine vy (y_eqi rfl rfl) ?_
       refine ypf ?_
       refine ypt ?_
       refine ya ?_
       refine et (vk1 2 (vc_ret ?_))
       refine vr1 st results157 ?_
       exact ⟨rfl, st.chg⟩
      intro hg50
      exfalso; revert hg50; decide
     intro hg40
     exfalso; revert hg40; decide
    intro hg31
    exfalso; revert hg31; decide
   intro hg22
   exfalso; revert hg22; decide
  intro hg15
  exfalso; revert hg15; decide
 intro hc13
 exfalso; revert hc13; decide
theorem cblock0_any (wv : Value) (v : Option Addr) (c : Nat) (d : Int) (w : World) : Ret Tryz.prog 141 [wv, .slice v 0 c, .int .i64 d] w fun v w' => Chg [] w w' := by
 refine ret_of [_, _, _] func141 rfl ntmps141 rfl ?_
 have st := St.init w []
 refine sr ?_
 refine ym ?_
 refine vy (y_lensl rfl underlying141) ?_
 refine ym ?_
 refine et (vk5 0 2 8 9 10 (vc_block ?_))
 refine vc_once ?_
 refine sr ?_
 refine vy (y_lss rfl rfl) ?_
 refine et (vk6 0 2 8 9 10 11 (vc_seq ?_))
 refine vif ?_ ?_
 ·intro hc11
  exfalso; revert hc11; decide
 intro hc11
 try simp only [dn] at hc11
 refine vc_exit (vq_then_exit (vq_then_exit (vq_block_exit ?_)))
 refine vq_ret0 (.inr rfl) results141 ?_
 refine ⟨_, rfl, ?_⟩
 exact st.chg
set_option maxHeartbeats 1000000 in
theorem cstmt_any (wv : Value) (e : Ex) (he : ∃ d0, rightE e d0 = true) (hk : (rkX e).2 = true) (hsz : szE e ≤ 3000000) (at_ : Int) (gb go : Nat) (v2 v3 : Option Addr) (c1 c2 c3 o0c : Nat) (o0 : Option Addr) (c0 : Nat) (w : World) (hV : ExV w S e (exL e o0 c0))
    (hc0 : ∀ (i : Nat) v, (exL e o0 c0)[i]? = some v → w.cell? ⟨gb, go + 0 * 6 + i, none⟩ = some v) :
  RetP Tryz.prog 148 [wv, .agg [.int .u8 6, str [], str [], .slice (some ⟨gb, go, none⟩) 1 c1, .slice v2 0 c2, .slice v3 0 c3, .int .i64 at_].toArray, .int .i64 1] w (fun v w' => Chg [] w w') (Brk w) := by
 refine retp_of [_, _, _] func148 rfl ntmps148 rfl ?_
 have st := St.init w []
 obtain ⟨w0, rfl⟩ : ∃ w0, w0 = w := ⟨_, rfl⟩
 refine sr ?_
 refine vc_e (e_bx (l := [_, _, _, _, _, _, _]) st rfl rfl rfl rfl ?_)
 intro b4 w hb4 st
 refine et (vk3 0 2 4 (sr ?_))
 refine vy ((by exact y_lda (vs := [_, _, _, _, _, _, _]) st 0 rfl isAgg171 sizeOf171 rfl rfl)) ?_
 refine vc_e (e_call [_] rfl rfl call157 rfl (shape_any e _ _ _ _ _ _ _ _) ?_)
 rintro _ w ⟨rfl, cw⟩
 replace st := st.call0 cw
 refine vy (y_not rfl) ?_
 refine vc_e (e_call [_, _] rfl rfl call125 rfl (when_any _ _ _) ?_)
 rintro _ _ ⟨rfl, rfl⟩
 refine ym ?_
 refine vy (y_gtr rfl rfl) ?_
 refine vc_e (e_call [_, _] rfl rfl call125 rfl (when_any _ _ _) ?_)
 rintro _ _ ⟨rfl, rfl⟩
 refine vc_e (e_bsn (l := [0, 0].map iV) (E := 3) st [(0, _), (1, _)] rfl rfl rfl (fun w => by simp [Instr.buildSlice, run_underlying underlying88, sizeOf3, zeroValue3, Instr.fill, newRow, newObj, Sem.run, go_sem, Value.cells]) ?_)
 intro b16 w hb16 st
 refine ya ?_
 refine et (vk4 0 2 4 6 (vc_seq (sr ?_)))
 refine vy (y_fa0 rfl underlying171 rfl rfl sizeOf169 rfl) ?_
 refine vy ((by exact y_ld st 1 rfl isAgg169 rfl rfl)) ?_
 refine et (vk5 0 2 4 6 18 (vc_block (sr ?_)))
 refine vy (y_eqi rfl rfl) ?_
 refine ya ?_
 refine et (vk6 0 2 4 6 18 19 ?_)
 refine vif ?_ ?_
 ·intro hc19
  exfalso; revert hc19; decide
 intro hc19
 try simp only [dn] at hc19
 refine sr ?_
 refine vy (y_eqi rfl rfl) ?_
 refine ya ?_
 refine et (vk6 0 2 4 6 18 28 ?_)
 refine vif ?_ ?_
 ·intro hc28
  exfalso; revert hc28; decide
 intro hc28
 try simp only [dn] at hc28
 refine sr ?_
 refine vy (y_eqi rfl rfl) ?_
 refine ya ?_
 refine et (vk5 0 2 4 6 41 ?_)
 refine vif ?_ ?_
 ·intro hc41
  exfalso; revert hc41; decide
 intro hc41
 try simp only [dn] at hc41
 refine vc_code_skip (vq_block (vq_then (vk4 0 2 4 6 (sr ?_))))
 refine vy ((by exact y_faz (k := 6) rfl underlying171 rfl rfl sizeOf3 rfl)) ?_
 refine vy ((by exact y_ld st 1 rfl isAgg3 rfl rfl)) ?_
 refine ym ?_
 refine vc_e (e_call [_, _] rfl rfl call124 rfl (breaks_ok _ [0, 0] (by simp) b16 _ _ _ _ (st.res (i := 0) rfl) (by simp)) ?_)
 intro _ w cw
 replace st := st.call0 cw
 refine et (vk3 0 2 4 (vc_seq (sr ?_)))
 refine vy ((by exact y_faz (k := 3) rfl underlying171 rfl rfl sizeOf25 rfl)) ?_
 refine vy ((by exact y_ld st 1 rfl isAgg25 rfl rfl)) ?_
 refine vy (y_lensl rfl underlying25) ?_
 refine ym ?_
 refine et (vk6 0 2 4 55 56 57 (vc_block ?_))
 refine vc_loop (w0 := w0) (M := []) (fun (j : Nat) => [(0, wv), (2, .int .i64 1), (4, .pointer (some ⟨b4, 0, none⟩)), (55, .slice (some ⟨gb, go, none⟩) 1 c1), (56, .int .i64 1), (57, .int .i64 (j : Int))]) (fun _ => [.blk b4 (.cells [.int .u8 6, str [], str [], .slice (some ⟨gb, go, none⟩) 1 c1, .slice v2 0 c2, .slice v3 0 c3, .int .i64 at_].toArray 171 (0, 0))]) (fun j w' => j ≤ 1) (fun j => 1 - j) 0 ⟨rfl, rfl, rfl, rfl, rfl, rfl, trivial⟩ (st.drop (by simp)) (by simp) ?_
 clear st
 intro j w hj st
 refine sr ?_
 refine vy (y_lss rfl rfl) ?_
 refine et (vk7 0 2 4 55 56 57 58 (vc_seq ?_))
 refine vif ?_ ?_
 ·intro hc58
  try simp only [dn] at hc58
  have hj0 : j = 0 := by omega
  subst hj0
  refine kt (vk6 0 2 4 55 56 57 (vc_seq (vc_block (sr ?_))))
  refine vy ((by exact y_ia (k := 0) rfl rfl underlying25 sizeOf27 rfl (by omega))) ?_
  refine vy ((by exact y_ldca (exL e o0 c0) rfl isAgg27 sizeOf27 rfl (fun i v hi => st.chg.cell (hc0 i v hi) (by simp)))) ?_
  refine vc_e (e_al (l := [_, _, _, _, _, _]) st rfl rfl zeroValue27 rfl ?_)
  intro b8 w hb8 st
  refine vc_e (ests st 0 [_, _, _, _, _, _] sizeOf27 ?_)
  intro w st; dsimp only [setNth, wr] at st
  refine et (vk7 0 2 4 8 55 56 57 (vc_region ?_))
  refine ym ?_
  refine vy ((by exact y_lda (vs := [_, _, _, _, _, _]) st 0 rfl isAgg27 sizeOf27 rfl rfl)) ?_
  refine vc_e (e_callp [_, _, _] rfl rfl call160 rfl (cexpr_any (S := S) wv _ e rfl he hk 1 (by omega) _ _ (hV.kept st.sm)) (by rintro _ w' ⟨hv, ch⟩ a ha; exact And.intro ha (Or.inr ⟨_, rfl, hv, st.chg.trans ch⟩)) ?_)
  intro _ w cw
  replace st := st.call0 cw
  refine vc_end (vq_block (vq_then (vk6 0 2 4 55 56 57 (vc_region ?_))))
  refine vy (y_add rfl rfl (by omega : _ = ((0 + 1 : Nat) : Int)) (by omega) (by omega)) ?_
  refine ym ?_
  refine vc_end ?_
  refine vq_again 1  ⟨rfl, rfl, rfl, rfl, rfl, rfl, trivial⟩ (st.drop (by repeat (first | exact List.Sublist.refl _ | apply List.Sublist.cons_cons | apply List.Sublist.cons))) ?_ ?_
  ·omega
  omega
 intro hc58
 try simp only [dn] at hc58
 refine vc_exit (vq_then_exit (vq_then_exit (vq_block_exit (vq_then (vk3 0 2 4 (sr ?_))))))
 refine ym ?_
 refine vy ((by exact y_faz (k := 4) rfl underlying171 rfl rfl sizeOf141 rfl)) ?_
 refine vy ((by exact y_ld st 0 rfl isAgg141 rfl rfl)) ?_
 refine ym ?_
 refine vy (y_add rfl rfl rfl (by omega) (by omega)) ?_
 refine vc_e (e_call [_, _, _] rfl rfl call141 rfl (cblock0_any _ _ _ _ _) ?_)
 intro _ w cw
 replace st := st.call0 cw
 refine et (vk3 0 2 4 (vc_region ?_))
 refine ym ?_
 refine vy ((by exact y_faz (k := 5) rfl underlying171 rfl rfl sizeOf141 rfl)) ?_
 refine vy ((by exact y_ld st 0 rfl isAgg141 rfl rfl)) ?_
 refine ym ?_
 refine vy (y_add rfl rfl rfl (by omega) (by omega)) ?_
 refine vc_e (e_call [_, _, _] rfl rfl call141 rfl (cblock0_any _ _ _ _ _) ?_)
 intro _ w cw
 replace st := st.call0 cw
 refine vc_end ?_
 refine vq_ret0 (.inr rfl) results148 ?_
 refine .inl ⟨_, rfl, ?_⟩
 exact st.chg
end
end Go.Proofs.YtjoepkpdanolkaaGreatDoor

