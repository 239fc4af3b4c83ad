/- A part of the proof: contracts of functions and plain laws; each theorem says its own conditions. -/
import Derived.Test.YtjoepkpdanolkaaGreatDoorTopReckonedK2
import Derived.Test.YtjoepkpdanolkaaGreatDoorTopReckonedK7
set_option linter.unusedVariables false
set_option linter.unusedSimpArgs false
namespace Go.Proofs.YtjoepkpdanolkaaGreatDoor
open Go.RowKit Sx LexS ParS _root_.Go.Proofs.Tryz

theorem fol_fin (nx og : Nat) (w : World) : Ret Tryz.prog 110 [.agg (ndC .fin nx og).toArray] w fun v w' => v = .slice none 0 0 ∧ Chg [] w w' := by
 refine ret_of [_] func110 rfl ntmps110 rfl ?_
 have st := St.init w []
 refine sr ?_
 refine vc_e (e_bx (l := [_, _, _, _, _, _, _, _, _, _, _, _, _]) st rfl rfl rfl rfl ?_)
 intro b1 w hb1 st
 refine ya ?_
 refine et (vk1 1 (vc_seq (vc_block (sr ?_))))
 refine vy (y_fa0 rfl underlying103 rfl rfl sizeOf47 rfl) ?_
 refine vy ((by exact y_ld st 0 rfl isAgg47 rfl rfl)) ?_
 refine vy (y_eqi rfl rfl) ?_
 refine ya ?_
 refine et (vk2 1 3 ?_)
 refine vif ?_ ?_
 ·intro hc3
  try simp only [dn] at hc3
  refine sr ?_
  refine ya ?_
  refine et (vk1 2 (vc_ret (vq_block_ret (vq_then_ret ?_))))
  refine vr1 st results110 ?_
  exact ⟨rfl, st.chg⟩
 intro hc3
 exfalso; revert hc3; decide
theorem fol_no (x : Nd) (hK : nK x = 1 ∨ nK x = 7) (nx og : Nat) (w : World) : Ret Tryz.prog 110 [.agg (ndC x nx og).toArray] w fun v w' => (∃ b, v = .slice (some ⟨b, 0, none⟩) 1 1 ∧ w'.heap[b]? = some (.cells [.int .i64 (nx : Int)].toArray 3 (0, 0)) ∧ w.heap.size ≤ b) ∧ Chg [] w w' := by
 refine ret_of [_] func110 rfl ntmps110 rfl ?_
 have st := St.init w []
 obtain ⟨w0, rfl⟩ : ∃ w0, w0 = w := ⟨_, rfl⟩
 refine sr ?_
 refine vc_e (e_bx (l := [_, _, _, _, _, _, _, _, _, _, _, _, _]) st rfl rfl rfl rfl ?_)
 intro b1 w hb1 st
 refine ya ?_
 refine et (vk1 1 (vc_seq (vc_block (sr ?_))))
 refine vy (y_fa0 rfl underlying103 rfl rfl sizeOf47 rfl) ?_
 refine vy ((by exact y_ld st 0 rfl isAgg47 rfl rfl)) ?_
 refine vy (y_eqi rfl rfl) ?_
 refine ya ?_
 refine et (vk2 1 3 ?_)
 refine vif ?_ ?_
 ·intro hc3
  exfalso; simp only [decide_eq_true_eq] at hc3; omega
 intro hc3
 try simp only [dn] at hc3
 refine sr ?_
 refine vy (y_fa0 rfl underlying103 rfl rfl sizeOf47 rfl) ?_
 refine vy ((by exact y_ld st 0 rfl isAgg47 rfl rfl)) ?_
 refine vy (y_eqi rfl rfl) ?_
 refine vmb ?_ ?_
 ·intro hg11
  exfalso; simp only [decide_eq_true_eq] at hg11; omega
 intro hg11
 try simp only [dn] at hg11
 iterate 5 refine vsk ?_
 refine ypf ?_
 refine ya ?_
 refine et (vk2 1 7 ?_)
 refine vc_iff rfl ?_
 refine vc_code_skip (vq_block (vq_then (vk1 1 (sr ?_))))
 refine vy ((by exact y_faz (k := 10) rfl underlying103 rfl rfl sizeOf3 rfl)) ?_
 refine vy ((by exact y_ld st 0 rfl isAgg3 rfl rfl)) ?_
 refine vc_e (e_bs1 (l := [_]) st rfl rfl rfl rfl underlying88 sizeOf3 rfl rfl rfl zeroValue3 ?_)
 intro b25 w hb25 st
 refine ya ?_
 refine et (vk1 2 (vc_ret ?_))
 refine vr1 st results110 ?_
 exact ⟨⟨b25, rfl, st.res (i := 0) rfl, hb25⟩, st.chg⟩
theorem nadd_any (s : Wd) (hs : isName s = true) (mb cb E : Nat) (fz : Nat × Nat) (w : World) (hm : w.heap[mb]? = some (mapF [])) (hc : w.heap[cb]? = some (.cells [.map (some mb)].toArray E fz)) (hne : mb ≠ cb) :
    Ret Tryz.prog 105 [str s, .pointer (some ⟨cb, 0, none⟩)] w fun v w' => v = .bool true ∧ Chg [mb] w w' := by
 refine ret_of [_, _] func105 rfl ntmps105 rfl ?_
 have st := St.init w []
 obtain ⟨w0, rfl⟩ : ∃ w0, w0 = w := ⟨_, rfl⟩
 replace st := St.of2 [mb] hm hc hne
 refine sr ?_
 refine ya ?_
 refine et (vk2 0 1 (sr ?_))
 refine ym ?_
 refine vc_e (e_call [_] rfl rfl call43 rfl (name_any _ _) ?_)
 rintro _ _ ⟨rfl, rfl⟩
 rw [hs]
 refine vmb ?_ ?_
 ·intro hg7
  try simp only [dn] at hg7
  refine vy ((by exact y_ld st 1 rfl isAgg173 rfl rfl)) ?_
  refine ym ?_
  refine vc_e (e_lkF1 (z := .bool false) st 0 rfl rfl rfl rfl rfl underlying173 underlying9 zeroValue4 ?_)
  dsimp only [getF, Option.getD]
  refine vy (y_not rfl) ?_
  refine ypt ?_
  refine ya ?_
  refine et (vk3 0 1 4 (sr ?_))
  refine vy ((by exact y_ld st 1 rfl isAgg173 rfl rfl)) ?_
  refine ym ?_
  refine vc_e (e_muF st 0 rfl rfl rfl rfl rfl (.inl (.head _)) underlying173 underlying9 rfl ?_)
  intro w st; dsimp only [setNth] at st
  refine et (vk1 4 (sr ?_))
  refine ym ?_
  refine ya ?_
  refine et (vk1 3 (vc_ret ?_))
  refine vr1 st results105 ?_
  exact ⟨rfl, st.chg⟩
 intro hg7
 exfalso; revert hg7; decide
set_option maxHeartbeats 1000000 in
theorem named_u (s gb gc : Nat) (o1 o2 : Option Addr) (c1 c2 nn nc : Nat) (na : Option Addr) (w : World) (hg : ∀ (i : Nat) c, ([str [97], .int .i64 0, .int .i64 (s : Int), .slice na nn nc] : List Value)[i]? = some c → w.cell? ⟨gb, i, none⟩ = some c) :
    Ret Tryz.prog 51 [.agg [.slice o1 0 c1, .slice o2 0 c2, .slice (some ⟨gb, 0, none⟩) 1 gc].toArray] w fun v w' => v = .bool true ∧ Chg [] w w' := by
 refine ret_of [_] func51 rfl ntmps51 rfl ?_
 have st := St.init w []
 obtain ⟨w0, rfl⟩ : ∃ w0, w0 = w := ⟨_, rfl⟩
 refine sr ?_
 refine vc_e (e_bx (l := [_, _, _]) st rfl rfl rfl rfl ?_)
 intro b1 w hb1 st
 refine ya ?_
 refine et (vk1 1 (vc_seq (sr ?_)))
 refine vy (y_fa0 rfl underlying40 rfl rfl sizeOf37 rfl) ?_
 refine vy ((by exact y_ld st 0 rfl isAgg37 rfl rfl)) ?_
 refine vy (y_lensl rfl underlying37) ?_
 refine vy (y_gtr rfl rfl) ?_
 refine vmb ?_ ?_
 ·intro hg15
  exfalso; revert hg15; decide
 intro hg15
 try simp only [dn] at hg15
 refine vy ((by exact y_faz (k := 1) rfl underlying40 rfl rfl sizeOf37 rfl)) ?_
 refine vy ((by exact y_ld st 0 rfl isAgg37 rfl rfl)) ?_
 refine vy (y_lensl rfl underlying37) ?_
 refine vy (y_gtr rfl rfl) ?_
 refine ypf ?_
 refine vmb ?_ ?_
 ·intro hg21
  exfalso; revert hg21; decide
 intro hg21
 try simp only [dn] at hg21
 refine vy ((by exact y_faz (k := 2) rfl underlying40 rfl rfl sizeOf38 rfl)) ?_
 refine vy ((by exact y_ld st 0 rfl isAgg38 rfl rfl)) ?_
 refine vy (y_lensl rfl underlying38) ?_
 refine vy (y_gtr rfl rfl) ?_
 refine ypf ?_
 refine et (vk2 1 26 ?_)
 refine vif ?_ ?_
 ·intro hc26
  exfalso; revert hc26; decide
 intro hc26
 try simp only [dn] at hc26
 refine kt (vk1 1 (sr ?_))
 refine vc_e (e_mkF st rfl rfl ?_)
 intro b27 w hb27 st
 refine vc_e (e_al (l := [_]) st rfl rfl zeroValue173 rfl ?_)
 intro b3 w hb3 st
 refine vc_e (est st 0 sizeOf173 ?_)
 intro w st; dsimp only [setNth, wr] at st
 refine et (vk2 1 3 (sr ?_))
 refine vy (y_mf [] [_] rfl rfl) ?_
 refine ya ?_
 refine et (vk2 1 4 (vc_seq (sr ?_)))
 refine vy (y_fa0 rfl underlying40 rfl rfl sizeOf37 rfl) ?_
 refine vy ((by exact y_ld st 2 rfl isAgg37 rfl rfl)) ?_
 refine vy (y_lensl rfl underlying37) ?_
 refine ym ?_
 refine et (vk5 1 4 30 31 32 (vc_block ?_))
 refine vc_once ?_
 refine sr ?_
 refine vy (y_lss rfl rfl) ?_
 refine et (vk6 1 4 30 31 32 33 (vc_seq ?_))
 refine vif ?_ ?_
 ·intro hc33
  exfalso; revert hc33; decide
 intro hc33
 try simp only [dn] at hc33
 refine vc_exit (vq_then_exit (vq_then_exit (vq_block_exit (vq_then (vk2 1 4 (vc_seq (sr ?_)))))))
 refine vy ((by exact y_faz (k := 1) rfl underlying40 rfl rfl sizeOf37 rfl)) ?_
 refine vy ((by exact y_ld st 2 rfl isAgg37 rfl rfl)) ?_
 refine vy (y_lensl rfl underlying37) ?_
 refine ym ?_
 refine et (vk5 1 4 43 44 45 (vc_block ?_))
 refine vc_once ?_
 refine sr ?_
 refine vy (y_lss rfl rfl) ?_
 refine et (vk6 1 4 43 44 45 46 (vc_seq ?_))
 refine vif ?_ ?_
 ·intro hc46
  exfalso; revert hc46; decide
 intro hc46
 try simp only [dn] at hc46
 refine vc_exit (vq_then_exit (vq_then_exit (vq_block_exit (vq_then (vk2 1 4 (vc_seq (sr ?_)))))))
 refine vy ((by exact y_faz (k := 2) rfl underlying40 rfl rfl sizeOf38 rfl)) ?_
 refine vy ((by exact y_ld st 2 rfl isAgg38 rfl rfl)) ?_
 refine vy (y_lensl rfl underlying38) ?_
 refine ym ?_
 refine et (vk4 4 61 62 63 (vc_block ?_))
 refine vc_loop (w0 := w0) (M := []) (fun (j : Nat) => [(4, .func (.func 105) #[] [.pointer (some ⟨b3, 0, none⟩)].toArray), (61, .slice (some ⟨gb, 0, none⟩) 1 gc), (62, .int .i64 1), (63, .int .i64 (j : Int))]) (fun j => [blkIf (j = 0) b27 (mapF []), .blk b3 (.cells [.map (some b27)].toArray 173 (0, 0))]) (fun j w' => j ≤ 1) (fun j => 1 - j) 0 ⟨rfl, rfl, rfl, rfl, trivial⟩ (St.mkIf (st.pick [1, 0] rfl (by decide)) _) (by simp) ?_
 clear st
 intro j w hj st
 refine sr ?_
 refine vy (y_lss rfl rfl) ?_
 refine et (vk5 4 61 62 63 64 (vc_seq ?_))
 refine vif ?_ ?_
 ·intro hc64
  try simp only [dn] at hc64
  have hj0 : j = 0 := by omega
  subst hj0
  refine kt (vk4 4 61 62 63 (vc_seq (vc_block (sr ?_))))
  refine vy ((by exact y_ia0 (k := 0) rfl rfl underlying38 sizeOf98 rfl (by omega))) ?_
  refine vy ((by exact y_ldca [str [97], .int .i64 0, .int .i64 (s : Int), .slice na nn nc] rfl isAgg98 sizeOf98 rfl (fun i v hi => st.chg.cell (by rw [Nat.zero_mul, Nat.zero_add]; exact hg i v hi) (by simp)))) ?_
  refine vc_e (e_al (l := [_, _, _, _]) st rfl rfl zeroValue98 rfl ?_)
  intro b10 w hb10 st
  refine vc_e (ests st 0 [_, _, _, _] sizeOf98 ?_)
  intro w st; dsimp only [setNth, wr] at st
  refine et (vk5 4 10 61 62 63 (sr ?_))
  refine ym ?_
  refine vy (y_fa0 rfl underlying98 rfl rfl sizeOf9 rfl) ?_
  refine vy ((by exact y_ld st 0 rfl isAgg9 rfl rfl)) ?_
  refine vc_e (e_callv [_] rfl rfl rfl call105 rfl (nadd_any [97] (by decide) b27 b3 _ _ _ ((st.res (i := 1) rfl).1 rfl) (st.res (i := 2) rfl) (fun e => st.ne (i := 1) (j := 2) (by decide) rfl rfl b27 (.head _) (by rw [e]; exact .head _))) ?_)
  rintro _ w ⟨rfl, cw⟩
  have hlt := st.lt (mem_nth (i := 1) rfl) (.head _)
  replace st := st.swap (i := 1) (r' := blkIf (1 = 0) b27 (mapF [])) rfl cw (fun k hk => hk) (by simpa using hb27) (fun k hk => .inl hk) (blkIf_no (by decide) (Nat.lt_of_lt_of_le hlt cw.size))
  dsimp only [setNth] at st
  refine vy (y_not rfl) ?_
  refine et (vk5 4 61 62 63 71 ?_)
  refine vif ?_ ?_
  ·intro hc71
   exfalso; revert hc71; decide
  intro hc71
  try simp only [dn] at hc71
  refine vc_code_skip (vq_block (vq_then (vk4 4 61 62 63 (vc_region ?_))))
  refine vy (y_add rfl rfl (by omega : _ = ((0 + 1 : Nat) : Int)) (by omega) (by omega)) ?_
  refine ym ?_
  refine vc_end ?_
  refine vq_again 1  ⟨rfl, rfl, rfl, rfl, trivial⟩ (st.drop (.cons _ (List.Sublist.refl _))) ?_ ?_
  ·omega
  omega
 intro hc64
 try simp only [dn] at hc64
 refine vc_exit (vq_then_exit (vq_then_exit (vq_block_exit (vq_then (vc_keep [] trivial (sr ?_))))))
 refine ya ?_
 refine et (vk1 2 (vc_ret ?_))
 refine vr1 st results51 ?_
 exact ⟨rfl, st.chg⟩
theorem Tryz.info88 : Tryz.prog.info? 88 = some Tryz.t88 := by kernel_rfl
theorem Tryz.info3 : Tryz.prog.info? 3 = some Tryz.t3 := by kernel_rfl
set_option maxHeartbeats 4000000 in
theorem held_any (N : List Nd) (s nb nc : Nat) (hN : GN N s) (w : World) (hc : ∀ (i : Nat) c, (linO N 0 0)[i]? = some c → w.cell? ⟨nb, i, none⟩ = some c) :
    Ret Tryz.prog 53 [.agg [str [97], .int .i64 0, .int .i64 (s : Int), .slice (some ⟨nb, 0, none⟩) N.length nc].toArray] w fun v w' => (∃ lv, v = .tuple #[lv, .int .i64 (-1)]) ∧ Chg [] w w' := by
 refine ret_of [_] func53 rfl ntmps53 rfl ?_
 have st := St.init w []
 obtain ⟨w0, rfl⟩ : ∃ w0, w0 = w := ⟨_, rfl⟩
 have hpos := hN.pos
 have hle := hN.le
 refine sr ?_
 refine vc_e (e_bx (l := [_, _, _, _]) st rfl rfl rfl rfl ?_)
 intro b1 w hb1 st
 iterate 2 refine ya ?_
 refine et (vk1 1 (sr ?_))
 refine vy ((by exact y_faz (k := 3) rfl underlying98 rfl rfl sizeOf96 rfl)) ?_
 refine vy ((by exact y_ld st 0 rfl isAgg96 rfl rfl)) ?_
 refine vy (y_lensl rfl underlying96) ?_
 refine vc_e (e_mkN (z := (Value.slice none 0 0)) st rfl rfl rfl rfl underlying152 Tryz.info88 rfl rfl rfl (by omega) (by show 24 * _ ≤ _; omega) (by unfold maxLen; omega) ?_)
 intro b16 w hb16 st
 refine ya ?_
 refine et (vk2 1 4 (sr ?_))
 refine vc_e (e_mkI st rfl rfl ?_)
 intro b17 w hb17 st
 refine vc_e (e_inI st 0 rfl rfl rfl rfl rfl (.inr hb17) underlying178 underlying3 rfl ?_)
 intro w st; dsimp only [setNth, List.nil_append] at st
 refine ym ?_
 refine ya ?_
 refine et (vk3 1 4 5 (sr ?_))
 refine vc_e (e_bs1 (l := [_]) st rfl rfl rfl rfl underlying88 sizeOf3 rfl rfl rfl zeroValue3 ?_)
 intro b19 w hb19 st
 refine ya ?_
 refine et (vk4 1 4 5 6 (vc_seq (sr ?_)))
 have h1 : min (0 + 1) N.length = 1 := by omega
 replace st := st.toOwn (size := 1) (len := 1) hb19 rfl (by decide)
 have stL := st
 refine ya ?_
 refine et (vk5 1 4 5 6 7 (vc_block ?_))
 refine vc_loop (w0 := w0) (M := []) (fun (x : Nat × Option Addr × Nat) => [(1, .pointer (some ⟨b1, 0, none⟩)), (4, .slice (some ⟨b16, 0, none⟩) N.length N.length), (5, .map (some b17)), (6, .slice x.2.1 (min (x.1 + 1) N.length) x.2.2), (7, .int .i64 (x.1 : Int))]) (fun x => [.own (.slice x.2.1 (min (x.1 + 1) N.length) x.2.2) 3 1 (min (x.1 + 1) N.length) (intsV (min (x.1 + 1) N.length)), .blk b17 (mapI (setV (min (x.1 + 1) N.length))), .own (.slice (some ⟨b16, 0, none⟩) N.length N.length) 88 1 N.length (List.replicate N.length (Value.slice none 0 0)), .blk b1 (.cells [str [97], .int .i64 0, .int .i64 (s : Int), .slice (some ⟨nb, 0, none⟩) N.length nc].toArray 98 (0, 0))]) (fun x w' => x.1 ≤ N.length) (fun x => N.length - x.1) (0, some ⟨b19, 0, none⟩, 1) (by dsimp only; rw [h1]; exact ⟨rfl, rfl, rfl, rfl, rfl, trivial⟩) (by dsimp only; rw [h1]; exact stL) (Nat.zero_le _) ?_
 clear st stL
 rintro ⟨k, oa, cap⟩ w hk st
 dsimp only at hk st ⊢
 refine vc_seq (sr ?_)
 iterate 2 refine ym ?_
 refine vy (y_lensl rfl underlying88) ?_
 refine vy (y_lss rfl rfl) ?_
 refine et (vk6 1 4 5 6 7 23 ?_)
 refine vif ?_ ?_
 ·intro hc23
  try simp only [dn] at hc23
  obtain ⟨tb, cp, hg, -⟩ := own_form (st.res (i := 0) rfl) (by omega)
  simp only [Value.slice.injEq] at hg
  obtain ⟨rfl, -, rfl⟩ := hg
  have hkn : k < N.length := by omega
  obtain ⟨x, hx⟩ : ∃ x, N[k]? = some x := ⟨_, List.getElem?_eq_getElem hkn⟩
  have hfin := hN.fin k x hx
  have hK : nK x = 1 ∨ nK x = 7 ∨ nK x = 9 := by cases x <;> simp [nK]
  have hm : k < min (k + 1) N.length := by omega
  refine kt (vk5 1 4 5 6 7 (vc_seq (vc_block (sr ?_))))
  iterate 2 refine ym ?_
  refine vy ((by exact y_ia0 (k := k) rfl rfl underlying88 sizeOf3 rfl (by omega))) ?_
  refine vy ((by exact y_ldo st 0 rfl isAgg3 rfl (by rw [Nat.mul_one]; exact intsV_get hm))) ?_
  refine ya ?_
  refine et (vk6 1 4 5 6 7 8 (sr ?_))
  refine vy ((by exact y_faz (k := 3) rfl underlying98 rfl rfl sizeOf96 rfl)) ?_
  refine vy ((by exact y_ld st 3 rfl isAgg96 rfl rfl)) ?_
  refine ym ?_
  refine vy ((by exact y_ia0 (k := k) rfl rfl underlying96 sizeOf103 rfl (by omega))) ?_
  refine vy ((by exact y_ldca (ndC x (if k + 1 = N.length then 0 else 0 + k + 1) (0 + k)) rfl isAgg103 sizeOf103 rfl (fun i v hi => st.chg.cell (hc _ v (linO_cell 0 0 hx hi)) (by simp)))) ?_
  refine vc_e (e_al (l := [_, _, _, _, _, _, _, _, _, _, _, _, _]) st rfl rfl zeroValue103 rfl ?_)
  intro b9 w hb9 st
  refine vc_e (ests st 0 [_, _, _, _, _, _, _, _, _, _, _, _, _] sizeOf103 ?_)
  intro w st; dsimp only [setNth, wr] at st
  refine et (vk7 1 4 5 6 7 8 9 (sr ?_))
  iterate 2 refine ym ?_
  refine vy ((by exact y_ia0 (k := k) rfl rfl underlying152 sizeOf88 rfl (by omega))) ?_
  refine vy ((by exact y_ldo st 3 rfl isAgg88 rfl (by rw [Nat.mul_one, List.getElem?_replicate, if_pos hkn]))) ?_
  refine ya ?_
  refine et (vk8 1 4 5 6 7 8 9 10 (vc_seq (sr ?_)))
  refine vy (y_fa0 rfl underlying103 rfl rfl sizeOf47 rfl) ?_
  refine vy ((by exact y_ld st 0 rfl isAgg47 rfl rfl)) ?_
  refine et (vk9 1 4 5 6 7 8 9 10 40 (vc_block (sr ?_)))
  refine vy (y_eqi rfl rfl) ?_
  refine ya ?_
  refine et (vk10 1 4 5 6 7 8 9 10 40 41 ?_)
  refine vif ?_ ?_
  ·intro hc41
   exfalso; simp only [decide_eq_true_eq] at hc41; omega
  intro hc41
  try simp only [dn] at hc41
  refine sr ?_
  refine vy (y_eqi rfl rfl) ?_
  refine ya ?_
  refine et (vk10 1 4 5 6 7 8 9 10 40 49 ?_)
  refine vif ?_ ?_
  ·intro hc49
   exfalso; simp only [decide_eq_true_eq] at hc49; omega
  intro hc49
  try simp only [dn] at hc49
  refine sr ?_
  refine vy (y_eqi rfl rfl) ?_
  refine ya ?_
  refine et (vk9 1 4 5 6 7 8 9 10 71 ?_)
  refine vif ?_ ?_
  ·intro hc71
   try simp only [dn] at hc71
   have hxf : x = .fin := by cases x with
    | fin => rfl
    | set op t a b => exact absurd hc71 (by simp [nK])
    | prt a => exact absurd hc71 (by simp [nK])
   subst hxf
   have hlast := hfin.1 rfl
   refine sr ?_
   refine ym ?_
   refine vy (y_lensl rfl underlying88) ?_
   refine vy (y_gtr rfl rfl) ?_
   refine et (vk9 1 4 5 6 7 8 9 10 75 ?_)
   refine vif ?_ ?_
   ·intro hc75
    exfalso; revert hc75; decide
   intro hc75
   try simp only [dn] at hc75
   refine vc_code_skip (vq_block (vq_then (vk7 1 4 5 6 7 9 10 (sr ?_))))
   refine vy ((by exact y_lda (vs := [_, _, _, _, _, _, _, _, _, _, _, _, _]) st 0 rfl isAgg103 sizeOf103 rfl rfl)) ?_
   refine vc_e (e_call [_] rfl rfl call110 rfl (fol_fin _ _ _) ?_)
   rintro _ w ⟨rfl, cw⟩
   replace st := st.call0 cw
   refine vy (y_lensl rfl underlying88) ?_
   refine ym ?_
   refine et (vk9 1 4 5 6 7 10 78 79 80 (vc_block ?_))
   refine vc_once ?_
   refine sr ?_
   refine vy (y_lss rfl rfl) ?_
   refine et (vk10 1 4 5 6 7 10 78 79 80 81 (vc_seq ?_))
   refine vif ?_ ?_
   ·intro hc81
    exfalso; revert hc81; decide
   intro hc81
   try simp only [dn] at hc81
   refine vc_exit (vq_then_exit (vq_then_exit (vq_block_exit (vq_block (vq_then (vk5 1 4 5 6 7 (vc_region ?_)))))))
   refine ym ?_
   refine vy (y_add rfl rfl (by omega : _ = ((k + 1 : Nat) : Int)) (by omega) (by omega)) ?_
   refine ya ?_
   refine vc_end ?_
   refine vq_again (k + 1, some ⟨tb, 0, none⟩, _)  (by have h2 : min (k + 1 + 1) N.length = min (k + 1) N.length := (by omega); dsimp only; rw [h2]; exact ⟨rfl, rfl, rfl, rfl, rfl, trivial⟩) (by have h2 : min (k + 1 + 1) N.length = min (k + 1) N.length := (by omega); dsimp only; rw [h2]; exact st.drop (by repeat (first | exact List.Sublist.refl _ | apply List.Sublist.cons_cons | apply List.Sublist.cons))) ?_ ?_
   ·dsimp only; omega
   dsimp only; omega
  intro hc71
  try simp only [dn] at hc71
  have hxn : x ≠ .fin := fun e => by subst e; exact hc71 rfl
  have hmore : k + 1 < N.length := by have : ¬ k + 1 = N.length := fun e => hxn (hfin.2 e); omega
  have hm1 : min (k + 1) N.length = k + 1 := by omega
  refine vc_code_skip (vq_block (vq_then (vk7 1 4 5 6 7 9 10 (sr ?_))))
  refine vy ((by exact y_lda (vs := [_, _, _, _, _, _, _, _, _, _, _, _, _]) st 0 rfl isAgg103 sizeOf103 rfl rfl)) ?_
  refine vc_e (e_call [_] rfl rfl call110 rfl (fol_no x (by omega) _ _ _) ?_)
  rintro _ w ⟨⟨b25, rfl, hb, hlb⟩, cw⟩
  rw [show (if k + 1 = N.length then 0 else 0 + k + 1) = k + 1 by rw [if_neg (by omega)]; omega] at hb
  replace st := st.pushR cw (r := .blk b25 _) hb (by simpa [blk_at] using hlb)
  refine vy (y_lensl rfl underlying88) ?_
  refine ym ?_
  refine et (vk9 1 4 5 6 7 10 78 79 80 (vc_block ?_))
  refine vc_loop (w0 := w0) (M := []) (fun (x : Nat × Option Addr × Nat) => [(1, .pointer (some ⟨b1, 0, none⟩)), (4, .slice (some ⟨b16, 0, none⟩) N.length N.length), (5, .map (some b17)), (6, .slice x.2.1 (k + 1 + x.1) x.2.2), (7, .int .i64 (k : Int)), (10, .slice none 0 0), (78, .slice (some ⟨b25, 0, none⟩) 1 1), (79, .int .i64 1), (80, .int .i64 (x.1 : Int))]) (fun x => [.own (.slice x.2.1 (k + 1 + x.1) x.2.2) 3 1 (k + 1 + x.1) (intsV (k + 1 + x.1)), .blk b17 (mapI (setV (k + 1 + x.1))), .blk b25 (.cells [.int .i64 ((k + 1 : Nat) : Int)].toArray 3 (0, 0)), .own (.slice (some ⟨b16, 0, none⟩) N.length N.length) 88 1 N.length (List.replicate N.length (Value.slice none 0 0)), .blk b1 (.cells [str [97], .int .i64 0, .int .i64 (s : Int), .slice (some ⟨nb, 0, none⟩) N.length nc].toArray 98 (0, 0))]) (fun x w' => x.1 ≤ 1) (fun x => 1 - x.1) (0, some ⟨tb, 0, none⟩, cap) (by dsimp only; rw [hm1]; exact ⟨rfl, rfl, rfl, rfl, rfl, rfl, rfl, rfl, rfl, trivial⟩) (by dsimp only; rw [hm1] at st; exact st.pick [2, 3, 0, 4, 5] rfl (by decide)) (by simp) ?_
  clear st
  rintro ⟨j, oa2, cap2⟩ w hj st
  dsimp only at hj st ⊢
  refine sr ?_
  refine vy (y_lss rfl rfl) ?_
  refine et (vk10 1 4 5 6 7 10 78 79 80 81 (vc_seq ?_))
  refine vif ?_ ?_
  ·intro hc81
   try simp only [dn] at hc81
   have hj0 : j = 0 := by omega
   subst hj0
   refine kt (vk9 1 4 5 6 7 10 78 79 80 (vc_seq (vc_block (sr ?_))))
   refine vy ((by exact y_ia0 (k := 0) rfl rfl underlying88 sizeOf3 rfl (by omega))) ?_
   refine vy ((by exact y_ld st 2 rfl isAgg3 rfl rfl)) ?_
   refine ya ?_
   refine et (vk10 1 4 5 6 7 10 12 78 79 80 (sr ?_))
   iterate 2 refine ym ?_
   refine vc_e (e_lkI1 (z := .bool false) st 1 rfl rfl rfl rfl rfl underlying178 underlying3 zeroValue4 ?_)
   rw [show getI (setV (k + 1 + 0)) ((k + 1 : Nat) : Int) = none from setV_no (k + 1)]
   dsimp only [Option.getD]
   refine vy (y_not rfl) ?_
   refine et (vc_keep [(1, _), (4, _), (5, _), (6, _), (7, _), (10, _), (12, _), (78, _), (79, _), (80, _), (87, _)] ⟨rfl, rfl, rfl, rfl, rfl, rfl, rfl, rfl, rfl, rfl, rfl, trivial⟩ ?_)
   refine vif ?_ ?_
   ·intro hc87
    try simp only [dn] at hc87
    refine sr ?_
    iterate 2 refine ym ?_
    refine vc_e (e_muI st 1 rfl rfl rfl rfl rfl (.inr hb17) underlying178 underlying3 (setV_no (k + 1)) ?_)
    intro w st; dsimp only [setNth] at st
    rw [show setV (k + 1 + 0) ++ [(((k + 1 : Nat) : Int), Value.bool true)] = setV (k + 1 + 1) from (setV_succ (k + 1)).symm] at st
    refine et (vk10 1 4 5 6 7 10 12 78 79 80 (sr ?_))
    iterate 3 refine ym ?_
    refine vc_e (e_call [_] rfl rfl call109 rfl (clone0_any _) ?_)
    rintro _ _ ⟨rfl, rfl⟩
    refine vy ((by exact y_ia0 (k := (k + 1)) rfl rfl underlying152 sizeOf88 rfl (by omega))) ?_
    refine vc_e (e_stso (vs := [_]) st 3 rfl rfl rfl rfl rfl sizeOf88 rfl (by simp; omega) ?_)
    intro w st; dsimp only [setNth] at st
    simp only [Nat.mul_one, List.length_singleton] at st
    rw [repl_set _ _ _ hmore] at st
    refine et (vk10 1 4 5 6 7 10 12 78 79 80 (vc_region ?_))
    iterate 2 refine ym ?_
    refine vc_e (e_bs1 (l := [_]) st rfl rfl rfl rfl underlying88 sizeOf3 rfl rfl rfl zeroValue3 ?_)
    intro b97 w hb97 st
    refine vc_e (e_app (bytes := 8) st 1 0 rfl rfl rfl rfl rfl rfl underlying88 Tryz.info3 rfl rfl rfl rfl rfl (by simp) rfl rfl (by unfold maxLen; omega) (by omega) ?_)
    intro oa98 cap98 w st; dsimp only [setNth] at st
    refine ya ?_
    refine vc_end (vq_block (vq_then (vk9 1 4 5 6 7 10 78 79 80 (vc_region ?_))))
    rw [show intsV (k + 1 + 0) ++ [Value.int .i64 ((k + 1 : Nat) : Int)] = intsV (k + 1 + 1) from (intsV_succ (k + 1)).symm] at st
    refine vy (y_add rfl rfl (by omega : _ = ((0 + 1 : Nat) : Int)) (by omega) (by omega)) ?_
    refine ym ?_
    refine vc_end ?_
    refine vq_again (1, oa98, cap98)  ⟨rfl, rfl, rfl, rfl, rfl, rfl, rfl, rfl, rfl, trivial⟩ (st.drop (.cons _ (List.Sublist.refl _))) ?_ ?_
    ·exact Nat.le_refl _
    dsimp only; omega
   intro hc87
   exfalso; revert hc87; decide
  intro hc81
  try simp only [dn] at hc81
  have hj1 : j = 1 := by omega
  subst hj1
  refine vc_exit (vq_then_exit (vq_then_exit (vq_block_exit (vq_block (vq_then (vk5 1 4 5 6 7 (vc_region ?_)))))))
  refine ym ?_
  refine vy (y_add rfl rfl (by omega : _ = ((k + 1 : Nat) : Int)) (by omega) (by omega)) ?_
  refine ya ?_
  refine vc_end ?_
  refine vq_again (k + 1, oa2, cap2)  (by have h2 : min (k + 1 + 1) N.length = k + 1 + 1 := (by omega); dsimp only; rw [h2]; exact ⟨rfl, rfl, rfl, rfl, rfl, trivial⟩) (by have h2 : min (k + 1 + 1) N.length = k + 1 + 1 := (by omega); dsimp only; rw [h2]; exact st.pick [0, 1, 3, 4] rfl (by decide)) ?_ ?_
  ·dsimp only; omega
  dsimp only; omega
 intro hc23
 try simp only [dn] at hc23
 refine vc_exit (vq_then_exit (vq_then_exit (vq_block_exit (vq_then (vk1 4 (sr ?_))))))
 refine ym ?_
 iterate 2 refine ya ?_
 refine et (vk2 2 3 (vc_ret ?_))
 refine vq_ret2 st (.inl rfl) results53 (.tmp rfl) (.tmp rfl) ?_
 refine ⟨_, rfl, ?_⟩
 exact ⟨⟨_, rfl⟩, st.chg⟩
end Go.Proofs.YtjoepkpdanolkaaGreatDoor


namespace Go.Proofs.YtjoepkpdanolkaaGreatDoor
open Go.RowKit Sx LexS ParS _root_.Go.Proofs.Tryz

set_option maxHeartbeats 2000000 in
theorem gcheck_any (N : List Nd) (s gb nb gc nc : Nat) (o1 o2 : Option Addr) (c1 c2 : Nat) (hN : GN N s) (w : World) (hug : UG w gb nb nc N s) :
    Ret Tryz.prog 26 [.agg [.slice o1 0 c1, .slice o2 0 c2, .slice (some ⟨gb, 0, none⟩) 1 gc].toArray] w fun v w' => v = .tuple #[.int .i64 0, .int .i64 0, .int .i64 0] ∧ Chg [] w w' := by
 refine ret_of [_] func26 rfl ntmps26 rfl ?_
 have st := St.init w []
 obtain ⟨w0, rfl⟩ : ∃ w0, w0 = w := ⟨_, rfl⟩
 have hpos := hN.pos
 have hle := hN.le
 have hsl := hN.sl
 refine sr ?_
 refine vc_e (e_bx (l := [_, _, _]) st rfl rfl rfl rfl ?_)
 intro b1 w hb1 st
 iterate 3 refine ya ?_
 refine et (vk1 1 (vc_seq (sr ?_)))
 refine vy ((by exact y_lda (vs := [_, _, _]) st 0 rfl isAgg40 sizeOf40 rfl rfl)) ?_
 refine vc_e (e_call [_] rfl rfl call51 rfl (named_u s gb gc o1 o2 c1 c2 N.length nc (some ⟨nb, 0, none⟩) _ (fun i c h => st.chg.cell (hug.1 i c h) (by simp))) ?_)
 rintro _ w ⟨rfl, cw⟩
 replace st := st.call0 cw
 refine vy (y_not rfl) ?_
 refine et (vk2 1 13 ?_)
 refine vif ?_ ?_
 ·intro hc13
  exfalso; revert hc13; decide
 intro hc13
 try simp only [dn] at hc13
 refine kt (vk1 1 (vc_seq (sr ?_)))
 refine vy ((by exact y_faz (k := 2) rfl underlying40 rfl rfl sizeOf38 rfl)) ?_
 refine vy ((by exact y_ld st 0 rfl isAgg38 rfl rfl)) ?_
 refine vy (y_lensl rfl underlying38) ?_
 refine ym ?_
 refine et (vk4 1 15 16 17 (vc_block ?_))
 refine vc_loop (w0 := w0) (M := []) (fun (j : Nat) => [(1, .pointer (some ⟨b1, 0, none⟩)), (15, .slice (some ⟨gb, 0, none⟩) 1 gc), (16, .int .i64 1), (17, .int .i64 (j : Int))]) (fun j => [.blk b1 (.cells [.slice o1 0 c1, .slice o2 0 c2, .slice (some ⟨gb, 0, none⟩) 1 gc].toArray 40 (0, 0))]) (fun j w' => j ≤ 1) (fun j => 1 - j) 0 ⟨rfl, rfl, rfl, rfl, trivial⟩ (st.drop (by repeat (first | exact List.Sublist.refl _ | apply List.Sublist.cons_cons | apply List.Sublist.cons))) (by simp) ?_
 clear st
 intro j w hj st
 refine sr ?_
 refine vy (y_lss rfl rfl) ?_
 refine et (vk5 1 15 16 17 18 (vc_seq ?_))
 refine vif ?_ ?_
 ·intro hc18
  try simp only [dn] at hc18
  have hj0 : j = 0 := by omega
  subst hj0
  refine kt (vk4 1 15 16 17 (vc_seq (vc_block (sr ?_))))
  refine ym ?_
  refine vy ((by exact y_ia0 (k := 0) rfl rfl underlying38 sizeOf98 rfl (by omega))) ?_
  refine vy ((by exact y_ldca [str [97], .int .i64 0, .int .i64 (s : Int), .slice (some ⟨nb, 0, none⟩) N.length nc] rfl isAgg98 sizeOf98 rfl (fun i v hi => st.chg.cell (by rw [Nat.zero_mul, Nat.zero_add]; exact hug.1 i v hi) (by simp)))) ?_
  refine vc_e (e_al (l := [_, _, _, _]) st rfl rfl zeroValue98 rfl ?_)
  intro b6 w hb6 st
  refine ya ?_
  refine vc_e (ests st 0 [_, _, _, _] sizeOf98 ?_)
  intro w st; dsimp only [setNth, wr] at st
  refine et (vk6 1 5 6 15 16 17 (vc_seq (sr ?_)))
  refine vy ((by exact y_faz (k := 1) rfl underlying98 rfl rfl sizeOf3 rfl)) ?_
  refine vy ((by exact y_ld st 0 rfl isAgg3 rfl rfl)) ?_
  refine vy (y_lss rfl rfl) ?_
  refine vmb ?_ ?_
  ·intro hg25
   exfalso; revert hg25; decide
  intro hg25
  try simp only [dn] at hg25
  refine vy ((by exact y_faz (k := 1) rfl underlying98 rfl rfl sizeOf3 rfl)) ?_
  refine vy ((by exact y_ld st 0 rfl isAgg3 rfl rfl)) ?_
  refine vy (y_gtr rfl rfl) ?_
  refine ypf ?_
  refine vmb ?_ ?_
  ·intro hg30
   exfalso; revert hg30; decide
  intro hg30
  try simp only [dn] at hg30
  refine vy ((by exact y_faz (k := 2) rfl underlying98 rfl rfl sizeOf3 rfl)) ?_
  refine vy ((by exact y_ld st 0 rfl isAgg3 rfl rfl)) ?_
  refine vy ((by exact y_faz (k := 1) rfl underlying98 rfl rfl sizeOf3 rfl)) ?_
  refine vy ((by exact y_ld st 0 rfl isAgg3 rfl rfl)) ?_
  refine vy (y_lss rfl rfl) ?_
  refine ypf ?_
  refine vmb ?_ ?_
  ·intro hg37
   exfalso; simp only [decide_eq_true_eq] at hg37; omega
  intro hg37
  try simp only [dn] at hg37
  refine vy ((by exact y_faz (k := 2) rfl underlying98 rfl rfl sizeOf3 rfl)) ?_
  refine vy ((by exact y_ld st 0 rfl isAgg3 rfl rfl)) ?_
  refine vy (y_gtr rfl rfl) ?_
  refine ypf ?_
  refine vmb ?_ ?_
  ·intro hg42
   exfalso; simp only [decide_eq_true_eq] at hg42; omega
  intro hg42
  try simp only [dn] at hg42
  refine vy ((by exact y_faz (k := 3) rfl underlying98 rfl rfl sizeOf96 rfl)) ?_
  refine vy ((by exact y_ld st 0 rfl isAgg96 rfl rfl)) ?_
  refine vy (y_lensl rfl underlying96) ?_
  refine vy (y_lss rfl rfl) ?_
  refine ypf ?_
  refine vmb ?_ ?_
  ·intro hg48
   exfalso; simp only [decide_eq_true_eq] at hg48; omega
  intro hg48
  try simp only [dn] at hg48
  refine vy ((by exact y_faz (k := 3) rfl underlying98 rfl rfl sizeOf96 rfl)) ?_
  refine vy ((by exact y_ld st 0 rfl isAgg96 rfl rfl)) ?_
  refine vy (y_lensl rfl underlying96) ?_
  refine vy (y_gtr rfl rfl) ?_
  refine ypf ?_
  refine et (vk7 1 5 6 15 16 17 53 ?_)
  refine vif ?_ ?_
  ·intro hc53
   exfalso; simp only [decide_eq_true_eq] at hc53; omega
  intro hc53
  try simp only [dn] at hc53
  refine kt (vk6 1 5 6 15 16 17 (vc_seq (sr ?_)))
  refine vy ((by exact y_faz (k := 3) rfl underlying98 rfl rfl sizeOf96 rfl)) ?_
  refine vy ((by exact y_ld st 0 rfl isAgg96 rfl rfl)) ?_
  refine vy (y_lensl rfl underlying96) ?_
  refine ym ?_
  refine et (vk9 1 5 6 15 16 17 56 57 58 (vc_block ?_))
  refine vc_loop (w0 := w0) (M := []) (fun (k : Nat) => [(1, .pointer (some ⟨b1, 0, none⟩)), (15, .slice (some ⟨gb, 0, none⟩) 1 gc), (16, .int .i64 1), (17, .int .i64 0), (5, .int .i64 0), (6, .pointer (some ⟨b6, 0, none⟩)), (56, .slice (some ⟨nb, 0, none⟩) N.length nc), (57, .int .i64 (N.length : Int)), (58, .int .i64 (k : Int))]) (fun k => [.blk b6 (.cells [str [97], .int .i64 0, .int .i64 (s : Int), .slice (some ⟨nb, 0, none⟩) N.length nc].toArray 98 (0, 0)), .blk b1 (.cells [.slice o1 0 c1, .slice o2 0 c2, .slice (some ⟨gb, 0, none⟩) 1 gc].toArray 40 (0, 0))]) (fun k w' => k ≤ N.length) (fun k => N.length - k) 0 ⟨rfl, rfl, rfl, rfl, rfl, rfl, rfl, rfl, rfl, trivial⟩ (st.drop (by repeat (first | exact List.Sublist.refl _ | apply List.Sublist.cons_cons | apply List.Sublist.cons))) (by simp) ?_
  clear st
  intro k w hk st
  refine sr ?_
  refine vy (y_lss rfl rfl) ?_
  refine et (vk10 1 5 6 15 16 17 56 57 58 59 (vc_seq ?_))
  refine vif ?_ ?_
  ·intro hc59
   try simp only [dn] at hc59
   obtain ⟨x, hx⟩ : ∃ x, N[k]? = some x := ⟨_, List.getElem?_eq_getElem (by omega)⟩
   have hfin := hN.fin k x hx
   refine kt (vk9 1 5 6 15 16 17 56 57 58 (vc_seq (vc_block (sr ?_))))
   refine ym ?_
   refine vy ((by exact y_ia0 (k := k) rfl rfl underlying96 sizeOf103 rfl (by omega))) ?_
   refine vy ((by exact y_ldca (ndC x (if k + 1 = N.length then 0 else 0 + k + 1) (0 + k)) rfl isAgg103 sizeOf103 rfl (fun i v hi => st.chg.cell (hug.2 _ v (linO_cell 0 0 hx hi)) (by simp)))) ?_
   refine vc_e (e_al (l := [_, _, _, _, _, _, _, _, _, _, _, _, _]) st rfl rfl zeroValue103 rfl ?_)
   intro b8 w hb8 st
   refine ya ?_
   refine vc_e (ests st 0 [_, _, _, _, _, _, _, _, _, _, _, _, _] sizeOf103 ?_)
   intro w st; dsimp only [setNth, wr] at st
   refine et (vc_keep [(1, _), (5, _), (6, _), (7, _), (8, _), (15, _), (16, _), (17, _), (56, _), (57, _), (58, _)] ⟨rfl, rfl, rfl, rfl, rfl, rfl, rfl, rfl, rfl, rfl, rfl, trivial⟩ (sr ?_))
   refine vy ((by exact y_lda (vs := [_, _, _]) st 2 rfl isAgg40 sizeOf40 rfl rfl)) ?_
   refine vy ((by exact y_lda (vs := [_, _, _, _]) st 1 rfl isAgg98 sizeOf98 rfl rfl)) ?_
   refine vy ((by exact y_lda (vs := [_, _, _, _, _, _, _, _, _, _, _, _, _]) st 0 rfl isAgg103 sizeOf103 rfl rfl)) ?_
   refine vc_e (e_call [_, _, _] rfl rfl call52 rfl (right_any x s (if k + 1 = N.length then 0 else 0 + k + 1) (0 + k) N.length (hN.ok x (List.mem_of_getElem? hx)) (by omega) (by split <;> omega) (fun h => if_pos (hfin.1 h)) o1 o2 (some ⟨nb, 0, none⟩) c1 c2 nc _ _) ?_)
   rintro _ w ⟨rfl, cw⟩
   replace st := st.call0 cw
   refine vy (y_not rfl) ?_
   refine et (vc_keep [(1, _), (5, _), (6, _), (7, _), (15, _), (16, _), (17, _), (56, _), (57, _), (58, _), (67, _)] ⟨rfl, rfl, rfl, rfl, rfl, rfl, rfl, rfl, rfl, rfl, rfl, trivial⟩ ?_)
   refine vif ?_ ?_
   ·intro hc67
    exfalso; revert hc67; decide
   intro hc67
   try simp only [dn] at hc67
   refine vc_code_skip (vq_block (vq_then (vk9 1 5 6 15 16 17 56 57 58 (vc_region ?_))))
   refine vy (y_add rfl rfl (by omega : _ = ((k + 1 : Nat) : Int)) (by omega) (by omega)) ?_
   refine ym ?_
   refine vc_end ?_
   refine vq_again (k + 1)  ⟨rfl, rfl, rfl, rfl, rfl, rfl, rfl, rfl, rfl, trivial⟩ (st.drop (by repeat (first | exact List.Sublist.refl _ | apply List.Sublist.cons_cons | apply List.Sublist.cons))) ?_ ?_
   ·omega
   omega
  intro hc59
  try simp only [dn] at hc59
  refine vc_exit (vq_then_exit (vq_then_exit (vq_block_exit (vq_then (vk6 1 5 6 15 16 17 (sr ?_))))))
  refine vy ((by exact y_lda (vs := [_, _, _, _]) st 0 rfl isAgg98 sizeOf98 rfl rfl)) ?_
  refine vc_e (e_call [_] rfl rfl call53 rfl (held_any N s nb nc hN _ (fun i c h => st.chg.cell (hug.2 i c h) (by simp))) ?_)
  rintro _ w ⟨⟨lv, rfl⟩, cw⟩
  replace st := st.call0 cw
  refine ym ?_
  iterate 2 refine vy (y_ext rfl rfl) ?_
  iterate 2 refine ya ?_
  refine et (vk6 1 5 10 15 16 17 (sr ?_))
  refine ym ?_
  refine vy (y_geq rfl rfl) ?_
  refine et (vk7 1 5 10 15 16 17 77 ?_)
  refine vif ?_ ?_
  ·intro hc77
   exfalso; revert hc77; decide
  intro hc77
  try simp only [dn] at hc77
  refine vc_code_skip (vq_block (vq_then (vk4 1 15 16 17 (vc_region ?_))))
  refine vy (y_add rfl rfl (by omega : _ = ((0 + 1 : Nat) : Int)) (by omega) (by omega)) ?_
  refine ym ?_
  refine vc_end ?_
  refine vq_again 1  ⟨rfl, rfl, rfl, rfl, trivial⟩ (st.drop (by repeat (first | exact List.Sublist.refl _ | apply List.Sublist.cons_cons | apply List.Sublist.cons))) ?_ ?_
  ·omega
  omega
 intro hc18
 try simp only [dn] at hc18
 refine vc_exit (vq_then_exit (vq_then_exit (vq_block_exit (vq_then (vc_keep [] trivial (sr ?_))))))
 iterate 3 refine ya ?_
 refine et (vk3 2 3 4 (vc_ret ?_))
 refine vq_ret3 st (.inl rfl) results26 (.tmp rfl) (.tmp rfl) (.tmp rfl) ?_
 refine ⟨_, rfl, ?_⟩
 exact ⟨rfl, st.chg⟩
end Go.Proofs.YtjoepkpdanolkaaGreatDoor


/- The engine: pointers and nil; arrays of single cells; rows that are blocks; a cell that a drawn statement looks at. -/
namespace Sx
open Go Go.RowKit
section
variable {P : Program} {n : Fr} {L : List Oper} {Q : Exit → Act → World → Prop} {kn : Kn} {w w0 : World} {M : List Nat} {hs : List Res} {rest : List Oper}
variable {d ty : Nat} {pos : String} {aft : Array Edge} {g : Option (Nat × Bool)}
variable {N : Act → World → Prop}
theorem run_eqpn {T E : Nat} {p : Addr} (ht : P.underlying T = some (.pointer E)) : (Op.equal T (.pointer (some p)) (.pointer none)).run P w = .ok false w := by
  show (Op.equalIn (9999 + 1) T _ _).run P w = _
  unfold Op.equalIn
  simp [Sem.run_bind, run_underlying ht]
theorem y_eqpn {T U E : Nat} {x y : Operand} {p : Addr} (hx : evO kn x = some (.pointer (some p))) (hy : evO kn y = some (.pointer none)) (ht : P.underlying T = some (.pointer E)) :
    Y P n kn w ⟨some d, .binOp .eql T x y U, ty, pos, aft, g⟩ (.bool false) := y_bo hx hy (by
  have h1 : (eqGuard .eql T x y (.pointer (some p)) (.pointer none)).run P w = .ok () w := rfl
  rw [Sem.run_bind, h1, Result.andThen_ok]
  have h3 : binOp .eql T (.pointer (some p)) (.pointer none) = (do pure (.bool (← Op.equal T (.pointer (some p)) (.pointer none)))) := rfl
  rw [h3, Sem.run_bind, run_eqpn ht]; rfl)
theorem y_nepn {T U E : Nat} {x y : Operand} {p : Addr} (hx : evO kn x = some (.pointer (some p))) (hy : evO kn y = some (.pointer none)) (ht : P.underlying T = some (.pointer E)) :
    Y P n kn w ⟨some d, .binOp .neq T x y U, ty, pos, aft, g⟩ (.bool true) := y_bo hx hy (by
  have h1 : (eqGuard .neq T x y (.pointer (some p)) (.pointer none)).run P w = .ok () w := rfl
  rw [Sem.run_bind, h1, Result.andThen_ok]
  have h3 : binOp .neq T (.pointer (some p)) (.pointer none) = (do pure (.bool (!(← Op.equal T (.pointer (some p)) (.pointer none))))) := rfl
  rw [h3, Sem.run_bind, run_eqpn ht]; rfl)
/-- an array's element of one cell -/
theorem y_ix1 {T E i len : Nat} {x ix : Operand} {ik : IntKind} {ii : Int} {cs : List Value} {v : Value} (hx : evO kn x = some (.agg cs.toArray)) (hix : evO kn ix = some (.int ik ii)) (ht : P.underlying T = some (.array len E)) (hs : ∀ w, (Go.sizeOf E).run P w = .ok 1 w)
    (hi : ii = (i : Int)) (hlt : Nat.blt i len = true) (ha : ∀ w, (Go.isAgg E).run P w = .ok false w) (hv : nth cs i = some v) : Y P n kn w ⟨some d, .index T x ix, ty, pos, aft, g⟩ v := fun a hk => by
  subst hi
  have h2 : (i : Int) < (len : Int) := by have : i < len := by simpa [Nat.blt_eq] using hlt
                                          omega
  simp only [execOp, hk.ev hx, hk.ev hix]
  simp [Instr.index, asIntOf, run_underlying ht, hs, h2, run_part1 ha hv]
  intro h; omega
/-- a row as long as its block is the block -/
theorem own_blk {base E size len b : Nat} {xs : List Value} (h : w.ownsRow base E size (.slice (some ⟨b, 0, none⟩) len len) len xs) : w.heap[b]? = some (.cells xs.toArray E (0, 0)) := by
  obtain ⟨hx, h2⟩ := h
  rcases h2 with ⟨h0, -⟩ | ⟨g, cap, cur, h1, -, h3, -, -, h4, h5⟩
  · cases h0
  · simp only [Value.slice.injEq, Option.some.injEq, Addr.mk.injEq, and_true, true_and] at h1
    obtain ⟨rfl, rfl⟩ := h1
    have : cur.toList = xs := by rw [← h5, List.take_of_length_le (by simp [h4])]
    rw [h3, ← this]
theorem St.ownBlk {b E size len : Nat} {xs : List Value} (st : St w0 M (.own (.slice (some ⟨b, 0, none⟩) len len) E size len xs :: hs) w) : St w0 M (.blk b (.cells xs.toArray E (0, 0)) :: hs) w :=
  st.turn0 (fun k hk => by simpa [Res.at?, Value.ownBlock] using hk) (own_blk (st.res (i := 0) rfl))
/-- a cell that is looked at -/
def celR (b k : Nat) (v : Value) : Res := .tree [b] fun w => w.cell? ⟨b, k, none⟩ = some v
theorem celR_holds {b k E base : Nat} {l : List Value} {v : Value} {fz : Nat × Nat} (h : w.heap[b]? = some (.cells l.toArray E fz)) (hv : nth l k = some v) : (celR b k v).holds base w :=
  ⟨cell_blk h hv, fun x hx => by simp at hx; subst hx; exact (Array.getElem?_eq_some_iff.1 h).1, fun a c hs hk hp => (World.cell?_of_block (hk b (.head _))).trans hp⟩
theorem St.cel2 {b b' k k' E E' : Nat} {l l' : List Value} {v v' : Value} {fz fz' : Nat × Nat} (st : St w0 M hs w) (i j : Nat) (hij : i ≠ j) (hi : nth hs i = some (.blk b (.cells l.toArray E fz))) (hj : nth hs j = some (.blk b' (.cells l'.toArray E' fz'))) (hv : nth l k = some v) (hv' : nth l' k' = some v') :
    St w0 M [celR b k v, celR b' k' v'] w :=
  ⟨st.chg, List.pairwise_cons.2 ⟨fun x hx => by
      simp only [List.mem_singleton] at hx
      subst hx
      exact fun k hk hk' => apart_nth st.nodup hij hi hj k hk hk', List.pairwise_singleton _ _⟩, fun r hr => by
    simp only [List.mem_cons, List.not_mem_nil, or_false] at hr
    rcases hr with rfl | rfl
    · exact celR_holds (st.res hi) hv
    · exact celR_holds (st.res hj) hv'⟩
/-- words in a row -/
abbrev iL (l : List Int) : List Value := l.map fun z => Value.int .i64 z
theorem iL_nth {l : List Int} {k : Nat} (h : k < l.length) : nth (iL l) (k * 1) = some (.int .i64 (l.getD k 0)) := by
  rw [nth_eq, Nat.mul_one, List.getElem?_map, List.getElem?_eq_getElem h, List.getD_eq_getElem?_getD, List.getElem?_eq_getElem h]; rfl
theorem iL_set (l : List Int) (k : Nat) (z : Int) : setNth (iL l) (k * 1) (.int .i64 z) = iL (l.set k z) := by
  rw [setNth_eq, Nat.mul_one, iL, iL, List.map_set]
theorem iL_repl (n : Nat) : List.replicate n (Value.int .i64 0) = iL (List.replicate n 0) := by simp [iL]
end
end Sx


namespace Go.Proofs.YtjoepkpdanolkaaGreatDoor
open Go.RowKit Sx LexS ParS _root_.Go.Proofs.Tryz
/-- where a machine of one graph lies -/
structure MK where
 mb : Nat
 ab : Nat
 ib : Nat
 gb : Nat
 nb : Nat
 sb : Nat
 gc : Nat
 nc : Nat
 sc : Nat
 us : Value
 ul : Value
 me : Value
 ho : Value
 N : List Nd
 s : Nat
/-- the machine's cells -/
abbrev mcC (c : MK) (pv : Value) : List Value := [c.us, c.ul, .slice (some ⟨c.gb, 0, none⟩) 1 c.gc, .slice (some ⟨c.ab, 0, none⟩) 1 1, .slice (some ⟨c.sb, 0, none⟩) 1 c.sc, c.me, c.ho, pv]
/-- an action's cells -/
abbrev acC (mb : Nat) (x : Nd) (nx og : Nat) (k wd : Int) : List Value := .pointer (some ⟨mb, 0, none⟩) :: .int .i64 0 :: (ndC x nx og ++ [.int .i64 0, .int .i64 k, .int .u8 (nK x), .int .i64 0, .int .i64 wd, .int .i64 0])
/-- what stays -/
structure Mr (c : MK) (w : World) : Prop where
 g : ∀ (i : Nat) v, ([str [97], .int .i64 0, .int .i64 (c.s : Int), .slice (some ⟨c.nb, 0, none⟩) c.N.length c.nc] : List Value)[i]? = some v → w.cell? ⟨c.gb, i, none⟩ = some v
 n : ∀ (i : Nat) v, (linO c.N 0 0)[i]? = some v → w.cell? ⟨c.nb, i, none⟩ = some v
 s : w.cell? ⟨c.sb, 0, none⟩ = some (.slice (some ⟨c.ib, 0, none⟩) c.s c.s)
structure MkOk (c : MK) : Prop where
 gn : GN c.N c.s
 nd : [c.mb, c.ab, c.ib].Nodup
 g : c.gb ∉ [c.mb, c.ab, c.ib]
 n : c.nb ∉ [c.mb, c.ab, c.ib]
 s : c.sb ∉ [c.mb, c.ab, c.ib]

theorem mword_any (c : MK) (acb : Nat) (rest : List Value) (pv : Value) (σ : List Int) (v : Vl) (w : World) (ha : w.heap[acb]? = some (.cells (Value.pointer (some ⟨c.mb, 0, none⟩) :: .int .i64 0 :: rest).toArray 107 (0, 0))) (hm : w.heap[c.mb]? = some (.cells (mcC c pv).toArray 92 (0, 0))) (hi : w.heap[c.ib]? = some (.cells (iL σ).toArray 2 (0, 0))) (hs : w.cell? ⟨c.sb, 0, none⟩ = some (.slice (some ⟨c.ib, 0, none⟩) c.s c.s)) (hl : σ.length = c.s) (hv : inV c.s v) (hnd : [acb, c.mb, c.ib].Nodup) :
    Ret Tryz.prog 112 [.pointer (some ⟨acb, 0, none⟩), .agg (vlC v).toArray] w fun r w' => r = .int .i64 (vlW σ v) ∧ Chg [] w w' := by
 refine ret_of [_, _] func112 rfl ntmps112 rfl ?_
 have st := St.init w []
 obtain ⟨w0, rfl⟩ : ∃ w0, w0 = w := ⟨_, rfl⟩
 simp only [List.nodup_cons, List.mem_cons, List.not_mem_nil, or_false, not_or, List.nodup_nil, and_true] at hnd
 replace st := (((St.init w0 []).addB hi (by simp)).addB hm (by simp [blk_at]; omega)).addB ha (by simp [blk_at]; omega)
 refine sr ?_
 refine vc_e (e_bx (l := [_, _, _]) st rfl rfl rfl rfl ?_)
 intro b3 w hb3 st
 refine ya ?_
 refine et (vk2 0 3 (vc_seq (sr ?_)))
 refine vy (y_fa0 rfl underlying101 rfl rfl sizeOf4 rfl) ?_
 refine vy ((by exact y_ld st 0 rfl isAgg4 rfl rfl)) ?_
 refine et (vk3 0 3 6 ?_)
 refine vif ?_ ?_
 intro hc6
 try simp only [dn] at hc6
 obtain ⟨k, rfl⟩ : ∃ k, v = .slot k := by
  cases v with
  | num w => exact absurd hc6 (by simp [vB])
  | slot k => exact ⟨k, rfl⟩
 simp only [inV] at hv
 refine vc_seq ?_
 refine vdr0 Tryz.mixed [Yt 0, Yt 1, Yt 2, Yt 3, Yt 4, Yt 5, Yt 6, Yt 7, Yt 8, Yt 9, Yt 10, Yt 11, Yt 12, Yt 13, Yt 14, Yt 15, Yt 16, Yt 17] st ?_
 clear st; intro w st hS
 refine pm hS ?_
 refine pnk hS ?_
 refine pf0 hS underlying107 sizeOf43 ?_
 refine vp_take rfl rfl rfl hS (fun w st => (by exact y_ld st 1 rfl isAgg43 rfl rfl)) ?_
 refine pnk hS ?_
 refine vp_take rfl rfl rfl hS (fun w st => (by exact y_faz (k := 4) rfl underlying92 rfl rfl sizeOf89 rfl)) ?_
 refine vp_take rfl rfl rfl hS (fun w st => (by exact y_ld st 2 rfl isAgg89 rfl rfl)) ?_
 refine pm hS ?_
 refine pnk hS ?_
 refine vp_take rfl rfl rfl hS (fun w st => (by exact y_faz (k := 1) rfl underlying107 rfl rfl sizeOf3 rfl)) ?_
 refine vp_take rfl rfl rfl hS (fun w st => (by exact y_ld st 1 rfl isAgg3 rfl rfl)) ?_
 refine vp_take rfl rfl rfl hS (fun w st => (by exact y_ia0 (k := 0) rfl rfl underlying89 sizeOf90 rfl (by omega))) ?_
 refine vp_take rfl rfl rfl hS (fun w st => (by exact y_ldc rfl isAgg90 (st.chg.cell hs (by simp)))) ?_
 refine vp_take rfl rfl rfl hS (fun w st => (by exact y_faz (k := 1) rfl underlying101 rfl rfl sizeOf3 rfl)) ?_
 refine vp_take rfl rfl rfl hS (fun w st => (by exact y_ld st 0 rfl isAgg3 rfl rfl)) ?_
 refine vp_take rfl rfl rfl hS (fun w st => (by exact y_ia0 (k := k) rfl rfl underlying90 sizeOf2 rfl (by omega))) ?_
 refine vp_take rfl rfl rfl hS (fun w st => (by exact y_ld st 3 rfl isAgg2 rfl (iL_nth (by omega)))) ?_
 refine vp_take rfl rfl rfl hS (fun w st => y_as rfl) ?_
 refine vp_end (vq_then (vk1 4 (vc_ret (vq_then_ret ?_))))
 rotate_left
 intro hc6
 try simp only [dn] at hc6
 obtain ⟨k, rfl⟩ : ∃ k, v = .num k := by
  cases v with
  | num w => exact ⟨w, rfl⟩
  | slot k => exact absurd hc6 (by simp [vB])
 refine kt (vk1 3 (sr ?_))
 refine vy ((by exact y_faz (k := 2) rfl underlying101 rfl rfl sizeOf2 rfl)) ?_
 refine vy ((by exact y_ld st 0 rfl isAgg2 rfl rfl)) ?_
 refine ya ?_
 refine et (vk1 4 (vc_ret ?_))
 all_goals
  refine vr1 st results112 ?_
  exact ⟨rfl, st.chg⟩
theorem mgets_any (c : MK) (acb : Nat) (x : Nd) (nx og t : Nat) (k wd z : Int) (pv : Value) (σ : List Int) (w : World) (ha : w.heap[acb]? = some (.cells (acC c.mb x nx og k wd).toArray 107 (0, 0))) (hm : w.heap[c.mb]? = some (.cells (mcC c pv).toArray 92 (0, 0))) (hi : w.heap[c.ib]? = some (.cells (iL σ).toArray 2 (0, 0))) (hs : w.cell? ⟨c.sb, 0, none⟩ = some (.slice (some ⟨c.ib, 0, none⟩) c.s c.s)) (hl : σ.length = c.s) (hx : nS x = (t : Int)) (ht : t < c.s) (hnd : [acb, c.mb, c.ib].Nodup) (hsb : c.sb ∉ [acb, c.ib]) :
    Ret Tryz.prog 113 [.pointer (some ⟨acb, 0, none⟩), .int .i64 z] w fun r w' => w'.heap[acb]? = some (.cells (acC c.mb x nx og k z).toArray 107 (0, 0)) ∧ w'.heap[c.ib]? = some (.cells (iL (σ.set t z)).toArray 2 (0, 0)) ∧ Chg [acb, c.ib] w w' := by
 refine ret_of [_, _] func113 rfl ntmps113 rfl ?_
 have st := St.init w []
 obtain ⟨w0, rfl⟩ : ∃ w0, w0 = w := ⟨_, rfl⟩
 simp only [List.nodup_cons, List.mem_cons, List.not_mem_nil, or_false, not_or, List.nodup_nil, and_true] at hnd
 replace st := (((St.init w0 [acb, c.ib]).addB hi (by simp)).addB hm (by simp [blk_at]; omega)).addB ha (by simp [blk_at]; omega)
 refine vc_seq ?_
 refine vk_draw Tryz.mixed [(0, true), (1, true), (2, true), (7, true), (8, true), (9, true), (13, true), (14, true), (15, true), (16, true), (18, true), (3, true), (4, true), (5, true), (6, true), (10, true), (11, true), (12, true), (17, true), (19, true), (20, false)] 20 (fun w => St _ _ _ w) st (by kernel_rfl) (by repeat (first | exact okQ_noPan | exact okQ_body | exact okQ_bodyS | refine okQ_then ?_ | refine okQ_block ?_)) rfl (by kernel_rfl) rfl ?_
 intro w cd; replace st := st.call0 cd; clear cd
 have hS := st
 refine km hS ?_
 refine vk_takeU rfl rfl rfl rfl (fun _ => hS) (fun w => y_nck rfl) ?_
 refine vk_takeU rfl rfl rfl rfl (fun _ => hS) (fun w => y_fa0 rfl underlying107 rfl rfl sizeOf43 rfl) ?_
 refine km hS ?_
 refine vk_takeU rfl rfl rfl rfl (fun _ => hS) (fun w => y_nck rfl) ?_
 refine vk_takeU rfl rfl rfl rfl (fun _ => hS) (fun w => (by exact y_faz (k := 1) rfl underlying107 rfl rfl sizeOf3 rfl)) ?_
 refine km hS ?_
 refine vk_takeU rfl rfl rfl rfl (fun _ => hS) (fun w => y_nck rfl) ?_
 refine vk_takeU rfl rfl rfl rfl (fun _ => hS) (fun w => (by exact y_faz (k := 2) rfl underlying107 rfl rfl sizeOf103 rfl)) ?_
 refine vk_takeU rfl rfl rfl rfl (fun _ => hS) (fun w => (by exact y_fa (k := 2) rfl underlying103 rfl rfl sizeOf3 rfl)) ?_
 refine km hS ?_
 refine vk_take rfl rfl rfl rfl hS (fun w st => (by exact y_ld st 0 rfl isAgg43 rfl rfl)) ?_
 refine vk_takeU rfl rfl rfl rfl (fun _ => hS) (fun w => y_nck rfl) ?_
 refine vk_takeU rfl rfl rfl rfl (fun _ => hS) (fun w => (by exact y_faz (k := 4) rfl underlying92 rfl rfl sizeOf89 rfl)) ?_
 refine vk_take rfl rfl rfl rfl hS (fun w st => (by exact y_ld st 1 rfl isAgg89 rfl rfl)) ?_
 refine vk_take rfl rfl rfl rfl hS (fun w st => (by exact y_ld st 0 rfl isAgg3 rfl rfl)) ?_
 refine vk_takeU rfl rfl rfl rfl (fun _ => hS) (fun w => (by exact y_ia0 (k := 0) rfl rfl underlying89 sizeOf90 rfl (by omega))) ?_
 refine vk_take rfl rfl rfl rfl hS (fun w st => (by exact y_ldc rfl isAgg90 (st.chg.cell hs (hsb)))) ?_
 refine vk_take rfl rfl rfl rfl hS (fun w st => (by exact y_ld st 0 rfl isAgg3 rfl rfl)) ?_
 refine vk_takeU rfl rfl rfl rfl (fun _ => hS) (fun w => (by exact y_ia0 (k := t) rfl rfl underlying90 sizeOf2 hx (by omega))) ?_
 refine vk_do rfl rfl (e_st st 2 rfl rfl rfl rfl sizeOf2 rfl (by simp only [Nat.blt_eq, iL, List.length_map]; omega) (.inl (.tail _ (.head _))) ?_)
 intro w st; dsimp only [setNth, wr] at st
 rw [iL_set] at st
 refine vk_late ?_
 refine vk_end ?_
 refine vq_then (vk2 0 1 (vc_region ?_))
 iterate 2 refine ym ?_
 refine ynk ?_
 refine vy ((by exact y_faz (k := 15) rfl underlying107 rfl rfl sizeOf49 rfl)) ?_
 refine vy ((by exact y_fa (k := 4) rfl underlying49 rfl rfl sizeOf2 rfl)) ?_
 refine vc_e (e_st st 0 rfl rfl rfl rfl sizeOf2 rfl rfl (by (left; exact .head _)) ?_)
 intro w st; dsimp only [setNth, wr] at st
 refine vc_end ?_
 refine vq_ret0 (.inr rfl) results113 ?_
 refine ⟨_, rfl, ?_⟩
 exact ⟨st.res (i := 0) rfl, st.res (i := 2) rfl, st.chg⟩
set_option maxHeartbeats 1000000 in
theorem mset_any (c : MK) (acb m t : Nat) (va vb : Vl) (nx og : Nat) (k wd : Int) (pv : Value) (σ : List Int) (w : World) (hok : okF c.s (.set (m : Int) t va vb)) (ha : w.heap[acb]? = some (.cells (acC c.mb (.set (m : Int) t va vb) nx og k wd).toArray 107 (0, 0))) (hm : w.heap[c.mb]? = some (.cells (mcC c pv).toArray 92 (0, 0))) (hi : w.heap[c.ib]? = some (.cells (iL σ).toArray 2 (0, 0))) (hs : w.cell? ⟨c.sb, 0, none⟩ = some (.slice (some ⟨c.ib, 0, none⟩) c.s c.s)) (hl : σ.length = c.s) (hnd : [acb, c.mb, c.ib].Nodup) (hsb : c.sb ∉ [acb, c.ib]) :
    Ret Tryz.prog 55 [.pointer (some ⟨acb, 0, none⟩)] w fun r w' => r = .int .i64 (nx : Int) ∧ w'.heap[acb]? = some (.cells (acC c.mb (.set (m : Int) t va vb) nx og k (setW σ (m : Int) va vb)).toArray 107 (0, 0)) ∧ w'.heap[c.ib]? = some (.cells (iL (σ.set t (setW σ (m : Int) va vb))).toArray 2 (0, 0)) ∧ Chg [acb, c.ib] w w' := by
 refine ret_of [_] func55 rfl ntmps55 rfl ?_
 have st := St.init w []
 obtain ⟨w0, rfl⟩ : ∃ w0, w0 = w := ⟨_, rfl⟩
 have hnd2 := hnd
 simp only [List.nodup_cons, List.mem_cons, List.not_mem_nil, or_false, not_or, List.nodup_nil, and_true] at hnd
 replace st := (((St.init w0 [acb, c.ib]).addB hi (by simp)).addB hm (by simp [blk_at]; omega)).addB ha (by simp [blk_at]; omega)
 obtain ⟨o1, o2, o3, o4, o5, -⟩ := hok
 refine sr ?_
 refine ya ?_
 refine et (vk1 0 (sr ?_))
 iterate 2 refine ym ?_
 refine ynk ?_
 refine vy ((by exact y_faz (k := 2) rfl underlying107 rfl rfl sizeOf103 rfl)) ?_
 refine vy ((by exact y_fa (k := 4) rfl underlying103 rfl rfl sizeOf101 rfl)) ?_
 refine vy ((by exact y_lda (vs := [_, _, _]) st 0 rfl isAgg101 sizeOf101 rfl rfl)) ?_
 refine vc_e (e_call [_, _] rfl rfl call112 rfl (mword_any c acb _ pv σ va _ (st.res (i := 0) rfl) (st.res (i := 1) rfl) (st.res (i := 2) rfl) (st.chg.cell hs hsb) hl o4 hnd2) ?_)
 rintro _ w ⟨rfl, cw⟩
 replace st := st.call0 cw
 refine ya ?_
 refine et (vk2 0 3 (vc_seq (vc_block (sr ?_))))
 refine ym ?_
 refine ynk ?_
 refine vy ((by exact y_faz (k := 2) rfl underlying107 rfl rfl sizeOf103 rfl)) ?_
 refine vy ((by exact y_fa (k := 1) rfl underlying103 rfl rfl sizeOf24 rfl)) ?_
 refine vy ((by exact y_ld st 0 rfl isAgg24 rfl rfl)) ?_
 refine vc_e (e_call [_] rfl rfl call32 rfl (two_any _ _) ?_)
 rintro _ _ ⟨rfl, rfl⟩
 refine ya ?_
 refine et (vk3 0 3 11 ?_)
 refine vif ?_ ?_
 ·intro hc11
  try simp only [dn] at hc11
  have h2 : twoOp (m : Int) = true := hc11
  have hm2 : 1 ≤ m ∧ m ≤ 16 := by simp only [twoOp, decide_eq_true_eq] at h2; omega
  have hsw : setW σ (m : Int) va vb = wTwo (m : Int) (vlW σ va) (vlW σ vb) := by unfold setW; rw [if_pos h2]; rfl
  refine vdr0 Tryz.mixed [Yt 0, Yt 1, Yt 2, Yt 3, Yt 4, Yt 5, Yt 6, Yt 7, Yt 8, Yt 9, Yt 10, Yt 11, Nt 12, Nt 13, Yt 14, Yt 15, Yt 16, Yt 17] st ?_
  clear st; intro w st hS
  refine pm hS ?_
  refine pnk hS ?_
  refine vp_take rfl rfl rfl hS (fun w st => (by exact y_faz (k := 2) rfl underlying107 rfl rfl sizeOf103 rfl)) ?_
  refine vp_take rfl rfl rfl hS (fun w st => (by exact y_fa (k := 1) rfl underlying103 rfl rfl sizeOf24 rfl)) ?_
  refine vp_take rfl rfl rfl hS (fun w st => (by exact y_ld st 0 rfl isAgg24 rfl rfl)) ?_
  iterate 3 refine pm hS ?_
  refine pnk hS ?_
  refine vp_take rfl rfl rfl hS (fun w st => (by exact y_faz (k := 2) rfl underlying107 rfl rfl sizeOf103 rfl)) ?_
  refine vp_take rfl rfl rfl hS (fun w st => (by exact y_fa (k := 7) rfl underlying103 rfl rfl sizeOf101 rfl)) ?_
  refine vp_take rfl rfl rfl hS (fun w st => (by exact y_lda (vs := [_, _, _]) st 0 rfl isAgg101 sizeOf101 rfl rfl)) ?_
  refine vp_do rfl (e_call [_, _] rfl rfl call112 rfl (mword_any c acb _ pv σ vb _ (st.res (i := 0) rfl) (st.res (i := 1) rfl) (st.res (i := 2) rfl) (st.chg.cell hs hsb) hl o5 hnd2) ?_)
  rintro _ w ⟨rfl, cw⟩
  replace st := st.call0 cw
  refine vp_next (by exact st) ?_; intro hS
  refine vp_do rfl (e_call [_, _, _] rfl rfl call14 rfl (do_any m hm2 _ _ _) ?_)
  rintro _ w ⟨rfl, cw⟩
  replace st := st.call0 cw
  refine vp_next (by exact st) ?_; intro hS
  refine pm hS ?_
  iterate 2 refine vp_take rfl rfl rfl hS (fun w st => y_ext rfl rfl) ?_
  refine vp_take rfl rfl rfl hS (fun w st => y_as rfl) ?_
  refine vp_end (vq_block (vq_then (vk2 0 3 (sr ?_))))
  iterate 2 refine ym ?_
  refine vc_e (e_call [_, _] rfl rfl call113 rfl (mgets_any c acb (.set (m : Int) t va vb) nx og t k wd _ pv σ _ (st.res (i := 0) rfl) (st.res (i := 1) rfl) (st.res (i := 2) rfl) (st.chg.cell hs hsb) hl rfl o3 hnd2 hsb) ?_)
  rintro _ w ⟨g1, g2, cw⟩
  replace st := St.swapHead2 (r' := .blk acb (.cells (acC c.mb (.set (m : Int) t va vb) nx og k (setW σ (m : Int) va vb)).toArray 107 (0, 0))) (s' := .blk c.ib (.cells (iL (σ.set t (setW σ (m : Int) va vb))).toArray 2 (0, 0))) (st.pick [0, 2, 1] rfl (by decide)) cw (fun k hk => by
      rcases List.mem_cons.1 hk with rfl | hk
      · exact .inl (.head _)
      · exact .inr hk) (fun k hk => .inl hk) (fun k hk => hk) (fun k hk => hk) (by rw [hsw]; exact g1) (by rw [hsw]; exact g2)
  refine et (vk1 0 (sr ?_))
  refine ym ?_
  refine ynk ?_
  refine vy ((by exact y_faz (k := 2) rfl underlying107 rfl rfl sizeOf103 rfl)) ?_
  refine vy ((by exact y_fa (k := 10) rfl underlying103 rfl rfl sizeOf3 rfl)) ?_
  refine vy ((by exact y_ld st 0 rfl isAgg3 rfl rfl)) ?_
  refine ya ?_
  refine et (vk1 2 (vc_ret ?_))
  refine vr1 st results55 ?_
  exact ⟨rfl, st.res (i := 0) rfl, st.res (i := 1) rfl, st.chg⟩
 intro hc11
 try simp only [dn] at hc11
 have h2 : twoOp (m : Int) = false := hc11
 have hm2 : m = 17 ∨ m = 18 := by simp only [twoOp, decide_eq_false_iff_not] at h2; omega
 have hsw : setW σ (m : Int) va vb = wOne (m : Int) (vlW σ va) := by unfold setW; rw [if_neg (by rw [h2]; decide)]; rfl
 refine sr ?_
 refine ym ?_
 refine ynk ?_
 refine vy ((by exact y_faz (k := 2) rfl underlying107 rfl rfl sizeOf103 rfl)) ?_
 refine vy ((by exact y_fa (k := 1) rfl underlying103 rfl rfl sizeOf24 rfl)) ?_
 refine vy ((by exact y_ld st 0 rfl isAgg24 rfl rfl)) ?_
 refine vy (y_nei rfl rfl) ?_
 refine ya ?_
 refine et (vk3 0 3 35 ?_)
 refine vif ?_ ?_
 ·intro hc35
  try simp only [dn] at hc35
  refine vc_region ?_
  refine ym ?_
  refine ynk ?_
  refine vy ((by exact y_faz (k := 2) rfl underlying107 rfl rfl sizeOf103 rfl)) ?_
  refine vy ((by exact y_fa (k := 1) rfl underlying103 rfl rfl sizeOf24 rfl)) ?_
  refine vy ((by exact y_ld st 0 rfl isAgg24 rfl rfl)) ?_
  refine ym ?_
  refine vc_e (e_call [_, _] rfl rfl call21 rfl (one_any m hm2 _ _) ?_)
  rintro _ w ⟨rfl, cw⟩
  replace st := st.call0 cw
  refine ym ?_
  iterate 2 refine vy (y_ext rfl rfl) ?_
  refine ya ?_
  refine vc_end (vq_block (vq_then (vk2 0 3 (sr ?_))))
  iterate 2 refine ym ?_
  refine vc_e (e_call [_, _] rfl rfl call113 rfl (mgets_any c acb (.set (m : Int) t va vb) nx og t k wd _ pv σ _ (st.res (i := 0) rfl) (st.res (i := 1) rfl) (st.res (i := 2) rfl) (st.chg.cell hs hsb) hl rfl o3 hnd2 hsb) ?_)
  rintro _ w ⟨g1, g2, cw⟩
  replace st := St.swapHead2 (r' := .blk acb (.cells (acC c.mb (.set (m : Int) t va vb) nx og k (setW σ (m : Int) va vb)).toArray 107 (0, 0))) (s' := .blk c.ib (.cells (iL (σ.set t (setW σ (m : Int) va vb))).toArray 2 (0, 0))) (st.pick [0, 2, 1] rfl (by decide)) cw (fun k hk => by
      rcases List.mem_cons.1 hk with rfl | hk
      · exact .inl (.head _)
      · exact .inr hk) (fun k hk => .inl hk) (fun k hk => hk) (fun k hk => hk) (by rw [hsw]; exact g1) (by rw [hsw]; exact g2)
  refine et (vk1 0 (sr ?_))
  refine ym ?_
  refine ynk ?_
  refine vy ((by exact y_faz (k := 2) rfl underlying107 rfl rfl sizeOf103 rfl)) ?_
  refine vy ((by exact y_fa (k := 10) rfl underlying103 rfl rfl sizeOf3 rfl)) ?_
  refine vy ((by exact y_ld st 0 rfl isAgg3 rfl rfl)) ?_
  refine ya ?_
  refine et (vk1 2 (vc_ret ?_))
  refine vr1 st results55 ?_
  exact ⟨rfl, st.res (i := 0) rfl, st.res (i := 1) rfl, st.chg⟩
 intro hc35
 exfalso; have hz : nO (Nd.set (m : Int) t va vb) = 0 := by simpa using hc35
 simp only [nO] at hz
 omega
theorem Tryz.info55 : Tryz.prog.info? 55 = some Tryz.t55 := by kernel_rfl

set_option maxHeartbeats 1000000 in
theorem mprint_any (c : MK) (acb : Nat) (v : Vl) (nx og : Nat) (k wd : Int) (σ : List Int) (w : World) (hok : inV c.s v) (ha : w.heap[acb]? = some (.cells (acC c.mb (.prt v) nx og k wd).toArray 107 (0, 0))) (hm : w.heap[c.mb]? = some (.cells (mcC c (.slice none 0 0)).toArray 92 (0, 0))) (hi : w.heap[c.ib]? = some (.cells (iL σ).toArray 2 (0, 0))) (hs : w.cell? ⟨c.sb, 0, none⟩ = some (.slice (some ⟨c.ib, 0, none⟩) c.s c.s)) (hl : σ.length = c.s) (hnd : [acb, c.mb, c.ib].Nodup) (hsb : c.sb ∉ [acb, c.mb]) :
    Ret Tryz.prog 61 [.pointer (some ⟨acb, 0, none⟩)] w fun r w' => r = .int .i64 (nx : Int) ∧ w'.heap[acb]? = some (.cells (acC c.mb (.prt v) nx og k (vlW σ v)).toArray 107 (0, 0)) ∧ (∃ pb pc, w'.heap[c.mb]? = some (.cells (mcC c (.slice (some ⟨pb, 0, none⟩) 1 pc)).toArray 92 (0, 0)) ∧ w'.cell? ⟨pb, 0, none⟩ = some (.int .i64 0) ∧ w'.cell? ⟨pb, 1, none⟩ = some (.int .i64 (vlW σ v)) ∧ w.heap.size ≤ pb) ∧ Chg [acb, c.mb] w w' := by
 refine ret_of [_] func61 rfl ntmps61 rfl ?_
 have st := St.init w []
 obtain ⟨w0, rfl⟩ : ∃ w0, w0 = w := ⟨_, rfl⟩
 have hnd2 := hnd
 simp only [List.nodup_cons, List.mem_cons, List.not_mem_nil, or_false, not_or, List.nodup_nil, and_true] at hnd
 replace st := (((St.init w0 [acb, c.mb]).addB hi (by simp)).addB hm (by simp [blk_at]; omega)).addB ha (by simp [blk_at]; omega)
 refine sr ?_
 refine ya ?_
 refine et (vk1 0 (sr ?_))
 iterate 3 refine ym ?_
 refine ynk ?_
 refine vy ((by exact y_faz (k := 2) rfl underlying107 rfl rfl sizeOf103 rfl)) ?_
 refine vy ((by exact y_fa (k := 4) rfl underlying103 rfl rfl sizeOf101 rfl)) ?_
 refine vy ((by exact y_lda (vs := [_, _, _]) st 0 rfl isAgg101 sizeOf101 rfl rfl)) ?_
 refine vc_e (e_call [_, _] rfl rfl call112 rfl (mword_any c acb _ _ σ v _ (st.res (i := 0) rfl) (st.res (i := 1) rfl) (st.res (i := 2) rfl) (st.chg.cell hs hsb) hl hok hnd2) ?_)
 rintro _ w ⟨rfl, cw⟩
 replace st := st.call0 cw
 refine ynk ?_
 refine vy ((by exact y_faz (k := 15) rfl underlying107 rfl rfl sizeOf49 rfl)) ?_
 refine vy ((by exact y_fa (k := 4) rfl underlying49 rfl rfl sizeOf2 rfl)) ?_
 refine vc_e (e_st st 0 rfl rfl rfl rfl sizeOf2 rfl rfl (by (left; exact .head _)) ?_)
 intro w st; dsimp only [setNth, wr] at st
 refine et (vk1 0 (vc_seq ?_))
 replace st := st.ownNil 55 2
 refine vk_draw Tryz.mixed [(0, true), (1, true), (2, true), (4, true), (5, true), (6, true), (11, true), (12, true), (13, true), (15, true), (16, true), (17, true), (18, true), (3, true), (7, true), (8, true), (9, true), (10, true), (14, true), (19, true), (20, true), (21, false), (22, false), (23, true), (24, true), (25, false)] 25 (fun w => St _ _ [.blk acb (.cells (acC c.mb (.prt v) nx og k (vlW σ v)).toArray 107 (0, 0)), .blk c.mb (.cells (mcC c (.slice none 0 0)).toArray 92 (0, 0))] w) (by exact st.drop (by repeat (first | exact sl0 | apply sl1 | apply sl2))) (by kernel_rfl) (by repeat (first | exact okQ_noPan | exact okQ_body | exact okQ_bodyS | refine okQ_then ?_ | refine okQ_block ?_)) rfl (by kernel_rfl) rfl ?_
 intro w cd; replace st := st.call0 cd; clear cd
 have hS : St _ _ [.blk acb (.cells (acC c.mb (.prt v) nx og k (vlW σ v)).toArray 107 (0, 0)), .blk c.mb (.cells (mcC c (.slice none 0 0)).toArray 92 (0, 0))] w := (by exact st.drop (by repeat (first | exact sl0 | apply sl1 | apply sl2)))
 refine km hS ?_
 refine vk_takeU rfl rfl rfl rfl (fun _ => hS) (fun w => y_nck rfl) ?_
 refine vk_takeU rfl rfl rfl rfl (fun _ => hS) (fun w => y_fa0 rfl underlying107 rfl rfl sizeOf43 rfl) ?_
 refine km hS ?_
 refine vk_takeU rfl rfl rfl rfl (fun _ => hS) (fun w => y_nck rfl) ?_
 refine vk_takeU rfl rfl rfl rfl (fun _ => hS) (fun w => y_fa0 rfl underlying107 rfl rfl sizeOf43 rfl) ?_
 refine km hS ?_
 refine vk_takeU rfl rfl rfl rfl (fun _ => hS) (fun w => y_nck rfl) ?_
 refine vk_takeU rfl rfl rfl rfl (fun _ => hS) (fun w => (by exact y_faz (k := 1) rfl underlying107 rfl rfl sizeOf3 rfl)) ?_
 refine km hS ?_
 refine vk_takeU rfl rfl rfl rfl (fun _ => hS) (fun w => y_nck rfl) ?_
 refine vk_takeU rfl rfl rfl rfl (fun _ => hS) (fun w => (by exact y_faz (k := 15) rfl underlying107 rfl rfl sizeOf49 rfl)) ?_
 refine vk_takeU rfl rfl rfl rfl (fun _ => hS) (fun w => (by exact y_fa (k := 4) rfl underlying49 rfl rfl sizeOf2 rfl)) ?_
 iterate 2 refine vk_take rfl rfl rfl rfl hS (fun w st => (by exact y_ld st 0 rfl isAgg43 rfl rfl)) ?_
 refine vk_takeU rfl rfl rfl rfl (fun _ => hS) (fun w => y_nck rfl) ?_
 refine vk_takeU rfl rfl rfl rfl (fun _ => hS) (fun w => (by exact y_faz (k := 7) rfl underlying92 rfl rfl sizeOf52 rfl)) ?_
 refine vk_take rfl rfl rfl rfl hS (fun w st => (by exact y_ld st 1 rfl isAgg52 rfl rfl)) ?_
 refine vk_take rfl rfl rfl rfl hS (fun w st => (by exact y_ld st 0 rfl isAgg3 rfl rfl)) ?_
 refine vk_take rfl rfl rfl rfl hS (fun w st => (by exact y_ld st 0 rfl isAgg2 rfl rfl)) ?_
 refine vk_takeU rfl rfl rfl rfl (fun _ => hS) (fun w => ybd (.agg #[_, _]) [(0, _), (1, _)]) ?_
 refine vk_do rfl rfl (e_bs1 (l := [_, _]) st rfl rfl rfl rfl underlying52 sizeOf55 rfl rfl rfl zeroValue55 ?_)
 intro b35 w hb35 st
 refine vk_next (by exact st.drop (by repeat (first | exact sl0 | apply sl1 | apply sl2))) ?_; intro hS
 refine vk_do rfl rfl (e_app (bytes := 16) st 1 0 rfl rfl rfl rfl rfl rfl underlying52 Tryz.info55 rfl rfl rfl rfl rfl (by simp) rfl rfl (by unfold maxLen; omega) (by omega) ?_)
 intro oa36 cap36 w st; dsimp only [setNth] at st
 refine vk_next (by exact st.drop (by repeat (first | exact sl0 | apply sl1 | apply sl2))) ?_; intro hS
 refine vk_takeU rfl rfl rfl rfl (fun _ => hS) (fun w => y_nck rfl) ?_
 refine vk_takeU rfl rfl rfl rfl (fun _ => hS) (fun w => (by exact y_faz (k := 7) rfl underlying92 rfl rfl sizeOf52 rfl)) ?_
 refine vk_do rfl rfl (e_st st 3 rfl rfl rfl rfl sizeOf52 rfl rfl (by (left; simp)) ?_)
 intro w st; dsimp only [setNth, wr] at st
 refine vk_late ?_
 refine vk_end ?_
 refine vq_then (vk1 0 (sr ?_))
 refine ym ?_
 refine ynk ?_
 refine vy ((by exact y_faz (k := 2) rfl underlying107 rfl rfl sizeOf103 rfl)) ?_
 refine vy ((by exact y_fa (k := 10) rfl underlying103 rfl rfl sizeOf3 rfl)) ?_
 refine vy ((by exact y_ld st 2 rfl isAgg3 rfl rfl)) ?_
 refine ya ?_
 refine et (vk1 2 (vc_ret ?_))
 refine vr1 st results61 ?_
 obtain ⟨pb, pc, hg, -⟩ := own_form (st.res (i := 1) rfl) (by decide)
 simp only [Value.slice.injEq] at hg
 obtain ⟨rfl, -⟩ := hg
 exact ⟨rfl, st.res (i := 2) rfl, ⟨pb, _, st.res (i := 3) rfl, own_cell (st.res (i := 1) rfl) rfl, own_cell (st.res (i := 1) rfl) rfl, World.ownsRow.lt (st.res (i := 1) rfl) pb rfl |>.1⟩, st.chg⟩
abbrev actsV : List Value := [.nilFunc, .func (.func 55) #[] #[], .func (.func 56) #[] #[], .func (.func 57) #[] #[], .func (.func 58) #[] #[], .func (.func 59) #[] #[], .func (.func 60) #[] #[], .func (.func 61) #[] #[], .func (.func 62) #[] #[], .nilFunc]

theorem actions_any (w : World) : Ret Tryz.prog 30 [] w fun v w' => v = .agg actsV.toArray ∧ Chg [] w w' := by
 refine ret_of [] func30 rfl ntmps30 rfl ?_
 have st := St.init w []
 refine sr ?_
 refine vc_e (e_al (l := [_, _, _, _, _, _, _, _, _, _]) st rfl rfl zeroValue109 rfl ?_)
 intro b0 w hb0 st
 refine et (vk1 0 (sr ?_))
 refine vy (ybd (.agg #[_, _, _, _, _, _, _, _, _, _]) [(1, _), (2, _), (3, _), (4, _), (5, _), (6, _), (7, _), (8, _)]) ?_
 refine vc_e (e_sts (vs := [_, _, _, _, _, _, _, _, _, _]) st 0 rfl rfl rfl rfl rfl sizeOf109 rfl rfl (by (right; assumption)) ?_)
 intro w st; dsimp only [setNth, wr] at st
 refine et (vk1 0 (vc_ret ?_))
 refine vq_ret1 st (.inl rfl) results30 (by exact .cell 0 rfl rfl isAgg109 sizeOf109) ?_
 refine ⟨_, rfl, ?_⟩
 exact ⟨rfl, st.chg⟩
end Go.Proofs.YtjoepkpdanolkaaGreatDoor


namespace Go.Proofs.YtjoepkpdanolkaaGreatDoor
open Go.RowKit Sx LexS ParS _root_.Go.Proofs.Tryz
theorem Mr.kept {c : MK} {M : List Nat} {w w' : World} (h : Mr c w) (ch : Chg M w w') (hg : c.gb ∉ M) (hn : c.nb ∉ M) (hs : c.sb ∉ M) : Mr c w' :=
 ⟨fun i v hi => ch.cell (h.g i v hi) hg, fun i v hi => ch.cell (h.n i v hi) hn, ch.cell h.s hs⟩

theorem there_any (c : MK) (pv : Value) (w : World) (hm : w.heap[c.mb]? = some (.cells (mcC c pv).toArray 92 (0, 0))) : Ret Tryz.prog 54 [.pointer (some ⟨c.mb, 0, none⟩), .int .i64 0] w fun v w' => v = .bool true ∧ w' = w := by
 refine ret_of [_, _] func54 rfl ntmps54 rfl ?_
 have st := St.init w []
 replace st := St.of1 [] hm
 refine sr ?_
 refine ya ?_
 refine et (vk2 0 1 (sr ?_))
 refine ym ?_
 refine vy (y_nepn rfl rfl underlying43) ?_
 refine vmb ?_ ?_
 ·intro hg7
  try simp only [dn] at hg7
  refine ym ?_
  refine vy (y_geq rfl rfl) ?_
  refine ypt ?_
  refine vmb ?_ ?_
  ·intro hg11
   try simp only [dn] at hg11
   iterate 2 refine ym ?_
   refine ynk ?_
   refine vy ((by exact y_faz (k := 3) rfl underlying92 rfl rfl sizeOf88 rfl)) ?_
   refine vy ((by exact y_ld st 0 rfl isAgg88 rfl rfl)) ?_
   refine vy (y_lensl rfl underlying88) ?_
   refine vy (y_lss rfl rfl) ?_
   refine ypt ?_
   refine ya ?_
   refine et (vk1 4 (vc_ret ?_))
   refine vr1 st results54 ?_
   exact ⟨rfl, rfl⟩
  intro hg11
  exfalso; revert hg11; decide
 intro hg7
 exfalso; revert hg7; decide
set_option maxHeartbeats 1000000 in
theorem bar_any (c : MK) (pv : Value) (k : Nat) (x : Nd) (w : World) (ok : MkOk c) (hm : w.heap[c.mb]? = some (.cells (mcC c pv).toArray 92 (0, 0))) (hat : w.heap[c.ab]? = some (.cells [.int .i64 (k : Int)].toArray 3 (0, 0))) (hr : Mr c w) (hx : c.N[k]? = some x) : Ret Tryz.prog 29 [.pointer (some ⟨c.mb, 0, none⟩), .int .i64 0] w fun v w' => v = .int .i64 (if nK x = 9 then 70 else 0) ∧ Chg [] w w' := by
 refine ret_of [_, _] func29 rfl ntmps29 rfl ?_
 have st := St.init w []
 obtain ⟨w0, rfl⟩ : ∃ w0, w0 = w := ⟨_, rfl⟩
 have hne : c.mb ≠ c.ab := by have := ok.nd; simp at this; omega
 replace st := St.of2 [] hm hat hne
 have hK : nK x = 1 ∨ nK x = 7 ∨ nK x = 9 := by cases x <;> simp [nK]
 have hkl : k < c.N.length := (List.getElem?_eq_some_iff.1 hx).1
 refine sr ?_
 refine ya ?_
 refine et (vk2 0 1 (vc_seq (vc_block (sr ?_))))
 refine ym ?_
 refine vy (y_eqpn rfl rfl underlying43) ?_
 refine ya ?_
 refine et (vk3 0 1 6 ?_)
 refine vif ?_ ?_
 ·intro hc6
  exfalso; revert hc6; decide
 intro hc6
 try simp only [dn] at hc6
 refine sr ?_
 iterate 2 refine ym ?_
 refine vc_e (e_call [_, _] rfl rfl call54 rfl (there_any c pv _ (st.res (i := 0) rfl)) ?_)
 rintro _ _ ⟨rfl, rfl⟩
 refine vy (y_not rfl) ?_
 refine ya ?_
 refine et (vk3 0 1 9 ?_)
 refine vif ?_ ?_
 ·intro hc9
  exfalso; revert hc9; decide
 intro hc9
 try simp only [dn] at hc9
 refine vc_code_skip (vq_block (vq_then (vk2 0 1 (vc_seq ?_))))
 refine vdr0 Tryz.mixed [Yt 0, Yt 1, Yt 2, Yt 3, Yt 4, Yt 5, Yt 6, Yt 7, Yt 8, Yt 9, Yt 10, Yt 11, Yt 12, Yt 13, Yt 14, Yt 15, Yt 16, Yt 17, Nt 18, Nt 19] st ?_
 clear st; intro w st hS
 refine pm hS ?_
 refine pnk hS ?_
 refine pf0 hS underlying92 sizeOf40 ?_
 refine vp_take rfl rfl rfl hS (fun w st => (by exact y_faz (k := 2) rfl underlying40 rfl rfl sizeOf38 rfl)) ?_
 refine vp_take rfl rfl rfl hS (fun w st => (by exact y_ld st 0 rfl isAgg38 rfl rfl)) ?_
 refine pm hS ?_
 refine vp_take rfl rfl rfl hS (fun w st => (by exact y_ia0 (k := 0) rfl rfl underlying38 sizeOf98 rfl (by omega))) ?_
 refine vp_take rfl rfl rfl hS (fun w st => (by exact y_faz (k := 3) rfl underlying98 rfl rfl sizeOf96 rfl)) ?_
 refine vp_take rfl rfl rfl hS (fun w st => (by exact y_ldc rfl isAgg96 (st.chg.cell (hr.g 3 _ rfl) (by simp)))) ?_
 refine pm hS ?_
 refine pnk hS ?_
 refine vp_take rfl rfl rfl hS (fun w st => (by exact y_faz (k := 3) rfl underlying92 rfl rfl sizeOf88 rfl)) ?_
 refine vp_take rfl rfl rfl hS (fun w st => (by exact y_ld st 0 rfl isAgg88 rfl rfl)) ?_
 refine pm hS ?_
 refine vp_take rfl rfl rfl hS (fun w st => (by exact y_ia0 (k := 0) rfl rfl underlying88 sizeOf3 rfl (by omega))) ?_
 refine vp_take rfl rfl rfl hS (fun w st => (by exact y_ld st 1 rfl isAgg3 rfl rfl)) ?_
 refine vp_take rfl rfl rfl hS (fun w st => (by exact y_ia0 (k := k) rfl rfl underlying96 sizeOf103 rfl (by omega))) ?_
 refine vp_take rfl rfl rfl hS (fun w st => (by exact y_ldca (ndC x (if k + 1 = c.N.length then 0 else 0 + k + 1) (0 + k)) rfl isAgg103 sizeOf103 rfl (fun i v hi => st.chg.cell (hr.n _ v (linO_cell 0 0 hx hi)) (by simp)))) ?_
 refine vp_do rfl (e_al (l := [_, _, _, _, _, _, _, _, _, _, _, _, _]) st rfl rfl zeroValue103 rfl ?_)
 intro b5 w hb5 st
 refine vp_next (by exact st.drop (by repeat (first | exact sl0 | apply sl1 | apply sl2))) ?_; intro hS
 refine vp_do rfl (ests st 0 [_, _, _, _, _, _, _, _, _, _, _, _, _] sizeOf103 ?_)
 intro w st; dsimp only [setNth, wr] at st
 refine vp_next (by exact st.drop (by repeat (first | exact sl0 | apply sl1 | apply sl2))) ?_; intro hS
 refine vp_end (vq_then (vk2 0 5 (vc_seq (vc_block (sr ?_)))))
 refine vy (y_fa0 rfl underlying103 rfl rfl sizeOf47 rfl) ?_
 refine vy ((by exact y_ld st 0 rfl isAgg47 rfl rfl)) ?_
 refine vy (y_eqi rfl rfl) ?_
 refine ya ?_
 refine et (vk3 0 5 32 ?_)
 refine vif ?_ ?_
 ·intro hc32
  try simp only [dn] at hc32
  refine sr ?_
  refine ya ?_
  refine et (vk1 4 (vc_ret (vq_block_ret (vq_then_ret ?_))))
  refine vr1 st results29 ?_
  refine ⟨?_, st.chg⟩
  rw [if_pos hc32]
 intro hc32
 try simp only [dn] at hc32
 refine vc_seq ?_
 refine vdr0 Tryz.mixed [Yt 0, Yt 1, Yt 2, Yt 3, Yt 4, Yt 5, Yt 6, Yt 7, Yt 8, Yt 9, Yt 10, Yt 11, Yt 12, Yt 13, Yt 14] st ?_
 clear st; intro w st hS
 refine pf0 hS underlying103 sizeOf47 ?_
 refine vp_take rfl rfl rfl hS (fun w st => (by exact y_ld st 0 rfl isAgg47 rfl rfl)) ?_
 refine vp_take rfl rfl rfl hS (fun w st => y_eqi rfl rfl) ?_
 refine vp_part rfl rfl rfl hS rfl ?_ ?_
 ·intro hg40
  exfalso; simp only [decide_eq_true_eq] at hg40; omega
 intro hg40
 try simp only [dn] at hg40
 iterate 9 refine vp_skip rfl rfl rfl hS ?_
 refine vp_take rfl rfl rfl hS (fun w st => y_pickf rfl rfl) ?_
 refine vp_take rfl rfl rfl hS (fun w st => y_as rfl) ?_
 refine vp_end (vq_then (vk1 36 ?_))
 refine vc_iff rfl ?_
 refine vc_code_skip (vq_block (vq_then (vc_keep [] trivial (sr ?_))))
 refine ya ?_
 refine et (vk1 4 (vc_ret ?_))
 refine vr1 st results29 ?_
 refine ⟨?_, st.chg⟩
 rw [if_neg hc32]
theorem can_any (c : MK) (pv : Value) (k : Nat) (x : Nd) (w : World) (ok : MkOk c) (hm : w.heap[c.mb]? = some (.cells (mcC c pv).toArray 92 (0, 0))) (hat : w.heap[c.ab]? = some (.cells [.int .i64 (k : Int)].toArray 3 (0, 0))) (hr : Mr c w) (hx : c.N[k]? = some x) : Ret Tryz.prog 10 [.pointer (some ⟨c.mb, 0, none⟩), .int .i64 0] w fun v w' => v = .bool (decide (nK x ≠ 9)) ∧ Chg [] w w' := by
 refine ret_of [_, _] func10 rfl ntmps10 rfl ?_
 have st := St.init w []
 refine sr ?_
 refine ya ?_
 refine et (vk2 0 1 (sr ?_))
 iterate 2 refine ym ?_
 refine vc_e (e_call [_, _] rfl rfl call29 rfl (bar_any c pv k x _ ok hm hat hr hx) ?_)
 rintro _ w ⟨rfl, cw⟩
 replace st := st.call0 cw
 refine vy (y_eqi rfl rfl) ?_
 refine ya ?_
 refine et (vk1 4 (vc_ret ?_))
 refine vr1 st results10 ?_
 refine ⟨?_, st.chg⟩
 show Value.bool _ = Value.bool _
 congr 1
 by_cases h : nK x = 9 <;> simp [h]
theorem ended_any (c : MK) (pv : Value) (k : Nat) (x : Nd) (w : World) (ok : MkOk c) (hm : w.heap[c.mb]? = some (.cells (mcC c pv).toArray 92 (0, 0))) (hat : w.heap[c.ab]? = some (.cells [.int .i64 (k : Int)].toArray 3 (0, 0))) (hr : Mr c w) (hx : c.N[k]? = some x) (hK : nK x = 9) : Ret Tryz.prog 13 [.pointer (some ⟨c.mb, 0, none⟩)] w fun v w' => v = .bool true ∧ Chg [] w w' := by
 refine ret_of [_] func13 rfl ntmps13 rfl ?_
 have st := St.init w []
 obtain ⟨w0, rfl⟩ : ∃ w0, w0 = w := ⟨_, rfl⟩
 replace st := St.of1 [] hm
 refine sr ?_
 refine ya ?_
 refine et (vk1 0 (vc_seq (sr ?_)))
 refine ym ?_
 refine vy (y_eqpn rfl rfl underlying43) ?_
 refine et (vk2 0 5 ?_)
 refine vif ?_ ?_
 ·intro hc5
  exfalso; revert hc5; decide
 intro hc5
 try simp only [dn] at hc5
 refine kt (vk1 0 (vc_seq (sr ?_)))
 refine ym ?_
 refine ynk ?_
 refine vy ((by exact y_faz (k := 3) rfl underlying92 rfl rfl sizeOf88 rfl)) ?_
 refine vy ((by exact y_ld st 0 rfl isAgg88 rfl rfl)) ?_
 refine vy (y_lensl rfl underlying88) ?_
 refine ym ?_
 refine et (vk3 0 10 11 (vc_block ?_))
 refine vc_loop (w0 := w0) (M := []) (fun (j : Nat) => [(0, .pointer (some ⟨c.mb, 0, none⟩)), (10, .int .i64 1), (11, .int .i64 (j : Int))]) (fun _ => []) (fun j w' => j ≤ 1) (fun j => 1 - j) 0 ⟨rfl, rfl, rfl, trivial⟩ (st.drop (by simp)) (by simp) ?_
 clear st
 intro j w hj st
 refine sr ?_
 refine vy (y_lss rfl rfl) ?_
 refine et (vk4 0 10 11 12 (vc_seq ?_))
 refine vif ?_ ?_
 ·intro hc12
  try simp only [dn] at hc12
  have hj0 : j = 0 := by omega
  subst hj0
  refine kt (vk3 0 10 11 (vc_seq (vc_block (sr ?_))))
  refine ym ?_
  refine ya ?_
  refine et (vk4 0 3 10 11 (sr ?_))
  iterate 2 refine ym ?_
  refine vc_e (e_call [_, _] rfl rfl call29 rfl (bar_any c pv k x _ ok ((st.chg.block _ (Array.getElem?_eq_some_iff.1 hm).1 (by simp)).trans hm) ((st.chg.block _ (Array.getElem?_eq_some_iff.1 hat).1 (by simp)).trans hat) (hr.kept st.chg (by simp) (by simp) (by simp)) hx) ?_)
  rintro _ w ⟨rfl, cw⟩
  replace st := st.call0 cw
  rw [if_pos hK]
  refine vy (y_nei rfl rfl) ?_
  refine et (vk4 0 10 11 17 ?_)
  refine vif ?_ ?_
  ·intro hc17
   exfalso; revert hc17; decide
  intro hc17
  try simp only [dn] at hc17
  refine vc_code_skip (vq_block (vq_then (vk3 0 10 11 (vc_region ?_))))
  refine vy (y_add rfl rfl (by omega : _ = ((0 + 1 : Nat) : Int)) (by omega) (by omega)) ?_
  refine ym ?_
  refine vc_end ?_
  refine vq_again 1  ⟨rfl, rfl, rfl, trivial⟩ (st.drop (by simp)) ?_ ?_
  ·omega
  omega
 intro hc12
 try simp only [dn] at hc12
 refine vc_exit (vq_then_exit (vq_then_exit (vq_block_exit (vq_then (vc_keep [] trivial (sr ?_))))))
 refine ya ?_
 refine et (vk1 2 (vc_ret ?_))
 refine vr1 st results13 ?_
 exact ⟨rfl, st.chg⟩
theorem cloneP_any (pb pc : Nat) (z : Int) (w : World) (hc : ∀ (i : Nat) v, ([.int .i64 0, .int .i64 z] : List Value)[i]? = some v → w.cell? ⟨pb, i, none⟩ = some v) : Ret Tryz.prog 31 [.slice (some ⟨pb, 0, none⟩) 1 pc] w fun v w' => (∃ b c', v = .slice (some ⟨b, 0, none⟩) 1 c' ∧ w'.ownsRow w.heap.size 55 2 (.slice (some ⟨b, 0, none⟩) 1 c') 1 [.int .i64 0, .int .i64 z]) ∧ Chg [] w w' := by
 refine ret_of [_] func31 rfl ntmps31 rfl ?_
 have st := St.init w []
 obtain ⟨w0, rfl⟩ : ∃ w0, w0 = w := ⟨_, rfl⟩
 refine sr ?_
 refine ya ?_
 refine et (vk1 0 (vc_seq (sr ?_)))
 refine ym ?_
 refine vy (y_eqsn rfl rfl underlying52) ?_
 refine et (vk2 0 4 ?_)
 refine vif ?_ ?_
 ·intro hc4
  exact absurd hc4 (by simp)
 intro hc4
 try simp only [dn] at hc4
 refine kt (vk1 0 (sr ?_))
 refine vc_e (e_bs0 st rfl rfl underlying52 sizeOf55 ?_)
 intro b5 w hb5 st
 refine ym ?_
 refine vc_e (e_appr (bytes := 16) (l := [.int .i64 0, .int .i64 z]) (len' := 1) (ys := [.int .i64 0, .int .i64 z]) st 0 rfl rfl rfl rfl rfl (.inr ⟨⟨pb, 0, none⟩, rfl, fun k u hk => by rw [addr_add, Nat.zero_add]; exact st.chg.cell (hc k u hk) (by simp)⟩) underlying52 Tryz.info55 rfl rfl rfl rfl rfl rfl (by simp [Value.oneCell']) (by decide) (by decide) rfl rfl ?_)
 intro o7 c7 w st; dsimp only [setNth] at st
 refine ya ?_
 refine et (vk1 2 (vc_ret ?_))
 refine vr1 st results31 ?_
 obtain ⟨b, c2, hg, -⟩ := own_form (st.res (i := 0) rfl) (by decide)
 simp only [Value.slice.injEq] at hg
 obtain ⟨rfl, -⟩ := hg
 exact ⟨⟨b, c7, rfl, st.res (i := 0) rfl⟩, st.chg⟩
theorem prints_any (c : MK) (pb pc : Nat) (z : Int) (w : World) (hm : w.heap[c.mb]? = some (.cells (mcC c (.slice (some ⟨pb, 0, none⟩) 1 pc)).toArray 92 (0, 0))) (hc : ∀ (i : Nat) v, ([.int .i64 0, .int .i64 z] : List Value)[i]? = some v → w.cell? ⟨pb, i, none⟩ = some v) : Ret Tryz.prog 12 [.pointer (some ⟨c.mb, 0, none⟩)] w fun v w' => (∃ b c', v = .slice (some ⟨b, 0, none⟩) 1 c' ∧ w'.ownsRow w.heap.size 55 2 (.slice (some ⟨b, 0, none⟩) 1 c') 1 [.int .i64 0, .int .i64 z]) ∧ Chg [] w w' := by
 refine ret_of [_] func12 rfl ntmps12 rfl ?_
 have st := St.init w []
 obtain ⟨w0, rfl⟩ : ∃ w0, w0 = w := ⟨_, rfl⟩
 replace st := St.of1 [] hm
 refine sr ?_
 refine ya ?_
 refine et (vk1 0 (vc_seq (sr ?_)))
 refine ym ?_
 refine vy (y_eqpn rfl rfl underlying43) ?_
 refine et (vk2 0 4 ?_)
 refine vif ?_ ?_
 ·intro hc4
  exfalso; revert hc4; decide
 intro hc4
 try simp only [dn] at hc4
 refine kt (vk1 0 (sr ?_))
 refine ym ?_
 refine ynk ?_
 refine vy ((by exact y_faz (k := 7) rfl underlying92 rfl rfl sizeOf52 rfl)) ?_
 refine vy ((by exact y_ld st 0 rfl isAgg52 rfl rfl)) ?_
 refine vc_e (e_call [_] rfl rfl call31 rfl (cloneP_any pb pc z _ (fun i v hi => st.chg.cell (hc i v hi) (by simp))) ?_)
 rintro _ w ⟨⟨b, c2, rfl, ho⟩, cw⟩
 have hsz := st.chg.size
 replace st := st.call0 cw
 refine ya ?_
 refine et (vk1 2 (vc_ret ?_))
 refine vr1 st results12 ?_
 exact ⟨⟨b, c2, rfl, ownsRow_base ho hsz⟩, st.chg⟩
set_option maxHeartbeats 2000000 in
theorem step_set (c : MK) (pv : Value) (mm t : Nat) (va vb : Vl) (k : Nat) (σ : List Int) (w : World) (ok : MkOk c) (hm : w.heap[c.mb]? = some (.cells (mcC c pv).toArray 92 (0, 0))) (hat : w.heap[c.ab]? = some (.cells [.int .i64 (k : Int)].toArray 3 (0, 0))) (hi : w.heap[c.ib]? = some (.cells (iL σ).toArray 2 (0, 0))) (hr : Mr c w) (hl : σ.length = c.s) (hx : c.N[k]? = some (.set (mm : Int) t va vb)) :
    Ret Tryz.prog 11 [.pointer (some ⟨c.mb, 0, none⟩), .int .i64 0] w fun v w' => w'.heap[c.mb]? = some (.cells (mcC c pv).toArray 92 (0, 0)) ∧ w'.heap[c.ib]? = some (.cells (iL (σ.set t (setW σ (mm : Int) va vb))).toArray 2 (0, 0)) ∧ w'.heap[c.ab]? = some (.cells [.int .i64 ((if k + 1 = c.N.length then 0 else k + 1) : Nat)].toArray 3 (0, 0)) ∧ Chg [c.mb, c.ab, c.ib] w w' := by
 refine ret_of [_, _] func11 rfl ntmps11 rfl ?_
 have st := St.init w []
 obtain ⟨w0, rfl⟩ : ∃ w0, w0 = w := ⟨_, rfl⟩
 have hnd := ok.nd
 simp only [List.nodup_cons, List.mem_cons, List.not_mem_nil, or_false, not_or, List.nodup_nil, and_true] at hnd
 have hgm := ok.g
 have hnm := ok.n
 have hsm := ok.s
 have hkl : k < c.N.length := (List.getElem?_eq_some_iff.1 hx).1
 replace st := (((St.init w0 [c.mb, c.ab, c.ib]).addB hi (by simp)).addB hat (by simp [blk_at]; omega)).addB hm (by simp [blk_at]; omega)
 have hok : okF c.s (.set (mm : Int) t va vb) := ok.gn.ok _ (List.mem_of_getElem? hx)
 refine sr ?_
 refine vc_e (e_al (l := [_, _, _, _, _, _]) st rfl rfl zeroValue49 rfl ?_)
 intro b4 w hb4 st
 refine ya ?_
 refine et (vk3 0 1 4 (vc_seq (sr ?_)))
 iterate 2 refine ym ?_
 refine vc_e (e_call [_, _] rfl rfl call29 rfl (bar_any c pv k _ _ ok (st.res (i := 1) rfl) (st.res (i := 2) rfl) (hr.kept st.chg hgm hnm hsm) hx) ?_)
 rintro _ w ⟨rfl, cw⟩
 replace st := st.call0 cw
 refine ya ?_
 refine et (vk4 0 1 4 6 (sr ?_))
 refine ym ?_
 refine vy (y_nei rfl rfl) ?_
 refine et (vk5 0 1 4 6 13 ?_)
 refine vif ?_ ?_
 ·intro hc13
  exfalso; simp [nK] at hc13
 intro hc13
 try simp only [dn] at hc13
 refine kt (vk3 0 1 4 (sr ?_))
 refine ym ?_
 refine ynk ?_
 refine vy ((by exact y_faz (k := 3) rfl underlying92 rfl rfl sizeOf88 rfl)) ?_
 refine vy ((by exact y_ld st 1 rfl isAgg88 rfl rfl)) ?_
 refine ym ?_
 refine vy ((by exact y_ia0 (k := 0) rfl rfl underlying88 sizeOf3 rfl (by omega))) ?_
 refine vy ((by exact y_ld st 2 rfl isAgg3 rfl rfl)) ?_
 refine ya ?_
 refine et (vk4 0 1 4 7 (sr ?_))
 iterate 3 refine ym ?_
 refine ynk ?_
 refine vy (y_fa0 rfl underlying92 rfl rfl sizeOf40 rfl) ?_
 refine vy ((by exact y_faz (k := 2) rfl underlying40 rfl rfl sizeOf38 rfl)) ?_
 refine vy ((by exact y_ld st 1 rfl isAgg38 rfl rfl)) ?_
 refine ym ?_
 refine vy ((by exact y_ia0 (k := 0) rfl rfl underlying38 sizeOf98 rfl (by omega))) ?_
 refine vy ((by exact y_faz (k := 3) rfl underlying98 rfl rfl sizeOf96 rfl)) ?_
 refine vy ((by exact y_ldc rfl isAgg96 (st.chg.cell (hr.g 3 _ rfl) hgm))) ?_
 refine ym ?_
 refine vy ((by exact y_ia0 (k := k) rfl rfl underlying96 sizeOf103 rfl (by omega))) ?_
 refine vy ((by exact y_ldca (ndC (.set (mm : Int) t va vb) (if k + 1 = c.N.length then 0 else 0 + k + 1) (0 + k)) rfl isAgg103 sizeOf103 rfl (fun i v hi => st.chg.cell (hr.n _ v (linO_cell 0 0 hx hi)) hnm))) ?_
 refine vy (ybd (.agg #[_, _, _, _, _, _, _, _, _, _, _, _, _, _, _, _, _, _, _, _, _]) [(0, _), (1, _), (2, _)]) ?_
 refine vc_e (e_bx (l := [_, _, _, _, _, _, _, _, _, _, _, _, _, _, _, _, _, _, _, _, _]) st rfl rfl rfl rfl ?_)
 intro b38 w hb38 st
 refine ya ?_
 refine et (vk5 0 1 4 7 8 (sr ?_))
 iterate 4 refine ym ?_
 refine ynk ?_
 refine vy ((by exact y_faz (k := 2) rfl underlying107 rfl rfl sizeOf103 rfl)) ?_
 refine vy (y_fa0 rfl underlying103 rfl rfl sizeOf47 rfl) ?_
 refine vy ((by exact y_ld st 0 rfl isAgg47 rfl rfl)) ?_
 refine vy (ybd (.agg #[_, _, _, _, _, _]) [(0, _), (1, _), (2, _)]) ?_
 refine ynk ?_
 refine vy ((by exact y_faz (k := 15) rfl underlying107 rfl rfl sizeOf49 rfl)) ?_
 refine vc_e (ests st 0 [_, _, _, _, _, _] sizeOf49 ?_)
 intro w st; dsimp only [setNth, wr] at st
 refine et (vk4 0 1 4 8 (vc_seq ?_))
 have hsA := st.chg.size
 have hgl := World.block_lt_of_cell? w0 _ (hr.g 0 _ rfl)
 have hsl := World.block_lt_of_cell? w0 _ hr.s
 have hsb : c.sb ∉ [b38, c.ib] := by simp at hsm ⊢; exact ⟨by simp only at hsl; omega, hsm.2.2⟩
 have hsb2 : c.sb ∉ [b38, c.mb] := by simp at hsm ⊢; exact ⟨by simp only at hsl; omega, hsm.1⟩
 have e1 := st.bne 0 2 (by decide) rfl rfl
 have e2 := st.bne 0 4 (by decide) rfl rfl
 have hnd3 : [b38, c.mb, c.ib].Nodup := by simp; omega
 refine vc_draw Tryz.mixed [(0, true), (1, true), (2, true), (3, true), (4, true), (6, true), (7, true), (8, true), (9, true), (10, true), (12, true), (5, false), (11, true), (13, false), (14, true), (15, false)] (fun w => St _ _ [celR c.mb 3 (.slice (some ⟨c.ab, 0, none⟩) 1 1), celR b38 2 (.int .u8 (nK (.set (mm : Int) t va vb)))] w) (st.cel2 2 0 (by decide) rfl rfl rfl rfl) (by kernel_rfl) (by repeat (first | exact okQ_noPan | exact okQ_body | exact okQ_bodyS | refine okQ_then ?_ | refine okQ_block ?_)) rfl (by kernel_rfl) ?_
 intro w cd; replace st := st.call0 cd; clear cd
 have hS : St _ _ [celR c.mb 3 (.slice (some ⟨c.ab, 0, none⟩) 1 1), celR b38 2 (.int .u8 (nK (.set (mm : Int) t va vb)))] w := (st.cel2 2 0 (by decide) rfl rfl rfl rfl)
 refine pm hS ?_
 refine pnk hS ?_
 refine vp_take rfl rfl rfl hS (fun w st => (by exact y_faz (k := 3) rfl underlying92 rfl rfl sizeOf88 rfl)) ?_
 refine vp_take rfl rfl rfl hS (fun w st => (by exact y_ldc rfl isAgg88 (st.res (i := 0) rfl).1)) ?_
 iterate 2 refine pm hS ?_
 refine pnk hS ?_
 refine vp_take rfl rfl rfl hS (fun w st => (by exact y_faz (k := 2) rfl underlying107 rfl rfl sizeOf103 rfl)) ?_
 refine pf0 hS underlying103 sizeOf47 ?_
 refine vp_take rfl rfl rfl hS (fun w st => (by exact y_ldc rfl isAgg47 (st.res (i := 1) rfl).1)) ?_
 refine pm hS ?_
 refine vp_do rfl (e_call [] rfl rfl call30 rfl (actions_any _) ?_)
 rintro _ w ⟨rfl, cw⟩
 replace st := st.call0 cw
 refine vp_next (st.cel2 2 0 (by decide) rfl rfl rfl rfl) ?_; intro hS
 refine vp_take rfl rfl rfl hS (fun w st => y_ix1 (i := 1) rfl rfl underlying109 sizeOf108 rfl rfl isAgg108 rfl) ?_
 refine vp_do rfl (e_callv [_] rfl rfl rfl call55 rfl (mset_any c b38 mm t va vb (if k + 1 = c.N.length then 0 else k + 1) k _ _ pv σ _ hok (st.res (i := 0) rfl) (st.res (i := 2) rfl) (st.res (i := 4) rfl) (st.chg.cell hr.s hsm) hl hnd3 hsb) ?_)
 rintro _ w ⟨rfl, g1, g2, cw⟩
 replace st := (St.swapHead2 (r' := .blk b38 (.cells (acC c.mb (.set (mm : Int) t va vb) (if k + 1 = c.N.length then 0 else k + 1) k _ (setW σ (mm : Int) va vb)).toArray 107 (0, 0))) (s' := .blk c.ib (.cells (iL (σ.set t (setW σ (mm : Int) va vb))).toArray 2 (0, 0))) (st.pick [0, 4, 2, 3, 1] rfl (by decide)) cw (fun k hk => by
     rcases List.mem_cons.1 hk with rfl | hk
     · exact .inl (.head _)
     · exact .inr hk) (fun k hk => by
     rcases List.mem_cons.1 hk with rfl | hk
     · exact .inr hb38
     · exact .inl (by simp at hk; simp [hk])) (fun k hk => hk) (fun k hk => hk) g1 g2)
 refine vp_next (st.cel2 2 0 (by decide) rfl rfl rfl rfl) ?_; intro hS
 refine vp_take rfl rfl rfl hS (fun w st => (by exact y_ia0 (k := 0) rfl rfl underlying88 sizeOf3 rfl (by omega))) ?_
 refine vp_do rfl (est st 3 sizeOf3 ?_)
 intro w st; dsimp only [setNth, wr] at st
 refine vp_next (st.cel2 2 0 (by decide) rfl rfl rfl rfl) ?_; intro hS
 refine vp_end (vq_then (vk2 4 8 (sr ?_)))
 refine ym ?_
 refine ynk ?_
 refine vy ((by exact y_faz (k := 15) rfl underlying107 rfl rfl sizeOf49 rfl)) ?_
 refine vy ((by exact y_lda (vs := [_, _, _, _, _, _]) st 0 rfl isAgg49 sizeOf49 rfl rfl)) ?_
 refine vc_e (ests st 4 [_, _, _, _, _, _] sizeOf49 ?_)
 intro w st; dsimp only [setNth, wr] at st
 refine ya ?_
 refine et (vk2 4 5 (vc_ret ?_))
 refine vq_ret2 st (.inl rfl) results11 (by exact .cell 4 rfl rfl isAgg49 sizeOf49) (.tmp rfl) ?_
 refine ⟨_, rfl, ?_⟩
 exact ⟨st.res (i := 2) rfl, st.res (i := 1) rfl, st.res (i := 3) rfl, st.chg⟩
set_option maxHeartbeats 2000000 in
theorem step_prt (c : MK) (vl : Vl) (k : Nat) (σ : List Int) (w : World) (ok : MkOk c) (hm : w.heap[c.mb]? = some (.cells (mcC c (.slice none 0 0)).toArray 92 (0, 0))) (hat : w.heap[c.ab]? = some (.cells [.int .i64 (k : Int)].toArray 3 (0, 0))) (hi : w.heap[c.ib]? = some (.cells (iL σ).toArray 2 (0, 0))) (hr : Mr c w) (hl : σ.length = c.s) (hx : c.N[k]? = some (.prt vl)) :
    Ret Tryz.prog 11 [.pointer (some ⟨c.mb, 0, none⟩), .int .i64 0] w fun v w' => (∃ pb pc, w'.heap[c.mb]? = some (.cells (mcC c (.slice (some ⟨pb, 0, none⟩) 1 pc)).toArray 92 (0, 0)) ∧ w'.cell? ⟨pb, 0, none⟩ = some (.int .i64 0) ∧ w'.cell? ⟨pb, 1, none⟩ = some (.int .i64 (vlW σ vl))) ∧ w'.heap[c.ib]? = some (.cells (iL σ).toArray 2 (0, 0)) ∧ w'.heap[c.ab]? = some (.cells [.int .i64 ((if k + 1 = c.N.length then 0 else k + 1) : Nat)].toArray 3 (0, 0)) ∧ Chg [c.mb, c.ab, c.ib] w w' := by
 refine ret_of [_, _] func11 rfl ntmps11 rfl ?_
 have st := St.init w []
 obtain ⟨w0, rfl⟩ : ∃ w0, w0 = w := ⟨_, rfl⟩
 have hnd := ok.nd
 simp only [List.nodup_cons, List.mem_cons, List.not_mem_nil, or_false, not_or, List.nodup_nil, and_true] at hnd
 have hgm := ok.g
 have hnm := ok.n
 have hsm := ok.s
 have hkl : k < c.N.length := (List.getElem?_eq_some_iff.1 hx).1
 replace st := (((St.init w0 [c.mb, c.ab, c.ib]).addB hi (by simp)).addB hat (by simp [blk_at]; omega)).addB hm (by simp [blk_at]; omega)
 have hok : okF c.s (.prt vl) := ok.gn.ok _ (List.mem_of_getElem? hx)
 refine sr ?_
 refine vc_e (e_al (l := [_, _, _, _, _, _]) st rfl rfl zeroValue49 rfl ?_)
 intro b4 w hb4 st
 refine ya ?_
 refine et (vk3 0 1 4 (vc_seq (sr ?_)))
 iterate 2 refine ym ?_
 refine vc_e (e_call [_, _] rfl rfl call29 rfl (bar_any c (.slice none 0 0) k _ _ ok (st.res (i := 1) rfl) (st.res (i := 2) rfl) (hr.kept st.chg hgm hnm hsm) hx) ?_)
 rintro _ w ⟨rfl, cw⟩
 replace st := st.call0 cw
 refine ya ?_
 refine et (vk4 0 1 4 6 (sr ?_))
 refine ym ?_
 refine vy (y_nei rfl rfl) ?_
 refine et (vk5 0 1 4 6 13 ?_)
 refine vif ?_ ?_
 ·intro hc13
  exfalso; simp [nK] at hc13
 intro hc13
 try simp only [dn] at hc13
 refine kt (vk3 0 1 4 (sr ?_))
 refine ym ?_
 refine ynk ?_
 refine vy ((by exact y_faz (k := 3) rfl underlying92 rfl rfl sizeOf88 rfl)) ?_
 refine vy ((by exact y_ld st 1 rfl isAgg88 rfl rfl)) ?_
 refine ym ?_
 refine vy ((by exact y_ia0 (k := 0) rfl rfl underlying88 sizeOf3 rfl (by omega))) ?_
 refine vy ((by exact y_ld st 2 rfl isAgg3 rfl rfl)) ?_
 refine ya ?_
 refine et (vk4 0 1 4 7 (sr ?_))
 iterate 3 refine ym ?_
 refine ynk ?_
 refine vy (y_fa0 rfl underlying92 rfl rfl sizeOf40 rfl) ?_
 refine vy ((by exact y_faz (k := 2) rfl underlying40 rfl rfl sizeOf38 rfl)) ?_
 refine vy ((by exact y_ld st 1 rfl isAgg38 rfl rfl)) ?_
 refine ym ?_
 refine vy ((by exact y_ia0 (k := 0) rfl rfl underlying38 sizeOf98 rfl (by omega))) ?_
 refine vy ((by exact y_faz (k := 3) rfl underlying98 rfl rfl sizeOf96 rfl)) ?_
 refine vy ((by exact y_ldc rfl isAgg96 (st.chg.cell (hr.g 3 _ rfl) hgm))) ?_
 refine ym ?_
 refine vy ((by exact y_ia0 (k := k) rfl rfl underlying96 sizeOf103 rfl (by omega))) ?_
 refine vy ((by exact y_ldca (ndC (.prt vl) (if k + 1 = c.N.length then 0 else 0 + k + 1) (0 + k)) rfl isAgg103 sizeOf103 rfl (fun i v hi => st.chg.cell (hr.n _ v (linO_cell 0 0 hx hi)) hnm))) ?_
 refine vy (ybd (.agg #[_, _, _, _, _, _, _, _, _, _, _, _, _, _, _, _, _, _, _, _, _]) [(0, _), (1, _), (2, _)]) ?_
 refine vc_e (e_bx (l := [_, _, _, _, _, _, _, _, _, _, _, _, _, _, _, _, _, _, _, _, _]) st rfl rfl rfl rfl ?_)
 intro b38 w hb38 st
 refine ya ?_
 refine et (vk5 0 1 4 7 8 (sr ?_))
 iterate 4 refine ym ?_
 refine ynk ?_
 refine vy ((by exact y_faz (k := 2) rfl underlying107 rfl rfl sizeOf103 rfl)) ?_
 refine vy (y_fa0 rfl underlying103 rfl rfl sizeOf47 rfl) ?_
 refine vy ((by exact y_ld st 0 rfl isAgg47 rfl rfl)) ?_
 refine vy (ybd (.agg #[_, _, _, _, _, _]) [(0, _), (1, _), (2, _)]) ?_
 refine ynk ?_
 refine vy ((by exact y_faz (k := 15) rfl underlying107 rfl rfl sizeOf49 rfl)) ?_
 refine vc_e (ests st 0 [_, _, _, _, _, _] sizeOf49 ?_)
 intro w st; dsimp only [setNth, wr] at st
 refine et (vk4 0 1 4 8 (vc_seq ?_))
 have hsA := st.chg.size
 have hgl := World.block_lt_of_cell? w0 _ (hr.g 0 _ rfl)
 have hsl := World.block_lt_of_cell? w0 _ hr.s
 have hsb : c.sb ∉ [b38, c.ib] := by simp at hsm ⊢; exact ⟨by simp only at hsl; omega, hsm.2.2⟩
 have hsb2 : c.sb ∉ [b38, c.mb] := by simp at hsm ⊢; exact ⟨by simp only at hsl; omega, hsm.1⟩
 have e1 := st.bne 0 2 (by decide) rfl rfl
 have e2 := st.bne 0 4 (by decide) rfl rfl
 have hnd3 : [b38, c.mb, c.ib].Nodup := by simp; omega
 refine vc_draw Tryz.mixed [(0, true), (1, true), (2, true), (3, true), (4, true), (6, true), (7, true), (8, true), (9, true), (10, true), (12, true), (5, false), (11, true), (13, false), (14, true), (15, false)] (fun w => St _ _ [celR c.mb 3 (.slice (some ⟨c.ab, 0, none⟩) 1 1), celR b38 2 (.int .u8 (nK (.prt vl)))] w) (st.cel2 2 0 (by decide) rfl rfl rfl rfl) (by kernel_rfl) (by repeat (first | exact okQ_noPan | exact okQ_body | exact okQ_bodyS | refine okQ_then ?_ | refine okQ_block ?_)) rfl (by kernel_rfl) ?_
 intro w cd; replace st := st.call0 cd; clear cd
 have hS : St _ _ [celR c.mb 3 (.slice (some ⟨c.ab, 0, none⟩) 1 1), celR b38 2 (.int .u8 (nK (.prt vl)))] w := (st.cel2 2 0 (by decide) rfl rfl rfl rfl)
 refine pm hS ?_
 refine pnk hS ?_
 refine vp_take rfl rfl rfl hS (fun w st => (by exact y_faz (k := 3) rfl underlying92 rfl rfl sizeOf88 rfl)) ?_
 refine vp_take rfl rfl rfl hS (fun w st => (by exact y_ldc rfl isAgg88 (st.res (i := 0) rfl).1)) ?_
 iterate 2 refine pm hS ?_
 refine pnk hS ?_
 refine vp_take rfl rfl rfl hS (fun w st => (by exact y_faz (k := 2) rfl underlying107 rfl rfl sizeOf103 rfl)) ?_
 refine pf0 hS underlying103 sizeOf47 ?_
 refine vp_take rfl rfl rfl hS (fun w st => (by exact y_ldc rfl isAgg47 (st.res (i := 1) rfl).1)) ?_
 refine pm hS ?_
 refine vp_do rfl (e_call [] rfl rfl call30 rfl (actions_any _) ?_)
 rintro _ w ⟨rfl, cw⟩
 replace st := st.call0 cw
 refine vp_next (st.cel2 2 0 (by decide) rfl rfl rfl rfl) ?_; intro hS
 refine vp_take rfl rfl rfl hS (fun w st => y_ix1 (i := 7) rfl rfl underlying109 sizeOf108 rfl rfl isAgg108 rfl) ?_
 refine vp_do rfl (e_callv [_] rfl rfl rfl call61 rfl (mprint_any c b38 vl (if k + 1 = c.N.length then 0 else k + 1) k _ _ σ _ hok (st.res (i := 0) rfl) (st.res (i := 2) rfl) (st.res (i := 4) rfl) (st.chg.cell hr.s hsm) hl hnd3 hsb2) ?_)
 rintro _ w ⟨rfl, g1, ⟨pb, pc, g2, g3, g4, g5⟩, cw⟩
 have l1 := st.lt (mem_nth (i := 0) rfl) (.head _)
 have l2 := st.lt (mem_nth (i := 1) rfl) (.head _)
 have l3 := st.lt (mem_nth (i := 2) rfl) (.head _)
 have l4 := st.lt (mem_nth (i := 3) rfl) (.head _)
 have l5 := st.lt (mem_nth (i := 4) rfl) (.head _)
 replace st := (St.swapHead2 (r' := .blk b38 (.cells (acC c.mb (.prt vl) (if k + 1 = c.N.length then 0 else k + 1) k _ (vlW σ vl)).toArray 107 (0, 0))) (s' := .blk c.mb (.cells (mcC c (.slice (some ⟨pb, 0, none⟩) 1 pc)).toArray 92 (0, 0))) (st.pick [0, 2, 3, 4, 1] rfl (by decide)) cw (fun k hk => by
     rcases List.mem_cons.1 hk with rfl | hk
     · exact .inl (.head _)
     · exact .inr hk) (fun k hk => by
     rcases List.mem_cons.1 hk with rfl | hk
     · exact .inr hb38
     · exact .inl (by simp at hk; simp [hk])) (fun k hk => hk) (fun k hk => hk) g1 g2)
 have hpl : pb < w.heap.size := World.block_lt_of_cell? w _ g3
 replace st := st.add (r := .tree [pb] (fun w => w.cell? ⟨pb, 0, none⟩ = some (.int .i64 0) ∧ w.cell? ⟨pb, 1, none⟩ = some (.int .i64 (vlW σ vl)))) ⟨⟨g3, g4⟩, by simpa using hpl, fun w w' hs hk hp => ⟨(World.cell?_of_block (hk pb (.head _))).trans hp.1, (World.cell?_of_block (hk pb (.head _))).trans hp.2⟩⟩ (by simp [Res.at?]; omega)
 replace st := st.pick [1, 0, 2, 3, 4, 5] rfl (by decide)
 refine vp_next (st.cel2 2 0 (by decide) rfl rfl rfl rfl) ?_; intro hS
 refine vp_take rfl rfl rfl hS (fun w st => (by exact y_ia0 (k := 0) rfl rfl underlying88 sizeOf3 rfl (by omega))) ?_
 refine vp_do rfl (est st 3 sizeOf3 ?_)
 intro w st; dsimp only [setNth, wr] at st
 refine vp_next (st.cel2 2 0 (by decide) rfl rfl rfl rfl) ?_; intro hS
 refine vp_end (vq_then (vk2 4 8 (sr ?_)))
 refine ym ?_
 refine ynk ?_
 refine vy ((by exact y_faz (k := 15) rfl underlying107 rfl rfl sizeOf49 rfl)) ?_
 refine vy ((by exact y_lda (vs := [_, _, _, _, _, _]) st 0 rfl isAgg49 sizeOf49 rfl rfl)) ?_
 refine vc_e (ests st 5 [_, _, _, _, _, _] sizeOf49 ?_)
 intro w st; dsimp only [setNth, wr] at st
 refine ya ?_
 refine et (vk2 4 5 (vc_ret ?_))
 refine vq_ret2 st (.inl rfl) results11 (by exact .cell 5 rfl rfl isAgg49 sizeOf49) (.tmp rfl) ?_
 refine ⟨_, rfl, ?_⟩
 exact ⟨⟨pb, pc, st.res (i := 2) rfl, (st.res (i := 1) rfl).1.1, (st.res (i := 1) rfl).1.2⟩, st.res (i := 4) rfl, st.res (i := 3) rfl, st.chg⟩
end Go.Proofs.YtjoepkpdanolkaaGreatDoor

