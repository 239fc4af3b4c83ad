/- A part of the proof: contracts of functions and plain laws; each theorem says its own conditions. -/
import Derived.Test.YtjoepkpdanolkaaGreatDoorTopReckonedK2
import Derived.Test.YtjoepkpdanolkaaGreatDoorTopReckonedK5
import Derived.Test.YtjoepkpdanolkaaGreatDoorTopReckonedK3
import Derived.Test.YtjoepkpdanolkaaGreatDoorTopReckonedK1
import Derived.Test.YtjoepkpdanolkaaGreatDoorTopReckonedK4
set_option linter.unusedVariables false
set_option linter.unusedSimpArgs false
namespace Go.Proofs.YtjoepkpdanolkaaGreatDoor
open Go.RowKit Sx LexS ParS _root_.Go.Proofs.Tryz
/-- a statement that prints, its cells -/
abbrev prC (oe : Option Addr) (ce : Nat) (v2 v3 : Option Addr) (c2 c3 : Nat) (a : Int) : List Value := [.int .u8 6, str [], str [], .slice oe 1 ce, .slice v2 0 c2, .slice v3 0 c3, .int .i64 a]
/-- an expression of numbers stands in the first place of a row -/
def Ex1 (n : Nat) (w : World) (oe : Option Addr) (e : Ex) : Prop := (∃ d0, rightE e d0 = true) ∧ (rkX e).2 = true ∧ szE e ≤ 3000000 ∧ ∃ gb go o0 c0, oe = some ⟨gb, go, none⟩ ∧ gb < n ∧ ExV w (· < n) e (exL e o0 c0) ∧ ∀ (i : Nat) v, (exL e o0 c0)[i]? = some v → w.cell? ⟨gb, go + 0 * 6 + i, none⟩ = some v
/-- a print of it stands in the first place of a row -/
def Pr1 (n : Nat) (w : World) (ob : Option Addr) (e : Ex) : Prop := ∃ sb so oe ce v2 v3 c2 c3 a, ob = some ⟨sb, so, none⟩ ∧ sb < n ∧ Ex1 n w oe e ∧ ∀ (i : Nat) v, (prC oe ce v2 v3 c2 c3 a)[i]? = some v → w.cell? ⟨sb, so + 0 * 7 + i, none⟩ = some v
theorem Ex1.kept {n : Nat} {M : List Nat} {w w' : World} {oe : Option Addr} {e : Ex} (h : Ex1 n w oe e) (c : Chg M w w') (hM : ∀ k ∈ M, n ≤ k) : Ex1 n w' oe e := by
 obtain ⟨h1, h2, h3, gb, go, o0, c0, h4, h0, h5, h6⟩ := h
 exact ⟨h1, h2, h3, gb, go, o0, c0, h4, h0, h5.kept (.of_chg c (fun b hb hm => absurd (hM b hm) (by omega))), fun i v hi => c.cell (h6 i v hi) (fun hm => absurd (hM gb hm) (by omega))⟩
theorem Pr1.kept {n : Nat} {M : List Nat} {w w' : World} {oe : Option Addr} {e : Ex} (h : Pr1 n w oe e) (c : Chg M w w') (hM : ∀ k ∈ M, n ≤ k) : Pr1 n w' oe e := by
 obtain ⟨sb, so, oe', ce, v2, v3, c2, c3, a, h1, h0, h2, h3⟩ := h
 exact ⟨sb, so, oe', ce, v2, v3, c2, c3, a, h1, h0, h2.kept c hM, fun i v hi => c.cell (h3 i v hi) (fun hm => absurd (hM sb hm) (by omega))⟩
set_option maxHeartbeats 1000000 in
theorem cblock_any (wv : Value) (ob : Option Addr) (cb : Nat) (e : Ex) (n : Nat) (w : World) (h : Pr1 n w ob e) : RetP Tryz.prog 141 [wv, .slice ob 1 cb, .int .i64 1] w (fun v w' => Chg [] w w') (Brk w) := by
 obtain ⟨sb, so, oe, ce, v2, v3, c2, c3, a, rfl, hsn, ⟨he1, he2, he3, gb, go, o0, c0, rfl, hgn, hV, hc0⟩, hsc⟩ := h
 refine retp_of [_, _, _] func141 rfl ntmps141 rfl ?_
 have st := St.init w []
 obtain ⟨w0, rfl⟩ : ∃ w0, w0 = w := ⟨_, rfl⟩
 refine sr ?_
 refine ym ?_
 refine vy (y_lensl rfl underlying141) ?_
 refine ym ?_
 refine et (vk5 0 2 8 9 10 (vc_block ?_))
 refine vc_loop (w0 := w0) (M := []) (fun (j : Nat) => [(0, wv), (2, .int .i64 1), (8, .slice (some ⟨sb, so, none⟩) 1 cb), (9, .int .i64 1), (10, .int .i64 (j : Int))]) (fun _ => []) (fun j w' => j ≤ 1) (fun j => 1 - j) 0 ⟨rfl, rfl, rfl, rfl, rfl, trivial⟩ (st.drop (by simp)) (by simp) ?_
 clear st
 intro j w hj st
 refine sr ?_
 refine vy (y_lss rfl rfl) ?_
 refine et (vk6 0 2 8 9 10 11 (vc_seq ?_))
 refine vif ?_ ?_
 ·intro hc11
  try simp only [dn] at hc11
  have hj0 : j = 0 := by omega
  subst hj0
  refine kt (vk5 0 2 8 9 10 (vc_seq (vc_block (sr ?_))))
  refine vy ((by exact y_ia (k := 0) rfl rfl underlying141 sizeOf171 rfl (by omega))) ?_
  refine vy ((by exact y_ldca (prC (some ⟨gb, go, none⟩) ce v2 v3 c2 c3 a) rfl isAgg171 sizeOf171 rfl (fun i v hi => st.chg.cell (hsc i v hi) (by simp)))) ?_
  refine vc_e (e_al (l := [_, _, _, _, _, _, _]) st rfl rfl zeroValue171 rfl ?_)
  intro b7 w hb7 st
  refine vc_e (ests st 0 [_, _, _, _, _, _, _] sizeOf171 ?_)
  intro w st; dsimp only [setNth, wr] at st
  refine et (vk6 0 2 7 8 9 10 (vc_region ?_))
  refine ym ?_
  refine vy ((by exact y_lda (vs := [_, _, _, _, _, _, _]) st 0 rfl isAgg171 sizeOf171 rfl rfl)) ?_
  refine ym ?_
  refine vc_e (e_callp [_, _, _] rfl rfl call148 rfl (cstmt_any (S := (· < n)) wv e he1 he2 he3 a gb go v2 v3 ce c2 c3 0 o0 c0 _ (hV.kept st.sm) (fun i v hi => st.chg.cell (hc0 i v hi) (by simp))) (by rintro _ w' ⟨hv, ch⟩ a ha; exact And.intro ha (Or.inr ⟨_, rfl, hv, st.chg.trans ch⟩)) ?_)
  intro _ w cw
  replace st := st.call0 cw
  refine vc_end (vq_block (vq_then (vk5 0 2 8 9 10 (vc_region ?_))))
  refine vy (y_add rfl rfl (by omega : _ = ((0 + 1 : Nat) : Int)) (by omega) (by omega)) ?_
  refine ym ?_
  refine vc_end ?_
  refine vq_again 1  ⟨rfl, rfl, rfl, rfl, rfl, trivial⟩ (st.drop (by simp)) ?_ ?_
  ·omega
  omega
 intro hc11
 try simp only [dn] at hc11
 refine vc_exit (vq_then_exit (vq_then_exit (vq_block_exit ?_)))
 refine vq_ret0 (.inr rfl) results141 ?_
 refine .inl ⟨_, rfl, ?_⟩
 exact st.chg
theorem cput_any (s : Wd) (k : Int) (mb cb E : Nat) (fz : Nat × Nat) (kvs : List (Wd × Value)) (w : World) (hm : w.heap[mb]? = some (mapF kvs)) (hc : w.heap[cb]? = some (.cells [.map (some mb)].toArray E fz)) (hne : mb ≠ cb) (hno : getF kvs s = none) :
    Ret Tryz.prog 140 [str s, .int .i64 k, .pointer (some ⟨cb, 0, none⟩)] w fun v w' => Chg [mb] w w' := by
 refine ret_of [_, _, _] func140 rfl ntmps140 rfl ?_
 have st := St.init w []
 obtain ⟨w0, rfl⟩ : ∃ w0, w0 = w := ⟨_, rfl⟩
 replace st := St.of2 [mb] hm hc hne
 refine sr ?_
 refine vy ((by exact y_ld st 1 rfl isAgg193 rfl rfl)) ?_
 refine ym ?_
 refine vc_e (e_lkF1 (z := .int .i64 0) st 0 rfl rfl rfl rfl rfl underlying193 underlying9 zeroValue208 ?_)
 rw [hno]
 refine vy (y_eqi rfl rfl) ?_
 refine et (vk4 0 1 2 8 ?_)
 refine vif ?_ ?_
 ·intro hc8
  try simp only [dn] at hc8
  refine vc_region ?_
  refine vy ((by exact y_ld st 1 rfl isAgg193 rfl rfl)) ?_
  iterate 2 refine ym ?_
  refine vc_e (e_muF st 0 rfl rfl rfl rfl rfl (.inl (.head _)) underlying193 underlying9 hno ?_)
  intro w st; dsimp only [setNth] at st
  refine vc_end ?_
  refine vq_ret0 (.inr rfl) results140 ?_
  refine ⟨_, rfl, ?_⟩
  exact st.chg
 intro hc8
 exfalso; revert hc8; decide
set_option maxHeartbeats 1000000 in
theorem cthread_any (wb : Nat) (os ol ot oc ob : Option Addr) (cs cl ct nt cc cb : Nat) (tm : Option Nat) (lv : Value) (a : Int) (e : Ex) (n : Nat) (w : World) (hw : w.heap[wb]? = some (.cells [.slice os 0 cs, .slice ol 0 cl, .slice ot nt ct, .map tm, lv].toArray 197 (0, 0))) (h : Pr1 n w ob e) (hwn : n ≤ wb) :
    RetP Tryz.prog 126 [.pointer (some ⟨wb, 0, none⟩), .agg [str [97], .slice oc 0 cc, .slice ob 1 cb, .int .i64 a].toArray] w (fun v w' => Chg [wb] w w') (BrkM [wb] w) := by
 refine retp_of [_, _] func126 rfl ntmps126 rfl ?_
 have st := St.init w []
 obtain ⟨w0, rfl⟩ : ∃ w0, w0 = w := ⟨_, rfl⟩
 replace st := St.of1 [wb] hw
 refine sr ?_
 refine vc_e (e_bx (l := [_, _, _, _]) st rfl rfl rfl rfl ?_)
 intro b3 w hb3 st
 refine et (vk2 0 3 (sr ?_))
 refine ym ?_
 refine vc_e (e_mkF st rfl rfl ?_)
 intro b12 w hb12 st
 refine ynk ?_
 refine vy ((by exact y_faz (k := 4) rfl underlying197 rfl rfl sizeOf195 rfl)) ?_
 refine vc_e (est st 2 sizeOf195 ?_)
 intro w st; dsimp only [setNth, wr] at st
 refine et (vk2 0 3 (sr ?_))
 refine vc_e (e_mkF st rfl rfl ?_)
 intro b15 w hb15 st
 refine ya ?_
 refine et (vk3 0 3 4 (vc_seq (vc_seq ?_)))
 refine vdr0 Tryz.mixed [Yt 0, Yt 1, Yt 2, Yt 3, Yt 4, Yt 5, Yt 6, Yt 7, Yt 8, Yt 9, Yt 12, Nt 10, Yt 11] st ?_
 clear st; intro w st hS
 refine pm hS ?_
 refine pnk hS ?_
 refine pf0 hS underlying197 sizeOf81 ?_
 refine pf0 hS underlying81 sizeOf37 ?_
 refine vp_take rfl rfl rfl hS (fun w st => (by exact y_ld st 3 rfl isAgg37 rfl rfl)) ?_
 refine pm hS ?_
 refine pnk hS ?_
 refine pf0 hS underlying197 sizeOf81 ?_
 refine vp_take rfl rfl rfl hS (fun w st => (by exact y_faz (k := 1) rfl underlying81 rfl rfl sizeOf37 rfl)) ?_
 refine vp_take rfl rfl rfl hS (fun w st => (by exact y_ld st 3 rfl isAgg37 rfl rfl)) ?_
 refine pm hS ?_
 refine vp_do rfl (e_bsn (l := [.slice os 0 cs, .slice ol 0 cl]) (E := 37) st [(0, _), (1, _)] rfl rfl rfl (fun w => by simp [Instr.buildSlice, run_underlying underlying210, sizeOf37, zeroValue37, Instr.fill, newRow, newObj, Sem.run, go_sem, Value.cells]) ?_)
 intro b26 w hb26 st
 refine vp_next (by exact st.drop (by repeat (first | exact sl0 | apply sl1 | apply sl2))) ?_; intro hS
 refine vp_take rfl rfl rfl hS (fun w st => y_lensl rfl underlying210) ?_
 refine vp_end (vq_then (vk6 0 3 4 26 27 28 (vc_block ?_)))
 refine vc_loop (w0 := w0) (M := [wb]) (fun (j : Nat) => [(0, .pointer (some ⟨wb, 0, none⟩)), (3, .pointer (some ⟨b3, 0, none⟩)), (4, .map (some b15)), (26, .slice (some ⟨b26, 0, none⟩) 2 2), (27, .int .i64 2), (28, .int .i64 (j : Int))]) (fun _ => [.blk b26 (.cells [.slice os 0 cs, .slice ol 0 cl].toArray 37 (0, 0)), .blk b3 (.cells [str [97], .slice oc 0 cc, .slice ob 1 cb, .int .i64 a].toArray 143 (0, 0))]) (fun j w' => j ≤ 2) (fun j => 2 - j) 0 ⟨rfl, rfl, rfl, rfl, rfl, rfl, trivial⟩ (st.drop (by repeat (first | exact List.Sublist.refl _ | apply List.Sublist.cons_cons | apply List.Sublist.cons))) (by simp) ?_
 clear st
 intro j w hj st
 refine sr ?_
 refine vy (y_lss rfl rfl) ?_
 refine et (vk7 0 3 4 26 27 28 29 (vc_seq ?_))
 refine vif ?_ ?_
 ·intro hc29
  try simp only [dn] at hc29
  obtain ⟨oj, cj, hlj⟩ : ∃ (oj : Option Addr) (cj : Nat), nth [Value.slice os 0 cs, .slice ol 0 cl] (j * 1) = some (.slice oj 0 cj) := by rcases (by omega : j = 0 ∨ j = 1) with rfl | rfl <;> exact ⟨_, _, rfl⟩
  refine kt (vk6 0 3 4 26 27 28 (vc_seq (vc_block (sr ?_))))
  refine vy ((by exact y_ia0 (k := j) rfl rfl underlying210 sizeOf37 rfl (by omega))) ?_
  refine vy ((by exact y_ld st 0 rfl isAgg37 rfl hlj)) ?_
  refine ya ?_
  refine et (vk7 0 3 4 6 26 27 28 (sr ?_))
  refine ym ?_
  refine vy (y_lensl rfl underlying37) ?_
  refine ym ?_
  refine et (vk9 0 3 4 26 27 28 32 33 34 (vc_block ?_))
  refine vc_once ?_
  refine sr ?_
  refine vy (y_lss rfl rfl) ?_
  refine et (vk10 0 3 4 26 27 28 32 33 34 35 (vc_seq ?_))
  refine vif ?_ ?_
  ·intro hc35
   exfalso; revert hc35; decide
  intro hc35
  try simp only [dn] at hc35
  refine vc_exit (vq_then_exit (vq_then_exit (vq_block_exit (vq_block (vq_then (vk6 0 3 4 26 27 28 (vc_region ?_)))))))
  refine vy (y_add rfl rfl (by omega : _ = ((j + 1 : Nat) : Int)) (by omega) (by omega)) ?_
  refine ym ?_
  refine vc_end ?_
  refine vq_again (j + 1)  ⟨rfl, rfl, rfl, rfl, rfl, rfl, trivial⟩ st ?_ ?_
  ·omega
  omega
 intro hc29
 try simp only [dn] at hc29
 refine vc_exit (vq_then_exit (vq_then_exit (vq_block_exit (vq_then (vk3 0 3 4 (vc_seq (sr ?_)))))))
 refine vy ((by exact y_faz (k := 1) rfl underlying143 rfl rfl sizeOf37 rfl)) ?_
 refine vy ((by exact y_ld st 1 rfl isAgg37 rfl rfl)) ?_
 refine vy (y_lensl rfl underlying37) ?_
 refine ym ?_
 refine et (vk6 0 3 4 44 45 46 (vc_block ?_))
 refine vc_once ?_
 refine sr ?_
 refine vy (y_lss rfl rfl) ?_
 refine et (vk7 0 3 4 44 45 46 47 (vc_seq ?_))
 refine vif ?_ ?_
 ·intro hc47
  exfalso; revert hc47; decide
 intro hc47
 try simp only [dn] at hc47
 refine vc_exit (vq_then_exit (vq_then_exit (vq_block_exit (vq_then (vk2 0 3 (vc_region ?_))))))
 refine ym ?_
 refine vy ((by exact y_faz (k := 2) rfl underlying143 rfl rfl sizeOf141 rfl)) ?_
 refine vy ((by exact y_ld st 1 rfl isAgg141 rfl rfl)) ?_
 refine vc_e (e_callp [_, _, _] rfl rfl call141 rfl (cblock_any _ ob cb e n _ (h.kept st.chg (by simpa using hwn))) (by rintro _ w' ⟨hv, ch⟩ a ha; exact And.intro ha (Or.inr ⟨_, rfl, hv, st.chg.trans ch.of_nil⟩)) ?_)
 intro _ w cw
 replace st := st.call0 cw
 refine vc_end ?_
 refine vq_ret0 (.inr rfl) results126 ?_
 refine .inl ⟨_, rfl, ?_⟩
 exact st.chg
set_option maxHeartbeats 1000000 in
theorem cdeclared_any (os ol oc ob : Option Addr) (cs cl ct cc cb tb to_ : Nat) (a : Int) (w : World) (htc : ∀ (i : Nat) v, ([str [97], .slice oc 0 cc, .slice ob 1 cb, .int .i64 a] : List Value)[i]? = some v → w.cell? ⟨tb, to_ + 0 * 4 + i, none⟩ = some v) :
    Ret Tryz.prog 123 [.agg [.slice os 0 cs, .slice ol 0 cl, .slice (some ⟨tb, to_, none⟩) 1 ct].toArray] w (fun v w' => (∃ b, v = .map (some b)) ∧ Chg [] w w') := by
 refine ret_of [_] func123 rfl ntmps123 rfl ?_
 have st := St.init w []
 obtain ⟨w0, rfl⟩ : ∃ w0, w0 = w := ⟨_, rfl⟩
 refine sr ?_
 refine vc_e (e_bx (l := [_, _, _]) st rfl rfl rfl rfl ?_)
 intro b1 w hb1 st
 refine ya ?_
 refine et (vk1 1 (sr ?_))
 refine vc_e (e_mkF st rfl rfl ?_)
 intro b11 w hb11 st
 refine vc_e (e_al (l := [_]) st rfl rfl zeroValue193 rfl ?_)
 intro b3 w hb3 st
 refine vc_e (est st 0 sizeOf193 ?_)
 intro w st; dsimp only [setNth, wr] at st
 refine et (vk2 1 3 (sr ?_))
 refine vy (y_mf [] [_] rfl rfl) ?_
 refine ya ?_
 refine et (vk3 1 3 4 (vc_seq (sr ?_)))
 refine vy (y_fa0 rfl underlying81 rfl rfl sizeOf37 rfl) ?_
 refine vy ((by exact y_ld st 2 rfl isAgg37 rfl rfl)) ?_
 refine vy (y_lensl rfl underlying37) ?_
 refine ym ?_
 refine et (vk6 1 3 4 14 15 16 (vc_block ?_))
 refine vc_once ?_
 refine sr ?_
 refine vy (y_lss rfl rfl) ?_
 refine et (vk7 1 3 4 14 15 16 17 (vc_seq ?_))
 refine vif ?_ ?_
 ·intro hc17
  exfalso; revert hc17; decide
 intro hc17
 try simp only [dn] at hc17
 refine vc_exit (vq_then_exit (vq_then_exit (vq_block_exit (vq_then (vk3 1 3 4 (vc_seq (sr ?_)))))))
 refine vy ((by exact y_faz (k := 1) rfl underlying81 rfl rfl sizeOf37 rfl)) ?_
 refine vy ((by exact y_ld st 2 rfl isAgg37 rfl rfl)) ?_
 refine vy (y_lensl rfl underlying37) ?_
 refine ym ?_
 refine et (vk6 1 3 4 26 27 28 (vc_block ?_))
 refine vc_once ?_
 refine sr ?_
 refine vy (y_lss rfl rfl) ?_
 refine et (vk7 1 3 4 26 27 28 29 (vc_seq ?_))
 refine vif ?_ ?_
 ·intro hc29
  exfalso; revert hc29; decide
 intro hc29
 try simp only [dn] at hc29
 refine vc_exit (vq_then_exit (vq_then_exit (vq_block_exit (vq_then (vk3 1 3 4 (vc_seq (sr ?_)))))))
 refine vy ((by exact y_faz (k := 2) rfl underlying81 rfl rfl sizeOf79 rfl)) ?_
 refine vy ((by exact y_ld st 2 rfl isAgg79 rfl rfl)) ?_
 refine vy (y_lensl rfl underlying79) ?_
 refine ym ?_
 refine et (vk5 3 4 38 39 40 (vc_block ?_))
 refine vc_loop (w0 := w0) (M := []) (fun (j : Nat) => [(3, .pointer (some ⟨b3, 0, none⟩)), (4, .func (.func 140) #[] [.pointer (some ⟨b3, 0, none⟩)].toArray), (38, .slice (some ⟨tb, to_, none⟩) 1 ct), (39, .int .i64 1), (40, .int .i64 (j : Int))]) (fun j => [blkIf (j = 0) b11 (mapF []), .blk b3 (.cells [.map (some b11)].toArray 193 (0, 0))]) (fun j w' => j ≤ 1) (fun j => 1 - j) 0 ⟨rfl, rfl, rfl, rfl, rfl, trivial⟩ (St.mkIf (st.pick [1, 0] rfl (by decide)) _) (by simp) ?_
 clear st
 intro j w hj st
 refine sr ?_
 refine vy (y_lss rfl rfl) ?_
 refine et (vk6 3 4 38 39 40 41 (vc_seq ?_))
 refine vif ?_ ?_
 ·intro hc41
  try simp only [dn] at hc41
  have hj0 : j = 0 := by omega
  subst hj0
  refine kt (vk5 3 4 38 39 40 (vc_seq (vc_block (sr ?_))))
  refine vy ((by exact y_ia (k := 0) rfl rfl underlying79 sizeOf143 rfl (by omega))) ?_
  refine vy ((by exact y_ldca [str [97], .slice oc 0 cc, .slice ob 1 cb, .int .i64 a] rfl isAgg143 sizeOf143 rfl (fun i v hi => st.chg.cell (htc i v hi) (by simp)))) ?_
  refine vc_e (e_al (l := [_, _, _, _]) st rfl rfl zeroValue143 rfl ?_)
  intro b10 w hb10 st
  refine vc_e (ests st 0 [_, _, _, _] sizeOf143 ?_)
  intro w st; dsimp only [setNth, wr] at st
  refine et (vk6 3 4 10 38 39 40 (vc_region ?_))
  refine ym ?_
  refine vy (y_fa0 rfl underlying143 rfl rfl sizeOf9 rfl) ?_
  refine vy ((by exact y_ld st 0 rfl isAgg9 rfl rfl)) ?_
  refine vc_e (e_callv [_, _] rfl rfl rfl call140 rfl (cput_any [97] 3 b11 b3 193 (0, 0) [] _ ((st.res (i := 1) rfl).1 rfl) (st.res (i := 2) rfl) (fun e => st.ne (i := 1) (j := 2) (by decide) rfl rfl b11 (.head _) (by rw [e]; exact .head _)) rfl) ?_)
  intro _ w cw
  have hlt := st.lt (mem_nth (i := 1) rfl) (.head _)
  replace st := st.swap (i := 1) (r' := blkIf (1 = 0) b11 (mapF [])) rfl cw (fun k hk => hk) (by simpa using hb11) (fun k hk => .inl hk) (blkIf_no (by decide) (Nat.lt_of_lt_of_le hlt cw.size))
  dsimp only [setNth] at st
  refine vc_end (vq_block (vq_then (vk5 3 4 38 39 40 (vc_region ?_))))
  refine vy (y_add rfl rfl (by omega : _ = ((0 + 1 : Nat) : Int)) (by omega) (by omega)) ?_
  refine ym ?_
  refine vc_end ?_
  refine vq_again 1  ⟨rfl, rfl, rfl, rfl, rfl, trivial⟩ (st.drop (.cons _ (List.Sublist.refl _))) ?_ ?_
  ·omega
  omega
 intro hc41
 try simp only [dn] at hc41
 refine vc_exit (vq_then_exit (vq_then_exit (vq_block_exit (vq_then (vk1 3 (sr ?_))))))
 refine vy ((by exact y_ld st 1 rfl isAgg193 rfl rfl)) ?_
 refine ya ?_
 refine et (vk1 2 (vc_ret ?_))
 refine vr1 st results123 ?_
 exact ⟨⟨_, rfl⟩, st.chg⟩
end Go.Proofs.YtjoepkpdanolkaaGreatDoor


/- A parser in memory: its tokens, its place; what its functions hand back, and how they fail. -/
namespace Sx
open Go Go.RowKit LexS ParS

abbrev tkL (t : Tok) : List Value := [.int .u8 (t.kind : Int), str t.text, .int .i64 (t.word : Int), .int .i64 (t.at_ : Int)]
abbrev exC (e : Ex) (oa : Option Addr) (cap : Nat) : List Value := [.int .u8 e.k, .int .u8 e.op, .int .i64 e.wd, str e.nm, .slice oa e.kids.length cap, .int .i64 e.a]
abbrev smC (s : Sm) (oe ob ol : Option Addr) (ce cb cl : Nat) : List Value := [.int .u8 s.k, str s.nm, str s.other, .slice oe s.e.length ce, .slice ob s.body.length cb, .slice ol s.els.length cl, .int .i64 s.a]
abbrev thC (t : Th) (ol ob : Option Addr) (cl cb : Nat) : List Value := [str t.nm, .slice ol t.locals.length cl, .slice ob t.body.length cb, .int .i64 t.a]
abbrev pgC (p : Pg) (os ol ot : Option Addr) (cs cl ct : Nat) : List Value := [.slice os p.shared.length cs, .slice ol p.locks.length cl, .slice ot p.threads.length ct]

/-- the operators' signs and levels, in the block of a variable -/
def SigAt (g : Nat) (w : World) : Prop := ∀ k, k < 19 → w.cell? ⟨g, k * 2, none⟩ = some (str (sgn k)) ∧ w.cell? ⟨g, k * 2 + 1, none⟩ = some (.int .i64 (lvl k))
theorem SigAt.kept {g : Nat} {M : List Nat} {w w' : World} (h : SigAt g w) (c : Chg M w w') (hg : g ∉ M) : SigAt g w' := fun k hk => ⟨c.cell (h k hk).1 hg, c.cell (h k hk).2 hg⟩

/-- what stays as long as a parser goes: 'pb' its block; 'n0': older blocks stay; 'T' the parser's type, 'R' the refusal's; 'g' the signs' block -/
structure PCtx where
  pb : Nat
  n0 : Nat
  oa : Option Addr
  cap : Nat
  ts : List Tok
  e : Nat
  T : Nat
  R : Nat
  g : Nat
/-- the parser's cells: its tokens, its place, the text's end; 'r' is what is left -/
abbrev pcell (c : PCtx) (r : List Tok) : List Value := [.slice c.oa c.ts.length c.cap, .int .i64 ((c.ts.length - r.length : Nat) : Int), .int .i64 (c.e : Int)]
abbrev PAt (c : PCtx) (r : List Tok) (w : World) : Prop := w.heap[c.pb]? = some (.cells (pcell c r).toArray c.T (0, 0))
/-- a refusal, as a panic's value -/
abbrev refV (c : PCtx) (f : Flt) : Value := .iface c.R (.agg #[.int .i64 (f.1 : Int), .int .i64 (f.2 : Int)])

structure PCok (c : PCtx) (w : World) : Prop where
  row : RowC w (· < c.n0) 4 c.oa c.ts.length (fun j => tkL (c.ts.getD j tok0))
  n0 : c.n0 ≤ c.pb
  g : c.g < c.n0
  len : c.ts.length ≤ 1048576
  el : c.e ≤ 1048576
  sig : SigAt c.g w
  le : c.n0 ≤ w.heap.size
  wd : ∀ t ∈ c.ts, t.word ≤ 9223372036854775807
theorem PCok.kept {c : PCtx} {M : List Nat} {w w' : World} (h : PCok c w) (k : Chg M w w') (hM : ∀ b ∈ M, c.n0 ≤ b) : PCok c w' :=
  ⟨h.row.kept (.of_chg k fun b hb hm => absurd (hM b hm) (Nat.not_le.2 hb)), h.n0, h.g, h.len, h.el, h.sig.kept k (fun hm => absurd (hM _ hm) (Nat.not_le.2 h.g)), Nat.le_trans h.le k.size, h.wd⟩
theorem PCok.k1 {c : PCtx} {w w' : World} (h : PCok c w) (k : Chg [c.pb] w w') : PCok c w' := h.kept k (by simpa using h.n0)
theorem PCok.k2 {c : PCtx} {b : Nat} {w w' : World} (h : PCok c w) (k : Chg [c.pb, b] w w') (hb : c.n0 ≤ b) : PCok c w' := h.kept k (by simpa using ⟨h.n0, hb⟩)

theorem suf_get {ts r : List Tok} (h : r <:+ ts) (hr : r ≠ []) : ts.getD (ts.length - r.length) tok0 = here r ∧ ts.length - r.length < ts.length := by
  obtain ⟨a, rfl⟩ := h
  cases r with
  | nil => exact absurd rfl hr
  | cons x l =>
    have e : (a ++ x :: l).length - (x :: l).length = a.length := by simp
    rw [e]
    exact ⟨by simp [List.getD, here], by simp⟩
theorem suf_len {ts r : List Tok} (h : r <:+ ts) : r.length ≤ ts.length := h.length_le
theorem suf_tail {ts r : List Tok} (h : r <:+ ts) : r.tail <:+ ts := (List.tail_suffix r).trans h
theorem here_wd {ts r : List Tok} (h : ∀ t ∈ ts, t.word ≤ 9223372036854775807) (hr : r <:+ ts) : (here r).word ≤ 9223372036854775807 := by
  cases r with
  | nil => exact Nat.zero_le _
  | cons x l => exact h x (hr.subset (.head _))
theorem neg_i64 {n : Nat} (h : n ≤ 9223372036854775807) : IntKind.i64.wrap (0 - (n : Int)) = -(n : Int) := by rw [IntWalk.i64_in _ ⟨by omega, by omega⟩]; omega
theorem here_nil {r : List Tok} (h : r.length = 0) : here r = tok0 := by rw [List.eq_nil_of_length_eq_zero h]; rfl
theorem atT_nil {e : Nat} {r : List Tok} (h : r.length = 0) : atT e r = e := by rw [List.eq_nil_of_length_eq_zero h]; rfl
theorem atT_cons {e : Nat} {r : List Tok} (h : r ≠ []) : atT e r = (here r).at_ := by cases r with | nil => exact absurd rfl h | cons x l => rfl

/-- the cells of the token that stands here -/
theorem PCok.tok {c : PCtx} {w : World} (h : PCok c w) {r : List Tok} (hs : r <:+ c.ts) (hr : r ≠ []) : ∃ b off, c.oa = some ⟨b, off, none⟩ ∧ ∀ i v, (tkL (here r))[i]? = some v → w.cell? ⟨b, off + (c.ts.length - r.length) * 4 + i, none⟩ = some v := by
  obtain ⟨h1, h2⟩ := suf_get hs hr
  rcases h.row with h0 | ⟨b, off, e, hb, hl, hc⟩
  · omega
  · refine ⟨b, off, e, fun i v hi => (hc _ h2).2 i v ?_⟩
    dsimp only; rw [h1]; exact hi

/-- what a function of a parser hands back -/
def PRes {α : Type} (c : PCtx) (r : List Tok) (res : PR α) (M : List Nat) (w : World) (H : α → Value → World → Prop) (v : Value) (w' : World) : Prop :=
  ∃ x r', res = .ok (x, r') ∧ r' <:+ r ∧ r'.length < r.length ∧ PAt c r' w' ∧ Chg M w w' ∧ H x v w'
/-- it refuses -/
def PErr {α : Type} (c : PCtx) (res : Except Flt α) (M : List Nat) (w : World) (v : Value) (w' : World) : Prop :=
  ∃ f, res = .error f ∧ v = refV c f ∧ Chg M w w'

section
variable {w w' w0 : World} {M : List Nat} {hs : List Res}
/-- a block that is held has been written on by a callee -/
theorem St.prs {b : Nat} {o o' : Obj} (st : St w0 M hs w) (i : Nat) (hi : nth hs i = some (.blk b o)) (ch : Chg [b] w w') (hm : b ∈ M ∨ w0.heap.size ≤ b) (h' : w'.heap[b]? = some o') : St w0 M (setNth hs i (.blk b o')) w' :=
  st.turn hi rfl rfl ch hm h'
/-- and something new has come -/
theorem St.prsT {b : Nat} {o o' : Obj} {q : Res} (st : St w0 M hs w) (i : Nat) (hi : nth hs i = some (.blk b o)) (ch : Chg [b] w w') (hm : b ∈ M ∨ w0.heap.size ≤ b) (h' : w'.heap[b]? = some o')
    (hq : q.holds w0.heap.size w') (hqa : ∀ k ∈ q.at?, w.heap.size ≤ k) : St w0 M (q :: setNth hs i (.blk b o')) w' :=
  st.swapPush hi ch (by simp [Res.at?]) (by simpa using hm) (by simp [Res.at?]) h' hq hqa
/-- two blocks that are held are two -/
theorem St.bne {b b' : Nat} {o o' : Obj} (st : St w0 M hs w) (i j : Nat) (hij : i ≠ j) (hi : nth hs i = some (.blk b o)) (hj : nth hs j = some (.blk b' o')) : b ≠ b' := fun e => apart_nth st.nodup hij hi hj b (.head _) (by rw [e]; exact .head _)
theorem holds_ex {tE base : Nat} {oa : Option Addr} {cap : Nat} {es : List Ex} {S : List Nat} (h : ExR tE w oa cap es S) : (Res.tree S fun w => ExR tE w oa cap es S).holds base w := holds_of h h.lt (fun a b h hk => h.kept hk)
theorem holds_sm {tE tS base : Nat} {oa : Option Addr} {cap : Nat} {es : List Sm} {S : List Nat} (h : SmR tE tS w oa cap es S) : (Res.tree S fun w => SmR tE tS w oa cap es S).holds base w := holds_of h h.lt (fun a b h hk => h.kept hk)
theorem holds_dc {tD base : Nat} {oa : Option Addr} {cap : Nat} {es : List Dc} {S : List Nat} (h : DcR tD w oa cap es S) : (Res.tree S fun w => DcR tD w oa cap es S).holds base w := holds_of h h.lt (fun a b h hk => h.kept hk)
end
end Sx


namespace Go.Proofs.YtjoepkpdanolkaaGreatDoor
open Go.RowKit Sx LexS ParS _root_.Go.Proofs.Tryz
theorem results2 {P : Program} {fn : Func} {kn : Kn} {w w0 : World} {M : List Nat} {hs : List Res} {r1 r2 : ResultVar} {v1 v2 : Value} {m : Nat} {ds : List Deferred} (st : St w0 M hs w) (hf : fn.results = #[r1, r2]) (h1 : ResV P hs kn r1 v1) (h2 : ResV P hs kn r2 v2) :
    ∀ a, K (m, ds) kn a → (results fn a.tmps).run P w = .ok (.tuple #[v1, v2]) w := fun a ha => by
 simp [results_eq, hf, h1.run st ha, h2.run st ha]

set_option maxHeartbeats 1000000 in
theorem first_catch (b2 b3 : Nat) (p r : Int) (l2 l3 : List Value) (hl2 : l2.length = 2) (hl3 : l3.length = 1) (w : World) (h2 : w.heap[b2]? = some (.cells l2.toArray 30 (0, 0))) (h3 : w.heap[b3]? = some (.cells l3.toArray 4 (0, 0)))
    (n1 : b2 ≠ b3) : DefCatch Tryz.prog 122 [.pointer (some ⟨b2, 0, none⟩), .pointer (some ⟨b3, 0, none⟩)].toArray (.iface 191 (.agg #[.int .i64 p, .int .i64 r])) w
  (fun w' => w'.heap[b2]? = some (.cells [.int .i64 p, .int .i64 r].toArray 30 (0, 0)) ∧ w'.heap[b3]? = some (.cells [.bool true].toArray 4 (0, 0)) ∧ Chg [b2, b3] w w') := by
 obtain ⟨x0, x1, rfl⟩ : ∃ x0 x1, l2 = [x0, x1] := by
  match l2, hl2 with
  | [x0, x1], _ => exact ⟨_, _, rfl⟩
 obtain ⟨x2, rfl⟩ : ∃ x2, l3 = [x2] := by
  match l3, hl3 with
  | [x2], _ => exact ⟨_, rfl⟩
 refine callsD_of_wpS func122 rfl fun c₀ cs hu => ?_
 have st := St.of2 [b2, b3] h2 h3 n1
 apply wpS_seq
 apply wpS_region
 simp [wpOpsS, go_sem, recoverD, hu, ntmps122, Exit.thenS]
 apply wpS_seq
 apply wpS_region
 simp [wpOpsS, go_sem, Exit.thenS]
 refine wpS_cond (t := true) (by simp [Act.eval, Array.replicate]) ?_
 simp only [if_true]
 refine wpS_of_wp ?_
 refine wp_of_vc (n := (9, [])) (kn := [(0, .pointer (some ⟨b2, 0, none⟩)), (1, .pointer (some ⟨b3, 0, none⟩)), (2, .iface 191 (.agg #[.int .i64 p, .int .i64 r]))]) (K.of (by rfl) ?_) ?_
 ·intro i v hv
  simp only [find] at hv
  repeat' split at hv
  all_goals first | (rename_i hh; have hh' := Nat.eq_of_beq_eq_true hh; subst hh'; cases hv; rfl) | simp at hv
 refine vc_region ?_
 refine ym ?_
 refine vy (y_ta rfl underlying191) ?_
 refine vy (y_fldA (vs := [_, _]) rfl underlying191 rfl rfl isAgg30 sizeOf30 rfl) ?_
 refine vc_e (ests st 0 [_, _] sizeOf30 ?_)
 intro w st; dsimp only [setNth, wr] at st
 refine vc_e (est st 1 sizeOf4 ?_)
 intro w st; dsimp only [setNth, wr] at st
 refine vc_end ?_
 intro a ha
 exact ⟨ha.defers, _, rfl, .tuple #[], by simp [results, results122], ⟨_, rfl⟩, rfl, st.res (i := 0) rfl, st.res (i := 1) rfl, st.chg⟩
theorem first_idle (args : List Value) (h3 : args.length = 2) (w : World) : DefIdle Tryz.prog 122 args.toArray w (fun w' => w' = w) := by
 refine callsD_of_wpS func122 rfl fun c₀ cs hu => ?_
 obtain ⟨x, y, rfl⟩ : ∃ x y, args = [x, y] := by
  match args, h3 with
  | [x, y], _ => exact ⟨x, y, rfl⟩
 apply wpS_seq
 apply wpS_region
 simp [wpOpsS, go_sem, recoverD, hu, ntmps122, Exit.thenS]
 apply wpS_seq
 apply wpS_region
 simp [wpOpsS, go_sem, Exit.thenS]
 refine wpS_cond (t := false) (by simp [Act.eval, Array.replicate]) ?_
 simp only [Bool.false_eq_true, if_false]
 refine wpS_of_wp (wp_skip ?_)
 cases c₀
 simp_all [bodyPostS, results, results122]
/-- a broken rule is caught -/
theorem first_pan {w0 w : World} {b2 b3 : Nat} {p r : Int} {kn : Kn} (h2 : w.heap[b2]? = some (.cells [.int .i64 0, .int .i64 0].toArray 30 (0, 0))) (h3 : w.heap[b3]? = some (.cells [.bool false].toArray 4 (0, 0)))
    (n1 : b2 ≠ b3) (l2 : w0.heap.size ≤ b2) (l3 : w0.heap.size ≤ b3) (ch : Chg [] w0 w) (k2 : find kn 2 = some (.pointer (some ⟨b2, 0, none⟩))) (k3 : find kn 3 = some (.pointer (some ⟨b3, 0, none⟩))) :
  PanK (121, [⟨.fn (.func 122) (List.toArray [.pointer (some ⟨b2, 0, none⟩), .pointer (some ⟨b3, 0, none⟩)]), #[]⟩]) kn (bodyPostD Tryz.prog Tryz.f95 fun e w' => ∃ v, e = .returned v ∧ ((∃ (p r : Int) (b : Bool), v = .tuple #[.agg #[.int .i64 p, .int .i64 r], .bool b]) ∧ Chg [] w0 w')) (.iface 191 (.agg #[.int .i64 p, .int .i64 r])) w := by
 refine pan_leave call122 (first_catch b2 b3 p r _ _ rfl rfl w h2 h3 n1) (fun w2 hc => ?_)
 obtain ⟨g2, g3, c2⟩ := hc
 have st2 := St.of2 [] g2 g3 n1
 exact ⟨_, results2 st2 results95 (.cell 0 k2 rfl isAgg30 sizeOf30) (.cell1 1 k3 rfl isAgg4 rfl), _, rfl, ⟨_, _, _, rfl⟩, ch.trans' c2 (by simp [l2, l3])⟩
set_option maxHeartbeats 2000000 in
theorem cfirst_any (os ol oc ob : Option Addr) (cs cl ct cc cb tb to_ : Nat) (a : Int) (e : Ex) (n : Nat) (w : World) (hn : n ≤ w.heap.size) (htn : tb < n) (hp : Pr1 n w ob e) (htc : ∀ (i : Nat) v, ([str [97], .slice oc 0 cc, .slice ob 1 cb, .int .i64 a] : List Value)[i]? = some v → w.cell? ⟨tb, to_ + 0 * 4 + i, none⟩ = some v) : Ret Tryz.prog 95 [.agg [.slice os 0 cs, .slice ol 0 cl, .slice (some ⟨tb, to_, none⟩) 1 ct].toArray] w (fun v w' => (∃ (p r : Int) (b : Bool), v = .tuple #[.agg #[.int .i64 p, .int .i64 r], .bool b]) ∧ Chg [] w w') := by
 refine retd_of [_] func95 rfl ntmps95 rfl ?_
 have st := St.init w []
 obtain ⟨w0, rfl⟩ : ∃ w0, w0 = w := ⟨_, rfl⟩
 refine sr ?_
 refine vc_e (e_bx (l := [_, _, _]) st rfl rfl rfl rfl ?_)
 intro b1 w hb1 st
 refine vc_e (e_al (l := [_, _]) st rfl rfl zeroValue30 rfl ?_)
 intro b2 w hb2 st
 refine vc_e (e_al (l := [_]) st rfl rfl zeroValue4 rfl ?_)
 intro b3 w hb3 st
 refine et (vk3 1 2 3 (sr ?_))
 refine vy (y_mf [] [_, _] rfl rfl) ?_
 refine vc_e (e_deferV rfl rfl rfl ?_)
 refine et (vk3 1 2 3 (vc_seq ?_))
 refine vc_noPan ?_
 refine vdr0 Tryz.mixed [Yt 0, Yt 1, Nt 2, Yt 3, Nt 4, Yt 5] st ?_
 clear st; intro w st hS
 iterate 2 refine vp_take rfl rfl rfl hS (fun w st => (by exact y_lda (vs := [_, _, _]) st 2 rfl isAgg81 sizeOf81 rfl rfl)) ?_
 refine vp_do rfl (e_call [_] rfl rfl call123 rfl (cdeclared_any os ol oc ob cs cl ct cc cb tb to_ a _ (fun i v hi => st.chg.cell (htc i v hi) (by simp))) ?_)
 rintro _ w ⟨⟨mb, rfl⟩, cw⟩
 replace st := st.call0 cw
 refine vp_next (by exact st) ?_; intro hS
 refine vp_take rfl rfl rfl hS (fun w st => ybd (.agg #[_, _, _, _, _]) [(0, _), (1, _)]) ?_
 refine vp_do rfl (e_bx (l := [_, _, _, _, _]) st rfl rfl rfl rfl ?_)
 intro b17 w hb17 st
 refine vp_next (by exact st.drop (by repeat (first | exact sl0 | apply sl1 | apply sl2))) ?_; intro hS
 refine vp_take rfl rfl rfl hS (fun w st => y_as rfl) ?_
 refine vp_end ?_
 refine vq_noPan ?_
 refine vq_then (vk4 1 2 3 4 (sr ?_))
 refine vc_e (e_mkF st rfl rfl ?_)
 intro b18 w hb18 st
 refine ya ?_
 refine et (vk5 1 2 3 4 5 (vc_seq (sr ?_)))
 refine vy (y_fa0 rfl underlying81 rfl rfl sizeOf37 rfl) ?_
 refine vy ((by exact y_ld st 4 rfl isAgg37 rfl rfl)) ?_
 refine vy (y_lensl rfl underlying37) ?_
 refine ym ?_
 refine et (vk8 1 2 3 4 5 20 21 22 (vc_block ?_))
 refine vc_once ?_
 refine sr ?_
 refine vy (y_lss rfl rfl) ?_
 refine et (vk9 1 2 3 4 5 20 21 22 23 (vc_seq ?_))
 refine vif ?_ ?_
 ·intro hc23
  exfalso; revert hc23; decide
 intro hc23
 try simp only [dn] at hc23
 refine vc_exit (vq_then_exit (vq_then_exit (vq_block_exit (vq_then (vk5 1 2 3 4 5 (vc_seq (sr ?_)))))))
 refine vy ((by exact y_faz (k := 1) rfl underlying81 rfl rfl sizeOf37 rfl)) ?_
 refine vy ((by exact y_ld st 4 rfl isAgg37 rfl rfl)) ?_
 refine vy (y_lensl rfl underlying37) ?_
 refine ym ?_
 refine et (vk8 1 2 3 4 5 54 55 56 (vc_block ?_))
 refine vc_once ?_
 refine sr ?_
 refine vy (y_lss rfl rfl) ?_
 refine et (vk9 1 2 3 4 5 54 55 56 57 (vc_seq ?_))
 refine vif ?_ ?_
 ·intro hc57
  exfalso; revert hc57; decide
 intro hc57
 try simp only [dn] at hc57
 refine vc_exit (vq_then_exit (vq_then_exit (vq_block_exit (vq_then (vk5 1 2 3 4 5 (vc_seq (sr ?_)))))))
 refine vy ((by exact y_faz (k := 2) rfl underlying81 rfl rfl sizeOf79 rfl)) ?_
 refine vy ((by exact y_ld st 4 rfl isAgg79 rfl rfl)) ?_
 refine vy (y_lensl rfl underlying79) ?_
 refine ym ?_
 refine et (vk7 2 3 4 5 88 89 90 (vc_block ?_))
 refine vc_loop (w0 := w0) (M := []) (fun (j : Nat) => [(2, .pointer (some ⟨b2, 0, none⟩)), (3, .pointer (some ⟨b3, 0, none⟩)), (4, .pointer (some ⟨b17, 0, none⟩)), (5, .map (some b18)), (88, .slice (some ⟨tb, to_, none⟩) 1 ct), (89, .int .i64 1), (90, .int .i64 (j : Int))]) (fun j => [blkIf (j = 0) b18 (mapF []), blkIf (j = 0) b17 (.cells [.slice os 0 cs, .slice ol 0 cl, .slice (some ⟨tb, to_, none⟩) 1 ct, .map (some mb), .map none].toArray 197 (0, 0)), .blk b3 (.cells [.bool false].toArray 4 (0, 0)), .blk b2 (.cells [.int .i64 0, .int .i64 0].toArray 30 (0, 0))]) (fun j w' => j ≤ 1) (fun j => 1 - j) 0 ⟨rfl, rfl, rfl, rfl, rfl, rfl, rfl, trivial⟩ (((st.pick [0, 1, 2, 3] rfl (by decide)).toIf (i := 0) _ rfl).toIf (i := 1) _ rfl) (by simp) ?_
 clear st
 intro j w hj st
 refine sr ?_
 refine vy (y_lss rfl rfl) ?_
 refine et (vk8 2 3 4 5 88 89 90 91 (vc_seq ?_))
 refine vif ?_ ?_
 ·intro hc91
  try simp only [dn] at hc91
  have hj0 : j = 0 := by omega
  subst hj0
  replace st := (st.unIf (i := 0) rfl rfl).unIf (i := 1) rfl rfl
  dsimp only [setNth] at st
  refine kt (vk7 2 3 4 5 88 89 90 (vc_seq (vc_block (sr ?_))))
  refine ym ?_
  refine vy ((by exact y_ia (k := 0) rfl rfl underlying79 sizeOf143 rfl (by omega))) ?_
  refine vy ((by exact y_ldca [str [97], .slice oc 0 cc, .slice ob 1 cb, .int .i64 a] rfl isAgg143 sizeOf143 rfl (fun i v hi => st.chg.cell (htc i v hi) (by simp)))) ?_
  refine vc_e (e_al (l := [_, _, _, _]) st rfl rfl zeroValue143 rfl ?_)
  intro b11 w hb11 st
  refine ya ?_
  refine vc_e (ests st 0 [_, _, _, _] sizeOf143 ?_)
  intro w st; dsimp only [setNth, wr] at st
  refine et (vk9 2 3 4 5 10 11 88 89 90 (vc_seq ?_))
  refine vc_noPan ?_
  refine ddr0 Tryz.mixed (.take 0 (.take 1 (.take 2 (.take 3 (.take 7 (.take 8 (.take 9 (.take 13 (.take 14 (.two 4 10 (.take 5 (.two 6 10 (.one 10 (.take 11 (.one 12 (.one 15 (.one 16 (.one 17 .done)))))) (.take 11 (.one 6 (.one 12 (.one 15 (.one 16 (.one 17 .done)))))))) (.take 11 (.one 4 (.take 5 (.one 6 (.one 12 (.one 15 (.one 16 (.one 17 .done)))))))))))))))))) st ?_
  clear st; intro w st hS
  refine vd_take rfl rfl rfl hS (fun w st => (by exact y_faz (k := 3) rfl underlying143 rfl rfl sizeOf3 rfl)) ?_
  refine vd_take rfl rfl rfl hS (fun w st => (by exact y_ld st 0 rfl isAgg3 rfl rfl)) ?_
  refine df0 hS underlying143 sizeOf9 ?_
  refine vd_take rfl rfl rfl hS (fun w st => (by exact y_ld st 0 rfl isAgg9 rfl rfl)) ?_
  refine dm hS ?_
  refine df0 hS underlying143 sizeOf9 ?_
  refine vd_take rfl rfl rfl hS (fun w st => (by exact y_ld st 0 rfl isAgg9 rfl rfl)) ?_
  refine dm hS ?_
  refine vd_take rfl rfl rfl hS (fun w st => y_eqi rfl rfl) ?_
  refine vd_two rfl rfl ?_ ?_
  focus
   refine (e_call [_] rfl rfl call43 rfl (name_any _ _) ?_)
   rintro _ _ ⟨rfl, rfl⟩
   refine vd_next (by exact st) ?_; intro hS
   refine vd_take rfl rfl rfl hS (fun w st => y_not rfl) ?_
   refine vd_two rfl rfl ?_ ?_
   refine (e_call [_, _] rfl rfl call125 rfl (when_any _ _ _) ?_)
   rintro _ _ ⟨rfl, rfl⟩
   refine vd_next (by exact st) ?_; intro hS
   refine vd_do rfl (e_lkF1 (z := .int .i64 0) st 1 rfl rfl rfl rfl rfl underlying195 underlying9 zeroValue3 ?_)
   dsimp only [getF, Option.getD]
   refine vd_next (by exact st) ?_; intro hS
   refine vd_take rfl rfl rfl hS (fun w st => y_gtr rfl rfl) ?_
   rotate_left
   refine (e_lkF1 (z := .int .i64 0) st 1 rfl rfl rfl rfl rfl underlying195 underlying9 zeroValue3 ?_)
   dsimp only [getF, Option.getD]
   refine vd_next (by exact st) ?_; intro hS
   refine vd_take rfl rfl rfl hS (fun w st => y_gtr rfl rfl) ?_
   refine vd_do rfl (e_call [_, _] rfl rfl call125 rfl (when_any _ _ _) ?_)
   rintro _ _ ⟨rfl, rfl⟩
   refine vd_next (by exact st) ?_; intro hS
  rotate_left 2
  refine (e_lkF1 (z := .int .i64 0) st 1 rfl rfl rfl rfl rfl underlying195 underlying9 zeroValue3 ?_)
  dsimp only [getF, Option.getD]
  refine vd_next (by exact st) ?_; intro hS
  refine vd_take rfl rfl rfl hS (fun w st => y_gtr rfl rfl) ?_
  refine vd_do rfl (e_call [_] rfl rfl call43 rfl (name_any _ _) ?_)
  rintro _ _ ⟨rfl, rfl⟩
  refine vd_next (by exact st) ?_; intro hS
  refine vd_take rfl rfl rfl hS (fun w st => y_not rfl) ?_
  refine vd_do rfl (e_call [_, _] rfl rfl call125 rfl (when_any _ _ _) ?_)
  rintro _ _ ⟨rfl, rfl⟩
  refine vd_next (by exact st) ?_; intro hS
  all_goals
   refine vd_do rfl (e_call [_, _] rfl rfl call125 rfl (when_any _ _ _) ?_)
   rintro _ _ ⟨rfl, rfl⟩
   refine vd_next (by exact st) ?_; intro hS
   refine vd_do rfl (e_call [_, _] rfl rfl call125 rfl (when_any _ _ _) ?_)
   rintro _ _ ⟨rfl, rfl⟩
   refine vd_next (by exact st) ?_; intro hS
   refine vd_do rfl (e_bsn (l := [if (!isName [97]) = true then 1 else 0, if decide ((0 : Int) > 0) = true then 2 else 0, if decide (((0 : Nat) : Int) = 8) = true then 3 else 0].map iV) (E := 3) st [(0, _), (1, _), (2, _)] rfl rfl rfl (fun w => by simp [Instr.buildSlice, run_underlying underlying88, sizeOf3, zeroValue3, Instr.fill, newRow, newObj, Sem.run, go_sem, Value.cells]) ?_)
   intro b111 w hb111 st
   refine vd_next (by exact st.drop (by repeat (first | exact sl0 | apply sl1 | apply sl2))) ?_; intro hS
   refine vd_do rfl (e_call [_, _] rfl rfl call124 rfl (breaks_ok _ [_, _, _] (by decide) b111 _ _ _ _ (st.res (i := 0) rfl) (by simp)) ?_)
   intro _ w cw
   replace st := st.call0 cw
   refine vd_next (by exact st.drop (by repeat (first | exact sl0 | apply sl1 | apply sl2))) ?_; intro hS
   refine vd_end ?_
   refine vq_noPan ?_
   refine vq_then (vk8 2 3 4 5 11 88 89 90 (sr ?_))
   refine ym ?_
   refine vy (y_fa0 rfl underlying143 rfl rfl sizeOf9 rfl) ?_
   refine vy ((by exact y_ld st 1 rfl isAgg9 rfl rfl)) ?_
   refine vc_e (e_muF st 2 rfl rfl rfl rfl rfl (.inr hb18) underlying195 underlying9 rfl ?_)
   intro w st; dsimp only [setNth] at st
   refine et (vk8 2 3 4 5 11 88 89 90 (vc_region ?_))
   refine ym ?_
   refine vy ((by exact y_lda (vs := [_, _, _, _]) st 1 rfl isAgg143 sizeOf143 rfl rfl)) ?_
   refine vc_e (e_callk [_, _] rfl rfl call126 rfl (cthread_any b17 os ol (some ⟨tb, to_, none⟩) oc ob cs cl ct 1 cc cb (some mb) (.map none) a e n _ (st.res (i := 3) rfl) (hp.kept st.chg (by simp)) (Nat.le_trans hn hb17)) (by
       rintro _ w' ⟨⟨p, r, rfl⟩, ch⟩
       have st' := st.lostIf (o := mapF []) (p := False) (i := 3) rfl ch (.inr hb17) id
       dsimp only [setNth] at st'
       exact first_pan (st'.res (i := 5) rfl) (st'.res (i := 4) rfl) (st'.bne 5 4 (by decide) rfl rfl) hb2 hb3 st'.chg rfl rfl) ?_)
   intro _ w cw
   replace st := ((st.lostIf (o := .cells [.slice os 0 cs, .slice ol 0 cl, .slice (some ⟨tb, to_, none⟩) 1 ct, .map (some mb), .map none].toArray 197 (0, 0)) (i := 3) rfl cw (.inr hb17) (by decide : ¬ (1 : Nat) = 0)).noIf (o := mapF []) (i := 2) rfl (by decide : ¬ (1 : Nat) = 0)).pick [2, 3, 4, 5] rfl (by decide)
   refine vc_end (vq_block (vq_then (vk7 2 3 4 5 88 89 90 (vc_region ?_))))
   refine vy (y_add rfl rfl (by omega : _ = ((0 + 1 : Nat) : Int)) (by omega) (by omega)) ?_
   refine ym ?_
   refine vc_end ?_
   refine vq_again 1  ⟨rfl, rfl, rfl, rfl, rfl, rfl, rfl, trivial⟩ st ?_ ?_
   ·omega
   ·omega
 intro hc91
 try simp only [dn] at hc91
 refine vc_exit (vq_then_exit (vq_then_exit (vq_block_exit (vq_then (vk2 2 3 (sr ?_))))))
 refine vy (ybd (.agg #[_, _]) []) ?_
 refine vc_e (ests st 3 [_, _] sizeOf30 ?_)
 intro w st; dsimp only [setNth, wr] at st
 refine vc_e (est st 2 sizeOf4 ?_)
 intro w st; dsimp only [setNth, wr] at st
 refine et (vk2 2 3 (vc_ret ?_))
 refine vqd_ret (.inl rfl) call122 (first_idle [.pointer (some ⟨b2, 0, none⟩), .pointer (some ⟨b3, 0, none⟩)] rfl _) (fun w2 e2 => ?_)
 subst e2
 exact ⟨_, results2 st results95 (.cell 3 rfl rfl isAgg30 sizeOf30) (.cell1 2 rfl rfl isAgg4 rfl), _, rfl, ⟨_, _, _, rfl⟩, st.chg⟩
theorem ccheck_any (os ol oc ob : Option Addr) (cs cl ct cc cb tb to_ : Nat) (a : Int) (e : Ex) (n : Nat) (w : World) (hn : n ≤ w.heap.size) (htn : tb < n) (hp : Pr1 n w ob e) (htc : ∀ (i : Nat) v, ([str [97], .slice oc 0 cc, .slice ob 1 cb, .int .i64 a] : List Value)[i]? = some v → w.cell? ⟨tb, to_ + 0 * 4 + i, none⟩ = some v) : Ret Tryz.prog 48 [.agg [.slice os 0 cs, .slice ol 0 cl, .slice (some ⟨tb, to_, none⟩) 1 ct].toArray] w (fun v w' => (∃ (c p r : Int), v = .tuple #[.int .i64 c, .agg #[.int .i64 p, .int .i64 r]]) ∧ Chg [] w w') := by
 refine ret_of [_] func48 rfl ntmps48 rfl ?_
 have st := St.init w []
 obtain ⟨w0, rfl⟩ : ∃ w0, w0 = w := ⟨_, rfl⟩
 refine sr ?_
 refine vc_e (e_bx (l := [_, _, _]) st rfl rfl rfl rfl ?_)
 intro b1 w hb1 st
 refine ya ?_
 refine vc_e (e_al (l := [_, _]) st rfl rfl zeroValue30 rfl ?_)
 intro b3 w hb3 st
 refine et (vk2 1 3 (vc_seq (sr ?_)))
 refine vy ((by exact y_lda (vs := [_, _, _]) st 1 rfl isAgg81 sizeOf81 rfl rfl)) ?_
 refine vc_e (e_call [_] rfl rfl call95 rfl (cfirst_any os ol oc ob cs cl ct cc cb tb to_ a e n _ (Nat.le_trans hn st.chg.size) htn (hp.kept st.chg (by simp)) (fun i v hi => st.chg.cell (htc i v hi) (by simp))) ?_)
 rintro _ w ⟨⟨p, r, b, rfl⟩, cw⟩
 replace st := st.call0 cw
 refine ym ?_
 iterate 2 refine vy (y_ext rfl rfl) ?_
 refine vc_e (e_al (l := [_, _]) st rfl rfl zeroValue30 rfl ?_)
 intro b4 w hb4 st
 refine vc_e (ests st 0 [_, _] sizeOf30 ?_)
 intro w st; dsimp only [setNth, wr] at st
 refine ya ?_
 refine et (vk3 3 4 5 (sr ?_))
 refine ym ?_
 refine et (vk3 3 4 11 ?_)
 refine vif ?_ ?_
 intro hc11
 try simp only [dn] at hc11
 refine vc_seq ?_
 refine vc_draw Tryz.mixed [(0, true), (1, true), (2, false)] (fun w => St _ _ [.blk b4 (.cells [.int .i64 p, .int .i64 r].toArray 30 (0, 0))] w) (by exact st.drop (by repeat (first | exact sl0 | apply sl1 | apply sl2))) (by kernel_rfl) (by repeat (first | exact okQ_noPan | exact okQ_body | exact okQ_bodyS | refine okQ_then ?_ | refine okQ_block ?_)) rfl (by kernel_rfl) ?_
 intro w cd; replace st := st.call0 cd; clear cd
 have hS : St _ _ [.blk b4 (.cells [.int .i64 p, .int .i64 r].toArray 30 (0, 0))] w := (by exact st.drop (by repeat (first | exact sl0 | apply sl1 | apply sl2)))
 refine vp_take rfl rfl rfl hS (fun w st => (by exact y_lda (vs := [_, _]) st 0 rfl isAgg30 sizeOf30 rfl rfl)) ?_
 refine vp_take rfl rfl rfl hS (fun w st => y_as rfl) ?_
 refine vp_do rfl (ests st 1 [_, _] sizeOf30 ?_)
 intro w st; dsimp only [setNth, wr] at st
 refine vp_next (by exact st.drop (by repeat (first | exact sl0 | apply sl1 | apply sl2))) ?_; intro hS
 refine vp_end (vq_then (vk2 2 3 (vc_ret (vq_then_ret ?_))))
 rotate_left
 intro hc11
 try simp only [dn] at hc11
 refine kt (vk1 3 (sr ?_))
 refine vy (ybd (.agg #[_, _]) []) ?_
 refine ya ?_
 refine vc_e (ests st 1 [_, _] sizeOf30 ?_)
 intro w st; dsimp only [setNth, wr] at st
 refine et (vk2 2 3 (vc_ret ?_))
 all_goals
  refine vq_ret2 st (.inl rfl) results48 (.tmp rfl) (by exact .cell 1 rfl rfl isAgg30 sizeOf30) ?_
  refine ⟨_, rfl, ?_⟩
  exact ⟨⟨_, _, _, rfl⟩, st.chg⟩
end Go.Proofs.YtjoepkpdanolkaaGreatDoor


/- The graph of a thread that is being made: its nodes' cells. -/
namespace ParS
open Sx LexS Go Go.RowKit

def vB : Vl → Bool | .num _ => false | .slot _ => true
def vS : Vl → Int | .num _ => 0 | .slot k => (k : Int)
def vW : Vl → Int | .num w => w | .slot _ => 0
def nK : Nd → Int | .set .. => 1 | .prt _ => 7 | .fin => 9
def nO : Nd → Int | .set op _ _ _ => op | _ => 0
def nS : Nd → Int | .set _ s _ _ => (s : Int) | _ => 0
def nA : Nd → Vl | .set _ _ a _ => a | .prt a => a | .fin => .num 0
def nB : Nd → Vl | .set _ _ _ b => b | _ => .num 0
abbrev vlC (v : Vl) : List Value := [.bool (vB v), .int .i64 (vS v), .int .i64 (vW v)]
abbrev ndC (x : Nd) (nx og : Nat) : List Value := [.int .u8 (nK x), .int .u8 (nO x), .int .i64 (nS x), .int .i64 0, .bool (vB (nA x)), .int .i64 (vS (nA x)), .int .i64 (vW (nA x)), .bool (vB (nB x)), .int .i64 (vS (nB x)), .int .i64 (vW (nB x)), .int .i64 (nx : Int), .int .i64 0, .int .i64 (og : Int)]
/-- nodes in a row from number 'i' on, each leading to the next one, the last to 'e' -/
def linO : List Nd → Nat → Nat → List Value
  | [], _, _ => []
  | x :: r, i, e => ndC x (if r.length = 0 then e else i + 1) i ++ linO r (i + 1) e
theorem linO_len : ∀ (N : List Nd) (i e : Nat), (linO N i e).length = N.length * 13
  | [], _, _ => rfl
  | x :: r, i, e => by rw [linO, List.length_append, linO_len r (i + 1) e]; simp; omega
theorem linO_one : ∀ (N : List Nd) (i e : Nat), ∀ u ∈ linO N i e, u.oneCell' = true
  | [], _, _ => by simp [linO]
  | x :: r, i, e => by
    intro u hu
    rw [linO] at hu
    rcases List.mem_append.1 hu with h | h
    · simp at h; rcases h with h | h | h | h | h | h | h | h | h | h | h | h | h <;> rw [h] <;> rfl
    · exact linO_one r _ _ u h
theorem linO_snoc : ∀ (N : List Nd) (x : Nd) (i e : Nat), linO N i (i + N.length) ++ ndC x e (i + N.length) = linO (N ++ [x]) i e
  | [], x, i, e => by simp [linO]
  | y :: r, x, i, e => by
    rw [List.cons_append, linO, linO, List.append_assoc]
    congr 1
    · congr 1
      by_cases h : r.length = 0
      · simp [h]
      · simp [h]
    · have := linO_snoc r x (i + 1) e
      rw [← this]
      have e1 : i + (y :: r).length = i + 1 + r.length := by simp; omega
      rw [e1]
theorem linO_last : ∀ (N : List Nd) (i e e' : Nat), 0 < N.length → (linO N i e).take ((N.length - 1) * 13 + 10) ++ [.int .i64 (e' : Int)] ++ (linO N i e).drop ((N.length - 1) * 13 + 11) = linO N i e'
  | [], _, _, _, h => absurd h (by decide)
  | [x], i, e, e', _ => by simp [linO]
  | x :: y :: r, i, e, e', _ => by
    have ih := linO_last (y :: r) (i + 1) e e' (by simp)
    have e1 : ((x :: y :: r).length - 1) * 13 = 13 + ((y :: r).length - 1) * 13 := by simp; omega
    have hx : ∀ e, linO (x :: y :: r) i e = ndC x (i + 1) i ++ linO (y :: r) (i + 1) e := by
      intro e; rw [linO]; simp
    rw [hx e, hx e', ← ih, e1]
    have h13 : ∀ (l : List Value), l.length = 13 → ∀ (m : List Value) k, (l ++ m).take (13 + k) = l ++ m.take k ∧ (l ++ m).drop (13 + k) = m.drop k := by
      intro l hl m k
      rw [← hl]
      exact ⟨List.take_length_add_append k, List.drop_length_add_append k⟩
    have e2 : ∀ a, 13 + a + 10 = 13 + (a + 10) := by intro a; omega
    have e3 : ∀ a, 13 + a + 11 = 13 + (a + 11) := by intro a; omega
    rw [e2, e3]
    rw [(h13 _ (by rfl) _ _).1, (h13 _ (by rfl) _ _).2]
    simp only [List.length_cons, List.append_assoc]
theorem linO_get : ∀ {N : List Nd} {j : Nat} {x : Nd} (i e : Nat), N[j]? = some x → ((linO N i e).drop (j * 13)).take 13 = ndC x (if j + 1 = N.length then e else i + j + 1) (i + j)
  | [], j, x, i, e, h => by simp at h
  | y :: r, 0, x, i, e, h => by
    simp only [List.getElem?_cons_zero, Option.some.injEq] at h
    subst h
    rw [linO]
    by_cases hr : r.length = 0
    · simp [hr]
    · simp [hr]
  | y :: r, j + 1, x, i, e, h => by
    simp only [List.getElem?_cons_succ] at h
    have ih := linO_get (i + 1) e h
    rw [linO, show (j + 1) * 13 = 13 + j * 13 by omega]
    have h13 : ∀ (l : List Value), l.length = 13 → ∀ (m : List Value) k, (l ++ m).drop (13 + k) = m.drop k := by
      intro l hl m k
      rw [← hl]
      exact List.drop_length_add_append k
    rw [h13 _ (by rfl), ih]
    have e1 : i + 1 + j = i + (j + 1) := by omega
    simp only [List.length_cons, e1, Nat.add_right_cancel_iff]
/-- what the cell 'k' of node 'j' has -/
theorem linO_cell {N : List Nd} {j k : Nat} {x : Nd} {v : Value} (i e : Nat) (h : N[j]? = some x) (hk : (ndC x (if j + 1 = N.length then e else i + j + 1) (i + j))[k]? = some v) : (linO N i e)[j * 13 + k]? = some v := by
  have hlt : k < 13 := by have := (List.getElem?_eq_some_iff.1 hk).1; simpa using this
  rw [← linO_get i e h, List.getElem?_take, if_pos hlt, List.getElem?_drop] at hk
  exact hk
/-! ### as long as a graph may be -/
abbrev rl (N : List Nd) : List Nd := N.take 4096
theorem rl_lt {N : List Nd} (h : (rl N).length < 4096) : rl N = N ∧ N.length < 4096 := by
  simp only [List.length_take] at h
  have : N.length < 4096 := by omega
  exact ⟨List.take_of_length_le (by omega), this⟩
theorem rl_full {N : List Nd} (h : 4096 ≤ (rl N).length) (x : Nd) : rl (N ++ [x]) = rl N ∧ 4096 < (N ++ [x]).length := by
  simp only [List.length_take] at h
  exact ⟨List.take_append_of_le_length (by omega), by simp; omega⟩
theorem rl_put {N : List Nd} (h : N.length < 4096) (x : Nd) : rl (N ++ [x]) = N ++ [x] ∧ ¬ 4096 < (N ++ [x]).length := ⟨List.take_of_length_le (by simp; omega), by simp; omega⟩
/-! ### when a node may stand -/
def u8And (p q : Int) : Int := IntKind.u8.wrap ((BitVec.ofInt 8 p) &&& (BitVec.ofInt 8 q)).toNat
def kx : Nd → Nat | .set .. => 1 | .prt _ => 7 | .fin => 9
def tbN : Nd → Int | .set .. => 43 | .prt _ => 40 | .fin => 0
/-- which fields it has -/
def pN : Nd → Int | .set op _ _ _ => if twoOp op = true then 59 else 43 | .prt _ => 40 | .fin => 0
theorem nK_kx (x : Nd) : nK x = (kx x : Int) := by cases x <;> rfl
theorem kx_lt (x : Nd) : kx x < 10 := by cases x <;> simp [kx]
def okF (s : Nat) : Nd → Prop
  | .set op t a b => 0 < op ∧ op < 19 ∧ t < s ∧ inV s a ∧ inV s b ∧ (twoOp op = false → b = .num 0)
  | .prt a => inV s a
  | .fin => True
def wiB (p has k most : Int) : Bool := if u8And p has = 0 then decide (k = 0) else decide (0 ≤ k ∧ k < most)
section
variable {s : Nat} {x : Nd}
theorem pN_set {op : Int} {t : Nat} {a b : Vl} {k m : Int} (h1 : u8And 59 k = m) (h2 : u8And 43 k = m) : u8And (pN (.set op t a b)) k = m := by
  simp only [pN]; split
  · exact h1
  · exact h2
theorem wiB_pos {p has k most : Int} (h : u8And p has ≠ 0) (h1 : 0 ≤ k) (h2 : k < most) : wiB p has k most = true := by unfold wiB; rw [if_neg h]; exact decide_eq_true ⟨h1, h2⟩
theorem wiB_zero {p has most : Int} (h : u8And p has = 0) : wiB p has 0 most = true := by unfold wiB; rw [if_pos h]; rfl
theorem ck1 (h : okF s x) : wiB (pN x) 1 (nO x) 19 = true := by
  cases x with
  | set op t a b => exact wiB_pos (by rw [pN_set (m := 1) (by decide) (by decide)]; decide) (Int.le_of_lt h.1) h.2.1
  | prt a => exact wiB_zero (p := 40) (by decide)
  | fin => exact wiB_zero (p := 0) (by decide)
theorem ck2 (h : okF s x) : wiB (pN x) 2 (nS x) (s : Int) = true := by
  cases x with
  | set op t a b =>
    have ht : t < s := h.2.2.1
    exact wiB_pos (by rw [pN_set (m := 2) (by decide) (by decide)]; decide) (Int.natCast_nonneg t) (Int.ofNat_lt.2 ht)
  | prt a => exact wiB_zero (p := 40) (by decide)
  | fin => exact wiB_zero (p := 0) (by decide)
theorem ck3 (m : Int) : wiB (pN x) 4 0 m = true := by
  cases x with
  | set op t a b => exact wiB_zero (pN_set (by decide) (by decide))
  | prt a => exact wiB_zero (p := 40) (by decide)
  | fin => exact wiB_zero (p := 0) (by decide)
theorem ck5 (m : Int) : wiB (pN x) 64 0 m = true := by
  cases x with
  | set op t a b => exact wiB_zero (pN_set (by decide) (by decide))
  | prt a => exact wiB_zero (p := 40) (by decide)
  | fin => exact wiB_zero (p := 0) (by decide)
theorem ck4 {n m : Nat} (hn : n < m) (h0 : x = .fin → n = 0) : wiB (pN x) 32 (n : Int) (m : Int) = true := by
  cases x with
  | set op t a b => exact wiB_pos (by rw [pN_set (m := 32) (by decide) (by decide)]; decide) (Int.natCast_nonneg n) (Int.ofNat_lt.2 hn)
  | prt a => exact wiB_pos (p := 40) (by decide) (Int.natCast_nonneg n) (Int.ofNat_lt.2 hn)
  | fin => rw [h0 rfl]; exact wiB_zero (p := 0) (by decide)
theorem ckA (h : okF s x) : (u8And (pN x) 8 = 0 → nA x = .num 0) ∧ (u8And (pN x) 8 ≠ 0 → inV s (nA x)) := by
  cases x with
  | set op t a b => exact ⟨fun e => by rw [pN_set (m := 8) (by decide) (by decide)] at e; exact absurd e (by decide), fun _ => h.2.2.2.1⟩
  | prt a => exact ⟨fun e => absurd (show u8And 40 8 = 0 from e) (by decide), fun _ => h⟩
  | fin => exact ⟨fun _ => rfl, fun _ => trivial⟩
theorem ckB (h : okF s x) : (u8And (pN x) 16 = 0 → nB x = .num 0) ∧ (u8And (pN x) 16 ≠ 0 → inV s (nB x)) := by
  cases x with
  | set op t a b =>
    refine ⟨fun e => ?_, fun _ => h.2.2.2.2.1⟩
    simp only [pN] at e
    split at e
    · exact absurd e (by decide)
    · rename_i h2; exact h.2.2.2.2.2 (by simpa using h2)
  | prt a => exact ⟨fun _ => rfl, fun _ => trivial⟩
  | fin => exact ⟨fun _ => rfl, fun _ => trivial⟩
end
/-- a graph in a row: only the last node ends, all may stand -/
structure GN (N : List Nd) (s : Nat) : Prop where
  pos : 0 < N.length
  le : N.length ≤ 4096
  sl : s ≤ 4096
  ok : ∀ x ∈ N, okF s x
  fin : ∀ (j : Nat) x, N[j]? = some x → (x = .fin ↔ j + 1 = N.length)
theorem okNd_okF {s : Nat} {x : Nd} (h : okNd s x) : okF s x := by
  cases x with
  | set op t a b => exact h
  | prt a => exact h.elim
  | fin => exact h.elim
theorem okNd_nofin {s : Nat} {x : Nd} (h : okNd s x) : x ≠ .fin := by
  rintro rfl; exact h
theorem gn_of {e : Ex} {d : Nat} (hr : rightE e d = true) (hk : (rkX e).2 = true) (hle : (((low e 0).1 ++ [Nd.prt (low e 0).2.2]) ++ [Nd.fin]).length ≤ 4096) : GN (((low e 0).1 ++ [Nd.prt (low e 0).2.2]) ++ [Nd.fin]) (low e 0).2.1 := by
  have L := low_good _ e rfl d hr hk 0
  have hc := L.cnt
  simp only [List.length_append, List.length_cons, List.length_nil] at hle
  refine ⟨by simp, by simp only [List.length_append, List.length_cons, List.length_nil]; omega, by omega, fun x hx => ?_, fun j x hj => ?_⟩
  · rcases List.mem_append.1 hx with hx | hx
    · rcases List.mem_append.1 hx with hx | hx
      · exact okNd_okF (L.ok x hx)
      · obtain rfl := List.mem_singleton.1 hx; exact L.v
    · obtain rfl := List.mem_singleton.1 hx; trivial
  · have hlt := (List.getElem?_eq_some_iff.1 hj).1
    simp only [List.length_append, List.length_cons, List.length_nil] at hlt ⊢
    constructor
    · rintro rfl
      refine Classical.byContradiction fun hne => ?_
      have h2 : j < ((low e 0).1 ++ [Nd.prt (low e 0).2.2]).length := by simp only [List.length_append, List.length_cons, List.length_nil]; omega
      rw [List.getElem?_append_left h2] at hj
      have hm := List.mem_of_getElem? hj
      rcases List.mem_append.1 hm with hm | hm
      · exact okNd_nofin (L.ok _ hm) rfl
      · simp at hm
    · intro hj2
      have h2 : ((low e 0).1 ++ [Nd.prt (low e 0).2.2]).length = j := by simp only [List.length_append, List.length_cons, List.length_nil]; omega
      rw [← h2, List.getElem?_append_right (Nat.le_refl _), Nat.sub_self] at hj
      simpa using hj.symm
end ParS


namespace Go.Proofs.YtjoepkpdanolkaaGreatDoor
open Go.RowKit Sx LexS ParS _root_.Go.Proofs.Tryz
theorem Tryz.info103 : Tryz.prog.info? 103 = some Tryz.t103 := by kernel_rfl
/-- the graph's maker: what was read, slots, nodes, what is open, is it over? -/
abbrev loC (p0 p1 p2 : Value) (s : Nat) (gv ov : Value) (over : Bool) : List Value := [p0, p1, p2, .int .i64 0, str [97], .int .i64 0, .int .i64 (s : Int), gv, ov, .bool over]
/-- what is open: nothing, or the closure that has the last node lead on -/
def opV : Option (Nat × Nat × Nat) → Value
 | none => .slice none 0 0
 | some (ob, _, _) => .slice (some ⟨ob, 0, none⟩) 1 1
def opS : Option (Nat × Nat × Nat) → List Nat
 | none => []
 | some (ob, c1, c2) => [ob, c1, c2]
abbrev nxF (c1 c2 : Nat) : Value := .func (.func 135) #[] [.pointer (some ⟨c1, 0, none⟩), .pointer (some ⟨c2, 0, none⟩)].toArray
def opOk (xb : Nat) (N : List Nd) (w : World) : Option (Nat × Nat × Nat) → Prop
 | none => N = []
 | some (ob, c1, c2) => N ≠ [] ∧ w.heap[ob]? = some (.cells [nxF c1 c2].toArray 74 (0, 0)) ∧ w.heap[c1]? = some (.cells [.pointer (some ⟨xb, 0, none⟩)].toArray 144 (0, 0)) ∧ w.heap[c2]? = some (.cells [.int .i64 (((rl N).length - 1 : Nat) : Int)].toArray 3 (0, 0))
def loS (xb : Nat) (gv : Value) (q : Option (Nat × Nat × Nat)) : List Nat := xb :: (gv.ownBlock.toList ++ opS q)
structure Lo (xb : Nat) (p0 p1 p2 : Value) (N : List Nd) (s : Nat) (gv : Value) (q : Option (Nat × Nat × Nat)) (w : World) : Prop where
 cell : w.heap[xb]? = some (.cells (loC p0 p1 p2 s gv (opV q) (decide (4096 < N.length))).toArray 147 (0, 0))
 row : w.ownsRow 0 103 13 gv (rl N).length (linO (rl N) 0 0)
 opn : opOk xb N w q
 nd : (loS xb gv q).Nodup

theorem lnext_any (xb k : Nat) (w : World) : Ret Tryz.prog 104 [.pointer (some ⟨xb, 0, none⟩), .int .i64 (k : Int)] w fun v w' => (∃ c1 c2, v = nxF c1 c2 ∧ w'.heap[c1]? = some (.cells [.pointer (some ⟨xb, 0, none⟩)].toArray 144 (0, 0)) ∧ w'.heap[c2]? = some (.cells [.int .i64 (k : Int)].toArray 3 (0, 0)) ∧ c1 ≠ c2 ∧ w.heap.size ≤ c1 ∧ w.heap.size ≤ c2) ∧ Chg [] w w' := by
 refine ret_of [_, _] func104 rfl ntmps104 rfl ?_
 have st := St.init w []
 refine sr ?_
 refine vc_e (e_bx (l := [_]) st rfl rfl rfl rfl ?_)
 intro b2 w hb2 st
 refine vc_e (e_bx (l := [_]) st rfl rfl rfl rfl ?_)
 intro b3 w hb3 st
 refine ya ?_
 refine et (vk2 2 3 (sr ?_))
 refine vy (y_mf [] [_, _] rfl rfl) ?_
 refine ya ?_
 refine et (vk1 4 (vc_ret ?_))
 refine vr1 st results104 ?_
 exact ⟨⟨b2, b3, rfl, st.res (i := 1) rfl, st.res (i := 0) rfl, st.bne 1 0 (by decide) rfl rfl, hb2, hb3⟩, st.chg⟩
theorem lgo_any (xb gb n cap c1 c2 k tn s : Nat) (p0 p1 p2 ov : Value) (over : Bool) (xs : List Value) (w : World) (hx : w.heap[xb]? = some (.cells (loC p0 p1 p2 s (.slice (some ⟨gb, 0, none⟩) n cap) ov over).toArray 147 (0, 0))) (ho : w.ownsRow 0 103 13 (.slice (some ⟨gb, 0, none⟩) n cap) n xs) (hnd : [xb, gb, c1, c2].Nodup)
    (h1 : w.heap[c1]? = some (.cells [.pointer (some ⟨xb, 0, none⟩)].toArray 144 (0, 0))) (h2 : w.heap[c2]? = some (.cells [.int .i64 (k : Int)].toArray 3 (0, 0))) (hk : k < n) :
  Ret Tryz.prog 135 [.int .i64 (tn : Int), .pointer (some ⟨c1, 0, none⟩), .pointer (some ⟨c2, 0, none⟩)] w fun v w' => w'.ownsRow 0 103 13 (.slice (some ⟨gb, 0, none⟩) n cap) n (xs.take (k * 13 + 10) ++ [.int .i64 (tn : Int)] ++ xs.drop (k * 13 + 11)) ∧ Chg [gb] w w' := by
 refine ret_of [_, _, _] func135 rfl ntmps135 rfl ?_
 have st := St.init w []
 obtain ⟨w0, rfl⟩ : ∃ w0, w0 = w := ⟨_, rfl⟩
 have hlen : xs.length = n * 13 := ho.1
 simp only [List.nodup_cons, List.mem_cons, List.not_mem_nil, or_false, not_or, List.nodup_nil, and_true] at hnd
 replace st := ((((St.init w0 [gb]).addB h2 (by simp)).addB h1 (by simp [blk_at]; omega)).addB hx (by simp [blk_at]; omega)).add (r := frnZ [gb] w0.heap.size 103 13 (.slice (some ⟨gb, 0, none⟩) n cap) n xs) (frnZ_holds ho (fun k hk => .inl (by simpa [Value.ownBlock, eq_comm] using hk))) (by simp [blk_at, frnZ_at]; omega)
 refine vk_draw Tryz.mixed [(6, true), (0, true), (1, true), (2, true), (3, true), (4, true), (5, true), (7, true), (8, true), (9, false)] 9 (fun w => St _ _ _ w) st (by kernel_rfl) (by repeat (first | exact okQ_noPan | exact okQ_body | exact okQ_bodyS | refine okQ_then ?_ | refine okQ_block ?_)) rfl (by kernel_rfl) rfl ?_
 intro w cd; replace st := st.call0 cd; clear cd
 have hS := st
 refine km hS ?_
 refine vk_take rfl rfl rfl rfl hS (fun w st => (by exact y_ld st 2 rfl isAgg144 rfl rfl)) ?_
 refine vk_takeU rfl rfl rfl rfl (fun _ => hS) (fun w => y_nck rfl) ?_
 refine vk_takeU rfl rfl rfl rfl (fun _ => hS) (fun w => (by exact y_faz (k := 4) rfl underlying147 rfl rfl sizeOf98 rfl)) ?_
 refine vk_takeU rfl rfl rfl rfl (fun _ => hS) (fun w => (by exact y_fa (k := 3) rfl underlying98 rfl rfl sizeOf96 rfl)) ?_
 refine vk_take rfl rfl rfl rfl hS (fun w st => (by exact y_ld st 1 rfl isAgg96 rfl rfl)) ?_
 refine vk_take rfl rfl rfl rfl hS (fun w st => (by exact y_ld st 3 rfl isAgg3 rfl rfl)) ?_
 refine vk_takeU rfl rfl rfl rfl (fun _ => hS) (fun w => (by exact y_ia0 (k := k) rfl rfl underlying96 sizeOf103 rfl (by omega))) ?_
 refine vk_takeU rfl rfl rfl rfl (fun _ => hS) (fun w => (by exact y_fa (k := 10) rfl underlying103 rfl rfl sizeOf3 rfl)) ?_
 refine vk_do rfl rfl (e_stZ (vs := [_]) st 0 rfl rfl rfl rfl rfl sizeOf3 rfl (by simp only [List.length_cons, List.length_nil]; omega) ?_)
 intro w st; dsimp only [setNth] at st
 refine vk_late ?_
 refine vk_end ?_
 refine vq_ret0 (.inr rfl) results135 ?_
 refine ⟨_, rfl, ?_⟩
 exact ⟨(st.res (i := 0) rfl).1.1, st.chg⟩
/-- the last node leads on -/
def LeadP (xb : Nat) (p0 p1 p2 : Value) (N : List Nd) (s : Nat) (gv : Value) (over : Bool) (k : Nat) (w w' : World) : Prop := w'.heap[xb]? = some (.cells (loC p0 p1 p2 s gv (.slice none 0 0) over).toArray 147 (0, 0)) ∧ w'.ownsRow 0 103 13 gv N.length (linO N 0 k) ∧ Chg (xb :: gv.ownBlock.toList) w w'

theorem lead0_any (xb s k : Nat) (p0 p1 p2 gv : Value) (over : Bool) (w : World) (hx : w.heap[xb]? = some (.cells (loC p0 p1 p2 s gv (.slice none 0 0) over).toArray 147 (0, 0))) :
    Ret Tryz.prog 103 [.pointer (some ⟨xb, 0, none⟩), .int .i64 (k : Int)] w fun v w' => w'.heap[xb]? = some (.cells (loC p0 p1 p2 s gv (.slice none 0 0) over).toArray 147 (0, 0)) ∧ Chg [xb] w w' := by
 refine ret_of [_, _] func103 rfl ntmps103 rfl ?_
 have st := St.init w []
 replace st := St.of1 [xb] hx
 refine vc_seq (sr ?_)
 refine ym ?_
 refine ynk ?_
 refine vy ((by exact y_faz (k := 8) rfl underlying147 rfl rfl sizeOf145 rfl)) ?_
 refine yl st 0 isAgg145 ?_
 refine vy (y_lensl rfl underlying145) ?_
 refine ym ?_
 refine et (vk5 0 1 9 10 11 (vc_block ?_))
 refine vc_once ?_
 refine sr ?_
 refine vy (y_lss rfl rfl) ?_
 refine et (vk6 0 1 9 10 11 12 (vc_seq ?_))
 refine vif ?_ ?_
 ·intro hc12
  exfalso; revert hc12; decide
 intro hc12
 try simp only [dn] at hc12
 refine vc_exit (vq_then_exit (vq_then_exit (vq_block_exit (vq_then (vk1 0 (vc_region ?_))))))
 refine ym ?_
 refine ynk ?_
 refine vy ((by exact y_faz (k := 8) rfl underlying147 rfl rfl sizeOf145 rfl)) ?_
 first
 | refine vc_e (e_st st 0 rfl rfl rfl rfl sizeOf145 rfl rfl (by (left; exact .head _)) ?_)
 intro w st; dsimp only [setNth, wr] at st
 refine vc_end ?_
 refine vq_ret0 (.inr rfl) results103 ?_
 refine ⟨_, rfl, ?_⟩
 exact ⟨st.res (i := 0) rfl, st.chg⟩
set_option maxHeartbeats 1000000 in
theorem lead1_any (xb s k gb ob c1 c2 n cap : Nat) (p0 p1 p2 : Value) (over : Bool) (xs : List Value) (w : World) (hx : w.heap[xb]? = some (.cells (loC p0 p1 p2 s (.slice (some ⟨gb, 0, none⟩) n cap) (.slice (some ⟨ob, 0, none⟩) 1 1) over).toArray 147 (0, 0))) (ho : w.ownsRow 0 103 13 (.slice (some ⟨gb, 0, none⟩) n cap) n xs) (hnd : [xb, gb, ob, c1, c2].Nodup) (hn : 0 < n)
    (hob : w.heap[ob]? = some (.cells [nxF c1 c2].toArray 74 (0, 0))) (h1 : w.heap[c1]? = some (.cells [.pointer (some ⟨xb, 0, none⟩)].toArray 144 (0, 0))) (h2 : w.heap[c2]? = some (.cells [.int .i64 ((n - 1 : Nat) : Int)].toArray 3 (0, 0))) :
  Ret Tryz.prog 103 [.pointer (some ⟨xb, 0, none⟩), .int .i64 (k : Int)] w fun v w' => w'.heap[xb]? = some (.cells (loC p0 p1 p2 s (.slice (some ⟨gb, 0, none⟩) n cap) (.slice none 0 0) over).toArray 147 (0, 0)) ∧ w'.ownsRow 0 103 13 (.slice (some ⟨gb, 0, none⟩) n cap) n (xs.take ((n - 1) * 13 + 10) ++ [.int .i64 (k : Int)] ++ xs.drop ((n - 1) * 13 + 11)) ∧ Chg [xb, gb] w w' := by
 refine ret_of [_, _] func103 rfl ntmps103 rfl ?_
 have st := St.init w []
 obtain ⟨w0, rfl⟩ : ∃ w0, w0 = w := ⟨_, rfl⟩
 have hlen : xs.length = n * 13 := ho.1
 have hnd2 := hnd
 simp only [List.nodup_cons, List.mem_cons, List.not_mem_nil, or_false, not_or, List.nodup_nil, and_true] at hnd
 replace st := (((((St.init w0 [xb, gb]).addB h2 (by simp)).addB h1 (by simp [blk_at]; omega)).addB hob (by simp [blk_at]; omega)).addB hx (by simp [blk_at]; omega)).add (r := frnZ [xb, gb] w0.heap.size 103 13 (.slice (some ⟨gb, 0, none⟩) n cap) n xs) (frnZ_holds ho (fun k hk => .inl (by simp [Value.ownBlock] at hk; simp [hk]))) (by simp [blk_at, frnZ_at]; omega)
 refine vc_seq (sr ?_)
 refine ym ?_
 refine ynk ?_
 refine vy ((by exact y_faz (k := 8) rfl underlying147 rfl rfl sizeOf145 rfl)) ?_
 refine vy ((by exact y_ld st 1 rfl isAgg145 rfl rfl)) ?_
 refine vy (y_lensl rfl underlying145) ?_
 refine ym ?_
 refine et (vk5 0 1 9 10 11 (vc_block ?_))
 refine vc_loop (w0 := w0) (M := [xb, gb]) (fun (j : Nat) => [(0, .pointer (some ⟨xb, 0, none⟩)), (1, .int .i64 (k : Int)), (9, .slice (some ⟨ob, 0, none⟩) 1 1), (10, .int .i64 1), (11, .int .i64 (j : Int))]) (fun j => [frnZ [xb, gb] w0.heap.size 103 13 (.slice (some ⟨gb, 0, none⟩) n cap) n (if j = 0 then xs else xs.take ((n - 1) * 13 + 10) ++ [.int .i64 (k : Int)] ++ xs.drop ((n - 1) * 13 + 11)), .blk xb (.cells (loC p0 p1 p2 s (.slice (some ⟨gb, 0, none⟩) n cap) (.slice (some ⟨ob, 0, none⟩) 1 1) over).toArray 147 (0, 0)), .blk ob (.cells [nxF c1 c2].toArray 74 (0, 0)), .blk c1 (.cells [.pointer (some ⟨xb, 0, none⟩)].toArray 144 (0, 0)), .blk c2 (.cells [.int .i64 ((n - 1 : Nat) : Int)].toArray 3 (0, 0))]) (fun j w' => j ≤ 1) (fun j => 1 - j) 0 ⟨rfl, rfl, rfl, rfl, rfl, trivial⟩ st (by simp) ?_
 clear st
 intro j w hj st
 refine sr ?_
 refine vy (y_lss rfl rfl) ?_
 refine et (vk6 0 1 9 10 11 12 (vc_seq ?_))
 refine vif ?_ ?_
 ·intro hc12
  try simp only [dn] at hc12
  have hj0 : j = 0 := by omega
  subst hj0
  simp only [if_true] at st
  refine kt (vk5 0 1 9 10 11 (vc_seq (vc_block (sr ?_))))
  refine vy ((by exact y_ia0 (k := 0) rfl rfl underlying145 sizeOf74 rfl (by omega))) ?_
  refine vy ((by exact y_ld st 2 rfl isAgg74 rfl rfl)) ?_
  refine ya ?_
  refine et (vk6 0 1 5 9 10 11 (vc_region ?_))
  iterate 2 refine ym ?_
  refine vc_e (e_callv [_] rfl rfl rfl call135 rfl (lgo_any xb gb n cap c1 c2 (n - 1) k s p0 p1 p2 _ over xs _ (st.res (i := 1) rfl) (st.res (i := 0) rfl).1.1 (by simp; omega) (st.res (i := 3) rfl) (st.res (i := 4) rfl) (by omega)) ?_)
  rintro _ w ⟨ho2, cw⟩
  replace st := st.swap (i := 0) (r' := frnZ [xb, gb] w0.heap.size 103 13 (.slice (some ⟨gb, 0, none⟩) n cap) n (if 1 = 0 then xs else xs.take ((n - 1) * 13 + 10) ++ [.int .i64 (k : Int)] ++ xs.drop ((n - 1) * 13 + 11))) rfl cw (fun k hk => hk) (fun k hk => .inl (by simp at hk; simp [hk])) (fun k hk => .inl hk) (frnZ_holds (by simpa using ho2) (fun k hk => .inl (by simp [Value.ownBlock] at hk; simp [hk])))
  dsimp only [setNth] at st
  refine vc_end (vq_block (vq_then (vk5 0 1 9 10 11 (vc_region ?_))))
  refine vy (y_add rfl rfl (by omega : _ = ((0 + 1 : Nat) : Int)) (by omega) (by omega)) ?_
  refine ym ?_
  refine vc_end ?_
  refine vq_again 1  ⟨rfl, rfl, rfl, rfl, rfl, trivial⟩ st ?_ ?_
  ·omega
  omega
 intro hc12
 try simp only [dn] at hc12
 have hj1 : j = 1 := by omega
 subst hj1
 simp only [Nat.one_ne_zero, if_false] at st
 refine vc_exit (vq_then_exit (vq_then_exit (vq_block_exit (vq_then (vk1 0 (vc_region ?_))))))
 refine ym ?_
 refine ynk ?_
 refine vy ((by exact y_faz (k := 8) rfl underlying147 rfl rfl sizeOf145 rfl)) ?_
 refine vc_e (e_st st 1 rfl rfl rfl rfl sizeOf145 rfl rfl (by (left; exact .head _)) ?_)
 intro w st; dsimp only [setNth, wr] at st
 refine vc_end ?_
 refine vq_ret0 (.inr rfl) results103 ?_
 refine ⟨_, rfl, ?_⟩
 exact ⟨st.res (i := 1) rfl, (st.res (i := 0) rfl).1.1, st.chg⟩
theorem Lo.of {xb : Nat} {p0 p1 p2 : Value} {N : List Nd} {s : Nat} {gv : Value} {q : Option (Nat × Nat × Nat)} {w : World} (h1 : w.heap[xb]? = some (.cells (loC p0 p1 p2 s gv (opV q) (decide (4096 < N.length))).toArray 147 (0, 0))) (h2 : w.ownsRow 0 103 13 gv (rl N).length (linO (rl N) 0 0)) (h3 : opOk xb N w q) (h4 : (loS xb gv q).Nodup) : Lo xb p0 p1 p2 N s gv q w := ⟨h1, h2, h3, h4⟩
theorem opOk.lt {xb : Nat} {N : List Nd} {w : World} {q : Option (Nat × Nat × Nat)} (h : opOk xb N w q) : ∀ k ∈ opS q, k < w.heap.size := by
 intro k hk
 match q, h, hk with
 | none, h, hk => simp [opS] at hk
 | some (ob, c1, c2), h, hk =>
  obtain ⟨-, g1, g2, g3⟩ := h
  simp only [opS, List.mem_cons, List.not_mem_nil, or_false] at hk
  rcases hk with rfl | rfl | rfl
  ·exact (Array.getElem?_eq_some_iff.1 g1).1
  ·exact (Array.getElem?_eq_some_iff.1 g2).1
  ·exact (Array.getElem?_eq_some_iff.1 g3).1
theorem opOk.kept {xb : Nat} {N : List Nd} {w w' : World} {q : Option (Nat × Nat × Nat)} (h : opOk xb N w q) (hk : ∀ k ∈ opS q, w'.heap[k]? = w.heap[k]?) : opOk xb N w' q := by
 match q, h, hk with
 | none, h, hk => exact h
 | some (ob, c1, c2), h, hk =>
  obtain ⟨g0, g1, g2, g3⟩ := h
  exact ⟨g0, (hk ob (by simp [opS])).trans g1, (hk c1 (by simp [opS])).trans g2, (hk c2 (by simp [opS])).trans g3⟩
theorem Lo.reg {xb : Nat} {p0 p1 p2 : Value} {N : List Nd} {s : Nat} {gv : Value} {q : Option (Nat × Nat × Nat)} {w : World} (h : Lo xb p0 p1 p2 N s gv q w) : Reg (loS xb gv q) (Lo xb p0 p1 p2 N s gv q) w := by
 refine ⟨h, fun k hk => ?_, fun w w' hs hk h => ⟨(hk xb (.head _)).trans h.cell, loc_ownsZ _ _ _ _ _ w w' hs (fun k hk' => hk k (.tail _ (List.mem_append.2 (.inl hk')))) h.row, h.opn.kept (fun k hk' => hk k (.tail _ (List.mem_append.2 (.inr hk')))), h.nd⟩⟩
 rcases List.mem_cons.1 hk with rfl | hk
 ·exact (Array.getElem?_eq_some_iff.1 h.cell).1
 ·rcases List.mem_append.1 hk with hk | hk
  ·exact (World.ownsRow.lt h.row k (by simpa using hk)).2
  ·exact h.opn.lt k hk
/-- the struct, its row, what is open -/
abbrev loR (M : List Nat) (base xb : Nat) (p0 p1 p2 : Value) (N : List Nd) (s : Nat) (gv : Value) (q : Option (Nat × Nat × Nat)) : List Res :=
 [.blk xb (.cells (loC p0 p1 p2 s gv (opV q) (decide (4096 < N.length))).toArray 147 (0, 0)), frnZ M base 103 13 gv (rl N).length (linO (rl N) 0 0), .tree (opS q) (fun w => opOk xb N w q)]
theorem Lo.st {xb : Nat} {p0 p1 p2 : Value} {N : List Nd} {s : Nat} {gv : Value} {q : Option (Nat × Nat × Nat)} {w : World} (h : Lo xb p0 p1 p2 N s gv q w) : St w (loS xb gv q) (loR (loS xb gv q) w.heap.size xb p0 p1 p2 N s gv q) w := by
 have hnd := h.nd
 rw [loS, List.nodup_cons, List.nodup_append] at hnd
 obtain ⟨d1, d2, d3, d4⟩ := hnd
 simp only [List.mem_append, not_or] at d1
 refine (((St.init w (loS xb gv q)).add (r := .tree (opS q) (fun w => opOk xb N w q)) ⟨h.opn, h.opn.lt, fun a b _ hk hp => hp.kept hk⟩ (by simp)).add (r := frnZ (loS xb gv q) w.heap.size 103 13 gv (rl N).length (linO (rl N) 0 0)) (frnZ_holds h.row (fun k hk => .inl (.tail _ (List.mem_append.2 (.inl (Option.mem_toList.2 hk)))))) ?_).addB h.cell ?_
 ·intro x hx k hk hk'
  simp only [List.mem_singleton] at hx
  subst hx
  exact d4 k hk k hk' rfl
 intro x hx
 simp only [List.mem_cons, List.not_mem_nil, or_false] at hx
 rcases hx with rfl | rfl
 ·exact d1.1
 ·exact d1.2
theorem lead_any (xb k : Nat) (p0 p1 p2 : Value) (N : List Nd) (s : Nat) (gv : Value) (q : Option (Nat × Nat × Nat)) (w : World) (h : Lo xb p0 p1 p2 N s gv q w) (hlt : N.length < 4096) :
    Ret Tryz.prog 103 [.pointer (some ⟨xb, 0, none⟩), .int .i64 (k : Int)] w fun v w' => LeadP xb p0 p1 p2 N s gv false k w w' := by
 have hrl : rl N = N := List.take_of_length_le (by omega)
 have hov : decide (4096 < N.length) = false := decide_eq_false (by omega)
 obtain ⟨hc, hr, ho, hnd⟩ := h
 rw [hov] at hc
 rw [hrl] at hr
 match q, hc, ho, hnd with
 | none, hc, ho, hnd =>
  refine (lead0_any xb s k p0 p1 p2 gv false w hc).mono fun v w' ⟨g1, g2⟩ => ⟨g1, ?_, g2.mono (by simp)⟩
  have hN : N = [] := ho
  subst hN
  refine loc_ownsZ _ _ _ _ _ w w' g2.size (fun k hk => g2.block k (World.ownsRow.lt hr k (by simpa using hk)).2 ?_) hr
  rw [loS, List.nodup_cons] at hnd
  intro hk'
  simp only [List.mem_singleton] at hk'
  subst hk'
  exact hnd.1 (List.mem_append.2 (.inl hk))
 | some (ob, c1, c2), hc, ho, hnd =>
  obtain ⟨g0, g1, g2, g3⟩ := ho
  have hpos : 0 < N.length := List.length_pos_iff.2 g0
  obtain ⟨gb, cap, rfl, -⟩ := own_form hr hpos
  rw [hrl] at g3
  refine (lead1_any xb s k gb ob c1 c2 N.length cap p0 p1 p2 false _ w hc hr (by simpa [loS, opS, Value.ownBlock] using hnd) hpos g1 g2 g3).mono fun v w' ⟨f1, f2, f3⟩ => ⟨f1, ?_, f3.mono (by simp [Value.ownBlock])⟩
  rw [linO_last N 0 0 k hpos] at f2
  exact f2
theorem lin_any (k : Nat) (w : World) : Ret Tryz.prog 132 [.int .i64 (k : Int)] w fun v w' => v = .agg (vlC (.slot k)).toArray ∧ Chg [] w w' := by
 refine ret_of [_] func132 rfl ntmps132 rfl ?_
 have st := St.init w []
 refine sr ?_
 refine vc_e (e_al (l := [_, _, _]) st rfl rfl zeroValue101 rfl ?_)
 intro b2 w hb2 st
 refine et (vk2 0 2 (sr ?_))
 refine ym ?_
 refine vy (ybd (.agg #[_, _, _]) [(0, _), (1, _)]) ?_
 refine vc_e (e_sts (vs := [_, _, _]) st 0 rfl rfl rfl rfl rfl sizeOf101 rfl rfl (by (right; assumption)) ?_)
 intro w st; dsimp only [setNth, wr] at st
 refine et (vk1 2 (vc_ret ?_))
 refine vq_ret1 st (.inl rfl) results132 (by exact .cell 0 rfl rfl isAgg101 sizeOf101) ?_
 refine ⟨_, rfl, ?_⟩
 exact ⟨rfl, st.chg⟩
theorem lslot_any (xb : Nat) (p0 p1 p2 : Value) (N : List Nd) (s : Nat) (hs : s ≤ 1099511627776) (gv : Value) (q : Option (Nat × Nat × Nat)) (w : World) (h : Lo xb p0 p1 p2 N s gv q w) :
    Ret Tryz.prog 131 [.pointer (some ⟨xb, 0, none⟩)] w fun v w' => v = .int .i64 (s : Int) ∧ RegP (loS xb gv q) (loS xb gv q) (Lo xb p0 p1 p2 N (s + 1) gv q) w w' := by
 refine ret_of [_] func131 rfl ntmps131 rfl ?_
 have st := St.init w []
 obtain ⟨w0, rfl⟩ : ∃ w0, w0 = w := ⟨_, rfl⟩
 replace st := h.st
 refine sr ?_
 refine ya ?_
 refine et (vk1 0 (sr ?_))
 refine ym ?_
 refine ynk ?_
 refine vy ((by exact y_faz (k := 4) rfl underlying147 rfl rfl sizeOf98 rfl)) ?_
 refine vy ((by exact y_fa (k := 2) rfl underlying98 rfl rfl sizeOf3 rfl)) ?_
 refine yl st 0 isAgg3 ?_
 refine vy (y_add rfl rfl (by omega : _ = ((s + 1 : Nat) : Int)) (by omega) (by omega)) ?_
 refine ynk ?_
 refine vy ((by exact y_faz (k := 4) rfl underlying147 rfl rfl sizeOf98 rfl)) ?_
 refine vy ((by exact y_fa (k := 2) rfl underlying98 rfl rfl sizeOf3 rfl)) ?_
 first
 | refine vc_e (e_st st 0 rfl rfl rfl rfl sizeOf3 rfl rfl (by (left; exact .head _)) ?_)
 intro w st; dsimp only [setNth, wr] at st
 refine et (vk1 0 (sr ?_))
 refine ym ?_
 refine ynk ?_
 refine vy ((by exact y_faz (k := 4) rfl underlying147 rfl rfl sizeOf98 rfl)) ?_
 refine vy ((by exact y_fa (k := 2) rfl underlying98 rfl rfl sizeOf3 rfl)) ?_
 refine yl st 0 isAgg3 ?_
 refine vy (y_sub rfl rfl (by omega : _ = ((s : Nat) : Int)) (by omega) (by omega)) ?_
 refine ya ?_
 refine et (vk1 2 (vc_ret ?_))
 refine vr1 st results131 ?_
 exact ⟨rfl, (Lo.of (st.res (i := 0) rfl) (st.res (i := 1) rfl).1.1 (st.res (i := 2) rfl).1 h.nd).reg, st.chg, fun k hk => .inl hk⟩
set_option maxHeartbeats 1000000 in
theorem lput_any (xb : Nat) (p0 p1 p2 : Value) (N : List Nd) (s : Nat) (gv : Value) (q : Option (Nat × Nat × Nat)) (x : Nd) (w : World) (h : Lo xb p0 p1 p2 N s gv q w) :
    Ret Tryz.prog 50 [.pointer (some ⟨xb, 0, none⟩), .agg (ndC x 0 0).toArray] w fun v w' => (∃ k : Int, v = .int .i64 k) ∧ ∃ gv' q', RegP (loS xb gv q) (loS xb gv' q') (Lo xb p0 p1 p2 (N ++ [x]) s gv' q') w w' := by
 refine ret_of [_, _] func50 rfl ntmps50 rfl ?_
 have st := St.init w []
 obtain ⟨w0, rfl⟩ : ∃ w0, w0 = w := ⟨_, rfl⟩
 obtain ⟨oa, cap, rfl⟩ := slice_formZ h.row
 replace st := h.st
 refine sr ?_
 refine vc_e (e_bx (l := [_, _, _, _, _, _, _, _, _, _, _, _, _]) st rfl rfl rfl rfl ?_)
 intro b3 w hb3 st
 refine ya ?_
 refine et (vk2 0 3 (sr ?_))
 refine ym ?_
 refine ynk ?_
 refine vy ((by exact y_faz (k := 4) rfl underlying147 rfl rfl sizeOf98 rfl)) ?_
 refine vy ((by exact y_fa (k := 3) rfl underlying98 rfl rfl sizeOf96 rfl)) ?_
 refine vy ((by exact y_ld st 1 rfl isAgg96 rfl rfl)) ?_
 refine vy (y_lensl rfl underlying96) ?_
 refine ya ?_
 refine et (vk3 0 3 5 (vc_seq (sr ?_)))
 refine ym ?_
 refine vy (y_geq rfl rfl) ?_
 refine et (vk4 0 3 5 13 ?_)
 refine vif ?_ ?_
 ·intro hc13
  try simp only [dn] at hc13
  obtain ⟨r1, r2⟩ := rl_full (N := N) (by omega) x
  refine sr ?_
  refine ym ?_
  refine ynk ?_
  refine vy ((by exact y_faz (k := 9) rfl underlying147 rfl rfl sizeOf4 rfl)) ?_
  refine vc_e (e_st st 1 rfl rfl rfl rfl sizeOf4 rfl rfl (by (left; exact .head _)) ?_)
  intro w st; dsimp only [setNth, wr] at st
  refine et (vc_keep [] trivial (sr ?_))
  refine ya ?_
  refine et (vk1 4 (vc_ret (vq_then_ret ?_)))
  refine vr1 st results50 ?_
  refine ⟨⟨_, rfl⟩, _, q, (Lo.of (N := N ++ [x]) ?_ ?_ ?_ h.nd).reg, st.chg, fun k hk => .inl hk⟩
  ·rw [decide_eq_true r2]; exact st.res (i := 1) rfl
  ·rw [r1]; exact (st.res (i := 2) rfl).1.1
  have ho := (st.res (i := 3) rfl).1
  match q, ho with
  | none, ho => have hN : N = [] := ho; subst hN; simp at r2
  | some (ob, c1, c2), ho => exact ⟨by simp, ho.2.1, ho.2.2.1, by rw [r1]; exact ho.2.2.2⟩
 intro hc13
 try simp only [dn] at hc13
 obtain ⟨hrl, hlt⟩ := rl_lt (N := N) (by omega)
 have hov : decide (4096 < N.length) = false := decide_eq_false (by omega)
 refine kt (vk3 0 3 5 (sr ?_))
 iterate 2 refine ym ?_
 refine vc_e (e_call [_, _] rfl rfl call103 rfl (lead_any xb _ p0 p1 p2 N s _ q _ (Lo.of (st.res (i := 1) rfl) (st.res (i := 2) rfl).1.1 (st.res (i := 3) rfl).1 h.nd) hlt) ?_)
 rintro _ w ⟨g1, g2, cw⟩
 replace st := St.swapHead2 (r' := .blk xb (.cells (loC p0 p1 p2 s (.slice oa (rl N).length cap) (.slice none 0 0) false).toArray 147 (0, 0))) (s' := frnZ (loS xb (.slice oa (rl N).length cap) q) w0.heap.size 103 13 (.slice oa (rl N).length cap) N.length (linO N 0 (rl N).length)) (st.pick [1, 2, 0] rfl (by decide)) cw (fun k hk => by
     rcases List.mem_cons.1 hk with rfl | hk
     · exact .inl (.head _)
     · exact .inr hk) (fun k hk => by
     rcases List.mem_cons.1 hk with rfl | hk
     · exact .inl (.head _)
     · exact .inl (.tail _ (List.mem_append.2 (.inl hk)))) (fun k hk => hk) (fun k hk => hk) g1 (frnZ_holds g2 (fun k hk => .inl (.tail _ (List.mem_append.2 (.inl (Option.mem_toList.2 hk))))))
 refine et (vk3 0 3 5 (sr ?_))
 refine ym ?_
 refine vy ((by exact y_faz (k := 12) rfl underlying103 rfl rfl sizeOf3 rfl)) ?_
 refine vc_e (e_st st 2 rfl rfl rfl rfl sizeOf3 rfl rfl (by (right; assumption)) ?_)
 intro w st; dsimp only [setNth, wr] at st
 refine et (vk3 0 3 5 (vc_seq ?_))
 refine vk_draw Tryz.mixed [(0, true), (1, true), (2, true), (3, true), (4, true), (5, true), (6, true), (7, false), (8, false), (9, true), (10, true), (11, true), (12, false)] 12 (fun w => St _ _ [.blk xb (.cells (loC p0 p1 p2 s (.slice oa (rl N).length cap) (.slice none 0 0) false).toArray 147 (0, 0)), .blk b3 (.cells (ndC x 0 (rl N).length).toArray 103 (0, 0))] w) (by exact st.drop (by repeat (first | exact sl0 | apply sl1 | apply sl2))) (by kernel_rfl) (by repeat (first | exact okQ_noPan | exact okQ_body | exact okQ_bodyS | refine okQ_then ?_ | refine okQ_block ?_)) rfl (by kernel_rfl) rfl ?_
 intro w cd; replace st := st.call0 cd; clear cd
 have hS : St _ _ [.blk xb (.cells (loC p0 p1 p2 s (.slice oa (rl N).length cap) (.slice none 0 0) false).toArray 147 (0, 0)), .blk b3 (.cells (ndC x 0 (rl N).length).toArray 103 (0, 0))] w := (by exact st.drop (by repeat (first | exact sl0 | apply sl1 | apply sl2)))
 iterate 2 refine km hS ?_
 refine vk_takeU rfl rfl rfl rfl (fun _ => hS) (fun w => y_nck rfl) ?_
 refine vk_takeU rfl rfl rfl rfl (fun _ => hS) (fun w => (by exact y_faz (k := 4) rfl underlying147 rfl rfl sizeOf98 rfl)) ?_
 refine vk_takeU rfl rfl rfl rfl (fun _ => hS) (fun w => (by exact y_fa (k := 3) rfl underlying98 rfl rfl sizeOf96 rfl)) ?_
 refine vk_take rfl rfl rfl rfl hS (fun w st => (by exact y_ld st 0 rfl isAgg96 rfl rfl)) ?_
 refine vk_take rfl rfl rfl rfl hS (fun w st => (by exact y_lda (vs := [_, _, _, _, _, _, _, _, _, _, _, _, _]) st 1 rfl isAgg103 sizeOf103 rfl rfl)) ?_
 refine vk_do rfl rfl (e_bs1 (l := [_, _, _, _, _, _, _, _, _, _, _, _, _]) st rfl rfl rfl rfl underlying96 sizeOf103 rfl rfl rfl zeroValue103 ?_)
 intro b29 w hb29 st
 refine vk_next (by exact st.drop (by repeat (first | exact sl0 | apply sl1 | apply sl2))) ?_; intro hS
 refine vk_do rfl rfl (e_appZ (bytes := 96) st 2 0 rfl rfl rfl rfl rfl rfl underlying96 Tryz.info103 rfl rfl rfl rfl rfl rfl rfl rfl (by unfold maxLen; omega) (by omega) ?_)
 intro oa30 cap30 w st; dsimp only [setNth] at st
 refine vk_next (by exact st.drop (by repeat (first | exact sl0 | apply sl1 | apply sl2))) ?_; intro hS
 refine vk_takeU rfl rfl rfl rfl (fun _ => hS) (fun w => y_nck rfl) ?_
 refine vk_takeU rfl rfl rfl rfl (fun _ => hS) (fun w => (by exact y_faz (k := 4) rfl underlying147 rfl rfl sizeOf98 rfl)) ?_
 refine vk_takeU rfl rfl rfl rfl (fun _ => hS) (fun w => (by exact y_fa (k := 3) rfl underlying98 rfl rfl sizeOf96 rfl)) ?_
 refine vk_do rfl rfl (e_st st 1 rfl rfl rfl rfl sizeOf96 rfl rfl (by (left; exact .head _)) ?_)
 intro w st; dsimp only [setNth, wr] at st
 refine vk_late ?_
 refine vk_end ?_
 refine vq_then (vk2 0 5 (sr ?_))
 iterate 3 refine ym ?_
 refine vc_e (e_call [_, _] rfl rfl call104 rfl (lnext_any xb _ _) ?_)
 rintro _ w ⟨⟨c1, c2, rfl, g3, g4, hne, hc1, hc2⟩, cw⟩
 have hsA := st.chg.size
 replace st := st.pushBB cw g3 g4 hc1 hc2 hne
 refine vc_e (e_bs1 (l := [_]) st rfl rfl rfl rfl underlying145 sizeOf74 rfl rfl rfl zeroValue74 ?_)
 intro b38 w hb38 st
 refine ynk ?_
 refine vy ((by exact y_faz (k := 8) rfl underlying147 rfl rfl sizeOf145 rfl)) ?_
 refine vc_e (e_st st 4 rfl rfl rfl rfl sizeOf145 rfl rfl (by (left; exact .head _)) ?_)
 intro w st; dsimp only [setNth, wr] at st
 refine et (vk1 5 (sr ?_))
 refine ym ?_
 refine ya ?_
 refine et (vk1 4 (vc_ret ?_))
 refine vr1 st results50 ?_
 obtain ⟨r1, r2⟩ := rl_put hlt x
 have hl : (rl N).length = N.length := by rw [hrl]
 have hsn := linO_snoc N x 0 0
 rw [Nat.zero_add] at hsn
 have hnd2 := nodupAt (st.pick [4, 5, 0, 1, 2] rfl (by decide)).nodup (by
   intro r hr
   simp only [List.mem_cons, List.not_mem_nil, or_false] at hr
   rcases hr with rfl | rfl | rfl | rfl | rfl
   · simp [blk_at]
   · exact own_nodup _
   · simp [blk_at]
   · simp [blk_at]
   · simp [blk_at])
 have hrow := (st.res (i := 5) rfl).1
 refine ⟨⟨_, rfl⟩, .slice oa30 (N.length + 1) cap30, some (b38, c1, c2), (Lo.of (N := N ++ [x]) ?_ ?_ ?_ (by simpa [loS, opS, List.flatMap_cons, blk_at, frnZ, Res.at?] using hnd2)).reg, st.chg, fun k hk => ?_⟩
 ·rw [decide_eq_false r2]; exact st.res (i := 4) rfl
 ·rw [r1, List.length_append, ← hsn]
  have := hrow.1
  rw [hl] at this
  exact this
 ·refine ⟨by simp, st.res (i := 0) rfl, st.res (i := 1) rfl, ?_⟩
  rw [r1, List.length_append]
  have := st.res (i := 2) rfl
  rw [hl] at this
  exact this
 rcases List.mem_cons.1 hk with rfl | hk
 ·exact .inl (.head _)
 ·rcases List.mem_append.1 hk with hk | hk
  ·exact hrow.2 k (by simpa using hk)
  ·simp only [opS, List.mem_cons, List.not_mem_nil, or_false] at hk
   have hsz := st.chg.size
   rcases hk with rfl | rfl | rfl
   ·exact .inr (by assumption)
   ·exact .inr (by omega)
   ·exact .inr (by omega)
end Go.Proofs.YtjoepkpdanolkaaGreatDoor

