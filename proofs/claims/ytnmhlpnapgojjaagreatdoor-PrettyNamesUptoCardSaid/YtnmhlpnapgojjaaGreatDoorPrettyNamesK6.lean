/- A part of the proof: contracts of functions and plain laws; each theorem says its own conditions. -/
import Derived.Test.YtnmhlpnapgojjaaGreatDoorPrettyNamesK1
import Derived.Test.YtnmhlpnapgojjaaGreatDoorPrettyNamesK4
import Derived.Test.YtnmhlpnapgojjaaGreatDoorPrettyNamesPC
import Derived.Test.YtnmhlpnapgojjaaGreatDoorPrettyNamesK2
set_option linter.unusedVariables false
set_option linter.unusedSimpArgs false
namespace Go.Proofs.YtnmhlpnapgojjaaGreatDoor
open Go.RowKit Sx LexS _root_.Go.Proofs.Tryz
section
variable {S : Nat → Prop}

set_option maxHeartbeats 1000000 in
theorem decls_any (ds : List Dc) (oa : Option Addr) (cap : Nat) (b : Bool) (w : World) (hD : DcRow w S oa ds) (hl : ds.length ≤ maxLen) : Ret Tryz.prog 92 [.slice oa ds.length cap, .bool b] w fun v w' => v = .bool (ds.all (dcOk b)) ∧ Chg [] w w' := by
 refine ret_of [_, _] func92 rfl ntmps92 rfl ?_
 have st := St.init w []
 obtain ⟨w0, rfl⟩ : ∃ w0, w0 = w := ⟨_, rfl⟩
 unfold maxLen at hl
 refine vc_seq (vc_region ?_)
 refine ya ?_
 refine vc_end (vq_then (vk2 0 1 (vc_seq (vc_seq (vc_region ?_)))))
 refine ym ?_
 refine vy (y_lensl rfl underlying23) ?_
 refine ym ?_
 refine vc_end (vq_then (vk4 1 7 8 9 (vc_block ?_)))
 refine vc_loop (w0 := w0) (M := []) (fun (j : Nat) => [(1, .bool b), (7, .slice oa ds.length cap), (8, .int .i64 (ds.length : Int)), (9, .int .i64 (j : Int))]) (fun _ => []) (fun j _ => j ≤ ds.length ∧ (ds.take j).all (dcOk b) = true) (fun j => ds.length - j) 0 ⟨rfl, rfl, rfl, rfl, trivial⟩ st ⟨by omega, by simp⟩ ?_
 rintro j w ⟨hj, hall⟩ st
 refine vc_seq (vc_region ?_)
 refine vy (y_lss rfl rfl) ?_
 refine vc_end (vq_then (vk5 1 7 8 9 10 (vc_seq ?_)))
 refine vc_ifs rfl ?_ ?_
 ·intro hc10
  try simp only [dn] at hc10
  obtain ⟨x, hx⟩ : ∃ x, ds[j]? = some x := ⟨_, List.getElem?_eq_getElem (by omega)⟩
  obtain ⟨gb, go, rfl, hgS, hgl, hg⟩ := DcRow.at hD (by omega)
  have hc := hg j x hx
  refine vc_code_skip (vq_then (vk4 1 7 8 9 (vc_seq (vc_block (vc_seq (vc_region ?_))))))
  refine vy (y_ia (k := j) rfl rfl underlying23 sizeOf63 rfl (by omega)) ?_
  refine vy (y_ldca (dcL x) rfl isAgg63 sizeOf63 rfl (fun i v hi => st.chg.cell (hc i v hi) (by simp))) ?_
  refine vc_e (e_al (l := [_, _, _]) st rfl rfl zeroValue63 rfl ?_)
  intro b6 w hb6 st
  first
  | refine vc_e (e_sts (vs := [_, _, _]) st 0 rfl rfl rfl rfl rfl sizeOf63 rfl rfl (by (right; assumption)) ?_)
  intro w st; dsimp only [setNth, wr] at st
  refine vc_end (vq_then (vk5 1 6 7 8 9 (vc_seq (vc_region ?_))))
  refine vy (y_fa0 rfl underlying63 rfl rfl sizeOf9 rfl) ?_
  refine yl st 0 isAgg9 ?_
  refine vc_e (e_call [_] rfl rfl call52 rfl (name_any _ _) ?_)
  rintro _ _ ⟨rfl, rfl⟩
  refine vy (y_not rfl) ?_
  refine vmb ?_ ?_
  ·intro hg17
   try simp only [dn] at hg17
   iterate 6 refine vsk ?_
   refine ypt ?_
   refine ym ?_
   iterate 7 refine vsk ?_
   refine ypt ?_
   refine vc_end (vq_then (vk5 1 7 8 9 33 ?_))
   refine vc_ift rfl ?_
   refine vc_seq (vc_region ?_)
   refine ya ?_
   refine vc_end (vq_then (vk1 4 (vc_ret (vq_block_ret (vq_then_ret (vq_then_ret (vq_block_ret (vq_then_ret ?_))))))))
   refine vq_ret1 st (.inl rfl) results92 (.tmp rfl) ?_
   refine ⟨_, rfl, ?_⟩
   refine ⟨?_, st.chg⟩
   (rw [all_no' (p := dcOk b) hx (by clear st hc hg hD; unfold dcOk; cases b <;> simp_all)])
  ·intro hg17
   try simp only [dn] at hg17
   refine ym ?_
   refine vmb ?_ ?_
   ·intro hg19
    try simp only [dn] at hg19
    refine yfz 1 underlying63 sizeOf2 ?_
    refine yl st 0 isAgg2 ?_
    refine vy (y_eqi rfl rfl) ?_
    refine ypt ?_
    refine ypf ?_
    refine vmb ?_ ?_
    ·intro hg25
     try simp only [dn] at hg25
     iterate 7 refine vsk ?_
     refine ypt ?_
     refine vc_end (vq_then (vk5 1 7 8 9 33 ?_))
     refine vc_ift rfl ?_
     refine vc_seq (vc_region ?_)
     refine ya ?_
     refine vc_end (vq_then (vk1 4 (vc_ret (vq_block_ret (vq_then_ret (vq_then_ret (vq_block_ret (vq_then_ret ?_))))))))
     refine vq_ret1 st (.inl rfl) results92 (.tmp rfl) ?_
     refine ⟨_, rfl, ?_⟩
     refine ⟨?_, st.chg⟩
     (rw [all_no' (p := dcOk b) hx (by clear st hc hg hD; unfold dcOk; cases b <;> simp_all)])
    ·intro hg25
     try simp only [dn] at hg25
     refine ym ?_
     refine vy (y_not rfl) ?_
     refine vmb ?_ ?_
     ·intro hg28
      try simp only [dn] at hg28
      refine yfz 1 underlying63 sizeOf2 ?_
      refine yl st 0 isAgg2 ?_
      refine vy (y_nei rfl rfl) ?_
      refine ypt ?_
      refine ypf ?_
      refine vc_end (vq_then (vk5 1 7 8 9 33 ?_))
      refine vc_ifs rfl ?_ ?_
      ·intro hc33
       try simp only [dn] at hc33
       refine vc_seq (vc_region ?_)
       refine ya ?_
       refine vc_end (vq_then (vk1 4 (vc_ret (vq_block_ret (vq_then_ret (vq_then_ret (vq_block_ret (vq_then_ret ?_))))))))
       refine vq_ret1 st (.inl rfl) results92 (.tmp rfl) ?_
       refine ⟨_, rfl, ?_⟩
       refine ⟨?_, st.chg⟩
       (rw [all_no' (p := dcOk b) hx (by clear st hc hg hD; unfold dcOk; cases b <;> simp_all)])
      ·intro hc33
       try simp only [dn] at hc33
       refine vc_code_skip (vq_block (vq_then (vk4 1 7 8 9 (vc_region ?_))))
       refine vy (y_add rfl rfl (by omega : _ = ((j + 1 : Nat) : Int)) (by omega) (by omega)) ?_
       refine ym ?_
       refine vc_end ?_
       refine vq_again (j + 1)  ⟨rfl, rfl, rfl, rfl, trivial⟩ (st.dr) ?_ ?_
       ·exact ⟨by omega, all_take' hall hx (by clear st hc hg hD; unfold dcOk; cases b <;> simp_all)⟩
       ·omega
     ·intro hg28
      try simp only [dn] at hg28
      iterate 3 refine vsk ?_
      iterate 2 refine ypf ?_
      refine vc_end (vq_then (vk5 1 7 8 9 33 ?_))
      refine vc_iff rfl ?_
      refine vc_code_skip (vq_block (vq_then (vk4 1 7 8 9 (vc_region ?_))))
      refine vy (y_add rfl rfl (by omega : _ = ((j + 1 : Nat) : Int)) (by omega) (by omega)) ?_
      refine ym ?_
      refine vc_end ?_
      refine vq_again (j + 1)  ⟨rfl, rfl, rfl, rfl, trivial⟩ (st.dr) ?_ ?_
      ·exact ⟨by omega, all_take' hall hx (by clear st hc hg hD; unfold dcOk; cases b <;> simp_all)⟩
      ·omega
   ·intro hg19
    try simp only [dn] at hg19
    iterate 3 refine vsk ?_
    iterate 2 refine ypf ?_
    iterate 2 refine ym ?_
    refine vy (y_not rfl) ?_
    refine vmb ?_ ?_
    ·intro hg28
     try simp only [dn] at hg28
     refine yfz 1 underlying63 sizeOf2 ?_
     refine yl st 0 isAgg2 ?_
     refine vy (y_nei rfl rfl) ?_
     refine ypt ?_
     refine ypf ?_
     refine vc_end (vq_then (vk5 1 7 8 9 33 ?_))
     refine vc_ifs rfl ?_ ?_
     ·intro hc33
      try simp only [dn] at hc33
      refine vc_seq (vc_region ?_)
      refine ya ?_
      refine vc_end (vq_then (vk1 4 (vc_ret (vq_block_ret (vq_then_ret (vq_then_ret (vq_block_ret (vq_then_ret ?_))))))))
      refine vq_ret1 st (.inl rfl) results92 (.tmp rfl) ?_
      refine ⟨_, rfl, ?_⟩
      refine ⟨?_, st.chg⟩
      (rw [all_no' (p := dcOk b) hx (by clear st hc hg hD; unfold dcOk; cases b <;> simp_all)])
     ·intro hc33
      try simp only [dn] at hc33
      refine vc_code_skip (vq_block (vq_then (vk4 1 7 8 9 (vc_region ?_))))
      refine vy (y_add rfl rfl (by omega : _ = ((j + 1 : Nat) : Int)) (by omega) (by omega)) ?_
      refine ym ?_
      refine vc_end ?_
      refine vq_again (j + 1)  ⟨rfl, rfl, rfl, rfl, trivial⟩ (st.dr) ?_ ?_
      ·exact ⟨by omega, all_take' hall hx (by clear st hc hg hD; unfold dcOk; cases b <;> simp_all)⟩
      ·omega
    ·intro hg28
     try simp only [dn] at hg28
     iterate 3 refine vsk ?_
     iterate 2 refine ypf ?_
     refine vc_end (vq_then (vk5 1 7 8 9 33 ?_))
     refine vc_iff rfl ?_
     refine vc_code_skip (vq_block (vq_then (vk4 1 7 8 9 (vc_region ?_))))
     refine vy (y_add rfl rfl (by omega : _ = ((j + 1 : Nat) : Int)) (by omega) (by omega)) ?_
     refine ym ?_
     refine vc_end ?_
     refine vq_again (j + 1)  ⟨rfl, rfl, rfl, rfl, trivial⟩ (st.dr) ?_ ?_
     ·exact ⟨by omega, all_take' hall hx (by clear st hc hg hD; unfold dcOk; cases b <;> simp_all)⟩
     ·omega
 ·intro hc10
  try simp only [dn] at hc10
  refine vc_exit (vq_then_exit (vq_then_exit (vq_block_exit (vq_then (vc_keep [] trivial (vc_seq (vc_region ?_)))))))
  refine ya ?_
  refine vc_end (vq_then (vk1 4 (vc_ret ?_)))
  refine vq_ret1 st (.inl rfl) results92 (.tmp rfl) ?_
  refine ⟨_, rfl, ?_⟩
  refine ⟨?_, st.chg⟩
  rw [all_end hall (by omega)]

set_option maxHeartbeats 1000000 in
theorem rplain_any (ds : List Dc) (oa : Option Addr) (cap : Nat) (w : World) (hD : DcRow w S oa ds) (hl : ds.length ≤ maxLen) : Ret Tryz.prog 121 [.slice oa ds.length cap] w fun v w' => v = .bool (ds.all (dcOk false)) ∧ Chg [] w w' := by
 refine ret_of [_] func121 rfl ntmps121 rfl ?_
 have st := St.init w []
 obtain ⟨w0, rfl⟩ : ∃ w0, w0 = w := ⟨_, rfl⟩
 unfold maxLen at hl
 refine vc_seq (vc_region ?_)
 refine ya ?_
 refine vc_end (vq_then (vk1 0 (vc_seq (vc_seq (vc_region ?_)))))
 refine ya ?_
 refine vc_end (vq_then (vk2 0 3 (vc_block ?_)))
 refine vc_loop (w0 := w0) (M := []) (fun (j : Nat) => [(0, .slice oa ds.length cap), (3, .int .i64 (j : Int))]) (fun _ => []) (fun j _ => j ≤ ds.length ∧ (ds.take j).all (dcOk false) = true) (fun j => ds.length - j) 0 ⟨rfl, rfl, trivial⟩ st ⟨by omega, by simp⟩ ?_
 rintro j w ⟨hj, hall⟩ st
 refine vc_seq (vc_seq (vc_region ?_))
 iterate 2 refine ym ?_
 refine vy (y_lensl rfl underlying23) ?_
 refine vy (y_lss rfl rfl) ?_
 refine vc_end (vq_then (vk3 0 3 7 ?_))
 refine vc_ifs rfl ?_ ?_
 ·intro hc7
  try simp only [dn] at hc7
  obtain ⟨x, hx⟩ : ∃ x, ds[j]? = some x := ⟨_, List.getElem?_eq_getElem (by omega)⟩
  obtain ⟨gb, go, rfl, hgS, hgl, hg⟩ := DcRow.at hD (by omega)
  have hc := hg j x hx
  refine vc_code_skip (vq_then (vk2 0 3 (vc_seq (vc_block (vc_seq (vc_region ?_))))))
  iterate 2 refine ym ?_
  refine vy (y_ia (k := j) rfl rfl underlying23 sizeOf63 rfl (by omega)) ?_
  refine vy (y_fa0 rfl underlying63 rfl rfl sizeOf9 rfl) ?_
  refine vy (y_ldc rfl isAgg9 (st.chg.cell (hc 0 _ rfl) (by simp))) ?_
  refine vc_e (e_call [_] rfl rfl call58 rfl (rname_any _ _) ?_)
  rintro _ _ ⟨rfl, rfl⟩
  refine vy (y_not rfl) ?_
  refine vmb ?_ ?_
  ·intro hg17
   try simp only [dn] at hg17
   iterate 6 refine vsk ?_
   refine ypt ?_
   refine vc_end (vq_then (vk3 0 3 24 ?_))
   refine vc_ift rfl ?_
   refine vc_seq (vc_region ?_)
   refine ya ?_
   refine vc_end (vq_then (vk1 2 (vc_ret (vq_block_ret (vq_then_ret (vq_then_ret (vq_block_ret (vq_then_ret ?_))))))))
   refine vq_ret1 st (.inl rfl) results121 (.tmp rfl) ?_
   refine ⟨_, rfl, ?_⟩
   refine ⟨?_, st.chg⟩
   (rw [all_no' (p := dcOk false) hx (by clear st hc hg hD; unfold dcOk; simp_all)])
  ·intro hg17
   try simp only [dn] at hg17
   iterate 2 refine ym ?_
   refine vy (y_ia (k := j) rfl rfl underlying23 sizeOf63 rfl (by omega)) ?_
   refine vy (y_fa (k := 1) rfl underlying63 rfl rfl sizeOf2 rfl) ?_
   refine vy (y_ldc rfl isAgg2 (st.chg.cell (hc 1 _ rfl) (by simp))) ?_
   refine vy (y_nei rfl rfl) ?_
   refine ypf ?_
   refine vc_end (vq_then (vk3 0 3 24 ?_))
   refine vc_ifs rfl ?_ ?_
   ·intro hc24
    try simp only [dn] at hc24
    refine vc_seq (vc_region ?_)
    refine ya ?_
    refine vc_end (vq_then (vk1 2 (vc_ret (vq_block_ret (vq_then_ret (vq_then_ret (vq_block_ret (vq_then_ret ?_))))))))
    refine vq_ret1 st (.inl rfl) results121 (.tmp rfl) ?_
    refine ⟨_, rfl, ?_⟩
    refine ⟨?_, st.chg⟩
    (rw [all_no' (p := dcOk false) hx (by clear st hc hg hD; unfold dcOk; simp_all)])
   ·intro hc24
    try simp only [dn] at hc24
    refine vc_code_skip (vq_block (vq_then (vk2 0 3 (vc_region ?_))))
    refine ym ?_
    refine vy (y_add rfl rfl (by omega : _ = ((j + 1 : Nat) : Int)) (by omega) (by omega)) ?_
    refine ya ?_
    refine vc_end ?_
    refine vq_again (j + 1)  ⟨rfl, rfl, trivial⟩ (st.dr) ?_ ?_
    ·exact ⟨by omega, all_take' hall hx (by clear st hc hg hD; unfold dcOk; simp_all)⟩
    ·omega
 ·intro hc7
  try simp only [dn] at hc7
  refine vc_exit (vq_then_exit (vq_then_exit (vq_block_exit (vq_then (vc_keep [] trivial (vc_seq (vc_region ?_)))))))
  refine ya ?_
  refine vc_end (vq_then (vk1 2 (vc_ret ?_)))
  refine vq_ret1 st (.inl rfl) results121 (.tmp rfl) ?_
  refine ⟨_, rfl, ?_⟩
  refine ⟨?_, st.chg⟩
  rw [all_end hall (by omega)]

theorem namedk_any (l : List UInt8) (b : Bool) (w : World) : Ret Tryz.prog 149 [str l, .bool b] w fun v w' => v = .bool (nmOk b l) ∧ w' = w := named_any l b w

theorem shapes_any (k : Int) (hk : u8 k) (w : World) : Ret Tryz.prog 148 [.int .u8 k] w fun v w' => v = .tuple #[.agg (shpL k).toArray, .bool (decide (1 ≤ k ∧ k ≤ 7))] ∧ Chg [] w w' := by
 refine ret_of [_] func148 rfl ntmps148 rfl ?_
 have st := St.init w []
 refine vc_seq (vc_region ?_)
 refine vc_e (e_al (l := [_, _, _, _, _]) st rfl rfl zeroValue187 rfl ?_)
 intro b2 w hb2 st
 refine ya ?_
 refine vc_end (vq_then (vk2 0 2 (vc_seq (vc_region ?_))))
 refine vy (y_bld (.agg #[_, _, _, _, _]) [(0, _), (2, _)] rfl (fun w => by simp [Instr.build, go_sem] <;> repeat' constructor)) ?_
 refine vy (y_bld (.agg #[_, _, _, _, _]) [(0, _), (1, _), (2, _)] rfl (fun w => by simp [Instr.build, go_sem] <;> repeat' constructor)) ?_
 refine vy (y_bld (.agg #[_, _, _, _, _]) [(2, _), (3, _), (4, _)] rfl (fun w => by simp [Instr.build, go_sem] <;> repeat' constructor)) ?_
 refine vy (y_bld (.agg #[_, _, _, _, _]) [(2, _), (3, _)] rfl (fun w => by simp [Instr.build, go_sem] <;> repeat' constructor)) ?_
 refine vy (y_bld (.agg #[_, _, _, _, _]) [(0, _), (3, _)] rfl (fun w => by simp [Instr.build, go_sem] <;> repeat' constructor)) ?_
 refine vy (y_bld (.agg #[_, _, _, _, _]) [(2, _)] rfl (fun w => by simp [Instr.build, go_sem] <;> repeat' constructor)) ?_
 refine vy (y_bld (.agg #[_, _, _, _, _]) [] rfl (fun w => by simp [Instr.build, go_sem] <;> repeat' constructor)) ?_
 refine vy (y_bld (.agg #[_, _, _, _, _, _, _, _, _, _, _, _, _, _, _, _, _, _, _, _, _, _, _, _, _, _, _, _, _, _, _, _, _, _, _, _, _, _, _, _]) [(1, _), (2, _), (3, _), (4, _), (5, _), (6, _), (7, _)] rfl (fun w => by simp [Instr.build, go_sem] <;> repeat' constructor)) ?_
 refine vc_e (e_al (l := [_, _, _, _, _, _, _, _, _, _, _, _, _, _, _, _, _, _, _, _, _, _, _, _, _, _, _, _, _, _, _, _, _, _, _, _, _, _, _, _]) st rfl rfl zeroValue221 rfl ?_)
 intro b4 w hb4 st
 refine vc_e (e_sts (vs := [_, _, _, _, _, _, _, _, _, _, _, _, _, _, _, _, _, _, _, _, _, _, _, _, _, _, _, _, _, _, _, _, _, _, _, _, _, _, _, _]) st 0 rfl rfl rfl rfl rfl sizeOf221 rfl rfl (by (right; assumption)) ?_)
 intro w st; dsimp only [setNth, wr] at st
 refine vc_end (vq_then (vk3 0 2 4 (vc_seq (vc_seq (vc_region ?_)))))
 refine ym ?_
 refine vy (y_eqi rfl rfl) ?_
 refine vmb ?_ ?_
 ·intro hg15
  try simp only [dn] at hg15
  iterate 3 refine vsk ?_
  refine ypt ?_
  refine vc_end (vq_then (vk4 0 2 4 19 ?_))
  refine vc_ift rfl ?_
  refine vc_seq (vc_region ?_)
  refine vy (y_bld (.agg #[_, _, _, _, _]) [] rfl (fun w => by simp [Instr.build, go_sem] <;> repeat' constructor)) ?_
  refine vc_e (e_sts (vs := [_, _, _, _, _]) st 1 rfl rfl rfl rfl rfl sizeOf187 rfl rfl (by (right; assumption)) ?_)
  intro w st; dsimp only [setNth, wr] at st
  refine ya ?_
  refine vc_end (vq_then (vk2 2 3 (vc_ret (vq_then_ret ?_))))
  refine vq_ret2 st (.inl rfl) results148 (by exact .cell 1 rfl rfl isAgg187 sizeOf187) (.tmp rfl) ?_
  refine ⟨_, rfl, ?_⟩
  refine ⟨?_, st.chg⟩
  have e1 : hasN k = false := by unfold hasN; simp; omega
  have e2 : decide (k = 2) = false := by simp; omega
  have e3 : hasE k = false := by unfold hasE; simp; omega
  have e4 : hasB k = false := by unfold hasB; simp; omega
  have e5 : decide (k = 3) = false := by simp; omega
  have e6 : decide (1 ≤ k ∧ k ≤ 7) = false := by simp; omega
  simp only [shpL, e1, e2, e3, e4, e5, e6]
 ·intro hg15
  try simp only [dn] at hg15
  refine ym ?_
  refine vy (y_cvi rfl underlying3 underlying64 (wrap_i64 k (by have h1 := hk.1; have h2 := hk.2; omega) : _ = k)) ?_
  refine vy (y_geq rfl rfl) ?_
  refine ypf ?_
  refine vc_end (vq_then (vk4 0 2 4 19 ?_))
  refine vc_ifs rfl ?_ ?_
  ·intro hc19
   try simp only [dn] at hc19
   refine vc_seq (vc_region ?_)
   refine vy (y_bld (.agg #[_, _, _, _, _]) [] rfl (fun w => by simp [Instr.build, go_sem] <;> repeat' constructor)) ?_
   refine vc_e (e_sts (vs := [_, _, _, _, _]) st 1 rfl rfl rfl rfl rfl sizeOf187 rfl rfl (by (right; assumption)) ?_)
   intro w st; dsimp only [setNth, wr] at st
   refine ya ?_
   refine vc_end (vq_then (vk2 2 3 (vc_ret (vq_then_ret ?_))))
   refine vq_ret2 st (.inl rfl) results148 (by exact .cell 1 rfl rfl isAgg187 sizeOf187) (.tmp rfl) ?_
   refine ⟨_, rfl, ?_⟩
   refine ⟨?_, st.chg⟩
   have e1 : hasN k = false := by unfold hasN; simp; omega
   have e2 : decide (k = 2) = false := by simp; omega
   have e3 : hasE k = false := by unfold hasE; simp; omega
   have e4 : hasB k = false := by unfold hasB; simp; omega
   have e5 : decide (k = 3) = false := by simp; omega
   have e6 : decide (1 ≤ k ∧ k ≤ 7) = false := by simp; omega
   simp only [shpL, e1, e2, e3, e4, e5, e6]
  ·intro hc19
   try simp only [dn] at hc19
   refine vc_code_skip (vq_then (vk3 0 2 4 (vc_seq (vc_region ?_))))
   obtain ⟨m, rfl⟩ : ∃ m : Nat, k = (m : Int) := ⟨k.toNat, by have := hk.1; omega⟩
   refine ym ?_
   refine vy (y_iaa (k := m) rfl rfl underlying221 sizeOf187 rfl (by omega)) ?_
   have hq := tab_at (m := m) (st.res (i := 0) rfl) (by omega)
   refine vy (y_ldca (shpL m) rfl isAgg187 sizeOf187 rfl (tab_at (st.res (i := 0) rfl) (by omega))) ?_
   refine vc_e (e_sts (vs := [_, _, _, _, _]) st 1 rfl rfl rfl rfl rfl sizeOf187 rfl rfl (by (right; assumption)) ?_)
   intro w st; dsimp only [setNth, wr] at st
   refine ya ?_
   refine vc_end (vq_then (vk2 2 3 (vc_ret ?_)))
   refine vq_ret2 st (.inl rfl) results148 (by exact .cell 1 rfl rfl isAgg187 sizeOf187) (.tmp rfl) ?_
   refine ⟨_, rfl, ?_⟩
   refine ⟨?_, st.chg⟩
   have e6 : decide (1 ≤ (m : Int) ∧ (m : Int) ≤ 7) = true := by simp; omega
   rw [e6]

set_option maxHeartbeats 4000000 in
theorem stmts_any : ∀ (n : Nat) (ss : List Sm), szo ss = n → ∀ (d : Nat), d ≤ 65 → (ss.length = 0 ∨ d ≤ 64) → ∀ (oa : Option Addr) (cap : Nat) (w : World), SmRow w S oa ss → OkSs ss → Sig w → Ret Tryz.prog 93 [.slice oa ss.length cap, .int .i64 (d : Int)] w fun v w' => v = .bool (rightSs ss d) ∧ Chg [] w w' := by
 intro n
 refine Nat.strongRecOn n fun n ih => ?_
 intro ss hn d hd0 hd oa cap w hr hok hsg
 subst hn
 have hssl := hok.1
 refine ret_of [_, _] func93 rfl ntmps93 rfl ?_
 have st := St.init w []
 obtain ⟨w0, rfl⟩ : ∃ w0, w0 = w := ⟨_, rfl⟩
 refine vc_seq (vc_region ?_)
 refine ya ?_
 refine vc_end (vq_then (vk2 0 1 (vc_seq (vc_seq (vc_region ?_)))))
 refine ym ?_
 refine vy (y_lensl rfl underlying65) ?_
 refine ym ?_
 refine vc_end (vq_then (vk4 1 9 10 11 (vc_block ?_)))
 refine vc_loop (w0 := w0) (M := []) (fun (j : Nat) => [(1, .int .i64 (d : Int)), (9, .slice oa ss.length cap), (10, .int .i64 (ss.length : Int)), (11, .int .i64 (j : Int))]) (fun _ => []) (fun j _ => j ≤ ss.length ∧ (ss.take j).all (rightS · d) = true) (fun j => ss.length - j) 0 ⟨rfl, rfl, rfl, rfl, trivial⟩ st ⟨by omega, by simp⟩ ?_
 rintro j w ⟨hj, hall⟩ st
 refine vc_seq (vc_region ?_)
 refine vy (y_lss rfl rfl) ?_
 refine vc_end (vq_then (vk5 1 9 10 11 12 (vc_seq ?_)))
 refine vc_ifs rfl ?_ ?_
 ·intro hc12
  try simp only [dn] at hc12
  obtain ⟨s, hsj⟩ : ∃ s, ss[j]? = some s := ⟨_, List.getElem?_eq_getElem (by omega)⟩
  obtain ⟨gb, go, rfl, hgS, hgl, hg⟩ := SmRow.at hr (by omega)
  obtain ⟨oe, ob, ol, ce, cb, cl, hsV, hse, hsb, hsl, hc⟩ := hg j s hsj
  have hks := hok.2 j s hsj
  have hz := mem_size hsj
  have hB : szo s.body < szo ss := by have := (sm_kids s).1; omega
  have hL : szo s.els < szo ss := by have := (sm_kids s).2; omega
  have hd64 : d ≤ 64 := by omega
  refine vc_code_skip (vq_then (vk4 1 9 10 11 (vc_seq (vc_block (vc_seq (vc_region ?_))))))
  refine vy (y_ia (k := j) rfl rfl underlying65 sizeOf67 rfl (by omega)) ?_
  refine vy (y_ldca (smL s oe ob ol ce cb cl) rfl isAgg67 sizeOf67 rfl (fun i v hi => st.chg.cell (hc i v hi) (by simp))) ?_
  refine vc_e (e_al (l := [_, _, _, _, _, _, _]) st rfl rfl zeroValue67 rfl ?_)
  intro b6 w hb6 st
  refine vc_e (e_sts (vs := [_, _, _, _, _, _, _]) st 0 rfl rfl rfl rfl rfl sizeOf67 rfl rfl (by (right; assumption)) ?_)
  intro w st; dsimp only [setNth, wr] at st
  refine vc_end (vq_then (vk5 1 6 9 10 11 (vc_seq (vc_region ?_))))
  refine vy (y_fa0 rfl underlying67 rfl rfl sizeOf64 rfl) ?_
  refine yl st 0 isAgg64 ?_
  refine vc_e (e_call [_] rfl rfl call148 rfl (shapes_any s.k hks.k _) ?_)
  rintro _ w ⟨rfl, cw⟩
  replace st := st.call0 cw
  refine ym ?_
  iterate 2 refine vy (y_ext rfl rfl) ?_
  refine vc_e (e_al (l := [_, _, _, _, _]) st rfl rfl zeroValue187 rfl ?_)
  intro b7 w hb7 st
  refine vc_e (e_sts (vs := [_, _, _, _, _]) st 0 rfl rfl rfl rfl rfl sizeOf187 rfl rfl (by (right; assumption)) ?_)
  intro w st; dsimp only [setNth, wr] at st
  refine ya ?_
  refine vc_end (vq_then (vk7 1 6 7 8 9 10 11 ?_))
  refine vc_cut (w0 := w0) (M := []) (fun (_ : Unit) => [(1, .int .i64 (d : Int)), (6, .pointer (some ⟨b6, 0, none⟩)), (7, .pointer (some ⟨b7, 0, none⟩)), (9, .slice (some ⟨gb, go, none⟩) ss.length cap), (10, .int .i64 (ss.length : Int)), (11, .int .i64 (j : Int))]) (fun _ => [.blk b7 (.cells (shpL s.k).toArray 187 (0, 0)), .blk b6 (.cells (smL s oe ob ol ce cb cl).toArray 67 (0, 0))]) (fun _ _ => (1 ≤ s.k ∧ s.k ≤ 7) ∧ nmOk (hasN s.k) s.nm = true ∧ nmOk (decide (s.k = 2)) s.other = true ∧ (hasB s.k = true ∨ s.body.length = 0) ∧ (s.k = 3 ∨ s.els.length = 0)) ?_ ?_
  ·refine vc_seq (vc_region ?_)
   refine ym ?_
   refine vy (y_not rfl) ?_
   refine vmb ?_ ?_
   ·intro hg23
    try simp only [dn] at hg23
    iterate 6 refine vsk ?_
    refine ypt ?_
    refine ym ?_
    iterate 6 refine vsk ?_
    refine ypt ?_
    refine ym ?_
    iterate 9 refine vsk ?_
    refine ypt ?_
    refine ym ?_
    iterate 9 refine vsk ?_
    refine ypt ?_
    refine vc_end (vq_then (vk7 1 6 7 9 10 11 60 ?_))
    refine vc_ift rfl ?_
    refine vc_seq (vc_region ?_)
    refine ya ?_
    refine vc_end (vq_then (vk1 4 (vc_ret (vq_then_ret (vq_block_ret (vq_then_ret (vq_then_ret (vq_block_ret (vq_then_ret ?_)))))))))
    refine vq_ret1 st (.inl rfl) results93 (.tmp rfl) ?_
    refine ⟨_, rfl, ?_⟩
    refine ⟨?_, st.chg⟩
    first
     | (refine rightS_no hsj fun hR => ?_
        obtain ⟨r1, r2, r3, r4, r5, r6, r7, r8, r9⟩ := rightS_iff.1 hR
        clear st hsV hse hsb hsl hc hg hr ih hok hks hall
        omega)
   ·intro hg23
    try simp only [dn] at hg23
    refine yfz 1 underlying67 sizeOf9 ?_
    refine yl st 1 isAgg9 ?_
    refine vy (y_fa0 rfl underlying187 rfl rfl sizeOf4 rfl) ?_
    refine yl st 0 isAgg4 ?_
    refine vc_e (e_call [_, _] rfl rfl call149 rfl (namedk_any _ _ _) ?_)
    rintro _ _ ⟨rfl, rfl⟩
    refine vy (y_not rfl) ?_
    refine ypf ?_
    refine vmb ?_ ?_
    ·intro hg31
     try simp only [dn] at hg31
     iterate 6 refine vsk ?_
     refine ypt ?_
     refine ym ?_
     iterate 9 refine vsk ?_
     refine ypt ?_
     refine ym ?_
     iterate 9 refine vsk ?_
     refine ypt ?_
     refine vc_end (vq_then (vk7 1 6 7 9 10 11 60 ?_))
     refine vc_ift rfl ?_
     refine vc_seq (vc_region ?_)
     refine ya ?_
     refine vc_end (vq_then (vk1 4 (vc_ret (vq_then_ret (vq_block_ret (vq_then_ret (vq_then_ret (vq_block_ret (vq_then_ret ?_)))))))))
     refine vq_ret1 st (.inl rfl) results93 (.tmp rfl) ?_
     refine ⟨_, rfl, ?_⟩
     refine ⟨?_, st.chg⟩
     first
      | (refine rightS_no hsj fun hR => ?_
         obtain ⟨r1, r2, r3, r4, r5, r6, r7, r8, r9⟩ := rightS_iff.1 hR
         clear st hsV hse hsb hsl hc hg hr ih hok hks hall
         (simp_all; done))
    ·intro hg31
     try simp only [dn] at hg31
     refine yfz 2 underlying67 sizeOf9 ?_
     refine yl st 1 isAgg9 ?_
     refine yfz 1 underlying187 sizeOf4 ?_
     refine yl st 0 isAgg4 ?_
     refine vc_e (e_call [_, _] rfl rfl call149 rfl (namedk_any _ _ _) ?_)
     rintro _ _ ⟨rfl, rfl⟩
     refine vy (y_not rfl) ?_
     refine ypf ?_
     refine vmb ?_ ?_
     ·intro hg39
      try simp only [dn] at hg39
      iterate 9 refine vsk ?_
      refine ypt ?_
      refine ym ?_
      iterate 9 refine vsk ?_
      refine ypt ?_
      refine vc_end (vq_then (vk7 1 6 7 9 10 11 60 ?_))
      refine vc_ift rfl ?_
      refine vc_seq (vc_region ?_)
      refine ya ?_
      refine vc_end (vq_then (vk1 4 (vc_ret (vq_then_ret (vq_block_ret (vq_then_ret (vq_then_ret (vq_block_ret (vq_then_ret ?_)))))))))
      refine vq_ret1 st (.inl rfl) results93 (.tmp rfl) ?_
      refine ⟨_, rfl, ?_⟩
      refine ⟨?_, st.chg⟩
      first
       | (refine rightS_no hsj fun hR => ?_
          obtain ⟨r1, r2, r3, r4, r5, r6, r7, r8, r9⟩ := rightS_iff.1 hR
          clear st hsV hse hsb hsl hc hg hr ih hok hks hall
          (simp_all; done))
     ·intro hg39
      try simp only [dn] at hg39
      refine yfz 3 underlying187 sizeOf4 ?_
      refine yl st 0 isAgg4 ?_
      refine vy (y_not rfl) ?_
      refine vmb ?_ ?_
      ·intro hg43
       try simp only [dn] at hg43
       refine yfz 4 underlying67 sizeOf65 ?_
       refine yl st 1 isAgg65 ?_
       refine vy (y_lensl rfl underlying65) ?_
       refine vy (y_gtr rfl rfl) ?_
       refine ypt ?_
       refine ypf ?_
       refine vmb ?_ ?_
       ·intro hg50
        try simp only [dn] at hg50
        iterate 9 refine vsk ?_
        refine ypt ?_
        refine vc_end (vq_then (vk7 1 6 7 9 10 11 60 ?_))
        refine vc_ift rfl ?_
        refine vc_seq (vc_region ?_)
        refine ya ?_
        refine vc_end (vq_then (vk1 4 (vc_ret (vq_then_ret (vq_block_ret (vq_then_ret (vq_then_ret (vq_block_ret (vq_then_ret ?_)))))))))
        refine vq_ret1 st (.inl rfl) results93 (.tmp rfl) ?_
        refine ⟨_, rfl, ?_⟩
        refine ⟨?_, st.chg⟩
        first
         | (refine rightS_no hsj fun hR => ?_
            obtain ⟨r1, r2, r3, r4, r5, r6, r7, r8, r9⟩ := rightS_iff.1 hR
            clear st hsV hse hsb hsl hc hg hr ih hok hks hall
            (simp_all; done))
       ·intro hg50
        try simp only [dn] at hg50
        refine yfz 4 underlying187 sizeOf4 ?_
        refine yl st 0 isAgg4 ?_
        refine vy (y_not rfl) ?_
        refine vmb ?_ ?_
        ·intro hg54
         try simp only [dn] at hg54
         refine yfz 5 underlying67 sizeOf65 ?_
         refine yl st 1 isAgg65 ?_
         refine vy (y_lensl rfl underlying65) ?_
         refine vy (y_gtr rfl rfl) ?_
         refine ypt ?_
         refine ypf ?_
         refine vc_end (vq_then (vk7 1 6 7 9 10 11 60 ?_))
         refine vc_ifs rfl ?_ ?_
         ·intro hc60
          try simp only [dn] at hc60
          refine vc_seq (vc_region ?_)
          refine ya ?_
          refine vc_end (vq_then (vk1 4 (vc_ret (vq_then_ret (vq_block_ret (vq_then_ret (vq_then_ret (vq_block_ret (vq_then_ret ?_)))))))))
          refine vq_ret1 st (.inl rfl) results93 (.tmp rfl) ?_
          refine ⟨_, rfl, ?_⟩
          refine ⟨?_, st.chg⟩
          first
           | (refine rightS_no hsj fun hR => ?_
              obtain ⟨r1, r2, r3, r4, r5, r6, r7, r8, r9⟩ := rightS_iff.1 hR
              clear st hsV hse hsb hsl hc hg hr ih hok hks hall
              omega)
         ·intro hc60
          try simp only [dn] at hc60
          refine vc_code_skip ?_
          refine vq_meet () ⟨rfl, rfl, rfl, rfl, rfl, rfl, trivial⟩ st ?_
          ·refine ⟨by assumption, by assumption, by assumption, ?_, ?_⟩ <;> (right; omega)
        ·intro hg54
         try simp only [dn] at hg54
         iterate 4 refine vsk ?_
         iterate 2 refine ypf ?_
         refine vc_end (vq_then (vk7 1 6 7 9 10 11 60 ?_))
         refine vc_iff rfl ?_
         refine vc_code_skip ?_
         refine vq_meet () ⟨rfl, rfl, rfl, rfl, rfl, rfl, trivial⟩ st ?_
         ·refine ⟨by assumption, by assumption, by assumption, ?_, ?_⟩ <;> first | (left; assumption) | (right; omega)
      ·intro hg43
       try simp only [dn] at hg43
       iterate 4 refine vsk ?_
       iterate 2 refine ypf ?_
       refine ym ?_
       refine yfz 4 underlying187 sizeOf4 ?_
       refine yl st 0 isAgg4 ?_
       refine vy (y_not rfl) ?_
       refine vmb ?_ ?_
       ·intro hg54
        try simp only [dn] at hg54
        refine yfz 5 underlying67 sizeOf65 ?_
        refine yl st 1 isAgg65 ?_
        refine vy (y_lensl rfl underlying65) ?_
        refine vy (y_gtr rfl rfl) ?_
        refine ypt ?_
        refine ypf ?_
        refine vc_end (vq_then (vk7 1 6 7 9 10 11 60 ?_))
        refine vc_ifs rfl ?_ ?_
        ·intro hc60
         try simp only [dn] at hc60
         refine vc_seq (vc_region ?_)
         refine ya ?_
         refine vc_end (vq_then (vk1 4 (vc_ret (vq_then_ret (vq_block_ret (vq_then_ret (vq_then_ret (vq_block_ret (vq_then_ret ?_)))))))))
         refine vq_ret1 st (.inl rfl) results93 (.tmp rfl) ?_
         refine ⟨_, rfl, ?_⟩
         refine ⟨?_, st.chg⟩
         first
          | (refine rightS_no hsj fun hR => ?_
             obtain ⟨r1, r2, r3, r4, r5, r6, r7, r8, r9⟩ := rightS_iff.1 hR
             clear st hsV hse hsb hsl hc hg hr ih hok hks hall
             omega)
        ·intro hc60
         try simp only [dn] at hc60
         refine vc_code_skip ?_
         refine vq_meet () ⟨rfl, rfl, rfl, rfl, rfl, rfl, trivial⟩ st ?_
         ·refine ⟨by assumption, by assumption, by assumption, ?_, ?_⟩ <;> first | (left; assumption) | (right; omega)
       ·intro hg54
        try simp only [dn] at hg54
        iterate 4 refine vsk ?_
        iterate 2 refine ypf ?_
        refine vc_end (vq_then (vk7 1 6 7 9 10 11 60 ?_))
        refine vc_iff rfl ?_
        refine vc_code_skip ?_
        refine vq_meet () ⟨rfl, rfl, rfl, rfl, rfl, rfl, trivial⟩ st ?_
        ·refine ⟨by assumption, by assumption, by assumption, ?_, ?_⟩ <;> (left; assumption)
  ·clear st
   rintro ⟨⟩ w ⟨hA1, hA2, hA3, hA4, hA5⟩ st
   refine vc_cut (w0 := w0) (M := []) (fun (_ : Unit) => [(1, .int .i64 (d : Int)), (6, .pointer (some ⟨b6, 0, none⟩)), (7, .pointer (some ⟨b7, 0, none⟩)), (9, .slice (some ⟨gb, go, none⟩) ss.length cap), (10, .int .i64 (ss.length : Int)), (11, .int .i64 (j : Int))]) (fun _ => [.blk b7 (.cells (shpL s.k).toArray 187 (0, 0)), .blk b6 (.cells (smL s oe ob ol ce cb cl).toArray 67 (0, 0))]) (fun _ _ => rightX (hasE s.k) s.e = true) ?_ ?_
   ·refine vc_seq (vc_region ?_)
    refine yfz 2 underlying187 sizeOf4 ?_
    refine yl st 0 isAgg4 ?_
    refine vmb ?_ ?_
    ·intro hg63
     try simp only [dn] at hg63
     refine yfz 3 underlying67 sizeOf40 ?_
     refine yl st 1 isAgg40 ?_
     refine vy (y_lensl rfl underlying40) ?_
     refine vy (y_nei rfl rfl) ?_
     refine vmb ?_ ?_
     ·intro hg68
      try simp only [dn] at hg68
      iterate 6 refine vsk ?_
      iterate 2 refine ypt ?_
      refine ym ?_
      iterate 9 refine vsk ?_
      refine ypt ?_
      refine vc_end (vq_then (vk7 1 6 7 9 10 11 87 ?_))
      refine vc_ift rfl ?_
      refine vc_seq (vc_region ?_)
      refine ya ?_
      refine vc_end (vq_then (vk1 4 (vc_ret (vq_then_ret (vq_block_ret (vq_then_ret (vq_then_ret (vq_block_ret (vq_then_ret ?_)))))))))
      refine vq_ret1 st (.inl rfl) results93 (.tmp rfl) ?_
      refine ⟨_, rfl, ?_⟩
      refine ⟨?_, st.chg⟩
      first
       | (refine rightS_no hsj fun hR => ?_
          obtain ⟨r1, r2, r3, r4, r5, r6, r7, r8, r9⟩ := rightS_iff.1 hR
          clear st hsV hse hsb hsl hc hg hr ih hok hks hall
          first
            | (have hE : hasE s.k = true := by assumption
               rw [hE] at r4
               (rw [rightX_n (by omega)] at r4; cases r4)))
     ·intro hg68
      try simp only [dn] at hg68
      obtain ⟨x, hx⟩ := get0 (l := s.e) (n := s.e.length) rfl (by omega)
      obtain ⟨eb, eo, rfl, heS, hel, heg⟩ := ExRow.at hse (by omega)
      obtain ⟨o0, c0, hV0, hr0, hc0⟩ := heg 0 x hx
      refine yfz 3 underlying67 sizeOf40 ?_
      refine yl st 1 isAgg40 ?_
      refine vy (y_ia (k := 0) rfl rfl underlying40 sizeOf42 rfl (by omega)) ?_
      refine vy (y_ldca (exL x o0 c0) rfl isAgg42 sizeOf42 rfl (fun i v hi => st.chg.cell (hc0 i v hi) (by simp))) ?_
      refine vc_e (e_call [_, _] rfl rfl call46 rfl (expr_any _ x rfl 0 (by omega) _ _ (hV0.kept (Same.of_nil st.chg)) (hsg.kept st.chg)) ?_)
      rintro _ w ⟨rfl, cw⟩
      replace st := st.call0 cw
      refine vy (y_not rfl) ?_
      refine ypf ?_
      refine ypt ?_
      refine vmb ?_ ?_
      ·intro hg77
       try simp only [dn] at hg77
       iterate 9 refine vsk ?_
       refine ypt ?_
       refine vc_end (vq_then (vk7 1 6 7 9 10 11 87 ?_))
       refine vc_ift rfl ?_
       refine vc_seq (vc_region ?_)
       refine ya ?_
       refine vc_end (vq_then (vk1 4 (vc_ret (vq_then_ret (vq_block_ret (vq_then_ret (vq_then_ret (vq_block_ret (vq_then_ret ?_)))))))))
       refine vq_ret1 st (.inl rfl) results93 (.tmp rfl) ?_
       refine ⟨_, rfl, ?_⟩
       refine ⟨?_, st.chg⟩
       first
        | (refine rightS_no hsj fun hR => ?_
           obtain ⟨r1, r2, r3, r4, r5, r6, r7, r8, r9⟩ := rightS_iff.1 hR
           clear st hsV hse hsb hsl hc hg hr ih hok hks hall
           first
             | (have hE : hasE s.k = true := by assumption
                rw [hE] at r4
                (rw [rightX_t (by omega) hx] at r4; simp_all; done)))
      ·intro hg77
       try simp only [dn] at hg77
       refine yfz 2 underlying187 sizeOf4 ?_
       refine yl st 0 isAgg4 ?_
       refine vy (y_not rfl) ?_
       refine vmb ?_ ?_
       ·intro hg81
        try simp only [dn] at hg81
        refine yfz 3 underlying67 sizeOf40 ?_
        refine yl st 1 isAgg40 ?_
        refine vy (y_lensl rfl underlying40) ?_
        refine vy (y_gtr rfl rfl) ?_
        refine ypt ?_
        refine ypf ?_
        refine vc_end (vq_then (vk7 1 6 7 9 10 11 87 ?_))
        refine vc_ifs rfl ?_ ?_
        ·intro hc87
         try simp only [dn] at hc87
         refine vc_seq (vc_region ?_)
         refine ya ?_
         refine vc_end (vq_then (vk1 4 (vc_ret (vq_then_ret (vq_block_ret (vq_then_ret (vq_then_ret (vq_block_ret (vq_then_ret ?_)))))))))
         refine vq_ret1 st (.inl rfl) results93 (.tmp rfl) ?_
         refine ⟨_, rfl, ?_⟩
         refine ⟨?_, st.chg⟩
         first
          | (refine rightS_no hsj fun hR => ?_
             obtain ⟨r1, r2, r3, r4, r5, r6, r7, r8, r9⟩ := rightS_iff.1 hR
             clear st hsV hse hsb hsl hc hg hr ih hok hks hall
             (simp_all; done))
        ·intro hc87
         try simp only [dn] at hc87
         refine vc_code_skip ?_
         refine vq_meet () ⟨rfl, rfl, rfl, rfl, rfl, rfl, trivial⟩ st ?_
         ·first
           | (exfalso; have h1 : hasE s.k = true := by assumption
              have h2 : hasE s.k = false := by assumption
              rw [h1] at h2; cases h2)
       ·intro hg81
        try simp only [dn] at hg81
        iterate 4 refine vsk ?_
        iterate 2 refine ypf ?_
        refine vc_end (vq_then (vk7 1 6 7 9 10 11 87 ?_))
        refine vc_iff rfl ?_
        refine vc_code_skip ?_
        refine vq_meet () ⟨rfl, rfl, rfl, rfl, rfl, rfl, trivial⟩ st ?_
        ·first
          | (have hE : hasE s.k = true := by assumption
             rw [hE, rightX_t (by omega) hx]; assumption)
    ·intro hg63
     try simp only [dn] at hg63
     iterate 12 refine vsk ?_
     refine ypf ?_
     refine ym ?_
     refine yfz 2 underlying187 sizeOf4 ?_
     refine yl st 0 isAgg4 ?_
     refine vy (y_not rfl) ?_
     refine vmb ?_ ?_
     ·intro hg81
      try simp only [dn] at hg81
      refine yfz 3 underlying67 sizeOf40 ?_
      refine yl st 1 isAgg40 ?_
      refine vy (y_lensl rfl underlying40) ?_
      refine vy (y_gtr rfl rfl) ?_
      refine ypt ?_
      refine ypf ?_
      refine vc_end (vq_then (vk7 1 6 7 9 10 11 87 ?_))
      refine vc_ifs rfl ?_ ?_
      ·intro hc87
       try simp only [dn] at hc87
       refine vc_seq (vc_region ?_)
       refine ya ?_
       refine vc_end (vq_then (vk1 4 (vc_ret (vq_then_ret (vq_block_ret (vq_then_ret (vq_then_ret (vq_block_ret (vq_then_ret ?_)))))))))
       refine vq_ret1 st (.inl rfl) results93 (.tmp rfl) ?_
       refine ⟨_, rfl, ?_⟩
       refine ⟨?_, st.chg⟩
       first
        | (refine rightS_no hsj fun hR => ?_
           obtain ⟨r1, r2, r3, r4, r5, r6, r7, r8, r9⟩ := rightS_iff.1 hR
           clear st hsV hse hsb hsl hc hg hr ih hok hks hall
           first
             | (have hE : hasE s.k = false := by assumption
                rw [hE, rightX_f, decide_eq_true_eq] at r4; omega))
      ·intro hc87
       try simp only [dn] at hc87
       refine vc_code_skip ?_
       refine vq_meet () ⟨rfl, rfl, rfl, rfl, rfl, rfl, trivial⟩ st ?_
       ·first
         | (have hE : hasE s.k = false := by assumption
            rw [hE, rightX_f, decide_eq_true_eq]; omega)
     ·intro hg81
      try simp only [dn] at hg81
      iterate 4 refine vsk ?_
      iterate 2 refine ypf ?_
      refine vc_end (vq_then (vk7 1 6 7 9 10 11 87 ?_))
      refine vc_iff rfl ?_
      refine vc_code_skip ?_
      refine vq_meet () ⟨rfl, rfl, rfl, rfl, rfl, rfl, trivial⟩ st ?_
      ·first
        | (exfalso; have h1 : hasE s.k = true := by assumption
           have h2 : hasE s.k = false := by assumption
           rw [h1] at h2; cases h2)
   ·clear st
    rintro ⟨⟩ w hA6 st
    refine vc_seq (vc_region ?_)
    refine yfz 3 underlying187 sizeOf4 ?_
    refine yl st 0 isAgg4 ?_
    refine vmb ?_ ?_
    ·intro hg90
     try simp only [dn] at hg90
     iterate 4 refine vsk ?_
     refine ypt ?_
     iterate 2 refine ym ?_
     refine vy (y_geq rfl rfl) ?_
     refine ypt ?_
     refine vmb ?_ ?_
     ·intro hg100
      try simp only [dn] at hg100
      iterate 6 refine vsk ?_
      refine ypt ?_
      refine ym ?_
      iterate 6 refine vsk ?_
      refine ypt ?_
      refine vc_end (vq_then (vk5 1 9 10 11 115 ?_))
      refine vc_ift rfl ?_
      refine vc_seq (vc_region ?_)
      refine ya ?_
      refine vc_end (vq_then (vk1 4 (vc_ret (vq_block_ret (vq_then_ret (vq_then_ret (vq_block_ret (vq_then_ret ?_))))))))
      refine vq_ret1 st (.inl rfl) results93 (.tmp rfl) ?_
      refine ⟨_, rfl, ?_⟩
      refine ⟨?_, st.chg⟩
      first
       | (refine rightS_no hsj fun hR => ?_
          obtain ⟨r1, r2, r3, r4, r5, r6, r7, r8, r9⟩ := rightS_iff.1 hR
          clear st hsV hse hsb hsl hc hg hr ih hok hks hall
          (simp_all; omega))
     ·intro hg100
      try simp only [dn] at hg100
      refine yfz 4 underlying67 sizeOf65 ?_
      refine yl st 1 isAgg65 ?_
      refine ym ?_
      refine vy (y_add rfl rfl (by omega : _ = ((d + 1 : Nat) : Int)) (by omega) (by omega)) ?_
      refine vc_e (e_call [_, _] rfl rfl call93 rfl (ih (szo s.body) hB s.body rfl (d + 1) (by omega) (by (right; omega)) _ _ _ (hsb.kept (Same.of_nil st.chg)) hks.body (hsg.kept st.chg)) ?_)
      rintro _ w ⟨rfl, cw⟩
      replace st := st.call0 cw
      refine vy (y_not rfl) ?_
      refine ypf ?_
      refine vmb ?_ ?_
      ·intro hg108
       try simp only [dn] at hg108
       iterate 6 refine vsk ?_
       refine ypt ?_
       refine vc_end (vq_then (vk5 1 9 10 11 115 ?_))
       refine vc_ift rfl ?_
       refine vc_seq (vc_region ?_)
       refine ya ?_
       refine vc_end (vq_then (vk1 4 (vc_ret (vq_block_ret (vq_then_ret (vq_then_ret (vq_block_ret (vq_then_ret ?_))))))))
       refine vq_ret1 st (.inl rfl) results93 (.tmp rfl) ?_
       refine ⟨_, rfl, ?_⟩
       refine ⟨?_, st.chg⟩
       first
        | (refine rightS_no hsj fun hR => ?_
           obtain ⟨r1, r2, r3, r4, r5, r6, r7, r8, r9⟩ := rightS_iff.1 hR
           clear st hsV hse hsb hsl hc hg hr ih hok hks hall
           (simp_all; done))
      ·intro hg108
       try simp only [dn] at hg108
       skip
       refine yfz 5 underlying67 sizeOf65 ?_
       refine yl st 1 isAgg65 ?_
       refine ym ?_
       refine vy (y_add rfl rfl (by omega : _ = ((d + 1 : Nat) : Int)) (by omega) (by omega)) ?_
       refine vc_e (e_call [_, _] rfl rfl call93 rfl (ih (szo s.els) hL s.els rfl (d + 1) (by omega) (by (right; omega)) _ _ _ (hsl.kept (Same.of_nil st.chg)) hks.els (hsg.kept st.chg)) ?_)
       rintro _ w ⟨rfl, cw⟩
       replace st := st.call0 cw
       refine vy (y_not rfl) ?_
       refine ypf ?_
       refine vc_end (vq_then (vk5 1 9 10 11 115 ?_))
       refine vc_ifs rfl ?_ ?_
       ·intro hc115
        try simp only [dn] at hc115
        refine vc_seq (vc_region ?_)
        refine ya ?_
        refine vc_end (vq_then (vk1 4 (vc_ret (vq_block_ret (vq_then_ret (vq_then_ret (vq_block_ret (vq_then_ret ?_))))))))
        refine vq_ret1 st (.inl rfl) results93 (.tmp rfl) ?_
        refine ⟨_, rfl, ?_⟩
        refine ⟨?_, st.chg⟩
        first
         | (refine rightS_no hsj fun hR => ?_
            obtain ⟨r1, r2, r3, r4, r5, r6, r7, r8, r9⟩ := rightS_iff.1 hR
            clear st hsV hse hsb hsl hc hg hr ih hok hks hall
            (simp_all; done))
       ·intro hc115
        try simp only [dn] at hc115
        refine vc_code_skip (vq_block (vq_then (vk4 1 9 10 11 (vc_region ?_))))
        refine vy (y_add rfl rfl (by omega : _ = ((j + 1 : Nat) : Int)) (by omega) (by omega)) ?_
        refine ym ?_
        refine vc_end ?_
        refine vq_again (j + 1)  ⟨rfl, rfl, rfl, rfl, trivial⟩ (st.dr) ?_ ?_
        ·exact ⟨by omega, all_take' hall hsj (rightS_iff.2 ⟨hA1, hA2, hA3, hA6, hA4, hA5, by (right; omega), by assumption, by assumption⟩)⟩
        ·omega
    ·intro hg90
     try simp only [dn] at hg90
     refine yfz 5 underlying67 sizeOf65 ?_
     refine yl st 1 isAgg65 ?_
     refine vy (y_lensl rfl underlying65) ?_
     refine vy (y_gtr rfl rfl) ?_
     refine ypf ?_
     refine vmb ?_ ?_
     ·intro hg96
      try simp only [dn] at hg96
      refine ym ?_
      refine vy (y_geq rfl rfl) ?_
      refine ypt ?_
      refine vmb ?_ ?_
      ·intro hg100
       try simp only [dn] at hg100
       iterate 6 refine vsk ?_
       refine ypt ?_
       refine ym ?_
       iterate 6 refine vsk ?_
       refine ypt ?_
       refine vc_end (vq_then (vk5 1 9 10 11 115 ?_))
       refine vc_ift rfl ?_
       refine vc_seq (vc_region ?_)
       refine ya ?_
       refine vc_end (vq_then (vk1 4 (vc_ret (vq_block_ret (vq_then_ret (vq_then_ret (vq_block_ret (vq_then_ret ?_))))))))
       refine vq_ret1 st (.inl rfl) results93 (.tmp rfl) ?_
       refine ⟨_, rfl, ?_⟩
       refine ⟨?_, st.chg⟩
       first
        | (refine rightS_no hsj fun hR => ?_
           obtain ⟨r1, r2, r3, r4, r5, r6, r7, r8, r9⟩ := rightS_iff.1 hR
           clear st hsV hse hsb hsl hc hg hr ih hok hks hall
           omega)
      ·intro hg100
       try simp only [dn] at hg100
       refine yfz 4 underlying67 sizeOf65 ?_
       refine yl st 1 isAgg65 ?_
       refine ym ?_
       refine vy (y_add rfl rfl (by omega : _ = ((d + 1 : Nat) : Int)) (by omega) (by omega)) ?_
       refine vc_e (e_call [_, _] rfl rfl call93 rfl (ih (szo s.body) hB s.body rfl (d + 1) (by omega) (by (right; omega)) _ _ _ (hsb.kept (Same.of_nil st.chg)) hks.body (hsg.kept st.chg)) ?_)
       rintro _ w ⟨rfl, cw⟩
       replace st := st.call0 cw
       refine vy (y_not rfl) ?_
       refine ypf ?_
       refine vmb ?_ ?_
       ·intro hg108
        try simp only [dn] at hg108
        iterate 6 refine vsk ?_
        refine ypt ?_
        refine vc_end (vq_then (vk5 1 9 10 11 115 ?_))
        refine vc_ift rfl ?_
        refine vc_seq (vc_region ?_)
        refine ya ?_
        refine vc_end (vq_then (vk1 4 (vc_ret (vq_block_ret (vq_then_ret (vq_then_ret (vq_block_ret (vq_then_ret ?_))))))))
        refine vq_ret1 st (.inl rfl) results93 (.tmp rfl) ?_
        refine ⟨_, rfl, ?_⟩
        refine ⟨?_, st.chg⟩
        first
         | (refine rightS_no hsj fun hR => ?_
            obtain ⟨r1, r2, r3, r4, r5, r6, r7, r8, r9⟩ := rightS_iff.1 hR
            clear st hsV hse hsb hsl hc hg hr ih hok hks hall
            (simp_all; done))
       ·intro hg108
        try simp only [dn] at hg108
        skip
        refine yfz 5 underlying67 sizeOf65 ?_
        refine yl st 1 isAgg65 ?_
        refine ym ?_
        refine vy (y_add rfl rfl (by omega : _ = ((d + 1 : Nat) : Int)) (by omega) (by omega)) ?_
        refine vc_e (e_call [_, _] rfl rfl call93 rfl (ih (szo s.els) hL s.els rfl (d + 1) (by omega) (by (right; omega)) _ _ _ (hsl.kept (Same.of_nil st.chg)) hks.els (hsg.kept st.chg)) ?_)
        rintro _ w ⟨rfl, cw⟩
        replace st := st.call0 cw
        refine vy (y_not rfl) ?_
        refine ypf ?_
        refine vc_end (vq_then (vk5 1 9 10 11 115 ?_))
        refine vc_ifs rfl ?_ ?_
        ·intro hc115
         try simp only [dn] at hc115
         refine vc_seq (vc_region ?_)
         refine ya ?_
         refine vc_end (vq_then (vk1 4 (vc_ret (vq_block_ret (vq_then_ret (vq_then_ret (vq_block_ret (vq_then_ret ?_))))))))
         refine vq_ret1 st (.inl rfl) results93 (.tmp rfl) ?_
         refine ⟨_, rfl, ?_⟩
         refine ⟨?_, st.chg⟩
         first
          | (refine rightS_no hsj fun hR => ?_
             obtain ⟨r1, r2, r3, r4, r5, r6, r7, r8, r9⟩ := rightS_iff.1 hR
             clear st hsV hse hsb hsl hc hg hr ih hok hks hall
             (simp_all; done))
        ·intro hc115
         try simp only [dn] at hc115
         refine vc_code_skip (vq_block (vq_then (vk4 1 9 10 11 (vc_region ?_))))
         refine vy (y_add rfl rfl (by omega : _ = ((j + 1 : Nat) : Int)) (by omega) (by omega)) ?_
         refine ym ?_
         refine vc_end ?_
         refine vq_again (j + 1)  ⟨rfl, rfl, rfl, rfl, trivial⟩ (st.dr) ?_ ?_
         ·exact ⟨by omega, all_take' hall hsj (rightS_iff.2 ⟨hA1, hA2, hA3, hA6, hA4, hA5, by (right; omega), by assumption, by assumption⟩)⟩
         ·omega
     ·intro hg96
      try simp only [dn] at hg96
      iterate 2 refine vsk ?_
      refine ypf ?_
      refine ym ?_
      refine yfz 4 underlying67 sizeOf65 ?_
      refine yl st 1 isAgg65 ?_
      refine ym ?_
      refine vy (y_add rfl rfl (by omega : _ = ((d + 1 : Nat) : Int)) (by omega) (by omega)) ?_
      refine vc_e (e_call [_, _] rfl rfl call93 rfl (ih (szo s.body) hB s.body rfl (d + 1) (by omega) (by (left; exact hA4.resolve_left (by rw [‹hasB s.k = false›]; simp))) _ _ _ (hsb.kept (Same.of_nil st.chg)) hks.body (hsg.kept st.chg)) ?_)
      rintro _ w ⟨rfl, cw⟩
      replace st := st.call0 cw
      refine vy (y_not rfl) ?_
      refine ypf ?_
      refine vmb ?_ ?_
      ·intro hg108
       try simp only [dn] at hg108
       iterate 6 refine vsk ?_
       refine ypt ?_
       refine vc_end (vq_then (vk5 1 9 10 11 115 ?_))
       refine vc_ift rfl ?_
       refine vc_seq (vc_region ?_)
       refine ya ?_
       refine vc_end (vq_then (vk1 4 (vc_ret (vq_block_ret (vq_then_ret (vq_then_ret (vq_block_ret (vq_then_ret ?_))))))))
       refine vq_ret1 st (.inl rfl) results93 (.tmp rfl) ?_
       refine ⟨_, rfl, ?_⟩
       refine ⟨?_, st.chg⟩
       first
        | (refine rightS_no hsj fun hR => ?_
           obtain ⟨r1, r2, r3, r4, r5, r6, r7, r8, r9⟩ := rightS_iff.1 hR
           clear st hsV hse hsb hsl hc hg hr ih hok hks hall
           (simp_all; done))
      ·intro hg108
       try simp only [dn] at hg108
       skip
       refine yfz 5 underlying67 sizeOf65 ?_
       refine yl st 1 isAgg65 ?_
       refine ym ?_
       refine vy (y_add rfl rfl (by omega : _ = ((d + 1 : Nat) : Int)) (by omega) (by omega)) ?_
       refine vc_e (e_call [_, _] rfl rfl call93 rfl (ih (szo s.els) hL s.els rfl (d + 1) (by omega) (by (left; omega)) _ _ _ (hsl.kept (Same.of_nil st.chg)) hks.els (hsg.kept st.chg)) ?_)
       rintro _ w ⟨rfl, cw⟩
       replace st := st.call0 cw
       refine vy (y_not rfl) ?_
       refine ypf ?_
       refine vc_end (vq_then (vk5 1 9 10 11 115 ?_))
       refine vc_ifs rfl ?_ ?_
       ·intro hc115
        try simp only [dn] at hc115
        refine vc_seq (vc_region ?_)
        refine ya ?_
        refine vc_end (vq_then (vk1 4 (vc_ret (vq_block_ret (vq_then_ret (vq_then_ret (vq_block_ret (vq_then_ret ?_))))))))
        refine vq_ret1 st (.inl rfl) results93 (.tmp rfl) ?_
        refine ⟨_, rfl, ?_⟩
        refine ⟨?_, st.chg⟩
        first
         | (refine rightS_no hsj fun hR => ?_
            obtain ⟨r1, r2, r3, r4, r5, r6, r7, r8, r9⟩ := rightS_iff.1 hR
            clear st hsV hse hsb hsl hc hg hr ih hok hks hall
            (simp_all; done))
       ·intro hc115
        try simp only [dn] at hc115
        refine vc_code_skip (vq_block (vq_then (vk4 1 9 10 11 (vc_region ?_))))
        refine vy (y_add rfl rfl (by omega : _ = ((j + 1 : Nat) : Int)) (by omega) (by omega)) ?_
        refine ym ?_
        refine vc_end ?_
        refine vq_again (j + 1)  ⟨rfl, rfl, rfl, rfl, trivial⟩ (st.dr) ?_ ?_
        ·exact ⟨by omega, all_take' hall hsj (rightS_iff.2 ⟨hA1, hA2, hA3, hA6, hA4, hA5, by (left; exact ⟨by assumption, by omega⟩), by assumption, by assumption⟩)⟩
        ·omega
 ·intro hc12
  try simp only [dn] at hc12
  refine vc_exit (vq_then_exit (vq_then_exit (vq_block_exit (vq_then (vc_keep [] trivial (vc_seq (vc_region ?_)))))))
  refine ya ?_
  refine vc_end (vq_then (vk1 4 (vc_ret ?_)))
  refine vq_ret1 st (.inl rfl) results93 (.tmp rfl) ?_
  refine ⟨_, rfl, ?_⟩
  refine ⟨?_, st.chg⟩
  rw [rightSs_eq, all_end hall (by omega)]

end
end Go.Proofs.YtnmhlpnapgojjaaGreatDoor


namespace Go.Proofs.YtnmhlpnapgojjaaGreatDoor
open Go.RowKit Sx LexS _root_.Go.Proofs.Tryz
section
variable {S : Nat → Prop}

theorem rinner_any (op : Int) (hop : u8 op) (x : Ex) (b : Bool) (o : Option Addr) (c : Nat) (w : World) (hx : OkE x) : Ret Tryz.prog 236 [.int .u8 op, .agg (exL x o c).toArray, .bool b] w fun v w' => v = .bool (inn op x b) ∧ Chg [] w w' := by
 refine ret_of [_, _, _] func236 rfl ntmps236 rfl ?_
 have st := St.init w []
 refine vc_seq (vc_region ?_)
 refine vc_e (e_bx (l := [_, _, _, _, _, _]) st rfl rfl rfl rfl ?_)
 intro b4 w hb4 st
 refine ya ?_
 refine vc_end (vq_then (vk3 0 2 4 (vc_seq (vc_seq (vc_region ?_)))))
 refine vy (y_fa0 rfl underlying42 rfl rfl sizeOf38 rfl) ?_
 refine yl st 0 isAgg38 ?_
 refine vy (y_nei rfl rfl) ?_
 refine vc_end (vq_then (vk4 0 2 4 11 ?_))
 refine vc_ifs rfl ?_ ?_
 ·intro hc11
  try simp only [dn] at hc11
  refine vc_seq (vc_region ?_)
  refine ya ?_
  refine vc_end (vq_then (vk1 6 (vc_ret (vq_then_ret ?_))))
  refine vq_ret1 st (.inl rfl) results236 (.tmp rfl) ?_
  refine ⟨_, rfl, ?_⟩
  refine ⟨?_, st.chg⟩
  show Value.bool _ = Value.bool _
  congr 1
  symm
  exact inn_n (by assumption)
 ·intro hc11
  try simp only [dn] at hc11
  refine vc_code_skip (vq_then (vk3 0 2 4 (vc_seq (vc_region ?_))))
  refine yfz 1 underlying42 sizeOf39 ?_
  refine yl st 0 isAgg39 ?_
  refine vc_e (e_call [_] rfl rfl call250 rfl (rlevel_any _ hx.op.1 _) ?_)
  rintro _ w ⟨rfl, cw⟩
  replace st := st.call0 cw
  refine ym ?_
  refine vc_e (e_call [_] rfl rfl call250 rfl (rlevel_any _ hop.1 _) ?_)
  rintro _ w ⟨rfl, cw⟩
  replace st := st.call0 cw
  iterate 2 refine ya ?_
  refine vc_end (vq_then (vk3 2 7 8 (vc_seq (vc_region ?_))))
  iterate 2 refine ym ?_
  refine vy (y_lss rfl rfl) ?_
  refine vmb ?_ ?_
  ·intro hg20
   try simp only [dn] at hg20
   iterate 6 refine vsk ?_
   refine ypt ?_
   refine ya ?_
   refine vc_end (vq_then (vk1 6 (vc_ret ?_)))
   refine vq_ret1 st (.inl rfl) results236 (.tmp rfl) ?_
   refine ⟨_, rfl, ?_⟩
   refine ⟨?_, st.chg⟩
   show Value.bool _ = Value.bool _
   congr 1
   symm
   first
    | (cases b <;> first | rw [inn_f (by assumption)] | rw [inn_t (by assumption)]
       all_goals (clear st; rw [Bool.eq_iff_iff]; simp_all <;> omega))
  ·intro hg20
   try simp only [dn] at hg20
   refine ym ?_
   refine vmb ?_ ?_
   ·intro hg22
    try simp only [dn] at hg22
    iterate 2 refine ym ?_
    refine vy (y_eqi rfl rfl) ?_
    refine ypt ?_
    refine ypf ?_
    refine ya ?_
    refine vc_end (vq_then (vk1 6 (vc_ret ?_)))
    refine vq_ret1 st (.inl rfl) results236 (.tmp rfl) ?_
    refine ⟨_, rfl, ?_⟩
    refine ⟨?_, st.chg⟩
    show Value.bool _ = Value.bool _
    congr 1
    symm
    first
     | (cases b <;> first | rw [inn_f (by assumption)] | rw [inn_t (by assumption)]
        all_goals (clear st; rw [Bool.eq_iff_iff]; simp_all <;> omega))
   ·intro hg22
    try simp only [dn] at hg22
    iterate 3 refine vsk ?_
    iterate 2 refine ypf ?_
    refine ya ?_
    refine vc_end (vq_then (vk1 6 (vc_ret ?_)))
    refine vq_ret1 st (.inl rfl) results236 (.tmp rfl) ?_
    refine ⟨_, rfl, ?_⟩
    refine ⟨?_, st.chg⟩
    show Value.bool _ = Value.bool _
    congr 1
    symm
    first
     | (cases b <;> first | rw [inn_f (by assumption)] | rw [inn_t (by assumption)]
        all_goals (clear st; rw [Bool.eq_iff_iff]; simp_all <;> omega))

theorem rightE_loop {e x y : Ex} {d : Nat} (h : e.k = 4) (hd : d ≤ 64) (h2 : e.kids.length = 2) (hx : e.kids[0]? = some x) (hy : e.kids[1]? = some y) (h3 : twoOp e.op = true) (h4 : e.wd = 0) (h5 : e.nm = []) :
    rightE e d = (rightE x (if inn e.op x false = true then d + 1 else d) && rightE y (if inn e.op y true = true then d + 1 else d)) := by
 rw [rightE_4 h hd (two_form h2 hx hy), h3]; simp [h4, h5]
def kidOk (e : Ex) (d j : Nat) : Prop := ∀ z, e.kids[j]? = some z → rightE z (if inn e.op z (decide ((j : Int) = 1)) = true then d + 1 else d) = true

set_option maxHeartbeats 2000000 in
theorem rexpr_any : ∀ (n : Nat) (e : Ex), szo e = n → ∀ (d : Nat) (l : List Value) (w : World), ExV w S e l → OkE e → d ≤ 1000 → Ret Tryz.prog 208 [.agg l.toArray, .int .i64 (d : Int)] w fun v w' => v = .bool (rightE e d) ∧ Chg [] w w' := by
 intro n
 refine Nat.strongRecOn n fun n ih => ?_
 intro e hn d l w hV hok hdb
 subst hn
 obtain ⟨oa, cap, rfl, hr⟩ := ExV.inv hV
 refine ret_of [_, _] func208 rfl ntmps208 rfl ?_
 have st := St.init w []
 obtain ⟨w0, rfl⟩ : ∃ w0, w0 = w := ⟨_, rfl⟩
 refine vc_seq (vc_region ?_)
 refine vc_e (e_bx (l := [_, _, _, _, _, _]) st rfl rfl rfl rfl ?_)
 intro b2 w hb2 st
 refine ya ?_
 refine vc_end (vq_then (vk2 1 2 (vc_seq (vc_seq (vc_region ?_)))))
 refine ym ?_
 refine vy (y_gtr rfl rfl) ?_
 refine vc_end (vq_then (vk3 1 2 8 ?_))
 refine vc_ifs rfl ?_ ?_
 ·intro hc8
  try simp only [dn] at hc8
  refine vc_seq (vc_region ?_)
  refine ya ?_
  refine vc_end (vq_then (vk1 4 (vc_ret (vq_then_ret ?_))))
  refine vq_ret1 st (.inl rfl) results208 (.tmp rfl) ?_
  refine ⟨_, rfl, ?_⟩
  refine ⟨?_, st.chg⟩
  rw [rightE_big (by omega)]
 ·intro hc8
  try simp only [dn] at hc8
  have hd : d ≤ 64 := by omega
  refine vc_code_skip (vq_then (vk2 1 2 (vc_seq (vc_seq (vc_region ?_)))))
  refine vy (y_fa0 rfl underlying42 rfl rfl sizeOf38 rfl) ?_
  refine yl st 0 isAgg38 ?_
  refine vc_end (vq_then (vk3 1 2 10 (vc_block (vc_seq (vc_region ?_)))))
  refine vy (y_eqi rfl rfl) ?_
  refine ya ?_
  refine vc_end (vq_then (vk4 1 2 10 11 ?_))
  refine vc_ifs rfl ?_ ?_
  ·intro hc11
   try simp only [dn] at hc11
   refine vc_seq (vc_region ?_)
   refine yfz 2 underlying42 sizeOf2 ?_
   refine yl st 0 isAgg2 ?_
   refine vy (y_geq rfl rfl) ?_
   refine vmb ?_ ?_
   ·intro hg16
    try simp only [dn] at hg16
    refine yfz 1 underlying42 sizeOf39 ?_
    refine yl st 0 isAgg39 ?_
    refine vy (y_eqi rfl rfl) ?_
    refine ypt ?_
    refine vmb ?_ ?_
    ·intro hg21
     try simp only [dn] at hg21
     refine yfz 3 underlying42 sizeOf9 ?_
     refine yl st 0 isAgg9 ?_
     refine vy (y_eqs rfl rfl) ?_
     refine ypt ?_
     refine vmb ?_ ?_
     ·intro hg26
      try simp only [dn] at hg26
      refine yfz 4 underlying42 sizeOf40 ?_
      refine yl st 0 isAgg40 ?_
      refine vy (y_lensl rfl underlying40) ?_
      refine vy (y_eqi rfl rfl) ?_
      refine ypt ?_
      refine ya ?_
      refine vc_end (vq_then (vk1 4 (vc_ret (vq_block_ret (vq_then_ret ?_)))))
      refine vq_ret1 st (.inl rfl) results208 (.tmp rfl) ?_
      refine ⟨_, rfl, ?_⟩
      refine ⟨?_, st.chg⟩
      show Value.bool _ = Value.bool _
      congr 1
      clear st
      symm
      (rw [rightE_1 (e := e) (by assumption) hd]; clear hV hr ih hok; rw [Bool.eq_iff_iff]; simp_all <;> omega)
     ·intro hg26
      try simp only [dn] at hg26
      iterate 4 refine vsk ?_
      refine ypf ?_
      refine ya ?_
      refine vc_end (vq_then (vk1 4 (vc_ret (vq_block_ret (vq_then_ret ?_)))))
      refine vq_ret1 st (.inl rfl) results208 (.tmp rfl) ?_
      refine ⟨_, rfl, ?_⟩
      refine ⟨?_, st.chg⟩
      show Value.bool _ = Value.bool _
      congr 1
      clear st
      symm
      (rw [rightE_1 (e := e) (by assumption) hd]; clear hV hr ih hok; rw [Bool.eq_iff_iff]; simp_all <;> omega)
    ·intro hg21
     try simp only [dn] at hg21
     iterate 3 refine vsk ?_
     refine ypf ?_
     refine ym ?_
     iterate 4 refine vsk ?_
     refine ypf ?_
     refine ya ?_
     refine vc_end (vq_then (vk1 4 (vc_ret (vq_block_ret (vq_then_ret ?_)))))
     refine vq_ret1 st (.inl rfl) results208 (.tmp rfl) ?_
     refine ⟨_, rfl, ?_⟩
     refine ⟨?_, st.chg⟩
     show Value.bool _ = Value.bool _
     congr 1
     clear st
     symm
     (rw [rightE_1 (e := e) (by assumption) hd]; clear hV hr ih hok; rw [Bool.eq_iff_iff]; simp_all <;> omega)
   ·intro hg16
    try simp only [dn] at hg16
    iterate 3 refine vsk ?_
    refine ypf ?_
    refine ym ?_
    iterate 3 refine vsk ?_
    refine ypf ?_
    refine ym ?_
    iterate 4 refine vsk ?_
    refine ypf ?_
    refine ya ?_
    refine vc_end (vq_then (vk1 4 (vc_ret (vq_block_ret (vq_then_ret ?_)))))
    refine vq_ret1 st (.inl rfl) results208 (.tmp rfl) ?_
    refine ⟨_, rfl, ?_⟩
    refine ⟨?_, st.chg⟩
    show Value.bool _ = Value.bool _
    congr 1
    clear st
    symm
    (rw [rightE_1 (e := e) (by assumption) hd]; clear hV hr ih hok; rw [Bool.eq_iff_iff]; simp_all <;> omega)
  ·intro hc11
   try simp only [dn] at hc11
   refine vc_seq (vc_region ?_)
   refine vy (y_eqi rfl rfl) ?_
   refine ya ?_
   refine vc_end (vq_then (vk4 1 2 10 32 ?_))
   refine vc_ifs rfl ?_ ?_
   ·intro hc32
    try simp only [dn] at hc32
    refine vc_seq (vc_region ?_)
    refine yfz 3 underlying42 sizeOf9 ?_
    refine yl st 0 isAgg9 ?_
    refine vc_e (e_call [_] rfl rfl call58 rfl (rname_any _ _) ?_)
    rintro _ _ ⟨rfl, rfl⟩
    refine vmb ?_ ?_
    ·intro hg37
     try simp only [dn] at hg37
     refine yfz 1 underlying42 sizeOf39 ?_
     refine yl st 0 isAgg39 ?_
     refine vy (y_eqi rfl rfl) ?_
     refine ypt ?_
     refine vmb ?_ ?_
     ·intro hg42
      try simp only [dn] at hg42
      refine yfz 2 underlying42 sizeOf2 ?_
      refine yl st 0 isAgg2 ?_
      refine vy (y_eqi rfl rfl) ?_
      refine ypt ?_
      refine vmb ?_ ?_
      ·intro hg47
       try simp only [dn] at hg47
       refine yfz 4 underlying42 sizeOf40 ?_
       refine yl st 0 isAgg40 ?_
       refine vy (y_lensl rfl underlying40) ?_
       refine vy (y_eqi rfl rfl) ?_
       refine ypt ?_
       refine ya ?_
       refine vc_end (vq_then (vk1 4 (vc_ret (vq_block_ret (vq_then_ret ?_)))))
       refine vq_ret1 st (.inl rfl) results208 (.tmp rfl) ?_
       refine ⟨_, rfl, ?_⟩
       refine ⟨?_, st.chg⟩
       show Value.bool _ = Value.bool _
       congr 1
       clear st
       symm
       (rw [rightE_2 (e := e) (by assumption) hd]; clear hV hr ih hok; rw [Bool.eq_iff_iff]; simp_all <;> omega)
      ·intro hg47
       try simp only [dn] at hg47
       iterate 4 refine vsk ?_
       refine ypf ?_
       refine ya ?_
       refine vc_end (vq_then (vk1 4 (vc_ret (vq_block_ret (vq_then_ret ?_)))))
       refine vq_ret1 st (.inl rfl) results208 (.tmp rfl) ?_
       refine ⟨_, rfl, ?_⟩
       refine ⟨?_, st.chg⟩
       show Value.bool _ = Value.bool _
       congr 1
       clear st
       symm
       (rw [rightE_2 (e := e) (by assumption) hd]; clear hV hr ih hok; rw [Bool.eq_iff_iff]; simp_all <;> omega)
     ·intro hg42
      try simp only [dn] at hg42
      iterate 3 refine vsk ?_
      refine ypf ?_
      refine ym ?_
      iterate 4 refine vsk ?_
      refine ypf ?_
      refine ya ?_
      refine vc_end (vq_then (vk1 4 (vc_ret (vq_block_ret (vq_then_ret ?_)))))
      refine vq_ret1 st (.inl rfl) results208 (.tmp rfl) ?_
      refine ⟨_, rfl, ?_⟩
      refine ⟨?_, st.chg⟩
      show Value.bool _ = Value.bool _
      congr 1
      clear st
      symm
      (rw [rightE_2 (e := e) (by assumption) hd]; clear hV hr ih hok; rw [Bool.eq_iff_iff]; simp_all <;> omega)
    ·intro hg37
     try simp only [dn] at hg37
     iterate 3 refine vsk ?_
     refine ypf ?_
     refine ym ?_
     iterate 3 refine vsk ?_
     refine ypf ?_
     refine ym ?_
     iterate 4 refine vsk ?_
     refine ypf ?_
     refine ya ?_
     refine vc_end (vq_then (vk1 4 (vc_ret (vq_block_ret (vq_then_ret ?_)))))
     refine vq_ret1 st (.inl rfl) results208 (.tmp rfl) ?_
     refine ⟨_, rfl, ?_⟩
     refine ⟨?_, st.chg⟩
     show Value.bool _ = Value.bool _
     congr 1
     clear st
     symm
     (rw [rightE_2 (e := e) (by assumption) hd]; clear hV hr ih hok; rw [Bool.eq_iff_iff]; simp_all <;> omega)
   ·intro hc32
    try simp only [dn] at hc32
    refine vc_seq (vc_region ?_)
    refine vy (y_eqi rfl rfl) ?_
    refine ya ?_
    refine vc_end (vq_then (vk4 1 2 10 53 ?_))
    refine vc_ifs rfl ?_ ?_
    ·intro hc53
     try simp only [dn] at hc53
     refine vc_seq (vc_seq (vc_region ?_))
     refine yfz 1 underlying42 sizeOf39 ?_
     refine yl st 0 isAgg39 ?_
     refine vc_e (e_call [_] rfl rfl call234 rfl (rone_any _ _) ?_)
     rintro _ _ ⟨rfl, rfl⟩
     refine vy (y_not rfl) ?_
     refine vmb ?_ ?_
     ·intro hg59
      try simp only [dn] at hg59
      iterate 3 refine vsk ?_
      refine ypt ?_
      refine ym ?_
      iterate 3 refine vsk ?_
      refine ypt ?_
      refine ym ?_
      iterate 4 refine vsk ?_
      refine ypt ?_
      refine vc_end (vq_then (vk3 1 2 74 ?_))
      refine vc_ift rfl ?_
      refine vc_seq (vc_region ?_)
      refine ya ?_
      refine vc_end (vq_then (vk1 4 (vc_ret (vq_then_ret (vq_block_ret (vq_then_ret ?_))))))
      refine vq_ret1 st (.inl rfl) results208 (.tmp rfl) ?_
      refine ⟨_, rfl, ?_⟩
      refine ⟨?_, st.chg⟩
      show Value.bool _ = Value.bool _
      congr 1
      clear st
      symm
      exact rightE_3n (e := e) (by assumption) (by exact .inr (.inl (by assumption)))
     ·intro hg59
      try simp only [dn] at hg59
      refine yfz 2 underlying42 sizeOf2 ?_
      refine yl st 0 isAgg2 ?_
      refine vy (y_nei rfl rfl) ?_
      refine ypf ?_
      refine vmb ?_ ?_
      ·intro hg64
       try simp only [dn] at hg64
       iterate 3 refine vsk ?_
       refine ypt ?_
       refine ym ?_
       iterate 4 refine vsk ?_
       refine ypt ?_
       refine vc_end (vq_then (vk3 1 2 74 ?_))
       refine vc_ift rfl ?_
       refine vc_seq (vc_region ?_)
       refine ya ?_
       refine vc_end (vq_then (vk1 4 (vc_ret (vq_then_ret (vq_block_ret (vq_then_ret ?_))))))
       refine vq_ret1 st (.inl rfl) results208 (.tmp rfl) ?_
       refine ⟨_, rfl, ?_⟩
       refine ⟨?_, st.chg⟩
       show Value.bool _ = Value.bool _
       congr 1
       clear st
       symm
       exact rightE_3n (e := e) (by assumption) (by exact .inr (.inr (.inl (by assumption))))
      ·intro hg64
       try simp only [dn] at hg64
       refine yfz 3 underlying42 sizeOf9 ?_
       refine yl st 0 isAgg9 ?_
       refine vy (y_nes rfl rfl) ?_
       refine ypf ?_
       refine vmb ?_ ?_
       ·intro hg69
        try simp only [dn] at hg69
        iterate 4 refine vsk ?_
        refine ypt ?_
        refine vc_end (vq_then (vk3 1 2 74 ?_))
        refine vc_ift rfl ?_
        refine vc_seq (vc_region ?_)
        refine ya ?_
        refine vc_end (vq_then (vk1 4 (vc_ret (vq_then_ret (vq_block_ret (vq_then_ret ?_))))))
        refine vq_ret1 st (.inl rfl) results208 (.tmp rfl) ?_
        refine ⟨_, rfl, ?_⟩
        refine ⟨?_, st.chg⟩
        show Value.bool _ = Value.bool _
        congr 1
        clear st
        symm
        exact rightE_3n (e := e) (by assumption) (by exact .inr (.inr (.inr (by assumption))))
       ·intro hg69
        try simp only [dn] at hg69
        refine yfz 4 underlying42 sizeOf40 ?_
        refine yl st 0 isAgg40 ?_
        refine vy (y_lensl rfl underlying40) ?_
        refine vy (y_nei rfl rfl) ?_
        refine ypf ?_
        refine vc_end (vq_then (vk3 1 2 74 ?_))
        refine vc_ifs rfl ?_ ?_
        ·intro hc74
         try simp only [dn] at hc74
         refine vc_seq (vc_region ?_)
         refine ya ?_
         refine vc_end (vq_then (vk1 4 (vc_ret (vq_then_ret (vq_block_ret (vq_then_ret ?_))))))
         refine vq_ret1 st (.inl rfl) results208 (.tmp rfl) ?_
         refine ⟨_, rfl, ?_⟩
         refine ⟨?_, st.chg⟩
         show Value.bool _ = Value.bool _
         congr 1
         clear st
         symm
         exact rightE_3n (e := e) (by assumption) (by exact .inl (by omega))
        ·intro hc74
         try simp only [dn] at hc74
         obtain ⟨x, hx⟩ := get0 (l := e.kids) (n := e.kids.length) rfl (by omega)
         obtain ⟨gb, go, rfl, hgS, hgl, hg⟩ := ExRow.at hr (by omega)
         obtain ⟨o0, c0, hV0, hr0, hc0⟩ := hg 0 x hx
         refine vc_code_skip (vq_then (vk2 1 2 (vc_seq (vc_seq (vc_region ?_)))))
         refine yfz 4 underlying42 sizeOf40 ?_
         refine yl st 0 isAgg40 ?_
         refine vy (y_ia (k := 0) rfl rfl underlying40 sizeOf42 rfl (by omega)) ?_
         refine vy (y_fa0 rfl underlying42 rfl rfl sizeOf38 rfl) ?_
         refine vy (y_ldc rfl isAgg38 (st.chg.cell (hc0 0 _ rfl) (by simp))) ?_
         refine vy (y_eqi rfl rfl) ?_
         refine vc_end (vq_then (vk3 1 2 80 ?_))
         refine vc_ifs rfl ?_ ?_
         ·intro hc80
          try simp only [dn] at hc80
          refine vc_seq (vc_region ?_)
          refine ym ?_
          refine vy (y_add rfl rfl (by omega : _ = ((d + 1 : Nat) : Int)) (by omega) (by omega)) ?_
          refine vy (y_leq rfl rfl) ?_
          refine vmb ?_ ?_
          ·intro hg84
           try simp only [dn] at hg84
           refine yfz 4 underlying42 sizeOf40 ?_
           refine yl st 0 isAgg40 ?_
           refine vy (y_ia (k := 0) rfl rfl underlying40 sizeOf42 rfl (by omega)) ?_
           refine vy (y_ldca (exL x o0 c0) rfl isAgg42 sizeOf42 rfl (fun i v hi => st.chg.cell (hc0 i v hi) (by simp))) ?_
           refine ym ?_
           refine vy (y_add rfl rfl (by omega : _ = ((d + 2 : Nat) : Int)) (by omega) (by omega)) ?_
           refine vc_e (e_call [_, _] rfl rfl call208 rfl (ih (szo x) (by have := mem_size hx; have := szo_kids e; omega) x rfl (d + 2) _ _ (hV0.kept (Same.of_nil st.chg)) (hok.kid hx) (by omega)) ?_)
           rintro _ w ⟨rfl, cw⟩
           replace st := st.call0 cw
           refine ypt ?_
           refine ya ?_
           refine vc_end (vq_then (vk1 4 (vc_ret (vq_then_ret (vq_block_ret (vq_then_ret ?_))))))
           refine vq_ret1 st (.inl rfl) results208 (.tmp rfl) ?_
           refine ⟨_, rfl, ?_⟩
           refine ⟨?_, st.chg⟩
           show Value.bool _ = Value.bool _
           congr 1
           clear st
           symm
           first
            | (rw [rightE_3 (e := e) (by assumption) hd (one_form (by omega) hx)]; rw [if_pos (by assumption)]
               (clear hV hr ih hok hg hc0 hV0 hr0; simp_all))
          ·intro hg84
           try simp only [dn] at hg84
           iterate 7 refine vsk ?_
           refine ypf ?_
           refine ya ?_
           refine vc_end (vq_then (vk1 4 (vc_ret (vq_then_ret (vq_block_ret (vq_then_ret ?_))))))
           refine vq_ret1 st (.inl rfl) results208 (.tmp rfl) ?_
           refine ⟨_, rfl, ?_⟩
           refine ⟨?_, st.chg⟩
           show Value.bool _ = Value.bool _
           congr 1
           clear st
           symm
           first
            | (rw [rightE_3 (e := e) (by assumption) hd (one_form (by omega) hx)]; rw [if_pos (by assumption)]
               (rw [rightE_big (e := x) (by omega)]; simp))
         ·intro hc80
          try simp only [dn] at hc80
          refine vc_code_skip (vq_then (vk2 1 2 (vc_seq (vc_region ?_))))
          refine yfz 4 underlying42 sizeOf40 ?_
          refine yl st 0 isAgg40 ?_
          refine vy (y_ia (k := 0) rfl rfl underlying40 sizeOf42 rfl (by omega)) ?_
          refine vy (y_ldca (exL x o0 c0) rfl isAgg42 sizeOf42 rfl (fun i v hi => st.chg.cell (hc0 i v hi) (by simp))) ?_
          refine ym ?_
          refine vy (y_add rfl rfl (by omega : _ = ((d + 1 : Nat) : Int)) (by omega) (by omega)) ?_
          refine vc_e (e_call [_, _] rfl rfl call208 rfl (ih (szo x) (by have := mem_size hx; have := szo_kids e; omega) x rfl (d + 1) _ _ (hV0.kept (Same.of_nil st.chg)) (hok.kid hx) (by omega)) ?_)
          rintro _ w ⟨rfl, cw⟩
          replace st := st.call0 cw
          refine ya ?_
          refine vc_end (vq_then (vk1 4 (vc_ret (vq_block_ret (vq_then_ret ?_)))))
          refine vq_ret1 st (.inl rfl) results208 (.tmp rfl) ?_
          refine ⟨_, rfl, ?_⟩
          refine ⟨?_, st.chg⟩
          show Value.bool _ = Value.bool _
          congr 1
          clear st
          symm
          first
           | (rw [rightE_3 (e := e) (by assumption) hd (one_form (by omega) hx)]; rw [if_neg (by assumption)]
              (clear hV hr ih hok hg hc0 hV0 hr0; simp_all))
    ·intro hc53
     try simp only [dn] at hc53
     refine vc_seq (vc_region ?_)
     refine vy (y_eqi rfl rfl) ?_
     refine ya ?_
     refine vc_end (vq_then (vk3 1 2 100 ?_))
     refine vc_ifs rfl ?_ ?_
     ·intro hc100
      try simp only [dn] at hc100
      refine vc_seq (vc_seq (vc_region ?_))
      refine yfz 1 underlying42 sizeOf39 ?_
      refine yl st 0 isAgg39 ?_
      refine vc_e (e_call [_] rfl rfl call235 rfl (rtwo_any _ _) ?_)
      rintro _ _ ⟨rfl, rfl⟩
      refine vy (y_not rfl) ?_
      refine vmb ?_ ?_
      ·intro hg106
       try simp only [dn] at hg106
       iterate 3 refine vsk ?_
       refine ypt ?_
       refine ym ?_
       iterate 3 refine vsk ?_
       refine ypt ?_
       refine ym ?_
       iterate 4 refine vsk ?_
       refine ypt ?_
       refine vc_end (vq_then (vk3 1 2 121 ?_))
       refine vc_ift rfl ?_
       refine vc_seq (vc_region ?_)
       refine ya ?_
       refine vc_end (vq_then (vk1 4 (vc_ret (vq_then_ret (vq_block_ret (vq_then_ret ?_))))))
       refine vq_ret1 st (.inl rfl) results208 (.tmp rfl) ?_
       refine ⟨_, rfl, ?_⟩
       refine ⟨?_, st.chg⟩
       show Value.bool _ = Value.bool _
       congr 1
       clear st
       symm
       exact rightE_4n (e := e) (by assumption) (by exact .inr (.inl (by assumption)))
      ·intro hg106
       try simp only [dn] at hg106
       refine yfz 2 underlying42 sizeOf2 ?_
       refine yl st 0 isAgg2 ?_
       refine vy (y_nei rfl rfl) ?_
       refine ypf ?_
       refine vmb ?_ ?_
       ·intro hg111
        try simp only [dn] at hg111
        iterate 3 refine vsk ?_
        refine ypt ?_
        refine ym ?_
        iterate 4 refine vsk ?_
        refine ypt ?_
        refine vc_end (vq_then (vk3 1 2 121 ?_))
        refine vc_ift rfl ?_
        refine vc_seq (vc_region ?_)
        refine ya ?_
        refine vc_end (vq_then (vk1 4 (vc_ret (vq_then_ret (vq_block_ret (vq_then_ret ?_))))))
        refine vq_ret1 st (.inl rfl) results208 (.tmp rfl) ?_
        refine ⟨_, rfl, ?_⟩
        refine ⟨?_, st.chg⟩
        show Value.bool _ = Value.bool _
        congr 1
        clear st
        symm
        exact rightE_4n (e := e) (by assumption) (by exact .inr (.inr (.inl (by assumption))))
       ·intro hg111
        try simp only [dn] at hg111
        refine yfz 3 underlying42 sizeOf9 ?_
        refine yl st 0 isAgg9 ?_
        refine vy (y_nes rfl rfl) ?_
        refine ypf ?_
        refine vmb ?_ ?_
        ·intro hg116
         try simp only [dn] at hg116
         iterate 4 refine vsk ?_
         refine ypt ?_
         refine vc_end (vq_then (vk3 1 2 121 ?_))
         refine vc_ift rfl ?_
         refine vc_seq (vc_region ?_)
         refine ya ?_
         refine vc_end (vq_then (vk1 4 (vc_ret (vq_then_ret (vq_block_ret (vq_then_ret ?_))))))
         refine vq_ret1 st (.inl rfl) results208 (.tmp rfl) ?_
         refine ⟨_, rfl, ?_⟩
         refine ⟨?_, st.chg⟩
         show Value.bool _ = Value.bool _
         congr 1
         clear st
         symm
         exact rightE_4n (e := e) (by assumption) (by exact .inr (.inr (.inr (by assumption))))
        ·intro hg116
         try simp only [dn] at hg116
         refine yfz 4 underlying42 sizeOf40 ?_
         refine yl st 0 isAgg40 ?_
         refine vy (y_lensl rfl underlying40) ?_
         refine vy (y_nei rfl rfl) ?_
         refine ypf ?_
         refine vc_end (vq_then (vk3 1 2 121 ?_))
         refine vc_ifs rfl ?_ ?_
         ·intro hc121
          try simp only [dn] at hc121
          refine vc_seq (vc_region ?_)
          refine ya ?_
          refine vc_end (vq_then (vk1 4 (vc_ret (vq_then_ret (vq_block_ret (vq_then_ret ?_))))))
          refine vq_ret1 st (.inl rfl) results208 (.tmp rfl) ?_
          refine ⟨_, rfl, ?_⟩
          refine ⟨?_, st.chg⟩
          show Value.bool _ = Value.bool _
          congr 1
          clear st
          symm
          exact rightE_4n (e := e) (by assumption) (by exact .inl (by omega))
         ·intro hc121
          try simp only [dn] at hc121
          have hk2 : e.kids.length = 2 := by omega
          obtain ⟨x, hx⟩ := get0 hk2 (by omega)
          obtain ⟨y, hy⟩ := get1 hk2
          obtain ⟨gb, go, rfl, hgS, hgl, hg⟩ := ExRow.at hr (by omega)
          refine vc_code_skip (vq_then (vk2 1 2 (vc_seq (vc_seq (vc_region ?_)))))
          refine ya ?_
          refine vc_end (vq_then (vk3 1 2 5 (vc_block ?_)))
          refine vc_loop (w0 := w0) (M := []) (fun (j : Nat) => [(1, .int .i64 (d : Int)), (2, .pointer (some ⟨b2, 0, none⟩)), (5, .int .i64 (j : Int))]) (fun _ => [.blk b2 (.cells (exL e (some ⟨gb, go, none⟩) cap).toArray 42 (0, 0))]) (fun j _ => j ≤ 2 ∧ ∀ i, i < j → kidOk e d i) (fun j => 2 - j) 0 ⟨rfl, rfl, rfl, trivial⟩ st ⟨by omega, fun i hi => by omega⟩ ?_
          rintro j w ⟨hj, hdone⟩ st
          refine vc_seq (vc_seq (vc_region ?_))
          refine ym ?_
          refine vy (y_lss rfl rfl) ?_
          refine vc_end (vq_then (vk4 1 2 5 123 ?_))
          refine vc_ifs rfl ?_ ?_
          ·intro hc123
           try simp only [dn] at hc123
           obtain ⟨z, hz⟩ : ∃ z, e.kids[j]? = some z := ⟨_, List.getElem?_eq_getElem (by omega)⟩
           obtain ⟨o1, c1, hV1, hr1, hc1⟩ := hg j z hz
           have hzk := hok.kid hz
           refine vc_code_skip (vq_then (vk3 1 2 5 (vc_seq (vc_block (vc_seq (vc_region ?_))))))
           refine ya ?_
           refine vc_end (vq_then (vk4 1 2 5 6 ?_))
           refine vc_cut (w0 := w0) (M := []) (fun (_ : Unit) => [(1, .int .i64 (d : Int)), (2, .pointer (some ⟨b2, 0, none⟩)), (5, .int .i64 (j : Int)), (6, .int .i64 (if inn e.op z (decide ((j : Int) = 1)) = true then 1 else 0 : Int))]) (fun _ => [.blk b2 (.cells (exL e (some ⟨gb, go, none⟩) cap).toArray 42 (0, 0))]) (fun _ _ => True) ?_ ?_
           ·refine vc_seq ?_
            refine vc_draw Tryz.mixed [(0, true), (1, true), (2, true), (3, true), (4, true), (5, true), (6, true), (7, true), (8, true), (9, false)] (fun w => St _ _ _ w) st (by kernel_rfl) (by repeat (first | exact okQ_body | refine okQ_then ?_ | refine okQ_block ?_)) rfl (by kernel_rfl) ?_
            intro w cd; replace st := st.call0 cd; clear cd
            have hS := st
            refine pfz hS 1 underlying42 sizeOf39 ?_
            refine pld hS 0 isAgg39 ?_
            refine pfz hS 4 underlying42 sizeOf40 ?_
            refine pld hS 0 isAgg40 ?_
            refine pm hS ?_
            refine vp_take rfl rfl rfl hS (fun w st => y_ia (k := j) rfl rfl underlying40 sizeOf42 rfl (by omega)) ?_
            refine vp_take rfl rfl rfl hS (fun w st => y_ldca (exL z o1 c1) rfl isAgg42 sizeOf42 rfl (fun i v hi => st.chg.cell (hc1 i v hi) (by simp))) ?_
            refine pm hS ?_
            refine vp_take rfl rfl rfl hS (fun w st => y_eqi rfl rfl) ?_
            refine vp_do rfl (e_call [_, _, _] rfl rfl call236 rfl (rinner_any _ hok.op z _ _ _ _ hzk) ?_)
            rintro _ w ⟨rfl, cw⟩
            replace st := st.call0 cw
            refine vp_next (by exact st) ?_; intro hS
            refine vp_end (vq_then (vk5 1 2 5 6 135 ?_))
            refine vc_ifs rfl ?_ ?_
            ·intro hc135
             try simp only [dn] at hc135
             refine vc_region ?_
             refine ya ?_
             refine vc_end ?_
             exact vq_meet () ⟨rfl, rfl, rfl, by simp [Sx.put, find, Nat.beq, hc135], trivial⟩ st trivial
            ·intro hc135
             try simp only [dn] at hc135
             refine vc_code_skip ?_
             exact vq_meet () ⟨rfl, rfl, rfl, by simp [Sx.put, find, Nat.beq, hc135], trivial⟩ st trivial
           ·clear st
            rintro ⟨⟩ w - st
            refine vc_seq (vc_region ?_)
            refine yfz 4 underlying42 sizeOf40 ?_
            refine yl st 0 isAgg40 ?_
            refine ym ?_
            refine vy (y_ia (k := j) rfl rfl underlying40 sizeOf42 rfl (by omega)) ?_
            refine vy (y_ldca (exL z o1 c1) rfl isAgg42 sizeOf42 rfl (fun i v hi => st.chg.cell (hc1 i v hi) (by simp))) ?_
            iterate 2 refine ym ?_
            refine vy (y_add rfl rfl (by split <;> omega : _ = ((if inn e.op z (decide ((j : Int) = 1)) = true then d + 1 else d : Nat) : Int)) (by split <;> omega) (by split <;> omega)) ?_
            refine vc_e (e_call [_, _] rfl rfl call208 rfl (ih (szo z) (by have := mem_size hz; have := szo_kids e; omega) z rfl _ _ _ (hV1.kept (Same.of_nil st.chg)) (hok.kid hz) (by split <;> omega)) ?_)
            rintro _ w ⟨rfl, cw⟩
            replace st := st.call0 cw
            refine vy (y_not rfl) ?_
            refine vc_end (vq_then (vk4 1 2 5 145 ?_))
            refine vc_ifs rfl ?_ ?_
            ·intro hc145
             try simp only [dn] at hc145
             refine vc_seq (vc_region ?_)
             refine ya ?_
             refine vc_end (vq_then (vk1 4 (vc_ret (vq_block_ret (vq_then_ret (vq_then_ret (vq_block_ret (vq_then_ret (vq_block_ret (vq_then_ret ?_))))))))))
             refine vq_ret1 st (.inl rfl) results208 (.tmp rfl) ?_
             refine ⟨_, rfl, ?_⟩
             refine ⟨?_, st.chg⟩
             show Value.bool _ = Value.bool _
             congr 1
             clear st
             symm
             first
              | (rw [rightE_loop (e := e) (by assumption) hd hk2 hx hy (by assumption) (by assumption) (by assumption)]
                 rcases Nat.lt_or_ge j 2 with hj2 | hj2
                 · first
                     | (rcases (show j = 0 ∨ j = 1 by omega) with h | h
                        · subst h; rw [hz] at hx; cases hx; simp_all
                        · subst h; rw [hz] at hy; cases hy; simp_all)
                 · (exfalso; omega))
            ·intro hc145
             try simp only [dn] at hc145
             refine vc_code_skip (vq_block (vq_then (vk3 1 2 5 (vc_region ?_))))
             refine ym ?_
             refine vy (y_add rfl rfl (by omega : _ = ((j + 1 : Nat) : Int)) (by omega) (by omega)) ?_
             refine ya ?_
             refine vc_end ?_
             refine vq_again (j + 1)  ⟨rfl, rfl, rfl, trivial⟩ st ?_ ?_
             ·refine ⟨by omega, fun i hi => ?_⟩
              rcases Nat.lt_or_ge i j with h | h
              ·exact hdone i h
              ·have h2 : i = j := by omega
               subst h2; intro z2 hz2; rw [hz] at hz2; cases hz2; assumption
             ·(try dsimp only); omega
          ·intro hc123
           try simp only [dn] at hc123
           refine vc_exit (vq_then_exit (vq_then_exit (vq_block_exit (vq_then (vc_keep [] trivial (vc_seq (vc_region ?_)))))))
           refine ya ?_
           refine vc_end (vq_then (vk1 4 (vc_ret (vq_block_ret (vq_then_ret ?_)))))
           refine vq_ret1 st (.inl rfl) results208 (.tmp rfl) ?_
           refine ⟨_, rfl, ?_⟩
           refine ⟨?_, st.chg⟩
           show Value.bool _ = Value.bool _
           congr 1
           clear st
           symm
           first
            | (rw [rightE_loop (e := e) (by assumption) hd hk2 hx hy (by assumption) (by assumption) (by assumption)]
               rcases Nat.lt_or_ge j 2 with hj2 | hj2
               · (exfalso; omega)
               · first
                   | (have h0 := hdone 0 (by omega) x hx
                      have h1 := hdone 1 (by omega) y hy
                      simp at h0 h1
                      simp [h0, h1]))
     ·intro hc100
      try simp only [dn] at hc100
      refine vc_code_skip (vq_block (vq_then (vc_keep [] trivial (vc_seq (vc_region ?_)))))
      refine ya ?_
      refine vc_end (vq_then (vk1 4 (vc_ret ?_)))
      refine vq_ret1 st (.inl rfl) results208 (.tmp rfl) ?_
      refine ⟨_, rfl, ?_⟩
      refine ⟨?_, st.chg⟩
      show Value.bool _ = Value.bool _
      congr 1
      clear st
      symm
      exact rightE_0 (e := e) (by assumption) (by assumption) (by assumption) (by assumption)

end
end Go.Proofs.YtnmhlpnapgojjaaGreatDoor

