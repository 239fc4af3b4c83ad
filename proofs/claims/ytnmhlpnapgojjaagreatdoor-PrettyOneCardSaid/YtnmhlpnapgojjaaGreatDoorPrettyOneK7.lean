/- A part of the proof: contracts of functions and plain laws; each theorem says its own conditions. -/
import Derived.Test.YtnmhlpnapgojjaaGreatDoorPrettyOneK1
import Derived.Test.YtnmhlpnapgojjaaGreatDoorPrettyOneK4
import Derived.Test.YtnmhlpnapgojjaaGreatDoorPrettyOneK6
import Derived.Test.YtnmhlpnapgojjaaGreatDoorPrettyOneK2
set_option linter.unusedVariables false
set_option linter.unusedSimpArgs false
namespace Go.Proofs.YtnmhlpnapgojjaaGreatDoor
open Go.RowKit Sx LexS _root_.Go.Proofs.Tryz
section
variable {S : Nat → Prop}

set_option maxHeartbeats 1000000 in
theorem decls_any (ds : List Dc) (oa : Option Addr) (cap : Nat) (b : Bool) (w : World) (hD : DcRow w S oa ds) (hl : ds.length ≤ maxLen) : Ret Tryz.prog 92 [.slice oa ds.length cap, .bool b] w fun v w' => v = .bool (ds.all (dcOk b)) ∧ Chg [] w w' := by
 refine ret_of [_, _] func92 rfl ntmps92 rfl ?_
 have st := St.init w []
 obtain ⟨w0, rfl⟩ : ∃ w0, w0 = w := ⟨_, rfl⟩
 unfold maxLen at hl
 refine vc_seq (vc_region ?_)
 refine ya ?_
 refine vc_end (vq_then (vk2 0 1 (vc_seq (vc_seq (vc_region ?_)))))
 refine ym ?_
 refine vy (y_lensl rfl underlying23) ?_
 refine ym ?_
 refine vc_end (vq_then (vk4 1 7 8 9 (vc_block ?_)))
 refine vc_loop (w0 := w0) (M := []) (fun (j : Nat) => [(1, .bool b), (7, .slice oa ds.length cap), (8, .int .i64 (ds.length : Int)), (9, .int .i64 (j : Int))]) (fun _ => []) (fun j _ => j ≤ ds.length ∧ (ds.take j).all (dcOk b) = true) (fun j => ds.length - j) 0 ⟨rfl, rfl, rfl, rfl, trivial⟩ st ⟨by omega, by simp⟩ ?_
 rintro j w ⟨hj, hall⟩ st
 refine vc_seq (vc_region ?_)
 refine vy (y_lss rfl rfl) ?_
 refine vc_end (vq_then (vk5 1 7 8 9 10 (vc_seq ?_)))
 refine vc_ifs rfl ?_ ?_
 ·intro hc10
  try simp only [dn] at hc10
  obtain ⟨x, hx⟩ : ∃ x, ds[j]? = some x := ⟨_, List.getElem?_eq_getElem (by omega)⟩
  obtain ⟨gb, go, rfl, hgS, hgl, hg⟩ := DcRow.at hD (by omega)
  have hc := hg j x hx
  refine vc_code_skip (vq_then (vk4 1 7 8 9 (vc_seq (vc_block (vc_seq (vc_region ?_))))))
  refine vy (y_ia (k := j) rfl rfl underlying23 sizeOf63 rfl (by omega)) ?_
  refine vy (y_ldca (dcL x) rfl isAgg63 sizeOf63 rfl (fun i v hi => st.chg.cell (hc i v hi) (by simp))) ?_
  refine vc_e (e_al (l := [_, _, _]) st rfl rfl zeroValue63 rfl ?_)
  intro b6 w hb6 st
  first
  | refine vc_e (e_sts (vs := [_, _, _]) st 0 rfl rfl rfl rfl rfl sizeOf63 rfl rfl (by (right; assumption)) ?_)
  intro w st; dsimp only [setNth, wr] at st
  refine vc_end (vq_then (vk5 1 6 7 8 9 (vc_seq (vc_region ?_))))
  refine vy (y_fa0 rfl underlying63 rfl rfl sizeOf9 rfl) ?_
  refine yl st 0 isAgg9 ?_
  refine vc_e (e_call [_] rfl rfl call52 rfl (name_any _ _) ?_)
  rintro _ _ ⟨rfl, rfl⟩
  refine vy (y_not rfl) ?_
  refine vmb ?_ ?_
  ·intro hg17
   try simp only [dn] at hg17
   iterate 6 refine vsk ?_
   refine ypt ?_
   refine ym ?_
   iterate 7 refine vsk ?_
   refine ypt ?_
   refine vc_end (vq_then (vk5 1 7 8 9 33 ?_))
   refine vc_ift rfl ?_
   refine vc_seq (vc_region ?_)
   refine ya ?_
   refine vc_end (vq_then (vk1 4 (vc_ret (vq_block_ret (vq_then_ret (vq_then_ret (vq_block_ret (vq_then_ret ?_))))))))
   refine vq_ret1 st (.inl rfl) results92 (.tmp rfl) ?_
   refine ⟨_, rfl, ?_⟩
   refine ⟨?_, st.chg⟩
   (rw [all_no' (p := dcOk b) hx (by clear st hc hg hD; unfold dcOk; cases b <;> simp_all)])
  ·intro hg17
   try simp only [dn] at hg17
   refine ym ?_
   refine vmb ?_ ?_
   ·intro hg19
    try simp only [dn] at hg19
    refine yfz 1 underlying63 sizeOf2 ?_
    refine yl st 0 isAgg2 ?_
    refine vy (y_eqi rfl rfl) ?_
    refine ypt ?_
    refine ypf ?_
    refine vmb ?_ ?_
    ·intro hg25
     try simp only [dn] at hg25
     iterate 7 refine vsk ?_
     refine ypt ?_
     refine vc_end (vq_then (vk5 1 7 8 9 33 ?_))
     refine vc_ift rfl ?_
     refine vc_seq (vc_region ?_)
     refine ya ?_
     refine vc_end (vq_then (vk1 4 (vc_ret (vq_block_ret (vq_then_ret (vq_then_ret (vq_block_ret (vq_then_ret ?_))))))))
     refine vq_ret1 st (.inl rfl) results92 (.tmp rfl) ?_
     refine ⟨_, rfl, ?_⟩
     refine ⟨?_, st.chg⟩
     (rw [all_no' (p := dcOk b) hx (by clear st hc hg hD; unfold dcOk; cases b <;> simp_all)])
    ·intro hg25
     try simp only [dn] at hg25
     refine ym ?_
     refine vy (y_not rfl) ?_
     refine vmb ?_ ?_
     ·intro hg28
      try simp only [dn] at hg28
      refine yfz 1 underlying63 sizeOf2 ?_
      refine yl st 0 isAgg2 ?_
      refine vy (y_nei rfl rfl) ?_
      refine ypt ?_
      refine ypf ?_
      refine vc_end (vq_then (vk5 1 7 8 9 33 ?_))
      refine vc_ifs rfl ?_ ?_
      ·intro hc33
       try simp only [dn] at hc33
       refine vc_seq (vc_region ?_)
       refine ya ?_
       refine vc_end (vq_then (vk1 4 (vc_ret (vq_block_ret (vq_then_ret (vq_then_ret (vq_block_ret (vq_then_ret ?_))))))))
       refine vq_ret1 st (.inl rfl) results92 (.tmp rfl) ?_
       refine ⟨_, rfl, ?_⟩
       refine ⟨?_, st.chg⟩
       (rw [all_no' (p := dcOk b) hx (by clear st hc hg hD; unfold dcOk; cases b <;> simp_all)])
      ·intro hc33
       try simp only [dn] at hc33
       refine vc_code_skip (vq_block (vq_then (vk4 1 7 8 9 (vc_region ?_))))
       refine vy (y_add rfl rfl (by omega : _ = ((j + 1 : Nat) : Int)) (by omega) (by omega)) ?_
       refine ym ?_
       refine vc_end ?_
       refine vq_again (j + 1)  ⟨rfl, rfl, rfl, rfl, trivial⟩ (st.dr) ?_ ?_
       ·exact ⟨by omega, all_take' hall hx (by clear st hc hg hD; unfold dcOk; cases b <;> simp_all)⟩
       ·omega
     ·intro hg28
      try simp only [dn] at hg28
      iterate 3 refine vsk ?_
      iterate 2 refine ypf ?_
      refine vc_end (vq_then (vk5 1 7 8 9 33 ?_))
      refine vc_iff rfl ?_
      refine vc_code_skip (vq_block (vq_then (vk4 1 7 8 9 (vc_region ?_))))
      refine vy (y_add rfl rfl (by omega : _ = ((j + 1 : Nat) : Int)) (by omega) (by omega)) ?_
      refine ym ?_
      refine vc_end ?_
      refine vq_again (j + 1)  ⟨rfl, rfl, rfl, rfl, trivial⟩ (st.dr) ?_ ?_
      ·exact ⟨by omega, all_take' hall hx (by clear st hc hg hD; unfold dcOk; cases b <;> simp_all)⟩
      ·omega
   ·intro hg19
    try simp only [dn] at hg19
    iterate 3 refine vsk ?_
    iterate 2 refine ypf ?_
    iterate 2 refine ym ?_
    refine vy (y_not rfl) ?_
    refine vmb ?_ ?_
    ·intro hg28
     try simp only [dn] at hg28
     refine yfz 1 underlying63 sizeOf2 ?_
     refine yl st 0 isAgg2 ?_
     refine vy (y_nei rfl rfl) ?_
     refine ypt ?_
     refine ypf ?_
     refine vc_end (vq_then (vk5 1 7 8 9 33 ?_))
     refine vc_ifs rfl ?_ ?_
     ·intro hc33
      try simp only [dn] at hc33
      refine vc_seq (vc_region ?_)
      refine ya ?_
      refine vc_end (vq_then (vk1 4 (vc_ret (vq_block_ret (vq_then_ret (vq_then_ret (vq_block_ret (vq_then_ret ?_))))))))
      refine vq_ret1 st (.inl rfl) results92 (.tmp rfl) ?_
      refine ⟨_, rfl, ?_⟩
      refine ⟨?_, st.chg⟩
      (rw [all_no' (p := dcOk b) hx (by clear st hc hg hD; unfold dcOk; cases b <;> simp_all)])
     ·intro hc33
      try simp only [dn] at hc33
      refine vc_code_skip (vq_block (vq_then (vk4 1 7 8 9 (vc_region ?_))))
      refine vy (y_add rfl rfl (by omega : _ = ((j + 1 : Nat) : Int)) (by omega) (by omega)) ?_
      refine ym ?_
      refine vc_end ?_
      refine vq_again (j + 1)  ⟨rfl, rfl, rfl, rfl, trivial⟩ (st.dr) ?_ ?_
      ·exact ⟨by omega, all_take' hall hx (by clear st hc hg hD; unfold dcOk; cases b <;> simp_all)⟩
      ·omega
    ·intro hg28
     try simp only [dn] at hg28
     iterate 3 refine vsk ?_
     iterate 2 refine ypf ?_
     refine vc_end (vq_then (vk5 1 7 8 9 33 ?_))
     refine vc_iff rfl ?_
     refine vc_code_skip (vq_block (vq_then (vk4 1 7 8 9 (vc_region ?_))))
     refine vy (y_add rfl rfl (by omega : _ = ((j + 1 : Nat) : Int)) (by omega) (by omega)) ?_
     refine ym ?_
     refine vc_end ?_
     refine vq_again (j + 1)  ⟨rfl, rfl, rfl, rfl, trivial⟩ (st.dr) ?_ ?_
     ·exact ⟨by omega, all_take' hall hx (by clear st hc hg hD; unfold dcOk; cases b <;> simp_all)⟩
     ·omega
 ·intro hc10
  try simp only [dn] at hc10
  refine vc_exit (vq_then_exit (vq_then_exit (vq_block_exit (vq_then (vc_keep [] trivial (vc_seq (vc_region ?_)))))))
  refine ya ?_
  refine vc_end (vq_then (vk1 4 (vc_ret ?_)))
  refine vq_ret1 st (.inl rfl) results92 (.tmp rfl) ?_
  refine ⟨_, rfl, ?_⟩
  refine ⟨?_, st.chg⟩
  rw [all_end hall (by omega)]

theorem namedk_any (l : List UInt8) (b : Bool) (w : World) : Ret Tryz.prog 149 [str l, .bool b] w fun v w' => v = .bool (nmOk b l) ∧ w' = w := named_any l b w

theorem shapes_any (k : Int) (hk : u8 k) (w : World) : Ret Tryz.prog 148 [.int .u8 k] w fun v w' => v = .tuple #[.agg (shpL k).toArray, .bool (decide (1 ≤ k ∧ k ≤ 7))] ∧ Chg [] w w' := by
 refine ret_of [_] func148 rfl ntmps148 rfl ?_
 have st := St.init w []
 refine vc_seq (vc_region ?_)
 refine vc_e (e_al (l := [_, _, _, _, _]) st rfl rfl zeroValue187 rfl ?_)
 intro b2 w hb2 st
 refine ya ?_
 refine vc_end (vq_then (vk2 0 2 (vc_seq (vc_region ?_))))
 refine vy (y_bld (.agg #[_, _, _, _, _]) [(0, _), (2, _)] rfl (fun w => by simp [Instr.build, go_sem] <;> repeat' constructor)) ?_
 refine vy (y_bld (.agg #[_, _, _, _, _]) [(0, _), (1, _), (2, _)] rfl (fun w => by simp [Instr.build, go_sem] <;> repeat' constructor)) ?_
 refine vy (y_bld (.agg #[_, _, _, _, _]) [(2, _), (3, _), (4, _)] rfl (fun w => by simp [Instr.build, go_sem] <;> repeat' constructor)) ?_
 refine vy (y_bld (.agg #[_, _, _, _, _]) [(2, _), (3, _)] rfl (fun w => by simp [Instr.build, go_sem] <;> repeat' constructor)) ?_
 refine vy (y_bld (.agg #[_, _, _, _, _]) [(0, _), (3, _)] rfl (fun w => by simp [Instr.build, go_sem] <;> repeat' constructor)) ?_
 refine vy (y_bld (.agg #[_, _, _, _, _]) [(2, _)] rfl (fun w => by simp [Instr.build, go_sem] <;> repeat' constructor)) ?_
 refine vy (y_bld (.agg #[_, _, _, _, _]) [] rfl (fun w => by simp [Instr.build, go_sem] <;> repeat' constructor)) ?_
 refine vy (y_bld (.agg #[_, _, _, _, _, _, _, _, _, _, _, _, _, _, _, _, _, _, _, _, _, _, _, _, _, _, _, _, _, _, _, _, _, _, _, _, _, _, _, _]) [(1, _), (2, _), (3, _), (4, _), (5, _), (6, _), (7, _)] rfl (fun w => by simp [Instr.build, go_sem] <;> repeat' constructor)) ?_
 refine vc_e (e_al (l := [_, _, _, _, _, _, _, _, _, _, _, _, _, _, _, _, _, _, _, _, _, _, _, _, _, _, _, _, _, _, _, _, _, _, _, _, _, _, _, _]) st rfl rfl zeroValue221 rfl ?_)
 intro b4 w hb4 st
 refine vc_e (e_sts (vs := [_, _, _, _, _, _, _, _, _, _, _, _, _, _, _, _, _, _, _, _, _, _, _, _, _, _, _, _, _, _, _, _, _, _, _, _, _, _, _, _]) st 0 rfl rfl rfl rfl rfl sizeOf221 rfl rfl (by (right; assumption)) ?_)
 intro w st; dsimp only [setNth, wr] at st
 refine vc_end (vq_then (vk3 0 2 4 (vc_seq (vc_seq (vc_region ?_)))))
 refine ym ?_
 refine vy (y_eqi rfl rfl) ?_
 refine vmb ?_ ?_
 ·intro hg15
  try simp only [dn] at hg15
  iterate 3 refine vsk ?_
  refine ypt ?_
  refine vc_end (vq_then (vk4 0 2 4 19 ?_))
  refine vc_ift rfl ?_
  refine vc_seq (vc_region ?_)
  refine vy (y_bld (.agg #[_, _, _, _, _]) [] rfl (fun w => by simp [Instr.build, go_sem] <;> repeat' constructor)) ?_
  refine vc_e (e_sts (vs := [_, _, _, _, _]) st 1 rfl rfl rfl rfl rfl sizeOf187 rfl rfl (by (right; assumption)) ?_)
  intro w st; dsimp only [setNth, wr] at st
  refine ya ?_
  refine vc_end (vq_then (vk2 2 3 (vc_ret (vq_then_ret ?_))))
  refine vq_ret2 st (.inl rfl) results148 (by exact .cell 1 rfl rfl isAgg187 sizeOf187) (.tmp rfl) ?_
  refine ⟨_, rfl, ?_⟩
  refine ⟨?_, st.chg⟩
  have e1 : hasN k = false := by unfold hasN; simp; omega
  have e2 : decide (k = 2) = false := by simp; omega
  have e3 : hasE k = false := by unfold hasE; simp; omega
  have e4 : hasB k = false := by unfold hasB; simp; omega
  have e5 : decide (k = 3) = false := by simp; omega
  have e6 : decide (1 ≤ k ∧ k ≤ 7) = false := by simp; omega
  simp only [shpL, e1, e2, e3, e4, e5, e6]
 ·intro hg15
  try simp only [dn] at hg15
  refine ym ?_
  refine vy (y_cvi rfl underlying3 underlying64 (wrap_i64 k (by have h1 := hk.1; have h2 := hk.2; omega) : _ = k)) ?_
  refine vy (y_geq rfl rfl) ?_
  refine ypf ?_
  refine vc_end (vq_then (vk4 0 2 4 19 ?_))
  refine vc_ifs rfl ?_ ?_
  ·intro hc19
   try simp only [dn] at hc19
   refine vc_seq (vc_region ?_)
   refine vy (y_bld (.agg #[_, _, _, _, _]) [] rfl (fun w => by simp [Instr.build, go_sem] <;> repeat' constructor)) ?_
   refine vc_e (e_sts (vs := [_, _, _, _, _]) st 1 rfl rfl rfl rfl rfl sizeOf187 rfl rfl (by (right; assumption)) ?_)
   intro w st; dsimp only [setNth, wr] at st
   refine ya ?_
   refine vc_end (vq_then (vk2 2 3 (vc_ret (vq_then_ret ?_))))
   refine vq_ret2 st (.inl rfl) results148 (by exact .cell 1 rfl rfl isAgg187 sizeOf187) (.tmp rfl) ?_
   refine ⟨_, rfl, ?_⟩
   refine ⟨?_, st.chg⟩
   have e1 : hasN k = false := by unfold hasN; simp; omega
   have e2 : decide (k = 2) = false := by simp; omega
   have e3 : hasE k = false := by unfold hasE; simp; omega
   have e4 : hasB k = false := by unfold hasB; simp; omega
   have e5 : decide (k = 3) = false := by simp; omega
   have e6 : decide (1 ≤ k ∧ k ≤ 7) = false := by simp; omega
   simp only [shpL, e1, e2, e3, e4, e5, e6]
  ·intro hc19
   try simp only [dn] at hc19
   refine vc_code_skip (vq_then (vk3 0 2 4 (vc_seq (vc_region ?_))))
   obtain ⟨m, rfl⟩ : ∃ m : Nat, k = (m : Int) := ⟨k.toNat, by have := hk.1; omega⟩
   refine ym ?_
   refine vy (y_iaa (k := m) rfl rfl underlying221 sizeOf187 rfl (by omega)) ?_
   have hq := tab_at (m := m) (st.res (i := 0) rfl) (by omega)
   refine vy (y_ldca (shpL m) rfl isAgg187 sizeOf187 rfl (tab_at (st.res (i := 0) rfl) (by omega))) ?_
   refine vc_e (e_sts (vs := [_, _, _, _, _]) st 1 rfl rfl rfl rfl rfl sizeOf187 rfl rfl (by (right; assumption)) ?_)
   intro w st; dsimp only [setNth, wr] at st
   refine ya ?_
   refine vc_end (vq_then (vk2 2 3 (vc_ret ?_)))
   refine vq_ret2 st (.inl rfl) results148 (by exact .cell 1 rfl rfl isAgg187 sizeOf187) (.tmp rfl) ?_
   refine ⟨_, rfl, ?_⟩
   refine ⟨?_, st.chg⟩
   have e6 : decide (1 ≤ (m : Int) ∧ (m : Int) ≤ 7) = true := by simp; omega
   rw [e6]

set_option maxHeartbeats 4000000 in
theorem stmts_any : ∀ (n : Nat) (ss : List Sm), szo ss = n → ∀ (d : Nat), d ≤ 65 → (ss.length = 0 ∨ d ≤ 64) → ∀ (oa : Option Addr) (cap : Nat) (w : World), SmRow w S oa ss → OkSs ss → Sig w → Ret Tryz.prog 93 [.slice oa ss.length cap, .int .i64 (d : Int)] w fun v w' => v = .bool (rightSs ss d) ∧ Chg [] w w' := by
 intro n
 refine Nat.strongRecOn n fun n ih => ?_
 intro ss hn d hd0 hd oa cap w hr hok hsg
 subst hn
 have hssl := hok.1
 refine ret_of [_, _] func93 rfl ntmps93 rfl ?_
 have st := St.init w []
 obtain ⟨w0, rfl⟩ : ∃ w0, w0 = w := ⟨_, rfl⟩
 refine vc_seq (vc_region ?_)
 refine ya ?_
 refine vc_end (vq_then (vk2 0 1 (vc_seq (vc_seq (vc_region ?_)))))
 refine ym ?_
 refine vy (y_lensl rfl underlying65) ?_
 refine ym ?_
 refine vc_end (vq_then (vk4 1 9 10 11 (vc_block ?_)))
 refine vc_loop (w0 := w0) (M := []) (fun (j : Nat) => [(1, .int .i64 (d : Int)), (9, .slice oa ss.length cap), (10, .int .i64 (ss.length : Int)), (11, .int .i64 (j : Int))]) (fun _ => []) (fun j _ => j ≤ ss.length ∧ (ss.take j).all (rightS · d) = true) (fun j => ss.length - j) 0 ⟨rfl, rfl, rfl, rfl, trivial⟩ st ⟨by omega, by simp⟩ ?_
 rintro j w ⟨hj, hall⟩ st
 refine vc_seq (vc_region ?_)
 refine vy (y_lss rfl rfl) ?_
 refine vc_end (vq_then (vk5 1 9 10 11 12 (vc_seq ?_)))
 refine vc_ifs rfl ?_ ?_
 ·intro hc12
  try simp only [dn] at hc12
  obtain ⟨s, hsj⟩ : ∃ s, ss[j]? = some s := ⟨_, List.getElem?_eq_getElem (by omega)⟩
  obtain ⟨gb, go, rfl, hgS, hgl, hg⟩ := SmRow.at hr (by omega)
  obtain ⟨oe, ob, ol, ce, cb, cl, hsV, hse, hsb, hsl, hc⟩ := hg j s hsj
  have hks := hok.2 j s hsj
  have hz := mem_size hsj
  have hB : szo s.body < szo ss := by have := (sm_kids s).1; omega
  have hL : szo s.els < szo ss := by have := (sm_kids s).2; omega
  have hd64 : d ≤ 64 := by omega
  refine vc_code_skip (vq_then (vk4 1 9 10 11 (vc_seq (vc_block (vc_seq (vc_region ?_))))))
  refine vy (y_ia (k := j) rfl rfl underlying65 sizeOf67 rfl (by omega)) ?_
  refine vy (y_ldca (smL s oe ob ol ce cb cl) rfl isAgg67 sizeOf67 rfl (fun i v hi => st.chg.cell (hc i v hi) (by simp))) ?_
  refine vc_e (e_al (l := [_, _, _, _, _, _, _]) st rfl rfl zeroValue67 rfl ?_)
  intro b6 w hb6 st
  refine vc_e (e_sts (vs := [_, _, _, _, _, _, _]) st 0 rfl rfl rfl rfl rfl sizeOf67 rfl rfl (by (right; assumption)) ?_)
  intro w st; dsimp only [setNth, wr] at st
  refine vc_end (vq_then (vk5 1 6 9 10 11 (vc_seq (vc_region ?_))))
  refine vy (y_fa0 rfl underlying67 rfl rfl sizeOf64 rfl) ?_
  refine yl st 0 isAgg64 ?_
  refine vc_e (e_call [_] rfl rfl call148 rfl (shapes_any s.k hks.k _) ?_)
  rintro _ w ⟨rfl, cw⟩
  replace st := st.call0 cw
  refine ym ?_
  iterate 2 refine vy (y_ext rfl rfl) ?_
  refine vc_e (e_al (l := [_, _, _, _, _]) st rfl rfl zeroValue187 rfl ?_)
  intro b7 w hb7 st
  refine vc_e (e_sts (vs := [_, _, _, _, _]) st 0 rfl rfl rfl rfl rfl sizeOf187 rfl rfl (by (right; assumption)) ?_)
  intro w st; dsimp only [setNth, wr] at st
  refine ya ?_
  refine vc_end (vq_then (vk7 1 6 7 8 9 10 11 ?_))
  refine vc_cut (w0 := w0) (M := []) (fun (_ : Unit) => [(1, .int .i64 (d : Int)), (6, .pointer (some ⟨b6, 0, none⟩)), (7, .pointer (some ⟨b7, 0, none⟩)), (9, .slice (some ⟨gb, go, none⟩) ss.length cap), (10, .int .i64 (ss.length : Int)), (11, .int .i64 (j : Int))]) (fun _ => [.blk b7 (.cells (shpL s.k).toArray 187 (0, 0)), .blk b6 (.cells (smL s oe ob ol ce cb cl).toArray 67 (0, 0))]) (fun _ _ => (1 ≤ s.k ∧ s.k ≤ 7) ∧ nmOk (hasN s.k) s.nm = true ∧ nmOk (decide (s.k = 2)) s.other = true ∧ (hasB s.k = true ∨ s.body.length = 0) ∧ (s.k = 3 ∨ s.els.length = 0)) ?_ ?_
  ·refine vc_seq (vc_region ?_)
   refine ym ?_
   refine vy (y_not rfl) ?_
   refine vmb ?_ ?_
   ·intro hg23
    try simp only [dn] at hg23
    iterate 6 refine vsk ?_
    refine ypt ?_
    refine ym ?_
    iterate 6 refine vsk ?_
    refine ypt ?_
    refine ym ?_
    iterate 9 refine vsk ?_
    refine ypt ?_
    refine ym ?_
    iterate 9 refine vsk ?_
    refine ypt ?_
    refine vc_end (vq_then (vk7 1 6 7 9 10 11 60 ?_))
    refine vc_ift rfl ?_
    refine vc_seq (vc_region ?_)
    refine ya ?_
    refine vc_end (vq_then (vk1 4 (vc_ret (vq_then_ret (vq_block_ret (vq_then_ret (vq_then_ret (vq_block_ret (vq_then_ret ?_)))))))))
    refine vq_ret1 st (.inl rfl) results93 (.tmp rfl) ?_
    refine ⟨_, rfl, ?_⟩
    refine ⟨?_, st.chg⟩
    first
     | (refine rightS_no hsj fun hR => ?_
        obtain ⟨r1, r2, r3, r4, r5, r6, r7, r8, r9⟩ := rightS_iff.1 hR
        clear st hsV hse hsb hsl hc hg hr ih hok hks hall
        omega)
   ·intro hg23
    try simp only [dn] at hg23
    refine yfz 1 underlying67 sizeOf9 ?_
    refine yl st 1 isAgg9 ?_
    refine vy (y_fa0 rfl underlying187 rfl rfl sizeOf4 rfl) ?_
    refine yl st 0 isAgg4 ?_
    refine vc_e (e_call [_, _] rfl rfl call149 rfl (namedk_any _ _ _) ?_)
    rintro _ _ ⟨rfl, rfl⟩
    refine vy (y_not rfl) ?_
    refine ypf ?_
    refine vmb ?_ ?_
    ·intro hg31
     try simp only [dn] at hg31
     iterate 6 refine vsk ?_
     refine ypt ?_
     refine ym ?_
     iterate 9 refine vsk ?_
     refine ypt ?_
     refine ym ?_
     iterate 9 refine vsk ?_
     refine ypt ?_
     refine vc_end (vq_then (vk7 1 6 7 9 10 11 60 ?_))
     refine vc_ift rfl ?_
     refine vc_seq (vc_region ?_)
     refine ya ?_
     refine vc_end (vq_then (vk1 4 (vc_ret (vq_then_ret (vq_block_ret (vq_then_ret (vq_then_ret (vq_block_ret (vq_then_ret ?_)))))))))
     refine vq_ret1 st (.inl rfl) results93 (.tmp rfl) ?_
     refine ⟨_, rfl, ?_⟩
     refine ⟨?_, st.chg⟩
     first
      | (refine rightS_no hsj fun hR => ?_
         obtain ⟨r1, r2, r3, r4, r5, r6, r7, r8, r9⟩ := rightS_iff.1 hR
         clear st hsV hse hsb hsl hc hg hr ih hok hks hall
         (simp_all; done))
    ·intro hg31
     try simp only [dn] at hg31
     refine yfz 2 underlying67 sizeOf9 ?_
     refine yl st 1 isAgg9 ?_
     refine yfz 1 underlying187 sizeOf4 ?_
     refine yl st 0 isAgg4 ?_
     refine vc_e (e_call [_, _] rfl rfl call149 rfl (namedk_any _ _ _) ?_)
     rintro _ _ ⟨rfl, rfl⟩
     refine vy (y_not rfl) ?_
     refine ypf ?_
     refine vmb ?_ ?_
     ·intro hg39
      try simp only [dn] at hg39
      iterate 9 refine vsk ?_
      refine ypt ?_
      refine ym ?_
      iterate 9 refine vsk ?_
      refine ypt ?_
      refine vc_end (vq_then (vk7 1 6 7 9 10 11 60 ?_))
      refine vc_ift rfl ?_
      refine vc_seq (vc_region ?_)
      refine ya ?_
      refine vc_end (vq_then (vk1 4 (vc_ret (vq_then_ret (vq_block_ret (vq_then_ret (vq_then_ret (vq_block_ret (vq_then_ret ?_)))))))))
      refine vq_ret1 st (.inl rfl) results93 (.tmp rfl) ?_
      refine ⟨_, rfl, ?_⟩
      refine ⟨?_, st.chg⟩
      first
       | (refine rightS_no hsj fun hR => ?_
          obtain ⟨r1, r2, r3, r4, r5, r6, r7, r8, r9⟩ := rightS_iff.1 hR
          clear st hsV hse hsb hsl hc hg hr ih hok hks hall
          (simp_all; done))
     ·intro hg39
      try simp only [dn] at hg39
      refine yfz 3 underlying187 sizeOf4 ?_
      refine yl st 0 isAgg4 ?_
      refine vy (y_not rfl) ?_
      refine vmb ?_ ?_
      ·intro hg43
       try simp only [dn] at hg43
       refine yfz 4 underlying67 sizeOf65 ?_
       refine yl st 1 isAgg65 ?_
       refine vy (y_lensl rfl underlying65) ?_
       refine vy (y_gtr rfl rfl) ?_
       refine ypt ?_
       refine ypf ?_
       refine vmb ?_ ?_
       ·intro hg50
        try simp only [dn] at hg50
        iterate 9 refine vsk ?_
        refine ypt ?_
        refine vc_end (vq_then (vk7 1 6 7 9 10 11 60 ?_))
        refine vc_ift rfl ?_
        refine vc_seq (vc_region ?_)
        refine ya ?_
        refine vc_end (vq_then (vk1 4 (vc_ret (vq_then_ret (vq_block_ret (vq_then_ret (vq_then_ret (vq_block_ret (vq_then_ret ?_)))))))))
        refine vq_ret1 st (.inl rfl) results93 (.tmp rfl) ?_
        refine ⟨_, rfl, ?_⟩
        refine ⟨?_, st.chg⟩
        first
         | (refine rightS_no hsj fun hR => ?_
            obtain ⟨r1, r2, r3, r4, r5, r6, r7, r8, r9⟩ := rightS_iff.1 hR
            clear st hsV hse hsb hsl hc hg hr ih hok hks hall
            (simp_all; done))
       ·intro hg50
        try simp only [dn] at hg50
        refine yfz 4 underlying187 sizeOf4 ?_
        refine yl st 0 isAgg4 ?_
        refine vy (y_not rfl) ?_
        refine vmb ?_ ?_
        ·intro hg54
         try simp only [dn] at hg54
         refine yfz 5 underlying67 sizeOf65 ?_
         refine yl st 1 isAgg65 ?_
         refine vy (y_lensl rfl underlying65) ?_
         refine vy (y_gtr rfl rfl) ?_
         refine ypt ?_
         refine ypf ?_
         refine vc_end (vq_then (vk7 1 6 7 9 10 11 60 ?_))
         refine vc_ifs rfl ?_ ?_
         ·intro hc60
          try simp only [dn] at hc60
          refine vc_seq (vc_region ?_)
          refine ya ?_
          refine vc_end (vq_then (vk1 4 (vc_ret (vq_then_ret (vq_block_ret (vq_then_ret (vq_then_ret (vq_block_ret (vq_then_ret ?_)))))))))
          refine vq_ret1 st (.inl rfl) results93 (.tmp rfl) ?_
          refine ⟨_, rfl, ?_⟩
          refine ⟨?_, st.chg⟩
          first
           | (refine rightS_no hsj fun hR => ?_
              obtain ⟨r1, r2, r3, r4, r5, r6, r7, r8, r9⟩ := rightS_iff.1 hR
              clear st hsV hse hsb hsl hc hg hr ih hok hks hall
              omega)
         ·intro hc60
          try simp only [dn] at hc60
          refine vc_code_skip ?_
          refine vq_meet () ⟨rfl, rfl, rfl, rfl, rfl, rfl, trivial⟩ st ?_
          ·refine ⟨by assumption, by assumption, by assumption, ?_, ?_⟩ <;> (right; omega)
        ·intro hg54
         try simp only [dn] at hg54
         iterate 4 refine vsk ?_
         iterate 2 refine ypf ?_
         refine vc_end (vq_then (vk7 1 6 7 9 10 11 60 ?_))
         refine vc_iff rfl ?_
         refine vc_code_skip ?_
         refine vq_meet () ⟨rfl, rfl, rfl, rfl, rfl, rfl, trivial⟩ st ?_
         ·refine ⟨by assumption, by assumption, by assumption, ?_, ?_⟩ <;> first | (left; assumption) | (right; omega)
      ·intro hg43
       try simp only [dn] at hg43
       iterate 4 refine vsk ?_
       iterate 2 refine ypf ?_
       refine ym ?_
       refine yfz 4 underlying187 sizeOf4 ?_
       refine yl st 0 isAgg4 ?_
       refine vy (y_not rfl) ?_
       refine vmb ?_ ?_
       ·intro hg54
        try simp only [dn] at hg54
        refine yfz 5 underlying67 sizeOf65 ?_
        refine yl st 1 isAgg65 ?_
        refine vy (y_lensl rfl underlying65) ?_
        refine vy (y_gtr rfl rfl) ?_
        refine ypt ?_
        refine ypf ?_
        refine vc_end (vq_then (vk7 1 6 7 9 10 11 60 ?_))
        refine vc_ifs rfl ?_ ?_
        ·intro hc60
         try simp only [dn] at hc60
         refine vc_seq (vc_region ?_)
         refine ya ?_
         refine vc_end (vq_then (vk1 4 (vc_ret (vq_then_ret (vq_block_ret (vq_then_ret (vq_then_ret (vq_block_ret (vq_then_ret ?_)))))))))
         refine vq_ret1 st (.inl rfl) results93 (.tmp rfl) ?_
         refine ⟨_, rfl, ?_⟩
         refine ⟨?_, st.chg⟩
         first
          | (refine rightS_no hsj fun hR => ?_
             obtain ⟨r1, r2, r3, r4, r5, r6, r7, r8, r9⟩ := rightS_iff.1 hR
             clear st hsV hse hsb hsl hc hg hr ih hok hks hall
             omega)
        ·intro hc60
         try simp only [dn] at hc60
         refine vc_code_skip ?_
         refine vq_meet () ⟨rfl, rfl, rfl, rfl, rfl, rfl, trivial⟩ st ?_
         ·refine ⟨by assumption, by assumption, by assumption, ?_, ?_⟩ <;> first | (left; assumption) | (right; omega)
       ·intro hg54
        try simp only [dn] at hg54
        iterate 4 refine vsk ?_
        iterate 2 refine ypf ?_
        refine vc_end (vq_then (vk7 1 6 7 9 10 11 60 ?_))
        refine vc_iff rfl ?_
        refine vc_code_skip ?_
        refine vq_meet () ⟨rfl, rfl, rfl, rfl, rfl, rfl, trivial⟩ st ?_
        ·refine ⟨by assumption, by assumption, by assumption, ?_, ?_⟩ <;> (left; assumption)
  ·clear st
   rintro ⟨⟩ w ⟨hA1, hA2, hA3, hA4, hA5⟩ st
   refine vc_cut (w0 := w0) (M := []) (fun (_ : Unit) => [(1, .int .i64 (d : Int)), (6, .pointer (some ⟨b6, 0, none⟩)), (7, .pointer (some ⟨b7, 0, none⟩)), (9, .slice (some ⟨gb, go, none⟩) ss.length cap), (10, .int .i64 (ss.length : Int)), (11, .int .i64 (j : Int))]) (fun _ => [.blk b7 (.cells (shpL s.k).toArray 187 (0, 0)), .blk b6 (.cells (smL s oe ob ol ce cb cl).toArray 67 (0, 0))]) (fun _ _ => rightX (hasE s.k) s.e = true) ?_ ?_
   ·refine vc_seq (vc_region ?_)
    refine yfz 2 underlying187 sizeOf4 ?_
    refine yl st 0 isAgg4 ?_
    refine vmb ?_ ?_
    ·intro hg63
     try simp only [dn] at hg63
     refine yfz 3 underlying67 sizeOf40 ?_
     refine yl st 1 isAgg40 ?_
     refine vy (y_lensl rfl underlying40) ?_
     refine vy (y_nei rfl rfl) ?_
     refine vmb ?_ ?_
     ·intro hg68
      try simp only [dn] at hg68
      iterate 6 refine vsk ?_
      iterate 2 refine ypt ?_
      refine ym ?_
      iterate 9 refine vsk ?_
      refine ypt ?_
      refine vc_end (vq_then (vk7 1 6 7 9 10 11 87 ?_))
      refine vc_ift rfl ?_
      refine vc_seq (vc_region ?_)
      refine ya ?_
      refine vc_end (vq_then (vk1 4 (vc_ret (vq_then_ret (vq_block_ret (vq_then_ret (vq_then_ret (vq_block_ret (vq_then_ret ?_)))))))))
      refine vq_ret1 st (.inl rfl) results93 (.tmp rfl) ?_
      refine ⟨_, rfl, ?_⟩
      refine ⟨?_, st.chg⟩
      first
       | (refine rightS_no hsj fun hR => ?_
          obtain ⟨r1, r2, r3, r4, r5, r6, r7, r8, r9⟩ := rightS_iff.1 hR
          clear st hsV hse hsb hsl hc hg hr ih hok hks hall
          first
            | (have hE : hasE s.k = true := by assumption
               rw [hE] at r4
               (rw [rightX_n (by omega)] at r4; cases r4)))
     ·intro hg68
      try simp only [dn] at hg68
      obtain ⟨x, hx⟩ := get0 (l := s.e) (n := s.e.length) rfl (by omega)
      obtain ⟨eb, eo, rfl, heS, hel, heg⟩ := ExRow.at hse (by omega)
      obtain ⟨o0, c0, hV0, hr0, hc0⟩ := heg 0 x hx
      refine yfz 3 underlying67 sizeOf40 ?_
      refine yl st 1 isAgg40 ?_
      refine vy (y_ia (k := 0) rfl rfl underlying40 sizeOf42 rfl (by omega)) ?_
      refine vy (y_ldca (exL x o0 c0) rfl isAgg42 sizeOf42 rfl (fun i v hi => st.chg.cell (hc0 i v hi) (by simp))) ?_
      refine vc_e (e_call [_, _] rfl rfl call46 rfl (expr_any _ x rfl 0 (by omega) _ _ (hV0.kept (Same.of_nil st.chg)) (hsg.kept st.chg)) ?_)
      rintro _ w ⟨rfl, cw⟩
      replace st := st.call0 cw
      refine vy (y_not rfl) ?_
      refine ypf ?_
      refine ypt ?_
      refine vmb ?_ ?_
      ·intro hg77
       try simp only [dn] at hg77
       iterate 9 refine vsk ?_
       refine ypt ?_
       refine vc_end (vq_then (vk7 1 6 7 9 10 11 87 ?_))
       refine vc_ift rfl ?_
       refine vc_seq (vc_region ?_)
       refine ya ?_
       refine vc_end (vq_then (vk1 4 (vc_ret (vq_then_ret (vq_block_ret (vq_then_ret (vq_then_ret (vq_block_ret (vq_then_ret ?_)))))))))
       refine vq_ret1 st (.inl rfl) results93 (.tmp rfl) ?_
       refine ⟨_, rfl, ?_⟩
       refine ⟨?_, st.chg⟩
       first
        | (refine rightS_no hsj fun hR => ?_
           obtain ⟨r1, r2, r3, r4, r5, r6, r7, r8, r9⟩ := rightS_iff.1 hR
           clear st hsV hse hsb hsl hc hg hr ih hok hks hall
           first
             | (have hE : hasE s.k = true := by assumption
                rw [hE] at r4
                (rw [rightX_t (by omega) hx] at r4; simp_all; done)))
      ·intro hg77
       try simp only [dn] at hg77
       refine yfz 2 underlying187 sizeOf4 ?_
       refine yl st 0 isAgg4 ?_
       refine vy (y_not rfl) ?_
       refine vmb ?_ ?_
       ·intro hg81
        try simp only [dn] at hg81
        refine yfz 3 underlying67 sizeOf40 ?_
        refine yl st 1 isAgg40 ?_
        refine vy (y_lensl rfl underlying40) ?_
        refine vy (y_gtr rfl rfl) ?_
        refine ypt ?_
        refine ypf ?_
        refine vc_end (vq_then (vk7 1 6 7 9 10 11 87 ?_))
        refine vc_ifs rfl ?_ ?_
        ·intro hc87
         try simp only [dn] at hc87
         refine vc_seq (vc_region ?_)
         refine ya ?_
         refine vc_end (vq_then (vk1 4 (vc_ret (vq_then_ret (vq_block_ret (vq_then_ret (vq_then_ret (vq_block_ret (vq_then_ret ?_)))))))))
         refine vq_ret1 st (.inl rfl) results93 (.tmp rfl) ?_
         refine ⟨_, rfl, ?_⟩
         refine ⟨?_, st.chg⟩
         first
          | (refine rightS_no hsj fun hR => ?_
             obtain ⟨r1, r2, r3, r4, r5, r6, r7, r8, r9⟩ := rightS_iff.1 hR
             clear st hsV hse hsb hsl hc hg hr ih hok hks hall
             (simp_all; done))
        ·intro hc87
         try simp only [dn] at hc87
         refine vc_code_skip ?_
         refine vq_meet () ⟨rfl, rfl, rfl, rfl, rfl, rfl, trivial⟩ st ?_
         ·first
           | (exfalso; have h1 : hasE s.k = true := by assumption
              have h2 : hasE s.k = false := by assumption
              rw [h1] at h2; cases h2)
       ·intro hg81
        try simp only [dn] at hg81
        iterate 4 refine vsk ?_
        iterate 2 refine ypf ?_
        refine vc_end (vq_then (vk7 1 6 7 9 10 11 87 ?_))
        refine vc_iff rfl ?_
        refine vc_code_skip ?_
        refine vq_meet () ⟨rfl, rfl, rfl, rfl, rfl, rfl, trivial⟩ st ?_
        ·first
          | (have hE : hasE s.k = true := by assumption
             rw [hE, rightX_t (by omega) hx]; assumption)
    ·intro hg63
     try simp only [dn] at hg63
     iterate 12 refine vsk ?_
     refine ypf ?_
     refine ym ?_
     refine yfz 2 underlying187 sizeOf4 ?_
     refine yl st 0 isAgg4 ?_
     refine vy (y_not rfl) ?_
     refine vmb ?_ ?_
     ·intro hg81
      try simp only [dn] at hg81
      refine yfz 3 underlying67 sizeOf40 ?_
      refine yl st 1 isAgg40 ?_
      refine vy (y_lensl rfl underlying40) ?_
      refine vy (y_gtr rfl rfl) ?_
      refine ypt ?_
      refine ypf ?_
      refine vc_end (vq_then (vk7 1 6 7 9 10 11 87 ?_))
      refine vc_ifs rfl ?_ ?_
      ·intro hc87
       try simp only [dn] at hc87
       refine vc_seq (vc_region ?_)
       refine ya ?_
       refine vc_end (vq_then (vk1 4 (vc_ret (vq_then_ret (vq_block_ret (vq_then_ret (vq_then_ret (vq_block_ret (vq_then_ret ?_)))))))))
       refine vq_ret1 st (.inl rfl) results93 (.tmp rfl) ?_
       refine ⟨_, rfl, ?_⟩
       refine ⟨?_, st.chg⟩
       first
        | (refine rightS_no hsj fun hR => ?_
           obtain ⟨r1, r2, r3, r4, r5, r6, r7, r8, r9⟩ := rightS_iff.1 hR
           clear st hsV hse hsb hsl hc hg hr ih hok hks hall
           first
             | (have hE : hasE s.k = false := by assumption
                rw [hE, rightX_f, decide_eq_true_eq] at r4; omega))
      ·intro hc87
       try simp only [dn] at hc87
       refine vc_code_skip ?_
       refine vq_meet () ⟨rfl, rfl, rfl, rfl, rfl, rfl, trivial⟩ st ?_
       ·first
         | (have hE : hasE s.k = false := by assumption
            rw [hE, rightX_f, decide_eq_true_eq]; omega)
     ·intro hg81
      try simp only [dn] at hg81
      iterate 4 refine vsk ?_
      iterate 2 refine ypf ?_
      refine vc_end (vq_then (vk7 1 6 7 9 10 11 87 ?_))
      refine vc_iff rfl ?_
      refine vc_code_skip ?_
      refine vq_meet () ⟨rfl, rfl, rfl, rfl, rfl, rfl, trivial⟩ st ?_
      ·first
        | (exfalso; have h1 : hasE s.k = true := by assumption
           have h2 : hasE s.k = false := by assumption
           rw [h1] at h2; cases h2)
   ·clear st
    rintro ⟨⟩ w hA6 st
    refine vc_seq (vc_region ?_)
    refine yfz 3 underlying187 sizeOf4 ?_
    refine yl st 0 isAgg4 ?_
    refine vmb ?_ ?_
    ·intro hg90
     try simp only [dn] at hg90
     iterate 4 refine vsk ?_
     refine ypt ?_
     iterate 2 refine ym ?_
     refine vy (y_geq rfl rfl) ?_
     refine ypt ?_
     refine vmb ?_ ?_
     ·intro hg100
      try simp only [dn] at hg100
      iterate 6 refine vsk ?_
      refine ypt ?_
      refine ym ?_
      iterate 6 refine vsk ?_
      refine ypt ?_
      refine vc_end (vq_then (vk5 1 9 10 11 115 ?_))
      refine vc_ift rfl ?_
      refine vc_seq (vc_region ?_)
      refine ya ?_
      refine vc_end (vq_then (vk1 4 (vc_ret (vq_block_ret (vq_then_ret (vq_then_ret (vq_block_ret (vq_then_ret ?_))))))))
      refine vq_ret1 st (.inl rfl) results93 (.tmp rfl) ?_
      refine ⟨_, rfl, ?_⟩
      refine ⟨?_, st.chg⟩
      first
       | (refine rightS_no hsj fun hR => ?_
          obtain ⟨r1, r2, r3, r4, r5, r6, r7, r8, r9⟩ := rightS_iff.1 hR
          clear st hsV hse hsb hsl hc hg hr ih hok hks hall
          (simp_all; omega))
     ·intro hg100
      try simp only [dn] at hg100
      refine yfz 4 underlying67 sizeOf65 ?_
      refine yl st 1 isAgg65 ?_
      refine ym ?_
      refine vy (y_add rfl rfl (by omega : _ = ((d + 1 : Nat) : Int)) (by omega) (by omega)) ?_
      refine vc_e (e_call [_, _] rfl rfl call93 rfl (ih (szo s.body) hB s.body rfl (d + 1) (by omega) (by (right; omega)) _ _ _ (hsb.kept (Same.of_nil st.chg)) hks.body (hsg.kept st.chg)) ?_)
      rintro _ w ⟨rfl, cw⟩
      replace st := st.call0 cw
      refine vy (y_not rfl) ?_
      refine ypf ?_
      refine vmb ?_ ?_
      ·intro hg108
       try simp only [dn] at hg108
       iterate 6 refine vsk ?_
       refine ypt ?_
       refine vc_end (vq_then (vk5 1 9 10 11 115 ?_))
       refine vc_ift rfl ?_
       refine vc_seq (vc_region ?_)
       refine ya ?_
       refine vc_end (vq_then (vk1 4 (vc_ret (vq_block_ret (vq_then_ret (vq_then_ret (vq_block_ret (vq_then_ret ?_))))))))
       refine vq_ret1 st (.inl rfl) results93 (.tmp rfl) ?_
       refine ⟨_, rfl, ?_⟩
       refine ⟨?_, st.chg⟩
       first
        | (refine rightS_no hsj fun hR => ?_
           obtain ⟨r1, r2, r3, r4, r5, r6, r7, r8, r9⟩ := rightS_iff.1 hR
           clear st hsV hse hsb hsl hc hg hr ih hok hks hall
           (simp_all; done))
      ·intro hg108
       try simp only [dn] at hg108
       skip
       refine yfz 5 underlying67 sizeOf65 ?_
       refine yl st 1 isAgg65 ?_
       refine ym ?_
       refine vy (y_add rfl rfl (by omega : _ = ((d + 1 : Nat) : Int)) (by omega) (by omega)) ?_
       refine vc_e (e_call [_, _] rfl rfl call93 rfl (ih (szo s.els) hL s.els rfl (d + 1) (by omega) (by (right; omega)) _ _ _ (hsl.kept (Same.of_nil st.chg)) hks.els (hsg.kept st.chg)) ?_)
       rintro _ w ⟨rfl, cw⟩
       replace st := st.call0 cw
       refine vy (y_not rfl) ?_
       refine ypf ?_
       refine vc_end (vq_then (vk5 1 9 10 11 115 ?_))
       refine vc_ifs rfl ?_ ?_
       ·intro hc115
        try simp only [dn] at hc115
        refine vc_seq (vc_region ?_)
        refine ya ?_
        refine vc_end (vq_then (vk1 4 (vc_ret (vq_block_ret (vq_then_ret (vq_then_ret (vq_block_ret (vq_then_ret ?_))))))))
        refine vq_ret1 st (.inl rfl) results93 (.tmp rfl) ?_
        refine ⟨_, rfl, ?_⟩
        refine ⟨?_, st.chg⟩
        first
         | (refine rightS_no hsj fun hR => ?_
            obtain ⟨r1, r2, r3, r4, r5, r6, r7, r8, r9⟩ := rightS_iff.1 hR
            clear st hsV hse hsb hsl hc hg hr ih hok hks hall
            (simp_all; done))
       ·intro hc115
        try simp only [dn] at hc115
        refine vc_code_skip (vq_block (vq_then (vk4 1 9 10 11 (vc_region ?_))))
        refine vy (y_add rfl rfl (by omega : _ = ((j + 1 : Nat) : Int)) (by omega) (by omega)) ?_
        refine ym ?_
        refine vc_end ?_
        refine vq_again (j + 1)  ⟨rfl, rfl, rfl, rfl, trivial⟩ (st.dr) ?_ ?_
        ·exact ⟨by omega, all_take' hall hsj (rightS_iff.2 ⟨hA1, hA2, hA3, hA6, hA4, hA5, by (right; omega), by assumption, by assumption⟩)⟩
        ·omega
    ·intro hg90
     try simp only [dn] at hg90
     refine yfz 5 underlying67 sizeOf65 ?_
     refine yl st 1 isAgg65 ?_
     refine vy (y_lensl rfl underlying65) ?_
     refine vy (y_gtr rfl rfl) ?_
     refine ypf ?_
     refine vmb ?_ ?_
     ·intro hg96
      try simp only [dn] at hg96
      refine ym ?_
      refine vy (y_geq rfl rfl) ?_
      refine ypt ?_
      refine vmb ?_ ?_
      ·intro hg100
       try simp only [dn] at hg100
       iterate 6 refine vsk ?_
       refine ypt ?_
       refine ym ?_
       iterate 6 refine vsk ?_
       refine ypt ?_
       refine vc_end (vq_then (vk5 1 9 10 11 115 ?_))
       refine vc_ift rfl ?_
       refine vc_seq (vc_region ?_)
       refine ya ?_
       refine vc_end (vq_then (vk1 4 (vc_ret (vq_block_ret (vq_then_ret (vq_then_ret (vq_block_ret (vq_then_ret ?_))))))))
       refine vq_ret1 st (.inl rfl) results93 (.tmp rfl) ?_
       refine ⟨_, rfl, ?_⟩
       refine ⟨?_, st.chg⟩
       first
        | (refine rightS_no hsj fun hR => ?_
           obtain ⟨r1, r2, r3, r4, r5, r6, r7, r8, r9⟩ := rightS_iff.1 hR
           clear st hsV hse hsb hsl hc hg hr ih hok hks hall
           omega)
      ·intro hg100
       try simp only [dn] at hg100
       refine yfz 4 underlying67 sizeOf65 ?_
       refine yl st 1 isAgg65 ?_
       refine ym ?_
       refine vy (y_add rfl rfl (by omega : _ = ((d + 1 : Nat) : Int)) (by omega) (by omega)) ?_
       refine vc_e (e_call [_, _] rfl rfl call93 rfl (ih (szo s.body) hB s.body rfl (d + 1) (by omega) (by (right; omega)) _ _ _ (hsb.kept (Same.of_nil st.chg)) hks.body (hsg.kept st.chg)) ?_)
       rintro _ w ⟨rfl, cw⟩
       replace st := st.call0 cw
       refine vy (y_not rfl) ?_
       refine ypf ?_
       refine vmb ?_ ?_
       ·intro hg108
        try simp only [dn] at hg108
        iterate 6 refine vsk ?_
        refine ypt ?_
        refine vc_end (vq_then (vk5 1 9 10 11 115 ?_))
        refine vc_ift rfl ?_
        refine vc_seq (vc_region ?_)
        refine ya ?_
        refine vc_end (vq_then (vk1 4 (vc_ret (vq_block_ret (vq_then_ret (vq_then_ret (vq_block_ret (vq_then_ret ?_))))))))
        refine vq_ret1 st (.inl rfl) results93 (.tmp rfl) ?_
        refine ⟨_, rfl, ?_⟩
        refine ⟨?_, st.chg⟩
        first
         | (refine rightS_no hsj fun hR => ?_
            obtain ⟨r1, r2, r3, r4, r5, r6, r7, r8, r9⟩ := rightS_iff.1 hR
            clear st hsV hse hsb hsl hc hg hr ih hok hks hall
            (simp_all; done))
       ·intro hg108
        try simp only [dn] at hg108
        skip
        refine yfz 5 underlying67 sizeOf65 ?_
        refine yl st 1 isAgg65 ?_
        refine ym ?_
        refine vy (y_add rfl rfl (by omega : _ = ((d + 1 : Nat) : Int)) (by omega) (by omega)) ?_
        refine vc_e (e_call [_, _] rfl rfl call93 rfl (ih (szo s.els) hL s.els rfl (d + 1) (by omega) (by (right; omega)) _ _ _ (hsl.kept (Same.of_nil st.chg)) hks.els (hsg.kept st.chg)) ?_)
        rintro _ w ⟨rfl, cw⟩
        replace st := st.call0 cw
        refine vy (y_not rfl) ?_
        refine ypf ?_
        refine vc_end (vq_then (vk5 1 9 10 11 115 ?_))
        refine vc_ifs rfl ?_ ?_
        ·intro hc115
         try simp only [dn] at hc115
         refine vc_seq (vc_region ?_)
         refine ya ?_
         refine vc_end (vq_then (vk1 4 (vc_ret (vq_block_ret (vq_then_ret (vq_then_ret (vq_block_ret (vq_then_ret ?_))))))))
         refine vq_ret1 st (.inl rfl) results93 (.tmp rfl) ?_
         refine ⟨_, rfl, ?_⟩
         refine ⟨?_, st.chg⟩
         first
          | (refine rightS_no hsj fun hR => ?_
             obtain ⟨r1, r2, r3, r4, r5, r6, r7, r8, r9⟩ := rightS_iff.1 hR
             clear st hsV hse hsb hsl hc hg hr ih hok hks hall
             (simp_all; done))
        ·intro hc115
         try simp only [dn] at hc115
         refine vc_code_skip (vq_block (vq_then (vk4 1 9 10 11 (vc_region ?_))))
         refine vy (y_add rfl rfl (by omega : _ = ((j + 1 : Nat) : Int)) (by omega) (by omega)) ?_
         refine ym ?_
         refine vc_end ?_
         refine vq_again (j + 1)  ⟨rfl, rfl, rfl, rfl, trivial⟩ (st.dr) ?_ ?_
         ·exact ⟨by omega, all_take' hall hsj (rightS_iff.2 ⟨hA1, hA2, hA3, hA6, hA4, hA5, by (right; omega), by assumption, by assumption⟩)⟩
         ·omega
     ·intro hg96
      try simp only [dn] at hg96
      iterate 2 refine vsk ?_
      refine ypf ?_
      refine ym ?_
      refine yfz 4 underlying67 sizeOf65 ?_
      refine yl st 1 isAgg65 ?_
      refine ym ?_
      refine vy (y_add rfl rfl (by omega : _ = ((d + 1 : Nat) : Int)) (by omega) (by omega)) ?_
      refine vc_e (e_call [_, _] rfl rfl call93 rfl (ih (szo s.body) hB s.body rfl (d + 1) (by omega) (by (left; exact hA4.resolve_left (by rw [‹hasB s.k = false›]; simp))) _ _ _ (hsb.kept (Same.of_nil st.chg)) hks.body (hsg.kept st.chg)) ?_)
      rintro _ w ⟨rfl, cw⟩
      replace st := st.call0 cw
      refine vy (y_not rfl) ?_
      refine ypf ?_
      refine vmb ?_ ?_
      ·intro hg108
       try simp only [dn] at hg108
       iterate 6 refine vsk ?_
       refine ypt ?_
       refine vc_end (vq_then (vk5 1 9 10 11 115 ?_))
       refine vc_ift rfl ?_
       refine vc_seq (vc_region ?_)
       refine ya ?_
       refine vc_end (vq_then (vk1 4 (vc_ret (vq_block_ret (vq_then_ret (vq_then_ret (vq_block_ret (vq_then_ret ?_))))))))
       refine vq_ret1 st (.inl rfl) results93 (.tmp rfl) ?_
       refine ⟨_, rfl, ?_⟩
       refine ⟨?_, st.chg⟩
       first
        | (refine rightS_no hsj fun hR => ?_
           obtain ⟨r1, r2, r3, r4, r5, r6, r7, r8, r9⟩ := rightS_iff.1 hR
           clear st hsV hse hsb hsl hc hg hr ih hok hks hall
           (simp_all; done))
      ·intro hg108
       try simp only [dn] at hg108
       skip
       refine yfz 5 underlying67 sizeOf65 ?_
       refine yl st 1 isAgg65 ?_
       refine ym ?_
       refine vy (y_add rfl rfl (by omega : _ = ((d + 1 : Nat) : Int)) (by omega) (by omega)) ?_
       refine vc_e (e_call [_, _] rfl rfl call93 rfl (ih (szo s.els) hL s.els rfl (d + 1) (by omega) (by (left; omega)) _ _ _ (hsl.kept (Same.of_nil st.chg)) hks.els (hsg.kept st.chg)) ?_)
       rintro _ w ⟨rfl, cw⟩
       replace st := st.call0 cw
       refine vy (y_not rfl) ?_
       refine ypf ?_
       refine vc_end (vq_then (vk5 1 9 10 11 115 ?_))
       refine vc_ifs rfl ?_ ?_
       ·intro hc115
        try simp only [dn] at hc115
        refine vc_seq (vc_region ?_)
        refine ya ?_
        refine vc_end (vq_then (vk1 4 (vc_ret (vq_block_ret (vq_then_ret (vq_then_ret (vq_block_ret (vq_then_ret ?_))))))))
        refine vq_ret1 st (.inl rfl) results93 (.tmp rfl) ?_
        refine ⟨_, rfl, ?_⟩
        refine ⟨?_, st.chg⟩
        first
         | (refine rightS_no hsj fun hR => ?_
            obtain ⟨r1, r2, r3, r4, r5, r6, r7, r8, r9⟩ := rightS_iff.1 hR
            clear st hsV hse hsb hsl hc hg hr ih hok hks hall
            (simp_all; done))
       ·intro hc115
        try simp only [dn] at hc115
        refine vc_code_skip (vq_block (vq_then (vk4 1 9 10 11 (vc_region ?_))))
        refine vy (y_add rfl rfl (by omega : _ = ((j + 1 : Nat) : Int)) (by omega) (by omega)) ?_
        refine ym ?_
        refine vc_end ?_
        refine vq_again (j + 1)  ⟨rfl, rfl, rfl, rfl, trivial⟩ (st.dr) ?_ ?_
        ·exact ⟨by omega, all_take' hall hsj (rightS_iff.2 ⟨hA1, hA2, hA3, hA6, hA4, hA5, by (left; exact ⟨by assumption, by omega⟩), by assumption, by assumption⟩)⟩
        ·omega
 ·intro hc12
  try simp only [dn] at hc12
  refine vc_exit (vq_then_exit (vq_then_exit (vq_block_exit (vq_then (vc_keep [] trivial (vc_seq (vc_region ?_)))))))
  refine ya ?_
  refine vc_end (vq_then (vk1 4 (vc_ret ?_)))
  refine vq_ret1 st (.inl rfl) results93 (.tmp rfl) ?_
  refine ⟨_, rfl, ?_⟩
  refine ⟨?_, st.chg⟩
  rw [rightSs_eq, all_end hall (by omega)]

end
end Go.Proofs.YtnmhlpnapgojjaaGreatDoor


namespace Go.Proofs.YtnmhlpnapgojjaaGreatDoor
open Go.RowKit Sx LexS _root_.Go.Proofs.Tryz
section
variable {S : Nat → Prop}

end
end Go.Proofs.YtnmhlpnapgojjaaGreatDoor


namespace Go.Proofs.YtnmhlpnapgojjaaGreatDoor
open Go.RowKit Sx LexS _root_.Go.Proofs.Tryz
section
variable {S : Nat → Prop}
abbrev pgL (p : Pg) (os ol ot : Option Addr) (cs cl ct : Nat) : List Value := [.slice os p.shared.length cs, .slice ol p.locks.length cl, .slice ot p.threads.length ct]

set_option maxHeartbeats 1000000 in
theorem right_any (p : Pg) (os ol ot : Option Addr) (cs cl ct : Nat) (w : World) (hS : DcRow w S os p.shared) (hL : DcRow w S ol p.locks) (hT : ThRow w S ot p.threads) (hok : OkP p) (hsg : Sig w) : Ret Tryz.prog 38 [.agg (pgL p os ol ot cs cl ct).toArray] w fun v w' => v = .bool (pgOk p) ∧ Chg [] w w' := by
 refine ret_of [_] func38 rfl ntmps38 rfl ?_
 have st := St.init w []
 obtain ⟨w0, rfl⟩ : ∃ w0, w0 = w := ⟨_, rfl⟩
 have hn1 := hok.1.1
 have hn2 := hok.2.1.1
 have hn3 := hok.2.2.1
 refine vc_seq (vc_region ?_)
 refine vc_e (e_bx (l := [_, _, _]) st rfl rfl rfl rfl ?_)
 intro b1 w hb1 st
 refine ya ?_
 refine vc_end (vq_then (vk1 1 (vc_seq (vc_seq (vc_region ?_)))))
 refine vy (y_fa0 rfl underlying26 rfl rfl sizeOf23 rfl) ?_
 refine yl st 0 isAgg23 ?_
 refine vc_e (e_call [_, _] rfl rfl call92 rfl (decls_any p.shared _ _ true _ (RowC.kept hS (Same.of_nil st.chg)) (by unfold maxLen; omega)) ?_)
 rintro _ w ⟨rfl, cw⟩
 replace st := st.call0 cw
 refine vy (y_not rfl) ?_
 refine vmb ?_ ?_
 ·intro hg9
  try simp only [dn] at hg9
  iterate 4 refine vsk ?_
  refine ypt ?_
  refine vc_end (vq_then (vk2 1 14 ?_))
  refine vc_ift rfl ?_
  refine vc_seq (vc_region ?_)
  refine ya ?_
  refine vc_end (vq_then (vk1 2 (vc_ret (vq_then_ret ?_))))
  refine vq_ret1 st (.inl rfl) results38 (.tmp rfl) ?_
  refine ⟨_, rfl, ?_⟩
  refine ⟨?_, st.chg⟩
  show Value.bool _ = Value.bool _
  congr 1
  symm
  unfold pgOk
  clear st
  try simp only [show decide (1 ≤ 64) = true from rfl, Bool.true_and] at *
  (rw [‹p.shared.all (dcOk true) = false›]; simp; done)
 ·intro hg9
  try simp only [dn] at hg9
  refine yfz 1 underlying26 sizeOf23 ?_
  refine yl st 0 isAgg23 ?_
  refine vc_e (e_call [_, _] rfl rfl call92 rfl (decls_any p.locks _ _ false _ (RowC.kept hL (Same.of_nil st.chg)) (by unfold maxLen; omega)) ?_)
  rintro _ w ⟨rfl, cw⟩
  replace st := st.call0 cw
  refine vy (y_not rfl) ?_
  refine ypf ?_
  refine vc_end (vq_then (vk2 1 14 ?_))
  refine vc_ifs rfl ?_ ?_
  ·intro hc14
   try simp only [dn] at hc14
   refine vc_seq (vc_region ?_)
   refine ya ?_
   refine vc_end (vq_then (vk1 2 (vc_ret (vq_then_ret ?_))))
   refine vq_ret1 st (.inl rfl) results38 (.tmp rfl) ?_
   refine ⟨_, rfl, ?_⟩
   refine ⟨?_, st.chg⟩
   show Value.bool _ = Value.bool _
   congr 1
   symm
   unfold pgOk
   clear st
   try simp only [show decide (1 ≤ 64) = true from rfl, Bool.true_and] at *
   (rw [‹p.locks.all (dcOk false) = false›]; simp; done)
  ·intro hc14
   try simp only [dn] at hc14
   refine vc_code_skip (vq_then (vk1 1 (vc_seq (vc_seq (vc_region ?_)))))
   refine yfz 2 underlying26 sizeOf24 ?_
   refine yl st 0 isAgg24 ?_
   refine vy (y_lensl rfl underlying24) ?_
   refine ym ?_
   refine vc_end (vq_then (vk3 16 17 18 (vc_block ?_)))
   refine vc_loop (w0 := w0) (M := []) (fun (j : Nat) => [(16, .slice ot p.threads.length ct), (17, .int .i64 (p.threads.length : Int)), (18, .int .i64 (j : Int))]) (fun _ => []) (fun j _ => j ≤ p.threads.length ∧ (p.threads.take j).all thOk = true) (fun j => p.threads.length - j) 0 ⟨rfl, rfl, rfl, trivial⟩ (st.dr) ⟨by omega, by simp⟩ ?_
   clear st
   rintro j w ⟨hj, hall⟩ st
   refine vc_seq (vc_region ?_)
   refine vy (y_lss rfl rfl) ?_
   refine vc_end (vq_then (vk4 16 17 18 19 (vc_seq ?_)))
   refine vc_ifs rfl ?_ ?_
   ·intro hc19
    try simp only [dn] at hc19
    obtain ⟨t, htj⟩ : ∃ t, p.threads[j]? = some t := ⟨_, List.getElem?_eq_getElem (by omega)⟩
    obtain ⟨gb, go, rfl, hgS, hgl, hg⟩ := ThRow.at hT (by omega)
    obtain ⟨tl, tb, cll, cbb, htl, htb, hc⟩ := hg j t htj
    have hkt := hok.2.2.2 j t htj
    refine vc_code_skip (vq_then (vk3 16 17 18 (vc_seq (vc_block (vc_seq (vc_region ?_))))))
    refine vy (y_ia (k := j) rfl rfl underlying24 sizeOf69 rfl (by omega)) ?_
    refine vy (y_ldca (thL t tl tb cll cbb) rfl isAgg69 sizeOf69 rfl (fun i v hi => st.chg.cell (hc i v hi) (by simp))) ?_
    refine vc_e (e_al (l := [_, _, _, _]) st rfl rfl zeroValue69 rfl ?_)
    intro b4 w hb4 st
    refine vc_e (e_sts (vs := [_, _, _, _]) st 0 rfl rfl rfl rfl rfl sizeOf69 rfl rfl (by (right; assumption)) ?_)
    intro w st; dsimp only [setNth, wr] at st
    refine vc_end (vq_then (vk4 4 16 17 18 (vc_seq (vc_region ?_))))
    refine vy (y_fa0 rfl underlying69 rfl rfl sizeOf9 rfl) ?_
    refine yl st 0 isAgg9 ?_
    refine vc_e (e_call [_] rfl rfl call52 rfl (name_any _ _) ?_)
    rintro _ _ ⟨rfl, rfl⟩
    refine vy (y_not rfl) ?_
    refine vmb ?_ ?_
    ·intro hg26
     try simp only [dn] at hg26
     iterate 4 refine vsk ?_
     refine ypt ?_
     refine ym ?_
     iterate 4 refine vsk ?_
     refine ypt ?_
     refine vc_end (vq_then (vk4 16 17 18 37 ?_))
     refine vc_ift rfl ?_
     refine vc_seq (vc_region ?_)
     refine ya ?_
     refine vc_end (vq_then (vk1 2 (vc_ret (vq_block_ret (vq_then_ret (vq_then_ret (vq_block_ret (vq_then_ret ?_))))))))
     refine vq_ret1 st (.inl rfl) results38 (.tmp rfl) ?_
     refine ⟨_, rfl, ?_⟩
     refine ⟨?_, st.chg⟩
     show Value.bool _ = Value.bool _
     congr 1
     symm
     unfold pgOk
     clear st
     try simp only [show decide (1 ≤ 64) = true from rfl, Bool.true_and] at *
     (rw [all_no' (p := thOk) htj (by unfold thOk; simp only [*, Bool.and_false, Bool.false_and, Bool.and_true, Bool.true_and])]; simp)
    ·intro hg26
     try simp only [dn] at hg26
     refine yfz 1 underlying69 sizeOf23 ?_
     refine yl st 0 isAgg23 ?_
     refine vc_e (e_call [_, _] rfl rfl call92 rfl (decls_any t.locals _ _ false _ (RowC.kept htl (Same.of_nil st.chg)) (by have := hkt.1.1; unfold maxLen; omega)) ?_)
     rintro _ w ⟨rfl, cw⟩
     replace st := st.call0 cw
     refine vy (y_not rfl) ?_
     refine ypf ?_
     refine vmb ?_ ?_
     ·intro hg32
      try simp only [dn] at hg32
      iterate 4 refine vsk ?_
      refine ypt ?_
      refine vc_end (vq_then (vk4 16 17 18 37 ?_))
      refine vc_ift rfl ?_
      refine vc_seq (vc_region ?_)
      refine ya ?_
      refine vc_end (vq_then (vk1 2 (vc_ret (vq_block_ret (vq_then_ret (vq_then_ret (vq_block_ret (vq_then_ret ?_))))))))
      refine vq_ret1 st (.inl rfl) results38 (.tmp rfl) ?_
      refine ⟨_, rfl, ?_⟩
      refine ⟨?_, st.chg⟩
      show Value.bool _ = Value.bool _
      congr 1
      symm
      unfold pgOk
      clear st
      try simp only [show decide (1 ≤ 64) = true from rfl, Bool.true_and] at *
      (rw [all_no' (p := thOk) htj (by unfold thOk; simp only [*, Bool.and_false, Bool.false_and, Bool.and_true, Bool.true_and])]; simp)
     ·intro hg32
      try simp only [dn] at hg32
      refine yfz 2 underlying69 sizeOf65 ?_
      refine yl st 0 isAgg65 ?_
      refine vc_e (e_call [_, _] rfl rfl call93 rfl (stmts_any _ t.body rfl 1 (by omega) (.inr (by omega)) _ _ _ (htb.kept (Same.of_nil st.chg)) hkt.2.1 (hsg.kept st.chg)) ?_)
      rintro _ w ⟨rfl, cw⟩
      replace st := st.call0 cw
      refine vy (y_not rfl) ?_
      refine ypf ?_
      refine vc_end (vq_then (vk4 16 17 18 37 ?_))
      refine vc_ifs rfl ?_ ?_
      ·intro hc37
       try simp only [dn] at hc37
       refine vc_seq (vc_region ?_)
       refine ya ?_
       refine vc_end (vq_then (vk1 2 (vc_ret (vq_block_ret (vq_then_ret (vq_then_ret (vq_block_ret (vq_then_ret ?_))))))))
       refine vq_ret1 st (.inl rfl) results38 (.tmp rfl) ?_
       refine ⟨_, rfl, ?_⟩
       refine ⟨?_, st.chg⟩
       show Value.bool _ = Value.bool _
       congr 1
       symm
       unfold pgOk
       clear st
       try simp only [show decide (1 ≤ 64) = true from rfl, Bool.true_and] at *
       (rw [all_no' (p := thOk) htj (by unfold thOk; simp only [*, Bool.and_false, Bool.false_and, Bool.and_true, Bool.true_and])]; simp)
      ·intro hc37
       try simp only [dn] at hc37
       refine vc_code_skip (vq_block (vq_then (vk3 16 17 18 (vc_region ?_))))
       refine vy (y_add rfl rfl (by omega : _ = ((j + 1 : Nat) : Int)) (by omega) (by omega)) ?_
       refine ym ?_
       refine vc_end ?_
       refine vq_again (j + 1)  ⟨rfl, rfl, rfl, trivial⟩ (st.dr) ?_ ?_
       ·exact ⟨by omega, all_take' hall htj (by unfold thOk; clear st; (try simp only [show decide (1 ≤ 64) = true from rfl, Bool.true_and] at *); simp only [*, Bool.and_self])⟩
       ·omega
   ·intro hc19
    try simp only [dn] at hc19
    refine vc_exit (vq_then_exit (vq_then_exit (vq_block_exit (vq_then (vc_keep [] trivial (vc_seq (vc_region ?_)))))))
    refine ya ?_
    refine vc_end (vq_then (vk1 2 (vc_ret ?_)))
    refine vq_ret1 st (.inl rfl) results38 (.tmp rfl) ?_
    refine ⟨_, rfl, ?_⟩
    refine ⟨?_, st.chg⟩
    show Value.bool _ = Value.bool _
    congr 1
    symm
    unfold pgOk
    clear st
    try simp only [show decide (1 ≤ 64) = true from rfl, Bool.true_and] at *
    (rw [‹p.shared.all (dcOk true) = true›, ‹p.locks.all (dcOk false) = true›, all_end hall (by omega)]; rfl)

end
end Go.Proofs.YtnmhlpnapgojjaaGreatDoor


namespace Go.Proofs.YtnmhlpnapgojjaaGreatDoor
open Go.RowKit Sx LexS _root_.Go.Proofs.Tryz
def thsT (ts : List Th) : List UInt8 := (ts.map thT).flatten
theorem thsT_succ {ts : List Th} {j : Nat} {t : Th} (h : ts[j]? = some t) : thsT (ts.take (j + 1)) = thsT (ts.take j) ++ thT t := by
  obtain ⟨hj, e⟩ := List.getElem?_eq_some_iff.1 h
  unfold thsT
  rw [List.take_succ_eq_append_getElem hj, e]
  simp
theorem thsT_split (ts : List Th) (j : Nat) : thsT ts = thsT (ts.take j) ++ thsT (ts.drop j) := by
  unfold thsT
  rw [← List.flatten_append, ← List.map_append, List.take_append_drop]
def pgH (p : Pg) : List UInt8 := dcsT [115, 104, 97, 114, 101, 100] 0 p.shared ++ dcsT [108, 111, 99, 107] 0 p.locks
theorem pgT_eq (p : Pg) : pgT p = pgH p ++ thsT p.threads := rfl
theorem pgT_le (p : Pg) (j : Nat) : (pgH p ++ thsT (p.threads.take j)).length ≤ (pgT p).length := by
  rw [pgT_eq, thsT_split p.threads j]; simp
theorem pgRes_no {p : Pg} (h : pgOk p = false) : pgRes p = ([], 40) := by unfold pgRes; rw [h]; rfl
theorem pgRes_long {p : Pg} (h : pgOk p = true) (hl : 65536 < (pgT p).length) : pgRes p = ([], 4) := by unfold pgRes; rw [if_pos h, if_neg (by omega)]
theorem pgRes_ok {p : Pg} (h : pgOk p = true) (hl : (pgT p).length ≤ 65536) : pgRes p = (pgT p, 0) := by unfold pgRes; rw [if_pos h, if_pos hl]
theorem WS.yes {l F : List UInt8} (h : WS l false F) : l = F ∧ F.length ≤ 65536 := by
  rcases h with ⟨_, h1, h2⟩ | ⟨h, _⟩
  · exact ⟨h1, h2⟩
  · cases h
theorem WS.long {l F : List UInt8} (h : WS l true F) : 65536 < F.length := by
  rcases h with ⟨h, _⟩ | ⟨_, h, _⟩
  · cases h
  · exact h
theorem pgOk_inv {p : Pg} (h : pgOk p = true) : p.shared.all (dcOk true) = true ∧ p.locks.all (dcOk false) = true ∧ ∀ (j : Nat) t, p.threads[j]? = some t → isName t.nm = true ∧ t.locals.all (dcOk false) = true ∧ rightSs t.body 1 = true := by
  unfold pgOk at h
  simp only [Bool.and_eq_true] at h
  refine ⟨h.1.1, h.1.2, fun j t hj => ?_⟩
  have := List.all_eq_true.1 h.2 t (List.mem_of_getElem? hj)
  unfold thOk at this
  simp only [Bool.and_eq_true] at this
  exact ⟨this.1.1, this.1.2, this.2⟩

end Go.Proofs.YtnmhlpnapgojjaaGreatDoor


namespace Go.Proofs.YtnmhlpnapgojjaaGreatDoor
open Go.RowKit Sx LexS _root_.Go.Proofs.Tryz
section
variable {n0 : Nat}
theorem WrP.swap {E T bw : Nat} {v : Value} {F G G' : List UInt8} {w w' : World} (p : WrP E n0 T bw v (F ++ G') w w') (h : G' = G ∨ 65536 < G'.length ∧ 65536 < G.length) : WrP E n0 T bw v (F ++ G) w w' :=
 p.re fun l m v' hb hws => hws.swap h
theorem TxR.same {G r : List UInt8} (h : TxR [] G r) (A B : List UInt8) : A ++ r ++ B = A ++ G ++ B ∨ 65536 < (A ++ r ++ B).length ∧ 65536 < (A ++ G ++ B).length := by
 obtain ⟨h1, h2, -, -⟩ := h
 simp only [List.length_nil, Nat.zero_add, List.nil_append] at h1 h2
 rcases Nat.lt_or_ge 65536 G.length with h | h
 ·have := h2 h
  exact .inr ⟨by simp; omega, by simp; omega⟩
 ·rw [h1 h]; exact .inl rfl

theorem wskip_any (s : Sm) (hk : s.k = 7) (d : Nat) (hd : d ≤ 64) (oe ob ol : Option Addr) (ce cb cl : Nat) (bw : Nat) (v : Value) (F : List UInt8) (w : World) (hW : Wr 5 n0 80 bw v F w) (hn0 : n0 ≤ w.heap.size) :
    Ret Tryz.prog 101 [.pointer (some ⟨bw, 0, none⟩), .agg (smL s oe ob ol ce cb cl).toArray, .int .i64 (d : Int)] w fun r w' => r = .tuple #[] ∧ WrP 5 n0 80 bw v (F ++ txtS s d) w w' := by
 refine ret_of [_, _, _] func101 rfl ntmps101 rfl ?_
 have st := St.init w []
 clear st
 obtain ⟨w0, rfl⟩ : ∃ w0, w0 = w := ⟨_, rfl⟩
 have st := St.wrInit hW
 refine vc_seq (vc_region ?_)
 refine vc_e (e_bx (l := [_, _, _, _, _, _, _]) st rfl rfl rfl rfl ?_)
 intro b4 w hb4 st
 refine vc_end (vq_then (vk2 0 2 (vc_region ?_)))
 iterate 2 refine ym ?_
 refine vc_e (e_bsn (l := [[115, 107, 105, 112, 59]].map str) (E := 9) st [(0, _)] rfl rfl rfl (fun w => by simp [Instr.buildSlice, run_underlying underlying50, sizeOf9, zeroValue9, Instr.fill, newRow, newObj, Sem.run, go_sem]) ?_)
 intro b8 w hb8 st
 refine vc_e (e_call [_, _, _] rfl rfl call40 rfl (line_any repeat_any bw _ _ d (by omega) [[115, 107, 105, 112, 59]] (by simp) (by simp) b8 _ _ (st.wrGet (i := 2) rfl) (Nat.le_trans hn0 st.chg.size) (fun j x hx => cell_nth (st.res (i := 0) rfl) (strs_nth hx)) (fun hk => apart_nth st.nodup (i := 0) (j := 2) (by decide) rfl rfl _ (.head _) hk)) ?_)
 rintro _ w ⟨rfl, hp⟩
 obtain ⟨v9, st⟩ := st.wr (i := 2) rfl hp
 dsimp only [setNth] at st
 refine vc_end ?_
 refine vq_ret0 (.inr rfl) results101 ?_
 refine ⟨_, rfl, ?_⟩
 refine ⟨rfl, (st.wrDone (i := 2) rfl).eq ?_⟩
 rw [txtS_flat (by omega)]
 unfold hdS
 rw [hk]
 simp

theorem wprintS_any (s : Sm) (hk : s.k = 6) (d : Nat) (hd : d ≤ 64) (hR : rightS s d = true) (hok : OkS s) (oe ob ol : Option Addr) (ce cb cl : Nat) (bw : Nat) (v : Value) (F : List UInt8) (w : World) (hse : ExRow w (· < n0) oe s.e) (hW : Wr 5 n0 80 bw v F w) (hn0 : n0 ≤ w.heap.size) (h0 : 0 < n0) (hsg : Sig w) (hlx : (txX s.e).length ≤ 1099511627776) :
    Ret Tryz.prog 100 [.pointer (some ⟨bw, 0, none⟩), .agg (smL s oe ob ol ce cb cl).toArray, .int .i64 (d : Int)] w fun r w' => r = .tuple #[] ∧ WrP 5 n0 80 bw v (F ++ txtS s d) w w' := by
 refine ret_of [_, _, _] func100 rfl ntmps100 rfl ?_
 have st := St.init w []
 clear st
 obtain ⟨w0, rfl⟩ : ∃ w0, w0 = w := ⟨_, rfl⟩
 have st := St.wrInit hW
 have hsame : ∀ {w1 : World}, Chg (bw :: v.ownBlock.toList) w0 w1 → Same (· < n0) w0 w1 := fun c => hW.same c
 obtain ⟨⟨r1, r1b⟩, r2, r3, r4, r5, r6, r7, r8, r9⟩ := rightS_iff.1 hR
 obtain ⟨x, hx, hlen, hRx⟩ := rightX_inv (by unfold hasE; simp only [decide_eq_true_eq]; omega) r4
 have hxt := txX_eq hx
 have hkx := hok.e.2 0 x hx
 rw [hxt] at hlx
 refine vc_seq (vc_region ?_)
 refine vc_e (e_bx (l := [_, _, _, _, _, _, _]) st rfl rfl rfl rfl ?_)
 intro b4 w hb4 st
 refine vc_end (vq_then (vk3 0 2 4 (vc_region ?_)))
 iterate 2 refine ym ?_
 refine yfz 3 underlying67 sizeOf40 ?_
 refine yl st 0 isAgg40 ?_
 refine vc_e (e_call [_] rfl rfl call156 rfl (first_any s.e x hx 0 hRx hkx _ _ _ (hse.kept (hsame st.chg)) (Nat.le_trans hn0 st.chg.size) h0 (hsg.kept' st.chg (hW.notin h0)) hlx) ?_)
 rintro _ w ⟨r, rfl, hT, cw⟩
 replace st := st.call0 cw
 have hTl := hT.2.2.1
 simp only [List.length_nil, Nat.zero_add] at hTl
 refine vc_e (e_bsn (l := [[112, 114, 105, 110, 116, 32], r, [59]].map str) (E := 9) st [(0, _), (1, _), (2, _)] rfl rfl rfl (fun w => by simp [Instr.buildSlice, run_underlying underlying50, sizeOf9, zeroValue9, Instr.fill, newRow, newObj, Sem.run, go_sem]) ?_)
 intro b11 w hb11 st
 refine vc_e (e_call [_, _, _] rfl rfl call40 rfl (line_any repeat_any bw _ _ d (by omega) [[112, 114, 105, 110, 116, 32], r, [59]] (by simp) (by simp; omega) b11 _ _ (st.wrGet (i := 2) rfl) (Nat.le_trans hn0 st.chg.size) (fun j x hx => cell_nth (st.res (i := 0) rfl) (strs_nth hx)) (fun hk => apart_nth st.nodup (i := 0) (j := 2) (by decide) rfl rfl _ (.head _) hk)) ?_)
 rintro _ w ⟨rfl, hp⟩
 obtain ⟨v9, st⟩ := st.wr (i := 2) rfl hp
 dsimp only [setNth] at st
 refine vc_end ?_
 refine vq_ret0 (.inr rfl) results100 ?_
 refine ⟨_, rfl, ?_⟩
 refine ⟨rfl, WrP.swap (st.wrDone (i := 2) rfl) ?_⟩
 rw [txtS_flat (by omega)]
 unfold hdS
 rw [hk, hxt]
 have h := hT.same (mar d ++ [112, 114, 105, 110, 116, 32]) [59, 10]
 simpa [List.append_assoc] using h

theorem wassign_any (s : Sm) (hk : s.k = 1) (d : Nat) (hd : d ≤ 64) (hR : rightS s d = true) (hok : OkS s) (oe ob ol : Option Addr) (ce cb cl : Nat) (bw : Nat) (v : Value) (F : List UInt8) (w : World) (hse : ExRow w (· < n0) oe s.e) (hW : Wr 5 n0 80 bw v F w) (hn0 : n0 ≤ w.heap.size) (h0 : 0 < n0) (hsg : Sig w) (hlx : (txX s.e).length ≤ 1099511627776) :
    Ret Tryz.prog 96 [.pointer (some ⟨bw, 0, none⟩), .agg (smL s oe ob ol ce cb cl).toArray, .int .i64 (d : Int)] w fun r w' => r = .tuple #[] ∧ WrP 5 n0 80 bw v (F ++ txtS s d) w w' := by
 refine ret_of [_, _, _] func96 rfl ntmps96 rfl ?_
 have st := St.init w []
 clear st
 obtain ⟨w0, rfl⟩ : ∃ w0, w0 = w := ⟨_, rfl⟩
 have st := St.wrInit hW
 have hsame : ∀ {w1 : World}, Chg (bw :: v.ownBlock.toList) w0 w1 → Same (· < n0) w0 w1 := fun c => hW.same c
 obtain ⟨⟨r1, r1b⟩, r2, r3, r4, r5, r6, r7, r8, r9⟩ := rightS_iff.1 hR
 obtain ⟨x, hx, hlen, hRx⟩ := rightX_inv (by unfold hasE; simp only [decide_eq_true_eq]; omega) r4
 have hxt := txX_eq hx
 have hkx := hok.e.2 0 x hx
 rw [hxt] at hlx
 have hnm : s.nm.length ≤ 32 := by
  rw [show hasN s.k = true by unfold hasN; simp only [decide_eq_true_eq]; omega] at r2
  exact isName_le (by simpa [nmOk] using r2)
 refine vc_seq (vc_region ?_)
 refine vc_e (e_bx (l := [_, _, _, _, _, _, _]) st rfl rfl rfl rfl ?_)
 intro b4 w hb4 st
 refine vc_end (vq_then (vk3 0 2 4 ?_))
 refine vc_draw Tryz.mixed [(0, true), (1, true), (2, true), (3, true), (4, true), (5, true), (6, false), (7, false), (8, false)] (fun w => St _ _ [.blk b4 (.cells (smL s oe ob ol ce cb cl).toArray 67 (0, 0))] w) st.dr (by kernel_rfl) (by repeat (first | exact okQ_body | refine okQ_then ?_ | refine okQ_block ?_)) rfl (by kernel_rfl) ?_
 intro w cd; replace st := st.call0 cd; clear cd
 have hS : St _ _ [.blk b4 (.cells (smL s oe ob ol ce cb cl).toArray 67 (0, 0))] w := st.dr
 iterate 2 refine pm hS ?_
 refine pfz hS 1 underlying67 sizeOf9 ?_
 refine pld hS 0 isAgg9 ?_
 refine pfz hS 3 underlying67 sizeOf40 ?_
 refine pld hS 0 isAgg40 ?_
 refine vp_do rfl (e_call [_] rfl rfl call156 rfl (first_any s.e x hx 0 hRx hkx _ _ _ (hse.kept (hsame st.chg)) (Nat.le_trans hn0 st.chg.size) h0 (hsg.kept' st.chg (hW.notin h0)) hlx) ?_)
 rintro _ w ⟨r, rfl, hT, cw⟩
 replace st := st.call0 cw
 have hTl := hT.2.2.1
 simp only [List.length_nil, Nat.zero_add] at hTl
 refine vp_next st.dr ?_; intro hS
 refine vp_do rfl (e_bsn (l := [s.nm, [32, 61, 32], r, [59]].map str) (E := 9) st [(0, _), (1, _), (2, _), (3, _)] rfl rfl rfl (fun w => by simp [Instr.buildSlice, run_underlying underlying50, sizeOf9, zeroValue9, Instr.fill, newRow, newObj, Sem.run, go_sem]) ?_)
 intro b13 w hb13 st
 refine vp_next st.dr ?_; intro hS
 refine vp_do rfl (e_call [_, _, _] rfl rfl call40 rfl (line_any repeat_any bw _ _ d (by omega) [s.nm, [32, 61, 32], r, [59]] (by simp) (by simp; omega) b13 _ _ (st.wrGet (i := 2) rfl) (Nat.le_trans hn0 st.chg.size) (fun j x hx => cell_nth (st.res (i := 0) rfl) (strs_nth hx)) (fun hk => apart_nth st.nodup (i := 0) (j := 2) (by decide) rfl rfl _ (.head _) hk)) ?_)
 rintro _ w ⟨rfl, hp⟩
 obtain ⟨v9, st⟩ := st.wr (i := 2) rfl hp
 dsimp only [setNth] at st
 refine vp_next st.dr ?_; intro hS
 refine vp_end ?_
 refine vq_ret0 (.inr rfl) results96 ?_
 refine ⟨_, rfl, ?_⟩
 refine ⟨rfl, WrP.swap (st.wrDone (i := 2) rfl) ?_⟩
 rw [txtS_flat (by omega)]
 unfold hdS
 rw [hk, hxt]
 have h := hT.same (mar d ++ (s.nm ++ [32, 61, 32])) [59, 10]
 simpa [List.append_assoc] using h

theorem wswap_any (s : Sm) (hk : s.k = 2) (d : Nat) (hd : d ≤ 64) (hR : rightS s d = true) (hok : OkS s) (oe ob ol : Option Addr) (ce cb cl : Nat) (bw : Nat) (v : Value) (F : List UInt8) (w : World) (hse : ExRow w (· < n0) oe s.e) (hW : Wr 5 n0 80 bw v F w) (hn0 : n0 ≤ w.heap.size) (h0 : 0 < n0) (hsg : Sig w) (hlx : (txX s.e).length ≤ 1099511627776) :
    Ret Tryz.prog 97 [.pointer (some ⟨bw, 0, none⟩), .agg (smL s oe ob ol ce cb cl).toArray, .int .i64 (d : Int)] w fun r w' => r = .tuple #[] ∧ WrP 5 n0 80 bw v (F ++ txtS s d) w w' := by
 refine ret_of [_, _, _] func97 rfl ntmps97 rfl ?_
 have st := St.init w []
 clear st
 obtain ⟨w0, rfl⟩ : ∃ w0, w0 = w := ⟨_, rfl⟩
 have st := St.wrInit hW
 have hsame : ∀ {w1 : World}, Chg (bw :: v.ownBlock.toList) w0 w1 → Same (· < n0) w0 w1 := fun c => hW.same c
 obtain ⟨⟨r1, r1b⟩, r2, r3, r4, r5, r6, r7, r8, r9⟩ := rightS_iff.1 hR
 obtain ⟨x, hx, hlen, hRx⟩ := rightX_inv (by unfold hasE; simp only [decide_eq_true_eq]; omega) r4
 have hxt := txX_eq hx
 have hkx := hok.e.2 0 x hx
 rw [hxt] at hlx
 have hnm : s.nm.length ≤ 32 := by
  rw [show hasN s.k = true by unfold hasN; simp only [decide_eq_true_eq]; omega] at r2
  exact isName_le (by simpa [nmOk] using r2)
 have hot : s.other.length ≤ 32 := by
  rw [show decide (s.k = 2) = true by simp only [decide_eq_true_eq]; omega] at r3
  exact isName_le (by simpa [nmOk] using r3)
 refine vc_seq (vc_region ?_)
 refine vc_e (e_bx (l := [_, _, _, _, _, _, _]) st rfl rfl rfl rfl ?_)
 intro b4 w hb4 st
 refine vc_end (vq_then (vk3 0 2 4 ?_))
 refine vc_draw Tryz.mixed [(0, true), (1, true), (2, true), (3, true), (4, true), (5, true), (6, true), (7, true), (8, false), (9, false), (10, false)] (fun w => St _ _ [.blk b4 (.cells (smL s oe ob ol ce cb cl).toArray 67 (0, 0))] w) st.dr (by kernel_rfl) (by repeat (first | exact okQ_body | refine okQ_then ?_ | refine okQ_block ?_)) rfl (by kernel_rfl) ?_
 intro w cd; replace st := st.call0 cd; clear cd
 have hS : St _ _ [.blk b4 (.cells (smL s oe ob ol ce cb cl).toArray 67 (0, 0))] w := st.dr
 iterate 2 refine pm hS ?_
 refine pfz hS 1 underlying67 sizeOf9 ?_
 refine pld hS 0 isAgg9 ?_
 refine pfz hS 2 underlying67 sizeOf9 ?_
 refine pld hS 0 isAgg9 ?_
 refine pfz hS 3 underlying67 sizeOf40 ?_
 refine pld hS 0 isAgg40 ?_
 refine vp_do rfl (e_call [_] rfl rfl call156 rfl (first_any s.e x hx 0 hRx hkx _ _ _ (hse.kept (hsame st.chg)) (Nat.le_trans hn0 st.chg.size) h0 (hsg.kept' st.chg (hW.notin h0)) hlx) ?_)
 rintro _ w ⟨r, rfl, hT, cw⟩
 replace st := st.call0 cw
 have hTl := hT.2.2.1
 simp only [List.length_nil, Nat.zero_add] at hTl
 refine vp_next st.dr ?_; intro hS
 refine vp_do rfl (e_bsn (l := [s.nm, [32, 61, 32, 115, 119, 97, 112, 40], s.other, [44, 32], r, [41, 59]].map str) (E := 9) st [(0, _), (1, _), (2, _), (3, _), (4, _), (5, _)] rfl rfl rfl (fun w => by simp [Instr.buildSlice, run_underlying underlying50, sizeOf9, zeroValue9, Instr.fill, newRow, newObj, Sem.run, go_sem]) ?_)
 intro b15 w hb15 st
 refine vp_next st.dr ?_; intro hS
 refine vp_do rfl (e_call [_, _, _] rfl rfl call40 rfl (line_any repeat_any bw _ _ d (by omega) [s.nm, [32, 61, 32, 115, 119, 97, 112, 40], s.other, [44, 32], r, [41, 59]] (by simp) (by simp; omega) b15 _ _ (st.wrGet (i := 2) rfl) (Nat.le_trans hn0 st.chg.size) (fun j x hx => cell_nth (st.res (i := 0) rfl) (strs_nth hx)) (fun hk => apart_nth st.nodup (i := 0) (j := 2) (by decide) rfl rfl _ (.head _) hk)) ?_)
 rintro _ w ⟨rfl, hp⟩
 obtain ⟨v9, st⟩ := st.wr (i := 2) rfl hp
 dsimp only [setNth] at st
 refine vp_next st.dr ?_; intro hS
 refine vp_end ?_
 refine vq_ret0 (.inr rfl) results97 ?_
 refine ⟨_, rfl, ?_⟩
 refine ⟨rfl, WrP.swap (st.wrDone (i := 2) rfl) ?_⟩
 rw [txtS_flat (by omega)]
 unfold hdS
 rw [hk, hxt]
 have h := hT.same (mar d ++ (s.nm ++ [32, 61, 32, 115, 119, 97, 112, 40] ++ s.other ++ [44, 32])) [41, 59, 10]
 simpa [List.append_assoc] using h

end
end Go.Proofs.YtnmhlpnapgojjaaGreatDoor


namespace Go.Proofs.YtnmhlpnapgojjaaGreatDoor
open Go.RowKit Sx LexS _root_.Go.Proofs.Tryz
section
variable {n0 : Nat}

theorem wlock_any (s : Sm) (hk : s.k = 5) (d : Nat) (hd : d ≤ 64) (hR : rightS s d = true) (hok : OkS s) (oe ob ol : Option Addr) (ce cb cl : Nat) (bw : Nat) (v : Value) (F : List UInt8) (w : World) (hse : ExRow w (· < n0) oe s.e) (hsb : SmRow w (· < n0) ob s.body) (hsl : SmRow w (· < n0) ol s.els) (hW : Wr 5 n0 80 bw v F w) (hn0 : n0 ≤ w.heap.size) (h0 : 0 < n0) (hsg : Sig w) (hlx : (txX s.e).length ≤ 1099511627776) (hrec : ∀ (l : List Sm), (l = s.body ∨ l = s.els) → ∀ (bw : Nat) (v : Value) (F : List UInt8) (oa : Option Addr) (cap : Nat) (w : World), SmRow w (· < n0) oa l → Wr 5 n0 80 bw v F w → n0 ≤ w.heap.size → Sig w → d < 64 →
      Ret Tryz.prog 41 [.pointer (some ⟨bw, 0, none⟩), .slice oa l.length cap, .int .i64 ((d + 1 : Nat) : Int)] w fun r w' => r = .tuple #[] ∧ WrP 5 n0 80 bw v (F ++ txtSs l (d + 1)) w w') :
  Ret Tryz.prog 99 [.pointer (some ⟨bw, 0, none⟩), .agg (smL s oe ob ol ce cb cl).toArray, .int .i64 (d : Int)] w fun r w' => r = .tuple #[] ∧ WrP 5 n0 80 bw v (F ++ txtS s d) w w' := by
 refine ret_of [_, _, _] func99 rfl ntmps99 rfl ?_
 have st := St.init w []
 clear st
 obtain ⟨w0, rfl⟩ : ∃ w0, w0 = w := ⟨_, rfl⟩
 have st := St.wrInit hW
 have hsame : ∀ {w1 : World}, Chg (bw :: v.ownBlock.toList) w0 w1 → Same (· < n0) w0 w1 := fun c => hW.same c
 obtain ⟨⟨r1, r1b⟩, r2, r3, r4, r5, r6, r7, r8, r9⟩ := rightS_iff.1 hR
 have hnm : s.nm.length ≤ 32 := by
  rw [show hasN s.k = true by unfold hasN; simp only [decide_eq_true_eq]; omega] at r2
  exact isName_le (by simpa [nmOk] using r2)
 have hd64 : d < 64 := by
  rcases r7 with h | h
  ·have hB : hasB s.k = true := by unfold hasB; simp only [decide_eq_true_eq]; omega
   rw [hB] at h; cases h.1
  ·exact h
 refine vc_seq (vc_region ?_)
 refine vc_e (e_bx (l := [_, _, _, _, _, _, _]) st rfl rfl rfl rfl ?_)
 intro b4 w hb4 st
 refine vc_end (vq_then (vk3 0 2 4 (vc_seq (vc_region ?_))))
 iterate 2 refine ym ?_
 refine yfz 1 underlying67 sizeOf9 ?_
 refine yl st 0 isAgg9 ?_
 refine vc_e (e_bsn (l := [[108, 111, 99, 107, 32], s.nm, [32, 123]].map str) (E := 9) st [(0, _), (1, _), (2, _)] rfl rfl rfl (fun w => by simp [Instr.buildSlice, run_underlying underlying50, sizeOf9, zeroValue9, Instr.fill, newRow, newObj, Sem.run, go_sem]) ?_)
 intro b10 w hb10 st
 refine vc_e (e_call [_, _, _] rfl rfl call40 rfl (line_any repeat_any bw _ _ d (by omega) [[108, 111, 99, 107, 32], s.nm, [32, 123]] (by simp) (by simp; omega) b10 _ _ (st.wrGet (i := 2) rfl) (Nat.le_trans hn0 st.chg.size) (fun j x hx => cell_nth (st.res (i := 0) rfl) (strs_nth hx)) (fun hk => apart_nth st.nodup (i := 0) (j := 2) (by decide) rfl rfl _ (.head _) hk)) ?_)
 rintro _ w ⟨rfl, hp⟩
 obtain ⟨v9, st⟩ := st.wr (i := 2) rfl hp
 dsimp only [setNth] at st
 refine vc_end (vq_then (vk3 0 2 4 (vc_seq (vc_region ?_))))
 refine ym ?_
 refine yfz 4 underlying67 sizeOf65 ?_
 refine yl st 1 isAgg65 ?_
 refine ym ?_
 refine vy (y_add rfl rfl (by omega : _ = ((d + 1 : Nat) : Int)) (by omega) (by omega)) ?_
 refine vc_e (e_call [_, _, _] rfl rfl call41 rfl (hrec _ (.inl rfl) bw _ _ _ _ _ (hsb.kept (hsame st.chg)) (st.wrGet (i := 2) rfl) (Nat.le_trans hn0 st.chg.size) (hsg.kept' st.chg (hW.notin h0)) hd64) ?_)
 rintro _ w ⟨rfl, hp⟩
 obtain ⟨v9, st⟩ := st.wr (i := 2) rfl hp
 dsimp only [setNth] at st
 refine vc_end (vq_then (vk2 0 2 (vc_region ?_)))
 iterate 2 refine ym ?_
 refine vc_e (e_bsn (l := [[125]].map str) (E := 9) st [(0, _)] rfl rfl rfl (fun w => by simp [Instr.buildSlice, run_underlying underlying50, sizeOf9, zeroValue9, Instr.fill, newRow, newObj, Sem.run, go_sem]) ?_)
 intro b20 w hb20 st
 refine vc_e (e_call [_, _, _] rfl rfl call40 rfl (line_any repeat_any bw _ _ d (by omega) [[125]] (by simp) (by simp) b20 _ _ (st.wrGet (i := 3) rfl) (Nat.le_trans hn0 st.chg.size) (fun j x hx => cell_nth (st.res (i := 0) rfl) (strs_nth hx)) (fun hk => apart_nth st.nodup (i := 0) (j := 3) (by decide) rfl rfl _ (.head _) hk)) ?_)
 rintro _ w ⟨rfl, hp⟩
 obtain ⟨v9, st⟩ := st.wr (i := 3) rfl hp
 dsimp only [setNth] at st
 refine vc_end ?_
 refine vq_ret0 (.inr rfl) results99 ?_
 refine ⟨_, rfl, ?_⟩
 refine ⟨rfl, (st.wrDone (i := 3) rfl).eq ?_⟩
 rw [txtS_lock hk]
 unfold hdS
 rw [hk]
 simp [List.append_assoc]

theorem wcond_any (s : Sm) (hk : s.k = 3 ∨ s.k = 4) (d : Nat) (hd : d ≤ 64) (hR : rightS s d = true) (hok : OkS s) (oe ob ol : Option Addr) (ce cb cl : Nat) (bw : Nat) (v : Value) (F : List UInt8) (w : World) (hse : ExRow w (· < n0) oe s.e) (hsb : SmRow w (· < n0) ob s.body) (hsl : SmRow w (· < n0) ol s.els) (hW : Wr 5 n0 80 bw v F w) (hn0 : n0 ≤ w.heap.size) (h0 : 0 < n0) (hsg : Sig w) (hlx : (txX s.e).length ≤ 1099511627776) (hrec : ∀ (l : List Sm), (l = s.body ∨ l = s.els) → ∀ (bw : Nat) (v : Value) (F : List UInt8) (oa : Option Addr) (cap : Nat) (w : World), SmRow w (· < n0) oa l → Wr 5 n0 80 bw v F w → n0 ≤ w.heap.size → Sig w → d < 64 →
      Ret Tryz.prog 41 [.pointer (some ⟨bw, 0, none⟩), .slice oa l.length cap, .int .i64 ((d + 1 : Nat) : Int)] w fun r w' => r = .tuple #[] ∧ WrP 5 n0 80 bw v (F ++ txtSs l (d + 1)) w w') :
  Ret Tryz.prog 98 [.pointer (some ⟨bw, 0, none⟩), .agg (smL s oe ob ol ce cb cl).toArray, .int .i64 (d : Int)] w fun r w' => r = .tuple #[] ∧ WrP 5 n0 80 bw v (F ++ txtS s d) w w' := by
 refine ret_of [_, _, _] func98 rfl ntmps98 rfl ?_
 have st := St.init w []
 clear st
 obtain ⟨w0, rfl⟩ : ∃ w0, w0 = w := ⟨_, rfl⟩
 have st := St.wrInit hW
 have hsame : ∀ {w1 : World}, Chg (bw :: v.ownBlock.toList) w0 w1 → Same (· < n0) w0 w1 := fun c => hW.same c
 obtain ⟨⟨r1, r1b⟩, r2, r3, r4, r5, r6, r7, r8, r9⟩ := rightS_iff.1 hR
 obtain ⟨x, hx, hlen, hRx⟩ := rightX_inv (by unfold hasE; simp only [decide_eq_true_eq]; omega) r4
 have hxt := txX_eq hx
 have hkx := hok.e.2 0 x hx
 rw [hxt] at hlx
 have hd64 : d < 64 := by
  rcases r7 with h | h
  ·have hB : hasB s.k = true := by unfold hasB; simp only [decide_eq_true_eq]; omega
   rw [hB] at h; cases h.1
  ·exact h
 refine vc_seq (vc_region ?_)
 refine vc_e (e_bx (l := [_, _, _, _, _, _, _]) st rfl rfl rfl rfl ?_)
 intro b4 w hb4 st
 refine vc_end (vq_then (vk3 0 2 4 (vc_seq (vc_region ?_))))
 refine ya ?_
 refine vc_end (vq_then (vk4 0 2 4 6 ?_))
 refine vc_cut (w0 := w0) (M := (bw :: v.ownBlock.toList)) (fun (_ : Unit) => [(0, .pointer (some ⟨bw, 0, none⟩)), (2, .int .i64 (d : Int)), (4, .pointer (some ⟨b4, 0, none⟩)), (6, str (if s.k = 4 then [119, 104, 105, 108, 101, 32, 40] else [105, 102, 32, 40]))]) (fun _ => [.blk b4 (.cells (smL s oe ob ol ce cb cl).toArray 67 (0, 0)), wrR (bw :: v.ownBlock.toList) w0.heap.size 5 n0 80 bw v F]) (fun _ _ => True) ?_ ?_
 ·refine vc_seq (vc_region ?_)
  refine vy (y_fa0 rfl underlying67 rfl rfl sizeOf64 rfl) ?_
  refine yl st 0 isAgg64 ?_
  refine vy (y_eqi rfl rfl) ?_
  refine vc_end (vq_then (vk5 0 2 4 6 9 ?_))
  refine vc_ifs rfl ?_ ?_
  ·intro hc9
   try simp only [dn] at hc9
   refine vc_region ?_
   refine ya ?_
   refine vc_end ?_
   refine vq_meet () ⟨rfl, rfl, rfl, by simp only [Sx.put, find, Nat.beq]; rw [if_pos (by assumption)], trivial⟩ st ?_
   ·trivial
  ·intro hc9
   try simp only [dn] at hc9
   refine vc_code_skip ?_
   refine vq_meet () ⟨rfl, rfl, rfl, by simp only [Sx.put, find, Nat.beq]; rw [if_neg (by assumption)], trivial⟩ st ?_
   ·trivial
 ·clear st
  rintro ⟨⟩ w - st
  refine vc_seq (vc_region ?_)
  iterate 3 refine ym ?_
  refine yfz 3 underlying67 sizeOf40 ?_
  refine yl st 0 isAgg40 ?_
  refine vc_e (e_call [_] rfl rfl call156 rfl (first_any s.e x hx 0 hRx hkx _ _ _ (hse.kept (hsame st.chg)) (Nat.le_trans hn0 st.chg.size) h0 (hsg.kept' st.chg (hW.notin h0)) hlx) ?_)
  rintro _ w ⟨r, rfl, hT, cw⟩
  replace st := st.call0 cw
  have hTl := hT.2.2.1
  simp only [List.length_nil, Nat.zero_add] at hTl
  refine vc_e (e_bsn (l := [(if s.k = 4 then [119, 104, 105, 108, 101, 32, 40] else [105, 102, 32, 40]), r, [41, 32, 123]].map str) (E := 9) st [(0, _), (1, _), (2, _)] rfl rfl rfl (fun w => by simp [Instr.buildSlice, run_underlying underlying50, sizeOf9, zeroValue9, Instr.fill, newRow, newObj, Sem.run, go_sem]) ?_)
  intro b16 w hb16 st
  refine vc_e (e_call [_, _, _] rfl rfl call40 rfl (line_any repeat_any bw _ _ d (by omega) [(if s.k = 4 then [119, 104, 105, 108, 101, 32, 40] else [105, 102, 32, 40]), r, [41, 32, 123]] (by simp) (by simp; split <;> simp <;> omega) b16 _ _ (st.wrGet (i := 2) rfl) (Nat.le_trans hn0 st.chg.size) (fun j x hx => cell_nth (st.res (i := 0) rfl) (strs_nth hx)) (fun hk => apart_nth st.nodup (i := 0) (j := 2) (by decide) rfl rfl _ (.head _) hk)) ?_)
  rintro _ w ⟨rfl, hp⟩
  obtain ⟨v9, st⟩ := st.wr (i := 2) rfl hp
  dsimp only [setNth] at st
  refine vc_end (vq_then (vk3 0 2 4 (vc_seq (vc_region ?_))))
  refine ym ?_
  refine yfz 4 underlying67 sizeOf65 ?_
  refine yl st 1 isAgg65 ?_
  refine ym ?_
  refine vy (y_add rfl rfl (by omega : _ = ((d + 1 : Nat) : Int)) (by omega) (by omega)) ?_
  refine vc_e (e_call [_, _, _] rfl rfl call41 rfl (hrec _ (.inl rfl) bw _ _ _ _ _ (hsb.kept (hsame st.chg)) (st.wrGet (i := 2) rfl) (Nat.le_trans hn0 st.chg.size) (hsg.kept' st.chg (hW.notin h0)) hd64) ?_)
  rintro _ w ⟨rfl, hp⟩
  obtain ⟨v9, st⟩ := st.wr (i := 2) rfl hp
  dsimp only [setNth] at st
  refine vc_end (vq_then (vk3 0 2 4 (vc_seq (vc_seq (vc_region ?_)))))
  refine yfz 5 underlying67 sizeOf65 ?_
  refine yl st 1 isAgg65 ?_
  refine vy (y_lensl rfl underlying65) ?_
  refine vy (y_gtr rfl rfl) ?_
  refine vc_end (vq_then (vk4 0 2 4 27 ?_))
  refine vc_ifs rfl ?_ ?_
  ·intro hc27
   try simp only [dn] at hc27
   refine vc_seq (vc_region ?_)
   iterate 2 refine ym ?_
   refine vc_e (e_bsn (l := [[125, 32, 101, 108, 115, 101, 32, 123]].map str) (E := 9) st [(0, _)] rfl rfl rfl (fun w => by simp [Instr.buildSlice, run_underlying underlying50, sizeOf9, zeroValue9, Instr.fill, newRow, newObj, Sem.run, go_sem]) ?_)
   intro b30 w hb30 st
   refine vc_e (e_call [_, _, _] rfl rfl call40 rfl (line_any repeat_any bw _ _ d (by omega) [[125, 32, 101, 108, 115, 101, 32, 123]] (by simp) (by simp) b30 _ _ (st.wrGet (i := 3) rfl) (Nat.le_trans hn0 st.chg.size) (fun j x hx => cell_nth (st.res (i := 0) rfl) (strs_nth hx)) (fun hk => apart_nth st.nodup (i := 0) (j := 3) (by decide) rfl rfl _ (.head _) hk)) ?_)
   rintro _ w ⟨rfl, hp⟩
   obtain ⟨v9, st⟩ := st.wr (i := 3) rfl hp
   dsimp only [setNth] at st
   refine vc_end (vq_then (vk3 0 2 4 (vc_region ?_)))
   refine ym ?_
   refine yfz 5 underlying67 sizeOf65 ?_
   refine yl st 2 isAgg65 ?_
   refine ym ?_
   refine vy (y_add rfl rfl (by omega : _ = ((d + 1 : Nat) : Int)) (by omega) (by omega)) ?_
   refine vc_e (e_call [_, _, _] rfl rfl call41 rfl (hrec _ (.inr rfl) bw _ _ _ _ _ (hsl.kept (hsame st.chg)) (st.wrGet (i := 3) rfl) (Nat.le_trans hn0 st.chg.size) (hsg.kept' st.chg (hW.notin h0)) hd64) ?_)
   rintro _ w ⟨rfl, hp⟩
   obtain ⟨v9, st⟩ := st.wr (i := 3) rfl hp
   dsimp only [setNth] at st
   refine vc_end (vq_then (vk2 0 2 (vc_region ?_)))
   iterate 2 refine ym ?_
   refine vc_e (e_bsn (l := [[125]].map str) (E := 9) st [(0, _)] rfl rfl rfl (fun w => by simp [Instr.buildSlice, run_underlying underlying50, sizeOf9, zeroValue9, Instr.fill, newRow, newObj, Sem.run, go_sem]) ?_)
   intro b40 w hb40 st
   refine vc_e (e_call [_, _, _] rfl rfl call40 rfl (line_any repeat_any bw _ _ d (by omega) [[125]] (by simp) (by simp) b40 _ _ (st.wrGet (i := 4) rfl) (Nat.le_trans hn0 st.chg.size) (fun j x hx => cell_nth (st.res (i := 0) rfl) (strs_nth hx)) (fun hk => apart_nth st.nodup (i := 0) (j := 4) (by decide) rfl rfl _ (.head _) hk)) ?_)
   rintro _ w ⟨rfl, hp⟩
   obtain ⟨v9, st⟩ := st.wr (i := 4) rfl hp
   dsimp only [setNth] at st
   refine vc_end ?_
   refine vq_ret0 (.inr rfl) results98 ?_
   refine ⟨_, rfl, ?_⟩
   refine ⟨rfl, WrP.swap (G' := mar d ++ (if s.k = 4 then [119, 104, 105, 108, 101, 32, 40] else [105, 102, 32, 40]) ++ r ++ ([41, 32, 123, 10] ++ txtSs s.body (d + 1) ++ (mar d ++ [125, 32, 101, 108, 115, 101, 32, 123, 10] ++ txtSs s.els (d + 1)) ++ mar d ++ [125, 10])) ((st.wrDone (i := 4) rfl).eq (by simp [List.append_assoc])) ?_⟩
   rw [txtS_cond hk, if_pos (c := 0 < s.els.length) (by omega)]
   unfold hdS
   rw [if_neg (c := s.k = 1) (by omega), if_neg (c := s.k = 2) (by omega), if_neg (c := s.k = 6) (by omega), if_neg (c := s.k = 7) (by omega), if_neg (c := s.k = 5) (by omega), hxt]
   have h := hT.same (mar d ++ (if s.k = 4 then [119, 104, 105, 108, 101, 32, 40] else [105, 102, 32, 40])) ([41, 32, 123, 10] ++ txtSs s.body (d + 1) ++ (mar d ++ [125, 32, 101, 108, 115, 101, 32, 123, 10] ++ txtSs s.els (d + 1)) ++ mar d ++ [125, 10])
   simpa only [List.append_assoc, List.nil_append] using h
  ·intro hc27
   try simp only [dn] at hc27
   refine vc_code_skip (vq_then (vk2 0 2 (vc_region ?_)))
   iterate 2 refine ym ?_
   refine vc_e (e_bsn (l := [[125]].map str) (E := 9) st [(0, _)] rfl rfl rfl (fun w => by simp [Instr.buildSlice, run_underlying underlying50, sizeOf9, zeroValue9, Instr.fill, newRow, newObj, Sem.run, go_sem]) ?_)
   intro b40 w hb40 st
   refine vc_e (e_call [_, _, _] rfl rfl call40 rfl (line_any repeat_any bw _ _ d (by omega) [[125]] (by simp) (by simp) b40 _ _ (st.wrGet (i := 3) rfl) (Nat.le_trans hn0 st.chg.size) (fun j x hx => cell_nth (st.res (i := 0) rfl) (strs_nth hx)) (fun hk => apart_nth st.nodup (i := 0) (j := 3) (by decide) rfl rfl _ (.head _) hk)) ?_)
   rintro _ w ⟨rfl, hp⟩
   obtain ⟨v9, st⟩ := st.wr (i := 3) rfl hp
   dsimp only [setNth] at st
   refine vc_end ?_
   refine vq_ret0 (.inr rfl) results98 ?_
   refine ⟨_, rfl, ?_⟩
   refine ⟨rfl, WrP.swap (G' := mar d ++ (if s.k = 4 then [119, 104, 105, 108, 101, 32, 40] else [105, 102, 32, 40]) ++ r ++ ([41, 32, 123, 10] ++ txtSs s.body (d + 1) ++ mar d ++ [125, 10])) ((st.wrDone (i := 3) rfl).eq (by simp [List.append_assoc])) ?_⟩
   rw [txtS_cond hk, if_neg (c := 0 < s.els.length) (by omega)]
   unfold hdS
   rw [if_neg (c := s.k = 1) (by omega), if_neg (c := s.k = 2) (by omega), if_neg (c := s.k = 6) (by omega), if_neg (c := s.k = 7) (by omega), if_neg (c := s.k = 5) (by omega), hxt]
   have h := hT.same (mar d ++ (if s.k = 4 then [119, 104, 105, 108, 101, 32, 40] else [105, 102, 32, 40])) ([41, 32, 123, 10] ++ txtSs s.body (d + 1) ++ mar d ++ [125, 10])
   simpa only [List.append_assoc, List.nil_append] using h

end
end Go.Proofs.YtnmhlpnapgojjaaGreatDoor


namespace Go.Proofs.YtnmhlpnapgojjaaGreatDoor
open Go.RowKit Sx LexS _root_.Go.Proofs.Tryz
theorem txX_le {s : Sm} {d : Nat} (h : rightS s d = true) : (txX s.e).length ≤ (txtS s d).length := by
 obtain ⟨⟨r1, r1b⟩, r2, r3, r4, r5, r6, r7, r8, r9⟩ := rightS_iff.1 h
 rcases (by omega : s.k = 1 ∨ s.k = 2 ∨ s.k = 3 ∨ s.k = 4 ∨ s.k = 5 ∨ s.k = 6 ∨ s.k = 7) with h | h | h | h | h | h | h
 ·rw [txtS_flat (by omega)]; unfold hdS; rw [h]; simp; omega
 ·rw [txtS_flat (by omega)]; unfold hdS; rw [h]; simp; omega
 ·rw [txtS_cond (by omega)]; unfold hdS; rw [h]; simp; omega
 ·rw [txtS_cond (by omega)]; unfold hdS; rw [h]; simp; omega
 ·have h0 : s.e.length = 0 := by rw [h] at r4; simpa [rightX, hasE] using r4
  rw [List.eq_nil_of_length_eq_zero h0]; simp [txX]
 ·rw [txtS_flat (by omega)]; unfold hdS; rw [h]; simp; omega
 ·have h0 : s.e.length = 0 := by rw [h] at r4; simpa [rightX, hasE] using r4
  rw [List.eq_nil_of_length_eq_zero h0]; simp [txX]
theorem within_le {s : Sm} {d : Nat} {l : List Sm} (h : rightS s d = true) (hl : l = s.body ∨ l = s.els) : (txtSs l (d + 1)).length ≤ (txtS s d).length := by
 obtain ⟨⟨r1, r1b⟩, r2, r3, r4, r5, r6, r7, r8, r9⟩ := rightS_iff.1 h
 by_cases h0 : l.length = 0
 ·rw [List.eq_nil_of_length_eq_zero h0]; simp [txtSs]
 rcases hl with rfl | rfl
 ·have hB : hasB s.k = true := r5.resolve_right h0
  unfold hasB at hB
  simp only [decide_eq_true_eq] at hB
  rcases (by omega : s.k = 5 ∨ (s.k = 3 ∨ s.k = 4)) with h | h
  ·rw [txtS_lock h]; simp; omega
  ·rw [txtS_cond h]; simp; omega
 ·have hk : s.k = 3 := r6.resolve_right h0
  rw [txtS_cond (.inl hk), if_pos (by omega)]; simp; omega
theorem txtS_le {ss : List Sm} {d j : Nat} {s : Sm} (h : ss[j]? = some s) : (txtS s d).length ≤ (txtSs ss d).length := by
 rw [txtSs_split ss d (j + 1), txtSs_succ h]; simp; omega
def fnV (f bw : Nat) : Value := .func (.func f) #[.pointer (some ⟨bw, 0, none⟩)] #[]
def funL (bw : Nat) : List Value := [.nilFunc, fnV 96 bw, fnV 97 bw, fnV 98 bw, fnV 98 bw, fnV 99 bw, fnV 100 bw, fnV 101 bw]
def fnOf (m : Nat) : Nat := [101, 96, 97, 98, 98, 99, 100, 101].getD m 101
theorem fnOf_at (m bw : Nat) (h1 : 1 ≤ m) (h7 : m ≤ 7) : nth (funL bw) (m * 1) = some (fnV (fnOf m) bw) := by
 rcases (by omega : m = 1 ∨ m = 2 ∨ m = 3 ∨ m = 4 ∨ m = 5 ∨ m = 6 ∨ m = 7) with rfl | rfl | rfl | rfl | rfl | rfl | rfl <;> rfl
theorem fun_at {w : World} {b E bw m : Nat} (h : w.heap[b]? = some (.cells (funL bw).toArray E (0, 0))) (h1 : 1 ≤ m) (h7 : m ≤ 7) : w.cell? ⟨b, 0 + m * 1, none⟩ = some (fnV (fnOf m) bw) := by
 rw [Nat.zero_add]
 exact cell_nth h (fnOf_at m bw h1 h7)
theorem fnOf_call (m : Nat) (h1 : 1 ≤ m) (h7 : m ≤ 7) : ∀ (xs : Array Value) w, (callFunc (fnOf m) xs).run Tryz.prog w = .ok (.enter (fnOf m) xs) w := by
 rcases (by omega : m = 1 ∨ m = 2 ∨ m = 3 ∨ m = 4 ∨ m = 5 ∨ m = 6 ∨ m = 7) with rfl | rfl | rfl | rfl | rfl | rfl | rfl
 ·exact call96
 ·exact call97
 ·exact call98
 ·exact call98
 ·exact call99
 ·exact call100
 ·exact call101
section
variable {n0 : Nat}

theorem wstmt_any (s : Sm) (m : Nat) (hm : s.k = (m : Int)) (d : Nat) (hd : d ≤ 64) (hR : rightS s d = true) (hok : OkS s) (oe ob ol : Option Addr) (ce cb cl : Nat) (bw : Nat) (v : Value) (F : List UInt8) (w : World) (hse : ExRow w (· < n0) oe s.e) (hsb : SmRow w (· < n0) ob s.body) (hsl : SmRow w (· < n0) ol s.els) (hW : Wr 5 n0 80 bw v F w) (hn0 : n0 ≤ w.heap.size) (h0 : 0 < n0) (hsg : Sig w) (hlx : (txX s.e).length ≤ 1099511627776) (hrec : ∀ (l : List Sm), (l = s.body ∨ l = s.els) → ∀ (bw : Nat) (v : Value) (F : List UInt8) (oa : Option Addr) (cap : Nat) (w : World), SmRow w (· < n0) oa l → Wr 5 n0 80 bw v F w → n0 ≤ w.heap.size → Sig w → d < 64 →
      Ret Tryz.prog 41 [.pointer (some ⟨bw, 0, none⟩), .slice oa l.length cap, .int .i64 ((d + 1 : Nat) : Int)] w fun r w' => r = .tuple #[] ∧ WrP 5 n0 80 bw v (F ++ txtSs l (d + 1)) w w') :
  Ret Tryz.prog (fnOf m) ([.pointer (some ⟨bw, 0, none⟩)] ++ [.agg (smL s oe ob ol ce cb cl).toArray, .int .i64 (d : Int)] ++ []) w fun r w' => r = .tuple #[] ∧ WrP 5 n0 80 bw v (F ++ txtS s d) w w' := by
 obtain ⟨⟨r1, r1b⟩, -⟩ := rightS_iff.1 hR
 rcases (by omega : m = 1 ∨ m = 2 ∨ m = 3 ∨ m = 4 ∨ m = 5 ∨ m = 6 ∨ m = 7) with rfl | rfl | rfl | rfl | rfl | rfl | rfl
 ·exact wassign_any s hm d hd hR hok oe ob ol ce cb cl bw v F w hse hW hn0 h0 hsg hlx
 ·exact wswap_any s hm d hd hR hok oe ob ol ce cb cl bw v F w hse hW hn0 h0 hsg hlx
 ·exact wcond_any s (.inl hm) d hd hR hok oe ob ol ce cb cl bw v F w hse hsb hsl hW hn0 h0 hsg hlx hrec
 ·exact wcond_any s (.inr hm) d hd hR hok oe ob ol ce cb cl bw v F w hse hsb hsl hW hn0 h0 hsg hlx hrec
 ·exact wlock_any s hm d hd hR hok oe ob ol ce cb cl bw v F w hse hsb hsl hW hn0 h0 hsg hlx hrec
 ·exact wprintS_any s hm d hd hR hok oe ob ol ce cb cl bw v F w hse hW hn0 h0 hsg hlx
 ·exact wskip_any s hm d hd oe ob ol ce cb cl bw v F w hW hn0

set_option maxHeartbeats 1000000 in
theorem wblock_any : ∀ (n : Nat) (ss : List Sm), szo ss = n → ∀ (d : Nat), d ≤ 64 → rightSs ss d = true → OkSs ss → (txtSs ss d).length ≤ 1099511627776 → ∀ (bw : Nat) (v : Value) (F : List UInt8) (oa : Option Addr) (cap : Nat) (w : World), SmRow w (· < n0) oa ss → Wr 5 n0 80 bw v F w → n0 ≤ w.heap.size → 0 < n0 → Sig w →
    Ret Tryz.prog 41 [.pointer (some ⟨bw, 0, none⟩), .slice oa ss.length cap, .int .i64 (d : Int)] w fun r w' => r = .tuple #[] ∧ WrP 5 n0 80 bw v (F ++ txtSs ss d) w w' := by
 intro n
 refine Nat.strongRecOn n fun n ih => ?_
 intro ss hn d hd hR hok hlen bw v F oa cap w hr hW hn0 h0 hsg
 subst hn
 have hssl := hok.1
 refine ret_of [_, _, _] func41 rfl ntmps41 rfl ?_
 have st := St.init w []
 clear st
 obtain ⟨w0, rfl⟩ : ∃ w0, w0 = w := ⟨_, rfl⟩
 have st := St.wrInit hW
 have hsame : ∀ {w1 : World}, Chg (bw :: v.ownBlock.toList) w0 w1 → Same (· < n0) w0 w1 := fun c => hW.same c
 refine vc_seq (vc_region ?_)
 refine ym ?_
 refine vy (y_mf [_] [] rfl rfl) ?_
 refine ym ?_
 refine vy (y_mf [_] [] rfl rfl) ?_
 refine ym ?_
 refine vy (y_mf [_] [] rfl rfl) ?_
 refine ym ?_
 refine vy (y_mf [_] [] rfl rfl) ?_
 refine ym ?_
 refine vy (y_mf [_] [] rfl rfl) ?_
 refine ym ?_
 refine vy (y_mf [_] [] rfl rfl) ?_
 refine ym ?_
 refine vy (y_mf [_] [] rfl rfl) ?_
 refine vy (y_bld (.agg #[_, _, _, _, _, _, _, _]) [(1, _), (2, _), (3, _), (4, _), (5, _), (6, _), (7, _)] rfl (fun w => by simp [Instr.build, go_sem] <;> repeat' constructor)) ?_
 refine vc_e (e_al (l := [_, _, _, _, _, _, _, _]) st rfl rfl zeroValue134 rfl ?_)
 intro b6 w hb6 st
 refine vc_e (e_sts (vs := [_, _, _, _, _, _, _, _]) st 0 rfl rfl rfl rfl rfl sizeOf134 rfl rfl (by (right; assumption)) ?_)
 intro w st; dsimp only [setNth, wr] at st
 refine vc_end (vq_then (vk4 0 1 2 6 (vc_seq (vc_region ?_))))
 refine ym ?_
 refine vy (y_lensl rfl underlying65) ?_
 refine ym ?_
 refine vc_end (vq_then (vk6 0 2 6 24 25 26 (vc_block ?_)))
 refine vc_loop (w0 := w0) (M := (bw :: v.ownBlock.toList)) (fun (x : Nat × Value) => [(0, .pointer (some ⟨bw, 0, none⟩)), (2, .int .i64 (d : Int)), (6, .pointer (some ⟨b6, 0, none⟩)), (24, .slice oa ss.length cap), (25, .int .i64 (ss.length : Int)), (26, .int .i64 (x.1 : Int))]) (fun x => [.blk b6 (.cells (funL bw).toArray 134 (0, 0)), wrR (bw :: v.ownBlock.toList) w0.heap.size 5 n0 80 bw x.2 (F ++ txtSs (ss.take x.1) d)]) (fun x _ => x.1 ≤ ss.length) (fun x => ss.length - x.1) (0, v) ⟨rfl, rfl, rfl, rfl, rfl, rfl, trivial⟩ (by simpa [txtSs, funL, fnV] using st) (by simp) ?_
 clear st
 rintro ⟨j, v1⟩ w hj st
 dsimp only at *
 refine vc_seq (vc_region ?_)
 refine vy (y_lss rfl rfl) ?_
 refine vc_end (vq_then (vk7 0 2 6 24 25 26 27 (vc_seq ?_)))
 refine vc_ifs rfl ?_ ?_
 ·intro hc27
  try simp only [dn] at hc27
  obtain ⟨s, hsj⟩ : ∃ s, ss[j]? = some s := ⟨_, List.getElem?_eq_getElem (by omega)⟩
  obtain ⟨gb, go, rfl, hgS, hgl, hg⟩ := SmRow.at hr (by omega)
  obtain ⟨oe, ob, ol, ce, cb, cl, hsV, hse, hsb, hsl, hc⟩ := hg j s hsj
  have hks := hok.2 j s hsj
  have hz := mem_size hsj
  have hB : szo s.body < szo ss := by have := (sm_kids s).1; omega
  have hL : szo s.els < szo ss := by have := (sm_kids s).2; omega
  have hRs := rightSs_get hR hsj
  have hRi := rightS_iff.1 hRs
  have hk17 := hRi.1
  have hts := txtS_le (d := d) hsj
  have htx := txX_le hRs
  obtain ⟨m, hm⟩ : ∃ m : Nat, s.k = (m : Int) := ⟨s.k.toNat, by omega⟩
  refine vc_code_skip (vq_then (vk6 0 2 6 24 25 26 (vc_seq (vc_block (vc_seq (vc_region ?_))))))
  refine vy (y_ia (k := j) rfl rfl underlying65 sizeOf67 rfl (by omega)) ?_
  refine vy (y_ldca (smL s oe ob ol ce cb cl) rfl isAgg67 sizeOf67 rfl (fun i v hi => st.chg.cell (hc i v hi) (hW.notin hgS))) ?_
  refine vc_e (e_al (l := [_, _, _, _, _, _, _]) st rfl rfl zeroValue67 rfl ?_)
  intro b8 w hb8 st
  refine vc_e (e_sts (vs := [_, _, _, _, _, _, _]) st 0 rfl rfl rfl rfl rfl sizeOf67 rfl rfl (by (right; assumption)) ?_)
  intro w st; dsimp only [setNth, wr] at st
  refine vc_end (vq_then (vk7 0 2 6 8 24 25 26 (vc_seq (vc_seq (vc_region ?_)))))
  obtain ⟨lq, many, hb, ho, hws, hx1, hx2⟩ := st.wrGet (i := 2) rfl
  refine ym ?_
  refine ynk ?_
  refine yfz 1 underlying80 sizeOf4 ?_
  refine vy (y_ldc rfl isAgg4 (ptr_cell hb)) ?_
  refine vc_end (vq_then (vk8 0 2 6 8 24 25 26 33 ?_))
  refine vc_ifs rfl ?_ ?_
  ·intro hc33
   try simp only [dn] at hc33
   refine vc_ret (vq_then_ret (vq_block_ret (vq_then_ret (vq_then_ret (vq_block_ret ?_)))))
   refine vq_ret0 (.inl rfl) results41 ?_
   refine ⟨_, rfl, ?_⟩
   refine ⟨rfl, ?_⟩
   have hm : many = true := by assumption
   subst hm
   rw [txtSs_split ss d j, ← List.append_assoc]
   exact (st.wrDone (i := 2) rfl).over hb
  ·intro hc33
   try simp only [dn] at hc33
   refine vc_code_skip (vq_then (vk7 0 2 6 8 24 25 26 ?_))
   refine vc_draw Tryz.mixed [(0, true), (1, true), (2, true), (3, true), (4, true), (5, true), (6, false)] (fun w => St _ _ [.blk b8 (.cells (smL s oe ob ol ce cb cl).toArray 67 (0, 0)), .blk b6 (.cells (funL bw).toArray 134 (0, 0))] w) st.dr (by kernel_rfl) (by repeat (first | exact okQ_body | refine okQ_then ?_ | refine okQ_block ?_)) rfl (by kernel_rfl) ?_
   intro w cd; replace st := st.call0 cd; clear cd
   have hS : St _ _ [.blk b8 (.cells (smL s oe ob ol ce cb cl).toArray 67 (0, 0)), .blk b6 (.cells (funL bw).toArray 134 (0, 0))] w := st.dr
   refine pf0 hS underlying67 sizeOf64 ?_
   refine pld hS 0 isAgg64 ?_
   refine vp_take rfl rfl rfl hS (fun w st => y_iaa (k := m) rfl rfl underlying134 sizeOf133 hm (by omega)) ?_
   refine vp_take rfl rfl rfl hS (fun w st => y_ldc rfl isAgg133 (fun_at (st.res (i := 1) rfl) (by omega) (by omega))) ?_
   refine vp_take rfl rfl rfl hS (fun w st => y_lda (vs := [_, _, _, _, _, _, _]) st 0 rfl isAgg67 sizeOf67 rfl rfl) ?_
   refine pm hS ?_
   refine vp_do rfl (e_callv [_, _] rfl rfl rfl (fnOf_call m (by omega) (by omega)) rfl (wstmt_any s m hm d hd hRs hks oe ob ol ce cb cl bw _ _ _ (hse.kept (hsame st.chg)) (hsb.kept (hsame st.chg)) (hsl.kept (hsame st.chg)) (st.wrGet (i := 2) rfl) (Nat.le_trans hn0 st.chg.size) h0 (hsg.kept' st.chg (hW.notin h0)) (by omega) (fun l hl bw v F oa cap w hr hW hn hsg hd => ih (szo l) (by rcases hl with h | h <;> subst h <;> omega) l rfl (d + 1) (by omega) (by rcases hl with h | h <;> subst h; exact hRi.2.2.2.2.2.2.2.1; exact hRi.2.2.2.2.2.2.2.2) (by rcases hl with h | h <;> subst h; exact hks.body; exact hks.els) (by have := within_le hRs hl; omega) bw v F oa cap w hr hW hn h0 hsg)) ?_)
   rintro _ w ⟨rfl, hp⟩
   obtain ⟨v9, st⟩ := st.wr (i := 2) rfl hp
   dsimp only [setNth] at st
   refine vp_next st.dr ?_; intro hS
   refine vp_end (vq_block (vq_then (vk6 0 2 6 24 25 26 (vc_region ?_))))
   refine vy (y_add rfl rfl (by omega : _ = ((j + 1 : Nat) : Int)) (by omega) (by omega)) ?_
   refine ym ?_
   refine vc_end ?_
   refine vq_again (j + 1, v9)  ⟨rfl, rfl, rfl, rfl, rfl, rfl, trivial⟩ (by rw [txtSs_succ hsj, ← List.append_assoc]; exact st.dr) ?_ ?_
   ·dsimp only; omega
   ·dsimp only; omega
 ·intro hc27
  try simp only [dn] at hc27
  refine vc_exit (vq_then_exit (vq_then_exit (vq_block_exit ?_)))
  refine vq_ret0 (.inr rfl) results41 ?_
  refine ⟨_, rfl, ?_⟩
  refine ⟨rfl, ?_⟩
  obtain rfl : j = ss.length := by omega
  rw [List.take_length] at st
  exact st.wrDone (i := 1) rfl

end
end Go.Proofs.YtnmhlpnapgojjaaGreatDoor

