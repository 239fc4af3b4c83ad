/- A part of the proof: contracts of functions and plain laws; each theorem says its own conditions. -/
import Derived.Maps.RangeRun
import Derived.Test.YtnmhlpnapgojjaaGreatDoorPrettyOwnK1
import Derived.Test.YtnmhlpnapgojjaaGreatDoorPrettyOwnK3
import Derived.Test.YtnmhlpnapgojjaaGreatDoorPrettyOwnPC
import Derived.Test.YtnmhlpnapgojjaaGreatDoorPrettyOwnK2
set_option linter.unusedVariables false
set_option linter.unusedSimpArgs false
namespace Go.Proofs.YtnmhlpnapgojjaaGreatDoor
open Go.RowKit Sx LexS _root_.Go.Proofs.Tryz
section
variable {S : Nat → Prop}

set_option maxHeartbeats 1000000 in
theorem decls_any (ds : List Dc) (oa : Option Addr) (cap : Nat) (b : Bool) (w : World) (hD : DcRow w S oa ds) (hl : ds.length ≤ maxLen) : Ret Tryz.prog 92 [.slice oa ds.length cap, .bool b] w fun v w' => v = .bool (ds.all (dcOk b)) ∧ Chg [] w w' := by
  refine ret_of [_, _] func92 rfl ntmps92 rfl ?_
  have st := St.init w []
  obtain ⟨w0, rfl⟩ : ∃ w0, w0 = w := ⟨_, rfl⟩
  unfold maxLen at hl
  refine vc_seq (vc_region ?_)
  refine ya ?_
  refine vc_end (vq_then (vk2 0 1 (vc_seq (vc_seq (vc_region ?_)))))
  refine ym ?_
  refine vy (y_lensl rfl underlying23) ?_
  refine ym ?_
  refine vc_end (vq_then (vk4 1 7 8 9 (vc_block ?_)))
  refine vc_loop (w0 := w0) (M := []) (fun (j : Nat) => [(1, .bool b), (7, .slice oa ds.length cap), (8, .int .i64 (ds.length : Int)), (9, .int .i64 (j : Int))]) (fun _ => []) (fun j _ => j ≤ ds.length ∧ (ds.take j).all (dcOk b) = true) (fun j => ds.length - j) 0 ⟨rfl, rfl, rfl, rfl, trivial⟩ st ⟨by omega, by simp⟩ ?_
  rintro j w ⟨hj, hall⟩ st
  refine vc_seq (vc_region ?_)
  refine vy (y_lss rfl rfl) ?_
  refine vc_end (vq_then (vk5 1 7 8 9 10 (vc_seq ?_)))
  refine vc_ifs rfl ?_ ?_
  · intro hc10
    try simp only [dn] at hc10
    obtain ⟨x, hx⟩ : ∃ x, ds[j]? = some x := ⟨_, List.getElem?_eq_getElem (by omega)⟩
    obtain ⟨gb, go, rfl, hgS, hgl, hg⟩ := DcRow.at hD (by omega)
    have hc := hg j x hx
    refine vc_code_skip (vq_then (vk4 1 7 8 9 (vc_seq (vc_block (vc_seq (vc_region ?_))))))
    refine vy (y_ia (k := j) rfl rfl underlying23 sizeOf63 rfl (by omega)) ?_
    refine vy (y_ldca (dcL x) rfl isAgg63 sizeOf63 rfl (fun i v hi => st.chg.cell (hc i v hi) (by simp))) ?_
    refine vc_e (e_al (l := [_, _, _]) st rfl rfl zeroValue63 rfl ?_)
    intro b6 w hb6 st
    first
    | refine vc_e (e_sts (vs := [_, _, _]) st 0 rfl rfl rfl rfl rfl sizeOf63 rfl rfl (by (right; assumption)) ?_)
    intro w st; dsimp only [setNth, wr] at st
    refine vc_end (vq_then (vk5 1 6 7 8 9 (vc_seq (vc_region ?_))))
    refine vy (y_fa0 rfl underlying63 rfl rfl sizeOf9 rfl) ?_
    refine yl st 0 isAgg9 ?_
    refine vc_e (e_call [_] rfl rfl call52 rfl (name_any _ _) ?_)
    rintro _ _ ⟨rfl, rfl⟩
    refine vy (y_not rfl) ?_
    refine vmb ?_ ?_
    · intro hg17
      try simp only [dn] at hg17
      iterate 6 refine vsk ?_
      refine ypt ?_
      refine ym ?_
      iterate 7 refine vsk ?_
      refine ypt ?_
      refine vc_end (vq_then (vk5 1 7 8 9 33 ?_))
      refine vc_ift rfl ?_
      refine vc_seq (vc_region ?_)
      refine ya ?_
      refine vc_end (vq_then (vk1 4 (vc_ret (vq_block_ret (vq_then_ret (vq_then_ret (vq_block_ret (vq_then_ret ?_))))))))
      refine vq_ret1 st (.inl rfl) results92 (.tmp rfl) ?_
      refine ⟨_, rfl, ?_⟩
      refine ⟨?_, st.chg⟩
      (rw [all_no' (p := dcOk b) hx (by clear st hc hg hD; unfold dcOk; cases b <;> simp_all)])
    · intro hg17
      try simp only [dn] at hg17
      refine ym ?_
      refine vmb ?_ ?_
      · intro hg19
        try simp only [dn] at hg19
        refine yfz 1 underlying63 sizeOf2 ?_
        refine yl st 0 isAgg2 ?_
        refine vy (y_eqi rfl rfl) ?_
        refine ypt ?_
        refine ypf ?_
        refine vmb ?_ ?_
        · intro hg25
          try simp only [dn] at hg25
          iterate 7 refine vsk ?_
          refine ypt ?_
          refine vc_end (vq_then (vk5 1 7 8 9 33 ?_))
          refine vc_ift rfl ?_
          refine vc_seq (vc_region ?_)
          refine ya ?_
          refine vc_end (vq_then (vk1 4 (vc_ret (vq_block_ret (vq_then_ret (vq_then_ret (vq_block_ret (vq_then_ret ?_))))))))
          refine vq_ret1 st (.inl rfl) results92 (.tmp rfl) ?_
          refine ⟨_, rfl, ?_⟩
          refine ⟨?_, st.chg⟩
          (rw [all_no' (p := dcOk b) hx (by clear st hc hg hD; unfold dcOk; cases b <;> simp_all)])
        · intro hg25
          try simp only [dn] at hg25
          refine ym ?_
          refine vy (y_not rfl) ?_
          refine vmb ?_ ?_
          · intro hg28
            try simp only [dn] at hg28
            refine yfz 1 underlying63 sizeOf2 ?_
            refine yl st 0 isAgg2 ?_
            refine vy (y_nei rfl rfl) ?_
            refine ypt ?_
            refine ypf ?_
            refine vc_end (vq_then (vk5 1 7 8 9 33 ?_))
            refine vc_ifs rfl ?_ ?_
            · intro hc33
              try simp only [dn] at hc33
              refine vc_seq (vc_region ?_)
              refine ya ?_
              refine vc_end (vq_then (vk1 4 (vc_ret (vq_block_ret (vq_then_ret (vq_then_ret (vq_block_ret (vq_then_ret ?_))))))))
              refine vq_ret1 st (.inl rfl) results92 (.tmp rfl) ?_
              refine ⟨_, rfl, ?_⟩
              refine ⟨?_, st.chg⟩
              (rw [all_no' (p := dcOk b) hx (by clear st hc hg hD; unfold dcOk; cases b <;> simp_all)])
            · intro hc33
              try simp only [dn] at hc33
              refine vc_code_skip (vq_block (vq_then (vk4 1 7 8 9 (vc_region ?_))))
              refine vy (y_add rfl rfl (by omega : _ = ((j + 1 : Nat) : Int)) (by omega) (by omega)) ?_
              refine ym ?_
              refine vc_end ?_
              refine vq_again (j + 1)  ⟨rfl, rfl, rfl, rfl, trivial⟩ (st.dr) ?_ ?_
              · exact ⟨by omega, all_take' hall hx (by clear st hc hg hD; unfold dcOk; cases b <;> simp_all)⟩
              · omega
          · intro hg28
            try simp only [dn] at hg28
            iterate 3 refine vsk ?_
            iterate 2 refine ypf ?_
            refine vc_end (vq_then (vk5 1 7 8 9 33 ?_))
            refine vc_iff rfl ?_
            refine vc_code_skip (vq_block (vq_then (vk4 1 7 8 9 (vc_region ?_))))
            refine vy (y_add rfl rfl (by omega : _ = ((j + 1 : Nat) : Int)) (by omega) (by omega)) ?_
            refine ym ?_
            refine vc_end ?_
            refine vq_again (j + 1)  ⟨rfl, rfl, rfl, rfl, trivial⟩ (st.dr) ?_ ?_
            · exact ⟨by omega, all_take' hall hx (by clear st hc hg hD; unfold dcOk; cases b <;> simp_all)⟩
            · omega
      · intro hg19
        try simp only [dn] at hg19
        iterate 3 refine vsk ?_
        iterate 2 refine ypf ?_
        iterate 2 refine ym ?_
        refine vy (y_not rfl) ?_
        refine vmb ?_ ?_
        · intro hg28
          try simp only [dn] at hg28
          refine yfz 1 underlying63 sizeOf2 ?_
          refine yl st 0 isAgg2 ?_
          refine vy (y_nei rfl rfl) ?_
          refine ypt ?_
          refine ypf ?_
          refine vc_end (vq_then (vk5 1 7 8 9 33 ?_))
          refine vc_ifs rfl ?_ ?_
          · intro hc33
            try simp only [dn] at hc33
            refine vc_seq (vc_region ?_)
            refine ya ?_
            refine vc_end (vq_then (vk1 4 (vc_ret (vq_block_ret (vq_then_ret (vq_then_ret (vq_block_ret (vq_then_ret ?_))))))))
            refine vq_ret1 st (.inl rfl) results92 (.tmp rfl) ?_
            refine ⟨_, rfl, ?_⟩
            refine ⟨?_, st.chg⟩
            (rw [all_no' (p := dcOk b) hx (by clear st hc hg hD; unfold dcOk; cases b <;> simp_all)])
          · intro hc33
            try simp only [dn] at hc33
            refine vc_code_skip (vq_block (vq_then (vk4 1 7 8 9 (vc_region ?_))))
            refine vy (y_add rfl rfl (by omega : _ = ((j + 1 : Nat) : Int)) (by omega) (by omega)) ?_
            refine ym ?_
            refine vc_end ?_
            refine vq_again (j + 1)  ⟨rfl, rfl, rfl, rfl, trivial⟩ (st.dr) ?_ ?_
            · exact ⟨by omega, all_take' hall hx (by clear st hc hg hD; unfold dcOk; cases b <;> simp_all)⟩
            · omega
        · intro hg28
          try simp only [dn] at hg28
          iterate 3 refine vsk ?_
          iterate 2 refine ypf ?_
          refine vc_end (vq_then (vk5 1 7 8 9 33 ?_))
          refine vc_iff rfl ?_
          refine vc_code_skip (vq_block (vq_then (vk4 1 7 8 9 (vc_region ?_))))
          refine vy (y_add rfl rfl (by omega : _ = ((j + 1 : Nat) : Int)) (by omega) (by omega)) ?_
          refine ym ?_
          refine vc_end ?_
          refine vq_again (j + 1)  ⟨rfl, rfl, rfl, rfl, trivial⟩ (st.dr) ?_ ?_
          · exact ⟨by omega, all_take' hall hx (by clear st hc hg hD; unfold dcOk; cases b <;> simp_all)⟩
          · omega
  · intro hc10
    try simp only [dn] at hc10
    refine vc_exit (vq_then_exit (vq_then_exit (vq_block_exit (vq_then (vc_keep [] trivial (vc_seq (vc_region ?_)))))))
    refine ya ?_
    refine vc_end (vq_then (vk1 4 (vc_ret ?_)))
    refine vq_ret1 st (.inl rfl) results92 (.tmp rfl) ?_
    refine ⟨_, rfl, ?_⟩
    refine ⟨?_, st.chg⟩
    rw [all_end hall (by omega)]

theorem namedk_any (l : List UInt8) (b : Bool) (w : World) : Ret Tryz.prog 149 [str l, .bool b] w fun v w' => v = .bool (nmOk b l) ∧ w' = w := named_any l b w

theorem shapes_any (k : Int) (hk : u8 k) (w : World) : Ret Tryz.prog 148 [.int .u8 k] w fun v w' => v = .tuple #[.agg (shpL k).toArray, .bool (decide (1 ≤ k ∧ k ≤ 7))] ∧ Chg [] w w' := by
  refine ret_of [_] func148 rfl ntmps148 rfl ?_
  have st := St.init w []
  refine vc_seq (vc_region ?_)
  refine vc_e (e_al (l := [_, _, _, _, _]) st rfl rfl zeroValue187 rfl ?_)
  intro b2 w hb2 st
  refine ya ?_
  refine vc_end (vq_then (vk2 0 2 (vc_seq (vc_region ?_))))
  refine vy (y_bld (.agg #[_, _, _, _, _]) [(0, _), (2, _)] rfl (fun w => by simp [Instr.build, go_sem] <;> repeat' constructor)) ?_
  refine vy (y_bld (.agg #[_, _, _, _, _]) [(0, _), (1, _), (2, _)] rfl (fun w => by simp [Instr.build, go_sem] <;> repeat' constructor)) ?_
  refine vy (y_bld (.agg #[_, _, _, _, _]) [(2, _), (3, _), (4, _)] rfl (fun w => by simp [Instr.build, go_sem] <;> repeat' constructor)) ?_
  refine vy (y_bld (.agg #[_, _, _, _, _]) [(2, _), (3, _)] rfl (fun w => by simp [Instr.build, go_sem] <;> repeat' constructor)) ?_
  refine vy (y_bld (.agg #[_, _, _, _, _]) [(0, _), (3, _)] rfl (fun w => by simp [Instr.build, go_sem] <;> repeat' constructor)) ?_
  refine vy (y_bld (.agg #[_, _, _, _, _]) [(2, _)] rfl (fun w => by simp [Instr.build, go_sem] <;> repeat' constructor)) ?_
  refine vy (y_bld (.agg #[_, _, _, _, _]) [] rfl (fun w => by simp [Instr.build, go_sem] <;> repeat' constructor)) ?_
  refine vy (y_bld (.agg #[_, _, _, _, _, _, _, _, _, _, _, _, _, _, _, _, _, _, _, _, _, _, _, _, _, _, _, _, _, _, _, _, _, _, _, _, _, _, _, _]) [(1, _), (2, _), (3, _), (4, _), (5, _), (6, _), (7, _)] rfl (fun w => by simp [Instr.build, go_sem] <;> repeat' constructor)) ?_
  refine vc_e (e_al (l := [_, _, _, _, _, _, _, _, _, _, _, _, _, _, _, _, _, _, _, _, _, _, _, _, _, _, _, _, _, _, _, _, _, _, _, _, _, _, _, _]) st rfl rfl zeroValue221 rfl ?_)
  intro b4 w hb4 st
  refine vc_e (e_sts (vs := [_, _, _, _, _, _, _, _, _, _, _, _, _, _, _, _, _, _, _, _, _, _, _, _, _, _, _, _, _, _, _, _, _, _, _, _, _, _, _, _]) st 0 rfl rfl rfl rfl rfl sizeOf221 rfl rfl (by (right; assumption)) ?_)
  intro w st; dsimp only [setNth, wr] at st
  refine vc_end (vq_then (vk3 0 2 4 (vc_seq (vc_seq (vc_region ?_)))))
  refine ym ?_
  refine vy (y_eqi rfl rfl) ?_
  refine vmb ?_ ?_
  · intro hg15
    try simp only [dn] at hg15
    iterate 3 refine vsk ?_
    refine ypt ?_
    refine vc_end (vq_then (vk4 0 2 4 19 ?_))
    refine vc_ift rfl ?_
    refine vc_seq (vc_region ?_)
    refine vy (y_bld (.agg #[_, _, _, _, _]) [] rfl (fun w => by simp [Instr.build, go_sem] <;> repeat' constructor)) ?_
    refine vc_e (e_sts (vs := [_, _, _, _, _]) st 1 rfl rfl rfl rfl rfl sizeOf187 rfl rfl (by (right; assumption)) ?_)
    intro w st; dsimp only [setNth, wr] at st
    refine ya ?_
    refine vc_end (vq_then (vk2 2 3 (vc_ret (vq_then_ret ?_))))
    refine vq_ret2 st (.inl rfl) results148 (by exact .cell 1 rfl rfl isAgg187 sizeOf187) (.tmp rfl) ?_
    refine ⟨_, rfl, ?_⟩
    refine ⟨?_, st.chg⟩
    have e1 : hasN k = false := by unfold hasN; simp; omega
    have e2 : decide (k = 2) = false := by simp; omega
    have e3 : hasE k = false := by unfold hasE; simp; omega
    have e4 : hasB k = false := by unfold hasB; simp; omega
    have e5 : decide (k = 3) = false := by simp; omega
    have e6 : decide (1 ≤ k ∧ k ≤ 7) = false := by simp; omega
    simp only [shpL, e1, e2, e3, e4, e5, e6]
  · intro hg15
    try simp only [dn] at hg15
    refine ym ?_
    refine vy (y_cvi rfl underlying3 underlying64 (wrap_i64 k (by have h1 := hk.1; have h2 := hk.2; omega) : _ = k)) ?_
    refine vy (y_geq rfl rfl) ?_
    refine ypf ?_
    refine vc_end (vq_then (vk4 0 2 4 19 ?_))
    refine vc_ifs rfl ?_ ?_
    · intro hc19
      try simp only [dn] at hc19
      refine vc_seq (vc_region ?_)
      refine vy (y_bld (.agg #[_, _, _, _, _]) [] rfl (fun w => by simp [Instr.build, go_sem] <;> repeat' constructor)) ?_
      refine vc_e (e_sts (vs := [_, _, _, _, _]) st 1 rfl rfl rfl rfl rfl sizeOf187 rfl rfl (by (right; assumption)) ?_)
      intro w st; dsimp only [setNth, wr] at st
      refine ya ?_
      refine vc_end (vq_then (vk2 2 3 (vc_ret (vq_then_ret ?_))))
      refine vq_ret2 st (.inl rfl) results148 (by exact .cell 1 rfl rfl isAgg187 sizeOf187) (.tmp rfl) ?_
      refine ⟨_, rfl, ?_⟩
      refine ⟨?_, st.chg⟩
      have e1 : hasN k = false := by unfold hasN; simp; omega
      have e2 : decide (k = 2) = false := by simp; omega
      have e3 : hasE k = false := by unfold hasE; simp; omega
      have e4 : hasB k = false := by unfold hasB; simp; omega
      have e5 : decide (k = 3) = false := by simp; omega
      have e6 : decide (1 ≤ k ∧ k ≤ 7) = false := by simp; omega
      simp only [shpL, e1, e2, e3, e4, e5, e6]
    · intro hc19
      try simp only [dn] at hc19
      refine vc_code_skip (vq_then (vk3 0 2 4 (vc_seq (vc_region ?_))))
      obtain ⟨m, rfl⟩ : ∃ m : Nat, k = (m : Int) := ⟨k.toNat, by have := hk.1; omega⟩
      refine ym ?_
      refine vy (y_iaa (k := m) rfl rfl underlying221 sizeOf187 rfl (by omega)) ?_
      have hq := tab_at (m := m) (st.res (i := 0) rfl) (by omega)
      refine vy (y_ldca (shpL m) rfl isAgg187 sizeOf187 rfl (tab_at (st.res (i := 0) rfl) (by omega))) ?_
      refine vc_e (e_sts (vs := [_, _, _, _, _]) st 1 rfl rfl rfl rfl rfl sizeOf187 rfl rfl (by (right; assumption)) ?_)
      intro w st; dsimp only [setNth, wr] at st
      refine ya ?_
      refine vc_end (vq_then (vk2 2 3 (vc_ret ?_)))
      refine vq_ret2 st (.inl rfl) results148 (by exact .cell 1 rfl rfl isAgg187 sizeOf187) (.tmp rfl) ?_
      refine ⟨_, rfl, ?_⟩
      refine ⟨?_, st.chg⟩
      have e6 : decide (1 ≤ (m : Int) ∧ (m : Int) ≤ 7) = true := by simp; omega
      rw [e6]

set_option maxHeartbeats 4000000 in
theorem stmts_any : ∀ (n : Nat) (ss : List Sm), szo ss = n → ∀ (d : Nat), d ≤ 65 → (ss.length = 0 ∨ d ≤ 64) → ∀ (oa : Option Addr) (cap : Nat) (w : World), SmRow w S oa ss → OkSs ss → Sig w → Ret Tryz.prog 93 [.slice oa ss.length cap, .int .i64 (d : Int)] w fun v w' => v = .bool (rightSs ss d) ∧ Chg [] w w' := by
  intro n
  refine Nat.strongRecOn n fun n ih => ?_
  intro ss hn d hd0 hd oa cap w hr hok hsg
  subst hn
  have hssl := hok.1
  refine ret_of [_, _] func93 rfl ntmps93 rfl ?_
  have st := St.init w []
  obtain ⟨w0, rfl⟩ : ∃ w0, w0 = w := ⟨_, rfl⟩
  refine vc_seq (vc_region ?_)
  refine ya ?_
  refine vc_end (vq_then (vk2 0 1 (vc_seq (vc_seq (vc_region ?_)))))
  refine ym ?_
  refine vy (y_lensl rfl underlying65) ?_
  refine ym ?_
  refine vc_end (vq_then (vk4 1 9 10 11 (vc_block ?_)))
  refine vc_loop (w0 := w0) (M := []) (fun (j : Nat) => [(1, .int .i64 (d : Int)), (9, .slice oa ss.length cap), (10, .int .i64 (ss.length : Int)), (11, .int .i64 (j : Int))]) (fun _ => []) (fun j _ => j ≤ ss.length ∧ (ss.take j).all (rightS · d) = true) (fun j => ss.length - j) 0 ⟨rfl, rfl, rfl, rfl, trivial⟩ st ⟨by omega, by simp⟩ ?_
  rintro j w ⟨hj, hall⟩ st
  refine vc_seq (vc_region ?_)
  refine vy (y_lss rfl rfl) ?_
  refine vc_end (vq_then (vk5 1 9 10 11 12 (vc_seq ?_)))
  refine vc_ifs rfl ?_ ?_
  · intro hc12
    try simp only [dn] at hc12
    obtain ⟨s, hsj⟩ : ∃ s, ss[j]? = some s := ⟨_, List.getElem?_eq_getElem (by omega)⟩
    obtain ⟨gb, go, rfl, hgS, hgl, hg⟩ := SmRow.at hr (by omega)
    obtain ⟨oe, ob, ol, ce, cb, cl, hsV, hse, hsb, hsl, hc⟩ := hg j s hsj
    have hks := hok.2 j s hsj
    have hz := mem_size hsj
    have hB : szo s.body < szo ss := by have := (sm_kids s).1; omega
    have hL : szo s.els < szo ss := by have := (sm_kids s).2; omega
    have hd64 : d ≤ 64 := by omega
    refine vc_code_skip (vq_then (vk4 1 9 10 11 (vc_seq (vc_block (vc_seq (vc_region ?_))))))
    refine vy (y_ia (k := j) rfl rfl underlying65 sizeOf67 rfl (by omega)) ?_
    refine vy (y_ldca (smL s oe ob ol ce cb cl) rfl isAgg67 sizeOf67 rfl (fun i v hi => st.chg.cell (hc i v hi) (by simp))) ?_
    refine vc_e (e_al (l := [_, _, _, _, _, _, _]) st rfl rfl zeroValue67 rfl ?_)
    intro b6 w hb6 st
    refine vc_e (e_sts (vs := [_, _, _, _, _, _, _]) st 0 rfl rfl rfl rfl rfl sizeOf67 rfl rfl (by (right; assumption)) ?_)
    intro w st; dsimp only [setNth, wr] at st
    refine vc_end (vq_then (vk5 1 6 9 10 11 (vc_seq (vc_region ?_))))
    refine vy (y_fa0 rfl underlying67 rfl rfl sizeOf64 rfl) ?_
    refine yl st 0 isAgg64 ?_
    refine vc_e (e_call [_] rfl rfl call148 rfl (shapes_any s.k hks.k _) ?_)
    rintro _ w ⟨rfl, cw⟩
    replace st := st.call0 cw
    refine ym ?_
    iterate 2 refine vy (y_ext rfl rfl) ?_
    refine vc_e (e_al (l := [_, _, _, _, _]) st rfl rfl zeroValue187 rfl ?_)
    intro b7 w hb7 st
    refine vc_e (e_sts (vs := [_, _, _, _, _]) st 0 rfl rfl rfl rfl rfl sizeOf187 rfl rfl (by (right; assumption)) ?_)
    intro w st; dsimp only [setNth, wr] at st
    refine ya ?_
    refine vc_end (vq_then (vk7 1 6 7 8 9 10 11 ?_))
    refine vc_cut (w0 := w0) (M := []) (fun (_ : Unit) => [(1, .int .i64 (d : Int)), (6, .pointer (some ⟨b6, 0, none⟩)), (7, .pointer (some ⟨b7, 0, none⟩)), (9, .slice (some ⟨gb, go, none⟩) ss.length cap), (10, .int .i64 (ss.length : Int)), (11, .int .i64 (j : Int))]) (fun _ => [.blk b7 (.cells (shpL s.k).toArray 187 (0, 0)), .blk b6 (.cells (smL s oe ob ol ce cb cl).toArray 67 (0, 0))]) (fun _ _ => (1 ≤ s.k ∧ s.k ≤ 7) ∧ nmOk (hasN s.k) s.nm = true ∧ nmOk (decide (s.k = 2)) s.other = true ∧ (hasB s.k = true ∨ s.body.length = 0) ∧ (s.k = 3 ∨ s.els.length = 0)) ?_ ?_
    ·
      refine vc_seq (vc_region ?_)
      refine ym ?_
      refine vy (y_not rfl) ?_
      refine vmb ?_ ?_
      · intro hg23
        try simp only [dn] at hg23
        iterate 6 refine vsk ?_
        refine ypt ?_
        refine ym ?_
        iterate 6 refine vsk ?_
        refine ypt ?_
        refine ym ?_
        iterate 9 refine vsk ?_
        refine ypt ?_
        refine ym ?_
        iterate 9 refine vsk ?_
        refine ypt ?_
        refine vc_end (vq_then (vk7 1 6 7 9 10 11 60 ?_))
        refine vc_ift rfl ?_
        refine vc_seq (vc_region ?_)
        refine ya ?_
        refine vc_end (vq_then (vk1 4 (vc_ret (vq_then_ret (vq_block_ret (vq_then_ret (vq_then_ret (vq_block_ret (vq_then_ret ?_)))))))))
        refine vq_ret1 st (.inl rfl) results93 (.tmp rfl) ?_
        refine ⟨_, rfl, ?_⟩
        refine ⟨?_, st.chg⟩
        first
          | (refine rightS_no hsj fun hR => ?_
             obtain ⟨r1, r2, r3, r4, r5, r6, r7, r8, r9⟩ := rightS_iff.1 hR
             clear st hsV hse hsb hsl hc hg hr ih hok hks hall
             omega)
      · intro hg23
        try simp only [dn] at hg23
        refine yfz 1 underlying67 sizeOf9 ?_
        refine yl st 1 isAgg9 ?_
        refine vy (y_fa0 rfl underlying187 rfl rfl sizeOf4 rfl) ?_
        refine yl st 0 isAgg4 ?_
        refine vc_e (e_call [_, _] rfl rfl call149 rfl (namedk_any _ _ _) ?_)
        rintro _ _ ⟨rfl, rfl⟩
        refine vy (y_not rfl) ?_
        refine ypf ?_
        refine vmb ?_ ?_
        · intro hg31
          try simp only [dn] at hg31
          iterate 6 refine vsk ?_
          refine ypt ?_
          refine ym ?_
          iterate 9 refine vsk ?_
          refine ypt ?_
          refine ym ?_
          iterate 9 refine vsk ?_
          refine ypt ?_
          refine vc_end (vq_then (vk7 1 6 7 9 10 11 60 ?_))
          refine vc_ift rfl ?_
          refine vc_seq (vc_region ?_)
          refine ya ?_
          refine vc_end (vq_then (vk1 4 (vc_ret (vq_then_ret (vq_block_ret (vq_then_ret (vq_then_ret (vq_block_ret (vq_then_ret ?_)))))))))
          refine vq_ret1 st (.inl rfl) results93 (.tmp rfl) ?_
          refine ⟨_, rfl, ?_⟩
          refine ⟨?_, st.chg⟩
          first
            | (refine rightS_no hsj fun hR => ?_
               obtain ⟨r1, r2, r3, r4, r5, r6, r7, r8, r9⟩ := rightS_iff.1 hR
               clear st hsV hse hsb hsl hc hg hr ih hok hks hall
               (simp_all; done))
        · intro hg31
          try simp only [dn] at hg31
          refine yfz 2 underlying67 sizeOf9 ?_
          refine yl st 1 isAgg9 ?_
          refine yfz 1 underlying187 sizeOf4 ?_
          refine yl st 0 isAgg4 ?_
          refine vc_e (e_call [_, _] rfl rfl call149 rfl (namedk_any _ _ _) ?_)
          rintro _ _ ⟨rfl, rfl⟩
          refine vy (y_not rfl) ?_
          refine ypf ?_
          refine vmb ?_ ?_
          · intro hg39
            try simp only [dn] at hg39
            iterate 9 refine vsk ?_
            refine ypt ?_
            refine ym ?_
            iterate 9 refine vsk ?_
            refine ypt ?_
            refine vc_end (vq_then (vk7 1 6 7 9 10 11 60 ?_))
            refine vc_ift rfl ?_
            refine vc_seq (vc_region ?_)
            refine ya ?_
            refine vc_end (vq_then (vk1 4 (vc_ret (vq_then_ret (vq_block_ret (vq_then_ret (vq_then_ret (vq_block_ret (vq_then_ret ?_)))))))))
            refine vq_ret1 st (.inl rfl) results93 (.tmp rfl) ?_
            refine ⟨_, rfl, ?_⟩
            refine ⟨?_, st.chg⟩
            first
              | (refine rightS_no hsj fun hR => ?_
                 obtain ⟨r1, r2, r3, r4, r5, r6, r7, r8, r9⟩ := rightS_iff.1 hR
                 clear st hsV hse hsb hsl hc hg hr ih hok hks hall
                 (simp_all; done))
          · intro hg39
            try simp only [dn] at hg39
            refine yfz 3 underlying187 sizeOf4 ?_
            refine yl st 0 isAgg4 ?_
            refine vy (y_not rfl) ?_
            refine vmb ?_ ?_
            · intro hg43
              try simp only [dn] at hg43
              refine yfz 4 underlying67 sizeOf65 ?_
              refine yl st 1 isAgg65 ?_
              refine vy (y_lensl rfl underlying65) ?_
              refine vy (y_gtr rfl rfl) ?_
              refine ypt ?_
              refine ypf ?_
              refine vmb ?_ ?_
              · intro hg50
                try simp only [dn] at hg50
                iterate 9 refine vsk ?_
                refine ypt ?_
                refine vc_end (vq_then (vk7 1 6 7 9 10 11 60 ?_))
                refine vc_ift rfl ?_
                refine vc_seq (vc_region ?_)
                refine ya ?_
                refine vc_end (vq_then (vk1 4 (vc_ret (vq_then_ret (vq_block_ret (vq_then_ret (vq_then_ret (vq_block_ret (vq_then_ret ?_)))))))))
                refine vq_ret1 st (.inl rfl) results93 (.tmp rfl) ?_
                refine ⟨_, rfl, ?_⟩
                refine ⟨?_, st.chg⟩
                first
                  | (refine rightS_no hsj fun hR => ?_
                     obtain ⟨r1, r2, r3, r4, r5, r6, r7, r8, r9⟩ := rightS_iff.1 hR
                     clear st hsV hse hsb hsl hc hg hr ih hok hks hall
                     (simp_all; done))
              · intro hg50
                try simp only [dn] at hg50
                refine yfz 4 underlying187 sizeOf4 ?_
                refine yl st 0 isAgg4 ?_
                refine vy (y_not rfl) ?_
                refine vmb ?_ ?_
                · intro hg54
                  try simp only [dn] at hg54
                  refine yfz 5 underlying67 sizeOf65 ?_
                  refine yl st 1 isAgg65 ?_
                  refine vy (y_lensl rfl underlying65) ?_
                  refine vy (y_gtr rfl rfl) ?_
                  refine ypt ?_
                  refine ypf ?_
                  refine vc_end (vq_then (vk7 1 6 7 9 10 11 60 ?_))
                  refine vc_ifs rfl ?_ ?_
                  · intro hc60
                    try simp only [dn] at hc60
                    refine vc_seq (vc_region ?_)
                    refine ya ?_
                    refine vc_end (vq_then (vk1 4 (vc_ret (vq_then_ret (vq_block_ret (vq_then_ret (vq_then_ret (vq_block_ret (vq_then_ret ?_)))))))))
                    refine vq_ret1 st (.inl rfl) results93 (.tmp rfl) ?_
                    refine ⟨_, rfl, ?_⟩
                    refine ⟨?_, st.chg⟩
                    first
                      | (refine rightS_no hsj fun hR => ?_
                         obtain ⟨r1, r2, r3, r4, r5, r6, r7, r8, r9⟩ := rightS_iff.1 hR
                         clear st hsV hse hsb hsl hc hg hr ih hok hks hall
                         omega)
                  · intro hc60
                    try simp only [dn] at hc60
                    refine vc_code_skip ?_
                    refine vq_meet () ⟨rfl, rfl, rfl, rfl, rfl, rfl, trivial⟩ st ?_
                    · refine ⟨by assumption, by assumption, by assumption, ?_, ?_⟩ <;> (right; omega)
                · intro hg54
                  try simp only [dn] at hg54
                  iterate 4 refine vsk ?_
                  iterate 2 refine ypf ?_
                  refine vc_end (vq_then (vk7 1 6 7 9 10 11 60 ?_))
                  refine vc_iff rfl ?_
                  refine vc_code_skip ?_
                  refine vq_meet () ⟨rfl, rfl, rfl, rfl, rfl, rfl, trivial⟩ st ?_
                  · refine ⟨by assumption, by assumption, by assumption, ?_, ?_⟩ <;> first | (left; assumption) | (right; omega)
            · intro hg43
              try simp only [dn] at hg43
              iterate 4 refine vsk ?_
              iterate 2 refine ypf ?_
              refine ym ?_
              refine yfz 4 underlying187 sizeOf4 ?_
              refine yl st 0 isAgg4 ?_
              refine vy (y_not rfl) ?_
              refine vmb ?_ ?_
              · intro hg54
                try simp only [dn] at hg54
                refine yfz 5 underlying67 sizeOf65 ?_
                refine yl st 1 isAgg65 ?_
                refine vy (y_lensl rfl underlying65) ?_
                refine vy (y_gtr rfl rfl) ?_
                refine ypt ?_
                refine ypf ?_
                refine vc_end (vq_then (vk7 1 6 7 9 10 11 60 ?_))
                refine vc_ifs rfl ?_ ?_
                · intro hc60
                  try simp only [dn] at hc60
                  refine vc_seq (vc_region ?_)
                  refine ya ?_
                  refine vc_end (vq_then (vk1 4 (vc_ret (vq_then_ret (vq_block_ret (vq_then_ret (vq_then_ret (vq_block_ret (vq_then_ret ?_)))))))))
                  refine vq_ret1 st (.inl rfl) results93 (.tmp rfl) ?_
                  refine ⟨_, rfl, ?_⟩
                  refine ⟨?_, st.chg⟩
                  first
                    | (refine rightS_no hsj fun hR => ?_
                       obtain ⟨r1, r2, r3, r4, r5, r6, r7, r8, r9⟩ := rightS_iff.1 hR
                       clear st hsV hse hsb hsl hc hg hr ih hok hks hall
                       omega)
                · intro hc60
                  try simp only [dn] at hc60
                  refine vc_code_skip ?_
                  refine vq_meet () ⟨rfl, rfl, rfl, rfl, rfl, rfl, trivial⟩ st ?_
                  · refine ⟨by assumption, by assumption, by assumption, ?_, ?_⟩ <;> first | (left; assumption) | (right; omega)
              · intro hg54
                try simp only [dn] at hg54
                iterate 4 refine vsk ?_
                iterate 2 refine ypf ?_
                refine vc_end (vq_then (vk7 1 6 7 9 10 11 60 ?_))
                refine vc_iff rfl ?_
                refine vc_code_skip ?_
                refine vq_meet () ⟨rfl, rfl, rfl, rfl, rfl, rfl, trivial⟩ st ?_
                · refine ⟨by assumption, by assumption, by assumption, ?_, ?_⟩ <;> (left; assumption)
    ·
      clear st
      rintro ⟨⟩ w ⟨hA1, hA2, hA3, hA4, hA5⟩ st
      refine vc_cut (w0 := w0) (M := []) (fun (_ : Unit) => [(1, .int .i64 (d : Int)), (6, .pointer (some ⟨b6, 0, none⟩)), (7, .pointer (some ⟨b7, 0, none⟩)), (9, .slice (some ⟨gb, go, none⟩) ss.length cap), (10, .int .i64 (ss.length : Int)), (11, .int .i64 (j : Int))]) (fun _ => [.blk b7 (.cells (shpL s.k).toArray 187 (0, 0)), .blk b6 (.cells (smL s oe ob ol ce cb cl).toArray 67 (0, 0))]) (fun _ _ => rightX (hasE s.k) s.e = true) ?_ ?_
      ·
        refine vc_seq (vc_region ?_)
        refine yfz 2 underlying187 sizeOf4 ?_
        refine yl st 0 isAgg4 ?_
        refine vmb ?_ ?_
        · intro hg63
          try simp only [dn] at hg63
          refine yfz 3 underlying67 sizeOf40 ?_
          refine yl st 1 isAgg40 ?_
          refine vy (y_lensl rfl underlying40) ?_
          refine vy (y_nei rfl rfl) ?_
          refine vmb ?_ ?_
          · intro hg68
            try simp only [dn] at hg68
            iterate 6 refine vsk ?_
            iterate 2 refine ypt ?_
            refine ym ?_
            iterate 9 refine vsk ?_
            refine ypt ?_
            refine vc_end (vq_then (vk7 1 6 7 9 10 11 87 ?_))
            refine vc_ift rfl ?_
            refine vc_seq (vc_region ?_)
            refine ya ?_
            refine vc_end (vq_then (vk1 4 (vc_ret (vq_then_ret (vq_block_ret (vq_then_ret (vq_then_ret (vq_block_ret (vq_then_ret ?_)))))))))
            refine vq_ret1 st (.inl rfl) results93 (.tmp rfl) ?_
            refine ⟨_, rfl, ?_⟩
            refine ⟨?_, st.chg⟩
            first
              | (refine rightS_no hsj fun hR => ?_
                 obtain ⟨r1, r2, r3, r4, r5, r6, r7, r8, r9⟩ := rightS_iff.1 hR
                 clear st hsV hse hsb hsl hc hg hr ih hok hks hall
                 first
                   | (have hE : hasE s.k = true := by assumption
                      rw [hE] at r4
                      (rw [rightX_n (by omega)] at r4; cases r4)))
          · intro hg68
            try simp only [dn] at hg68
            obtain ⟨x, hx⟩ := get0 (l := s.e) (n := s.e.length) rfl (by omega)
            obtain ⟨eb, eo, rfl, heS, hel, heg⟩ := ExRow.at hse (by omega)
            obtain ⟨o0, c0, hV0, hr0, hc0⟩ := heg 0 x hx
            refine yfz 3 underlying67 sizeOf40 ?_
            refine yl st 1 isAgg40 ?_
            refine vy (y_ia (k := 0) rfl rfl underlying40 sizeOf42 rfl (by omega)) ?_
            refine vy (y_ldca (exL x o0 c0) rfl isAgg42 sizeOf42 rfl (fun i v hi => st.chg.cell (hc0 i v hi) (by simp))) ?_
            refine vc_e (e_call [_, _] rfl rfl call46 rfl (expr_any _ x rfl 0 (by omega) _ _ (hV0.kept (Same.of_nil st.chg)) (hsg.kept st.chg)) ?_)
            rintro _ w ⟨rfl, cw⟩
            replace st := st.call0 cw
            refine vy (y_not rfl) ?_
            refine ypf ?_
            refine ypt ?_
            refine vmb ?_ ?_
            · intro hg77
              try simp only [dn] at hg77
              iterate 9 refine vsk ?_
              refine ypt ?_
              refine vc_end (vq_then (vk7 1 6 7 9 10 11 87 ?_))
              refine vc_ift rfl ?_
              refine vc_seq (vc_region ?_)
              refine ya ?_
              refine vc_end (vq_then (vk1 4 (vc_ret (vq_then_ret (vq_block_ret (vq_then_ret (vq_then_ret (vq_block_ret (vq_then_ret ?_)))))))))
              refine vq_ret1 st (.inl rfl) results93 (.tmp rfl) ?_
              refine ⟨_, rfl, ?_⟩
              refine ⟨?_, st.chg⟩
              first
                | (refine rightS_no hsj fun hR => ?_
                   obtain ⟨r1, r2, r3, r4, r5, r6, r7, r8, r9⟩ := rightS_iff.1 hR
                   clear st hsV hse hsb hsl hc hg hr ih hok hks hall
                   first
                     | (have hE : hasE s.k = true := by assumption
                        rw [hE] at r4
                        (rw [rightX_t (by omega) hx] at r4; simp_all; done)))
            · intro hg77
              try simp only [dn] at hg77
              refine yfz 2 underlying187 sizeOf4 ?_
              refine yl st 0 isAgg4 ?_
              refine vy (y_not rfl) ?_
              refine vmb ?_ ?_
              · intro hg81
                try simp only [dn] at hg81
                refine yfz 3 underlying67 sizeOf40 ?_
                refine yl st 1 isAgg40 ?_
                refine vy (y_lensl rfl underlying40) ?_
                refine vy (y_gtr rfl rfl) ?_
                refine ypt ?_
                refine ypf ?_
                refine vc_end (vq_then (vk7 1 6 7 9 10 11 87 ?_))
                refine vc_ifs rfl ?_ ?_
                · intro hc87
                  try simp only [dn] at hc87
                  refine vc_seq (vc_region ?_)
                  refine ya ?_
                  refine vc_end (vq_then (vk1 4 (vc_ret (vq_then_ret (vq_block_ret (vq_then_ret (vq_then_ret (vq_block_ret (vq_then_ret ?_)))))))))
                  refine vq_ret1 st (.inl rfl) results93 (.tmp rfl) ?_
                  refine ⟨_, rfl, ?_⟩
                  refine ⟨?_, st.chg⟩
                  first
                    | (refine rightS_no hsj fun hR => ?_
                       obtain ⟨r1, r2, r3, r4, r5, r6, r7, r8, r9⟩ := rightS_iff.1 hR
                       clear st hsV hse hsb hsl hc hg hr ih hok hks hall
                       (simp_all; done))
                · intro hc87
                  try simp only [dn] at hc87
                  refine vc_code_skip ?_
                  refine vq_meet () ⟨rfl, rfl, rfl, rfl, rfl, rfl, trivial⟩ st ?_
                  · first
                      | (exfalso; have h1 : hasE s.k = true := by assumption
                         have h2 : hasE s.k = false := by assumption
                         rw [h1] at h2; cases h2)
              · intro hg81
                try simp only [dn] at hg81
                iterate 4 refine vsk ?_
                iterate 2 refine ypf ?_
                refine vc_end (vq_then (vk7 1 6 7 9 10 11 87 ?_))
                refine vc_iff rfl ?_
                refine vc_code_skip ?_
                refine vq_meet () ⟨rfl, rfl, rfl, rfl, rfl, rfl, trivial⟩ st ?_
                · first
                    | (have hE : hasE s.k = true := by assumption
                       rw [hE, rightX_t (by omega) hx]; assumption)
        · intro hg63
          try simp only [dn] at hg63
          iterate 12 refine vsk ?_
          refine ypf ?_
          refine ym ?_
          refine yfz 2 underlying187 sizeOf4 ?_
          refine yl st 0 isAgg4 ?_
          refine vy (y_not rfl) ?_
          refine vmb ?_ ?_
          · intro hg81
            try simp only [dn] at hg81
            refine yfz 3 underlying67 sizeOf40 ?_
            refine yl st 1 isAgg40 ?_
            refine vy (y_lensl rfl underlying40) ?_
            refine vy (y_gtr rfl rfl) ?_
            refine ypt ?_
            refine ypf ?_
            refine vc_end (vq_then (vk7 1 6 7 9 10 11 87 ?_))
            refine vc_ifs rfl ?_ ?_
            · intro hc87
              try simp only [dn] at hc87
              refine vc_seq (vc_region ?_)
              refine ya ?_
              refine vc_end (vq_then (vk1 4 (vc_ret (vq_then_ret (vq_block_ret (vq_then_ret (vq_then_ret (vq_block_ret (vq_then_ret ?_)))))))))
              refine vq_ret1 st (.inl rfl) results93 (.tmp rfl) ?_
              refine ⟨_, rfl, ?_⟩
              refine ⟨?_, st.chg⟩
              first
                | (refine rightS_no hsj fun hR => ?_
                   obtain ⟨r1, r2, r3, r4, r5, r6, r7, r8, r9⟩ := rightS_iff.1 hR
                   clear st hsV hse hsb hsl hc hg hr ih hok hks hall
                   first
                     | (have hE : hasE s.k = false := by assumption
                        rw [hE, rightX_f, decide_eq_true_eq] at r4; omega))
            · intro hc87
              try simp only [dn] at hc87
              refine vc_code_skip ?_
              refine vq_meet () ⟨rfl, rfl, rfl, rfl, rfl, rfl, trivial⟩ st ?_
              · first
                  | (have hE : hasE s.k = false := by assumption
                     rw [hE, rightX_f, decide_eq_true_eq]; omega)
          · intro hg81
            try simp only [dn] at hg81
            iterate 4 refine vsk ?_
            iterate 2 refine ypf ?_
            refine vc_end (vq_then (vk7 1 6 7 9 10 11 87 ?_))
            refine vc_iff rfl ?_
            refine vc_code_skip ?_
            refine vq_meet () ⟨rfl, rfl, rfl, rfl, rfl, rfl, trivial⟩ st ?_
            · first
                | (exfalso; have h1 : hasE s.k = true := by assumption
                   have h2 : hasE s.k = false := by assumption
                   rw [h1] at h2; cases h2)
      ·
        clear st
        rintro ⟨⟩ w hA6 st
        refine vc_seq (vc_region ?_)
        refine yfz 3 underlying187 sizeOf4 ?_
        refine yl st 0 isAgg4 ?_
        refine vmb ?_ ?_
        · intro hg90
          try simp only [dn] at hg90
          iterate 4 refine vsk ?_
          refine ypt ?_
          iterate 2 refine ym ?_
          refine vy (y_geq rfl rfl) ?_
          refine ypt ?_
          refine vmb ?_ ?_
          · intro hg100
            try simp only [dn] at hg100
            iterate 6 refine vsk ?_
            refine ypt ?_
            refine ym ?_
            iterate 6 refine vsk ?_
            refine ypt ?_
            refine vc_end (vq_then (vk5 1 9 10 11 115 ?_))
            refine vc_ift rfl ?_
            refine vc_seq (vc_region ?_)
            refine ya ?_
            refine vc_end (vq_then (vk1 4 (vc_ret (vq_block_ret (vq_then_ret (vq_then_ret (vq_block_ret (vq_then_ret ?_))))))))
            refine vq_ret1 st (.inl rfl) results93 (.tmp rfl) ?_
            refine ⟨_, rfl, ?_⟩
            refine ⟨?_, st.chg⟩
            first
              | (refine rightS_no hsj fun hR => ?_
                 obtain ⟨r1, r2, r3, r4, r5, r6, r7, r8, r9⟩ := rightS_iff.1 hR
                 clear st hsV hse hsb hsl hc hg hr ih hok hks hall
                 (simp_all; omega))
          · intro hg100
            try simp only [dn] at hg100
            refine yfz 4 underlying67 sizeOf65 ?_
            refine yl st 1 isAgg65 ?_
            refine ym ?_
            refine vy (y_add rfl rfl (by omega : _ = ((d + 1 : Nat) : Int)) (by omega) (by omega)) ?_
            refine vc_e (e_call [_, _] rfl rfl call93 rfl (ih (szo s.body) hB s.body rfl (d + 1) (by omega) (by (right; omega)) _ _ _ (hsb.kept (Same.of_nil st.chg)) hks.body (hsg.kept st.chg)) ?_)
            rintro _ w ⟨rfl, cw⟩
            replace st := st.call0 cw
            refine vy (y_not rfl) ?_
            refine ypf ?_
            refine vmb ?_ ?_
            · intro hg108
              try simp only [dn] at hg108
              iterate 6 refine vsk ?_
              refine ypt ?_
              refine vc_end (vq_then (vk5 1 9 10 11 115 ?_))
              refine vc_ift rfl ?_
              refine vc_seq (vc_region ?_)
              refine ya ?_
              refine vc_end (vq_then (vk1 4 (vc_ret (vq_block_ret (vq_then_ret (vq_then_ret (vq_block_ret (vq_then_ret ?_))))))))
              refine vq_ret1 st (.inl rfl) results93 (.tmp rfl) ?_
              refine ⟨_, rfl, ?_⟩
              refine ⟨?_, st.chg⟩
              first
                | (refine rightS_no hsj fun hR => ?_
                   obtain ⟨r1, r2, r3, r4, r5, r6, r7, r8, r9⟩ := rightS_iff.1 hR
                   clear st hsV hse hsb hsl hc hg hr ih hok hks hall
                   (simp_all; done))
            · intro hg108
              try simp only [dn] at hg108
              skip
              refine yfz 5 underlying67 sizeOf65 ?_
              refine yl st 1 isAgg65 ?_
              refine ym ?_
              refine vy (y_add rfl rfl (by omega : _ = ((d + 1 : Nat) : Int)) (by omega) (by omega)) ?_
              refine vc_e (e_call [_, _] rfl rfl call93 rfl (ih (szo s.els) hL s.els rfl (d + 1) (by omega) (by (right; omega)) _ _ _ (hsl.kept (Same.of_nil st.chg)) hks.els (hsg.kept st.chg)) ?_)
              rintro _ w ⟨rfl, cw⟩
              replace st := st.call0 cw
              refine vy (y_not rfl) ?_
              refine ypf ?_
              refine vc_end (vq_then (vk5 1 9 10 11 115 ?_))
              refine vc_ifs rfl ?_ ?_
              · intro hc115
                try simp only [dn] at hc115
                refine vc_seq (vc_region ?_)
                refine ya ?_
                refine vc_end (vq_then (vk1 4 (vc_ret (vq_block_ret (vq_then_ret (vq_then_ret (vq_block_ret (vq_then_ret ?_))))))))
                refine vq_ret1 st (.inl rfl) results93 (.tmp rfl) ?_
                refine ⟨_, rfl, ?_⟩
                refine ⟨?_, st.chg⟩
                first
                  | (refine rightS_no hsj fun hR => ?_
                     obtain ⟨r1, r2, r3, r4, r5, r6, r7, r8, r9⟩ := rightS_iff.1 hR
                     clear st hsV hse hsb hsl hc hg hr ih hok hks hall
                     (simp_all; done))
              · intro hc115
                try simp only [dn] at hc115
                refine vc_code_skip (vq_block (vq_then (vk4 1 9 10 11 (vc_region ?_))))
                refine vy (y_add rfl rfl (by omega : _ = ((j + 1 : Nat) : Int)) (by omega) (by omega)) ?_
                refine ym ?_
                refine vc_end ?_
                refine vq_again (j + 1)  ⟨rfl, rfl, rfl, rfl, trivial⟩ (st.dr) ?_ ?_
                · exact ⟨by omega, all_take' hall hsj (rightS_iff.2 ⟨hA1, hA2, hA3, hA6, hA4, hA5, by (right; omega), by assumption, by assumption⟩)⟩
                · omega
        · intro hg90
          try simp only [dn] at hg90
          refine yfz 5 underlying67 sizeOf65 ?_
          refine yl st 1 isAgg65 ?_
          refine vy (y_lensl rfl underlying65) ?_
          refine vy (y_gtr rfl rfl) ?_
          refine ypf ?_
          refine vmb ?_ ?_
          · intro hg96
            try simp only [dn] at hg96
            refine ym ?_
            refine vy (y_geq rfl rfl) ?_
            refine ypt ?_
            refine vmb ?_ ?_
            · intro hg100
              try simp only [dn] at hg100
              iterate 6 refine vsk ?_
              refine ypt ?_
              refine ym ?_
              iterate 6 refine vsk ?_
              refine ypt ?_
              refine vc_end (vq_then (vk5 1 9 10 11 115 ?_))
              refine vc_ift rfl ?_
              refine vc_seq (vc_region ?_)
              refine ya ?_
              refine vc_end (vq_then (vk1 4 (vc_ret (vq_block_ret (vq_then_ret (vq_then_ret (vq_block_ret (vq_then_ret ?_))))))))
              refine vq_ret1 st (.inl rfl) results93 (.tmp rfl) ?_
              refine ⟨_, rfl, ?_⟩
              refine ⟨?_, st.chg⟩
              first
                | (refine rightS_no hsj fun hR => ?_
                   obtain ⟨r1, r2, r3, r4, r5, r6, r7, r8, r9⟩ := rightS_iff.1 hR
                   clear st hsV hse hsb hsl hc hg hr ih hok hks hall
                   omega)
            · intro hg100
              try simp only [dn] at hg100
              refine yfz 4 underlying67 sizeOf65 ?_
              refine yl st 1 isAgg65 ?_
              refine ym ?_
              refine vy (y_add rfl rfl (by omega : _ = ((d + 1 : Nat) : Int)) (by omega) (by omega)) ?_
              refine vc_e (e_call [_, _] rfl rfl call93 rfl (ih (szo s.body) hB s.body rfl (d + 1) (by omega) (by (right; omega)) _ _ _ (hsb.kept (Same.of_nil st.chg)) hks.body (hsg.kept st.chg)) ?_)
              rintro _ w ⟨rfl, cw⟩
              replace st := st.call0 cw
              refine vy (y_not rfl) ?_
              refine ypf ?_
              refine vmb ?_ ?_
              · intro hg108
                try simp only [dn] at hg108
                iterate 6 refine vsk ?_
                refine ypt ?_
                refine vc_end (vq_then (vk5 1 9 10 11 115 ?_))
                refine vc_ift rfl ?_
                refine vc_seq (vc_region ?_)
                refine ya ?_
                refine vc_end (vq_then (vk1 4 (vc_ret (vq_block_ret (vq_then_ret (vq_then_ret (vq_block_ret (vq_then_ret ?_))))))))
                refine vq_ret1 st (.inl rfl) results93 (.tmp rfl) ?_
                refine ⟨_, rfl, ?_⟩
                refine ⟨?_, st.chg⟩
                first
                  | (refine rightS_no hsj fun hR => ?_
                     obtain ⟨r1, r2, r3, r4, r5, r6, r7, r8, r9⟩ := rightS_iff.1 hR
                     clear st hsV hse hsb hsl hc hg hr ih hok hks hall
                     (simp_all; done))
              · intro hg108
                try simp only [dn] at hg108
                skip
                refine yfz 5 underlying67 sizeOf65 ?_
                refine yl st 1 isAgg65 ?_
                refine ym ?_
                refine vy (y_add rfl rfl (by omega : _ = ((d + 1 : Nat) : Int)) (by omega) (by omega)) ?_
                refine vc_e (e_call [_, _] rfl rfl call93 rfl (ih (szo s.els) hL s.els rfl (d + 1) (by omega) (by (right; omega)) _ _ _ (hsl.kept (Same.of_nil st.chg)) hks.els (hsg.kept st.chg)) ?_)
                rintro _ w ⟨rfl, cw⟩
                replace st := st.call0 cw
                refine vy (y_not rfl) ?_
                refine ypf ?_
                refine vc_end (vq_then (vk5 1 9 10 11 115 ?_))
                refine vc_ifs rfl ?_ ?_
                · intro hc115
                  try simp only [dn] at hc115
                  refine vc_seq (vc_region ?_)
                  refine ya ?_
                  refine vc_end (vq_then (vk1 4 (vc_ret (vq_block_ret (vq_then_ret (vq_then_ret (vq_block_ret (vq_then_ret ?_))))))))
                  refine vq_ret1 st (.inl rfl) results93 (.tmp rfl) ?_
                  refine ⟨_, rfl, ?_⟩
                  refine ⟨?_, st.chg⟩
                  first
                    | (refine rightS_no hsj fun hR => ?_
                       obtain ⟨r1, r2, r3, r4, r5, r6, r7, r8, r9⟩ := rightS_iff.1 hR
                       clear st hsV hse hsb hsl hc hg hr ih hok hks hall
                       (simp_all; done))
                · intro hc115
                  try simp only [dn] at hc115
                  refine vc_code_skip (vq_block (vq_then (vk4 1 9 10 11 (vc_region ?_))))
                  refine vy (y_add rfl rfl (by omega : _ = ((j + 1 : Nat) : Int)) (by omega) (by omega)) ?_
                  refine ym ?_
                  refine vc_end ?_
                  refine vq_again (j + 1)  ⟨rfl, rfl, rfl, rfl, trivial⟩ (st.dr) ?_ ?_
                  · exact ⟨by omega, all_take' hall hsj (rightS_iff.2 ⟨hA1, hA2, hA3, hA6, hA4, hA5, by (right; omega), by assumption, by assumption⟩)⟩
                  · omega
          · intro hg96
            try simp only [dn] at hg96
            iterate 2 refine vsk ?_
            refine ypf ?_
            refine ym ?_
            refine yfz 4 underlying67 sizeOf65 ?_
            refine yl st 1 isAgg65 ?_
            refine ym ?_
            refine vy (y_add rfl rfl (by omega : _ = ((d + 1 : Nat) : Int)) (by omega) (by omega)) ?_
            refine vc_e (e_call [_, _] rfl rfl call93 rfl (ih (szo s.body) hB s.body rfl (d + 1) (by omega) (by (left; exact hA4.resolve_left (by rw [‹hasB s.k = false›]; simp))) _ _ _ (hsb.kept (Same.of_nil st.chg)) hks.body (hsg.kept st.chg)) ?_)
            rintro _ w ⟨rfl, cw⟩
            replace st := st.call0 cw
            refine vy (y_not rfl) ?_
            refine ypf ?_
            refine vmb ?_ ?_
            · intro hg108
              try simp only [dn] at hg108
              iterate 6 refine vsk ?_
              refine ypt ?_
              refine vc_end (vq_then (vk5 1 9 10 11 115 ?_))
              refine vc_ift rfl ?_
              refine vc_seq (vc_region ?_)
              refine ya ?_
              refine vc_end (vq_then (vk1 4 (vc_ret (vq_block_ret (vq_then_ret (vq_then_ret (vq_block_ret (vq_then_ret ?_))))))))
              refine vq_ret1 st (.inl rfl) results93 (.tmp rfl) ?_
              refine ⟨_, rfl, ?_⟩
              refine ⟨?_, st.chg⟩
              first
                | (refine rightS_no hsj fun hR => ?_
                   obtain ⟨r1, r2, r3, r4, r5, r6, r7, r8, r9⟩ := rightS_iff.1 hR
                   clear st hsV hse hsb hsl hc hg hr ih hok hks hall
                   (simp_all; done))
            · intro hg108
              try simp only [dn] at hg108
              skip
              refine yfz 5 underlying67 sizeOf65 ?_
              refine yl st 1 isAgg65 ?_
              refine ym ?_
              refine vy (y_add rfl rfl (by omega : _ = ((d + 1 : Nat) : Int)) (by omega) (by omega)) ?_
              refine vc_e (e_call [_, _] rfl rfl call93 rfl (ih (szo s.els) hL s.els rfl (d + 1) (by omega) (by (left; omega)) _ _ _ (hsl.kept (Same.of_nil st.chg)) hks.els (hsg.kept st.chg)) ?_)
              rintro _ w ⟨rfl, cw⟩
              replace st := st.call0 cw
              refine vy (y_not rfl) ?_
              refine ypf ?_
              refine vc_end (vq_then (vk5 1 9 10 11 115 ?_))
              refine vc_ifs rfl ?_ ?_
              · intro hc115
                try simp only [dn] at hc115
                refine vc_seq (vc_region ?_)
                refine ya ?_
                refine vc_end (vq_then (vk1 4 (vc_ret (vq_block_ret (vq_then_ret (vq_then_ret (vq_block_ret (vq_then_ret ?_))))))))
                refine vq_ret1 st (.inl rfl) results93 (.tmp rfl) ?_
                refine ⟨_, rfl, ?_⟩
                refine ⟨?_, st.chg⟩
                first
                  | (refine rightS_no hsj fun hR => ?_
                     obtain ⟨r1, r2, r3, r4, r5, r6, r7, r8, r9⟩ := rightS_iff.1 hR
                     clear st hsV hse hsb hsl hc hg hr ih hok hks hall
                     (simp_all; done))
              · intro hc115
                try simp only [dn] at hc115
                refine vc_code_skip (vq_block (vq_then (vk4 1 9 10 11 (vc_region ?_))))
                refine vy (y_add rfl rfl (by omega : _ = ((j + 1 : Nat) : Int)) (by omega) (by omega)) ?_
                refine ym ?_
                refine vc_end ?_
                refine vq_again (j + 1)  ⟨rfl, rfl, rfl, rfl, trivial⟩ (st.dr) ?_ ?_
                · exact ⟨by omega, all_take' hall hsj (rightS_iff.2 ⟨hA1, hA2, hA3, hA6, hA4, hA5, by (left; exact ⟨by assumption, by omega⟩), by assumption, by assumption⟩)⟩
                · omega
  · intro hc12
    try simp only [dn] at hc12
    refine vc_exit (vq_then_exit (vq_then_exit (vq_block_exit (vq_then (vc_keep [] trivial (vc_seq (vc_region ?_)))))))
    refine ya ?_
    refine vc_end (vq_then (vk1 4 (vc_ret ?_)))
    refine vq_ret1 st (.inl rfl) results93 (.tmp rfl) ?_
    refine ⟨_, rfl, ?_⟩
    refine ⟨?_, st.chg⟩
    rw [rightSs_eq, all_end hall (by omega)]

end
end Go.Proofs.YtnmhlpnapgojjaaGreatDoor


namespace Go.Proofs.YtnmhlpnapgojjaaGreatDoor
open Go.RowKit Sx LexS _root_.Go.Proofs.Tryz
section
variable {S : Nat → Prop}

end
end Go.Proofs.YtnmhlpnapgojjaaGreatDoor


namespace Go.Proofs.YtnmhlpnapgojjaaGreatDoor
open Go.RowKit Sx LexS _root_.Go.Proofs.Tryz
section
variable {S : Nat → Prop}

end
end Go.Proofs.YtnmhlpnapgojjaaGreatDoor


namespace Go.Proofs.YtnmhlpnapgojjaaGreatDoor
open Go.RowKit Sx LexS _root_.Go.Proofs.Tryz
section
variable {S : Nat → Prop}
abbrev pgL (p : Pg) (os ol ot : Option Addr) (cs cl ct : Nat) : List Value := [.slice os p.shared.length cs, .slice ol p.locks.length cl, .slice ot p.threads.length ct]

set_option maxHeartbeats 1000000 in
theorem right_any (p : Pg) (os ol ot : Option Addr) (cs cl ct : Nat) (w : World) (hS : DcRow w S os p.shared) (hL : DcRow w S ol p.locks) (hT : ThRow w S ot p.threads) (hok : OkP p) (hsg : Sig w) : Ret Tryz.prog 38 [.agg (pgL p os ol ot cs cl ct).toArray] w fun v w' => v = .bool (pgOk p) ∧ Chg [] w w' := by
 refine ret_of [_] func38 rfl ntmps38 rfl ?_
 have st := St.init w []
 obtain ⟨w0, rfl⟩ : ∃ w0, w0 = w := ⟨_, rfl⟩
 have hn1 := hok.1.1
 have hn2 := hok.2.1.1
 have hn3 := hok.2.2.1
 refine vc_seq (vc_region ?_)
 refine vc_e (e_bx (l := [_, _, _]) st rfl rfl rfl rfl ?_)
 intro b1 w hb1 st
 refine ya ?_
 refine vc_end (vq_then (vk1 1 (vc_seq (vc_seq (vc_region ?_)))))
 refine vy (y_fa0 rfl underlying26 rfl rfl sizeOf23 rfl) ?_
 refine yl st 0 isAgg23 ?_
 refine vc_e (e_call [_, _] rfl rfl call92 rfl (decls_any p.shared _ _ true _ (RowC.kept hS (Same.of_nil st.chg)) (by unfold maxLen; omega)) ?_)
 rintro _ w ⟨rfl, cw⟩
 replace st := st.call0 cw
 refine vy (y_not rfl) ?_
 refine vmb ?_ ?_
 ·intro hg9
  try simp only [dn] at hg9
  iterate 4 refine vsk ?_
  refine ypt ?_
  refine vc_end (vq_then (vk2 1 14 ?_))
  refine vc_ift rfl ?_
  refine vc_seq (vc_region ?_)
  refine ya ?_
  refine vc_end (vq_then (vk1 2 (vc_ret (vq_then_ret ?_))))
  refine vq_ret1 st (.inl rfl) results38 (.tmp rfl) ?_
  refine ⟨_, rfl, ?_⟩
  refine ⟨?_, st.chg⟩
  show Value.bool _ = Value.bool _
  congr 1
  symm
  unfold pgOk
  clear st
  try simp only [show decide (1 ≤ 64) = true from rfl, Bool.true_and] at *
  (rw [‹p.shared.all (dcOk true) = false›]; simp; done)
 ·intro hg9
  try simp only [dn] at hg9
  refine yfz 1 underlying26 sizeOf23 ?_
  refine yl st 0 isAgg23 ?_
  refine vc_e (e_call [_, _] rfl rfl call92 rfl (decls_any p.locks _ _ false _ (RowC.kept hL (Same.of_nil st.chg)) (by unfold maxLen; omega)) ?_)
  rintro _ w ⟨rfl, cw⟩
  replace st := st.call0 cw
  refine vy (y_not rfl) ?_
  refine ypf ?_
  refine vc_end (vq_then (vk2 1 14 ?_))
  refine vc_ifs rfl ?_ ?_
  ·intro hc14
   try simp only [dn] at hc14
   refine vc_seq (vc_region ?_)
   refine ya ?_
   refine vc_end (vq_then (vk1 2 (vc_ret (vq_then_ret ?_))))
   refine vq_ret1 st (.inl rfl) results38 (.tmp rfl) ?_
   refine ⟨_, rfl, ?_⟩
   refine ⟨?_, st.chg⟩
   show Value.bool _ = Value.bool _
   congr 1
   symm
   unfold pgOk
   clear st
   try simp only [show decide (1 ≤ 64) = true from rfl, Bool.true_and] at *
   (rw [‹p.locks.all (dcOk false) = false›]; simp; done)
  ·intro hc14
   try simp only [dn] at hc14
   refine vc_code_skip (vq_then (vk1 1 (vc_seq (vc_seq (vc_region ?_)))))
   refine yfz 2 underlying26 sizeOf24 ?_
   refine yl st 0 isAgg24 ?_
   refine vy (y_lensl rfl underlying24) ?_
   refine ym ?_
   refine vc_end (vq_then (vk3 16 17 18 (vc_block ?_)))
   refine vc_loop (w0 := w0) (M := []) (fun (j : Nat) => [(16, .slice ot p.threads.length ct), (17, .int .i64 (p.threads.length : Int)), (18, .int .i64 (j : Int))]) (fun _ => []) (fun j _ => j ≤ p.threads.length ∧ (p.threads.take j).all thOk = true) (fun j => p.threads.length - j) 0 ⟨rfl, rfl, rfl, trivial⟩ (st.dr) ⟨by omega, by simp⟩ ?_
   clear st
   rintro j w ⟨hj, hall⟩ st
   refine vc_seq (vc_region ?_)
   refine vy (y_lss rfl rfl) ?_
   refine vc_end (vq_then (vk4 16 17 18 19 (vc_seq ?_)))
   refine vc_ifs rfl ?_ ?_
   ·intro hc19
    try simp only [dn] at hc19
    obtain ⟨t, htj⟩ : ∃ t, p.threads[j]? = some t := ⟨_, List.getElem?_eq_getElem (by omega)⟩
    obtain ⟨gb, go, rfl, hgS, hgl, hg⟩ := ThRow.at hT (by omega)
    obtain ⟨tl, tb, cll, cbb, htl, htb, hc⟩ := hg j t htj
    have hkt := hok.2.2.2 j t htj
    refine vc_code_skip (vq_then (vk3 16 17 18 (vc_seq (vc_block (vc_seq (vc_region ?_))))))
    refine vy (y_ia (k := j) rfl rfl underlying24 sizeOf69 rfl (by omega)) ?_
    refine vy (y_ldca (thL t tl tb cll cbb) rfl isAgg69 sizeOf69 rfl (fun i v hi => st.chg.cell (hc i v hi) (by simp))) ?_
    refine vc_e (e_al (l := [_, _, _, _]) st rfl rfl zeroValue69 rfl ?_)
    intro b4 w hb4 st
    refine vc_e (e_sts (vs := [_, _, _, _]) st 0 rfl rfl rfl rfl rfl sizeOf69 rfl rfl (by (right; assumption)) ?_)
    intro w st; dsimp only [setNth, wr] at st
    refine vc_end (vq_then (vk4 4 16 17 18 (vc_seq (vc_region ?_))))
    refine vy (y_fa0 rfl underlying69 rfl rfl sizeOf9 rfl) ?_
    refine yl st 0 isAgg9 ?_
    refine vc_e (e_call [_] rfl rfl call52 rfl (name_any _ _) ?_)
    rintro _ _ ⟨rfl, rfl⟩
    refine vy (y_not rfl) ?_
    refine vmb ?_ ?_
    ·intro hg26
     try simp only [dn] at hg26
     iterate 4 refine vsk ?_
     refine ypt ?_
     refine ym ?_
     iterate 4 refine vsk ?_
     refine ypt ?_
     refine vc_end (vq_then (vk4 16 17 18 37 ?_))
     refine vc_ift rfl ?_
     refine vc_seq (vc_region ?_)
     refine ya ?_
     refine vc_end (vq_then (vk1 2 (vc_ret (vq_block_ret (vq_then_ret (vq_then_ret (vq_block_ret (vq_then_ret ?_))))))))
     refine vq_ret1 st (.inl rfl) results38 (.tmp rfl) ?_
     refine ⟨_, rfl, ?_⟩
     refine ⟨?_, st.chg⟩
     show Value.bool _ = Value.bool _
     congr 1
     symm
     unfold pgOk
     clear st
     try simp only [show decide (1 ≤ 64) = true from rfl, Bool.true_and] at *
     (rw [all_no' (p := thOk) htj (by unfold thOk; simp only [*, Bool.and_false, Bool.false_and, Bool.and_true, Bool.true_and])]; simp)
    ·intro hg26
     try simp only [dn] at hg26
     refine yfz 1 underlying69 sizeOf23 ?_
     refine yl st 0 isAgg23 ?_
     refine vc_e (e_call [_, _] rfl rfl call92 rfl (decls_any t.locals _ _ false _ (RowC.kept htl (Same.of_nil st.chg)) (by have := hkt.1.1; unfold maxLen; omega)) ?_)
     rintro _ w ⟨rfl, cw⟩
     replace st := st.call0 cw
     refine vy (y_not rfl) ?_
     refine ypf ?_
     refine vmb ?_ ?_
     ·intro hg32
      try simp only [dn] at hg32
      iterate 4 refine vsk ?_
      refine ypt ?_
      refine vc_end (vq_then (vk4 16 17 18 37 ?_))
      refine vc_ift rfl ?_
      refine vc_seq (vc_region ?_)
      refine ya ?_
      refine vc_end (vq_then (vk1 2 (vc_ret (vq_block_ret (vq_then_ret (vq_then_ret (vq_block_ret (vq_then_ret ?_))))))))
      refine vq_ret1 st (.inl rfl) results38 (.tmp rfl) ?_
      refine ⟨_, rfl, ?_⟩
      refine ⟨?_, st.chg⟩
      show Value.bool _ = Value.bool _
      congr 1
      symm
      unfold pgOk
      clear st
      try simp only [show decide (1 ≤ 64) = true from rfl, Bool.true_and] at *
      (rw [all_no' (p := thOk) htj (by unfold thOk; simp only [*, Bool.and_false, Bool.false_and, Bool.and_true, Bool.true_and])]; simp)
     ·intro hg32
      try simp only [dn] at hg32
      refine yfz 2 underlying69 sizeOf65 ?_
      refine yl st 0 isAgg65 ?_
      refine vc_e (e_call [_, _] rfl rfl call93 rfl (stmts_any _ t.body rfl 1 (by omega) (.inr (by omega)) _ _ _ (htb.kept (Same.of_nil st.chg)) hkt.2.1 (hsg.kept st.chg)) ?_)
      rintro _ w ⟨rfl, cw⟩
      replace st := st.call0 cw
      refine vy (y_not rfl) ?_
      refine ypf ?_
      refine vc_end (vq_then (vk4 16 17 18 37 ?_))
      refine vc_ifs rfl ?_ ?_
      ·intro hc37
       try simp only [dn] at hc37
       refine vc_seq (vc_region ?_)
       refine ya ?_
       refine vc_end (vq_then (vk1 2 (vc_ret (vq_block_ret (vq_then_ret (vq_then_ret (vq_block_ret (vq_then_ret ?_))))))))
       refine vq_ret1 st (.inl rfl) results38 (.tmp rfl) ?_
       refine ⟨_, rfl, ?_⟩
       refine ⟨?_, st.chg⟩
       show Value.bool _ = Value.bool _
       congr 1
       symm
       unfold pgOk
       clear st
       try simp only [show decide (1 ≤ 64) = true from rfl, Bool.true_and] at *
       (rw [all_no' (p := thOk) htj (by unfold thOk; simp only [*, Bool.and_false, Bool.false_and, Bool.and_true, Bool.true_and])]; simp)
      ·intro hc37
       try simp only [dn] at hc37
       refine vc_code_skip (vq_block (vq_then (vk3 16 17 18 (vc_region ?_))))
       refine vy (y_add rfl rfl (by omega : _ = ((j + 1 : Nat) : Int)) (by omega) (by omega)) ?_
       refine ym ?_
       refine vc_end ?_
       refine vq_again (j + 1)  ⟨rfl, rfl, rfl, trivial⟩ (st.dr) ?_ ?_
       ·exact ⟨by omega, all_take' hall htj (by unfold thOk; clear st; (try simp only [show decide (1 ≤ 64) = true from rfl, Bool.true_and] at *); simp only [*, Bool.and_self])⟩
       ·omega
   ·intro hc19
    try simp only [dn] at hc19
    refine vc_exit (vq_then_exit (vq_then_exit (vq_block_exit (vq_then (vc_keep [] trivial (vc_seq (vc_region ?_)))))))
    refine ya ?_
    refine vc_end (vq_then (vk1 2 (vc_ret ?_)))
    refine vq_ret1 st (.inl rfl) results38 (.tmp rfl) ?_
    refine ⟨_, rfl, ?_⟩
    refine ⟨?_, st.chg⟩
    show Value.bool _ = Value.bool _
    congr 1
    symm
    unfold pgOk
    clear st
    try simp only [show decide (1 ≤ 64) = true from rfl, Bool.true_and] at *
    (rw [‹p.shared.all (dcOk true) = true›, ‹p.locks.all (dcOk false) = true›, all_end hall (by omega)]; rfl)

end
end Go.Proofs.YtnmhlpnapgojjaaGreatDoor


/- A map that counts words: its keys in the order of their birth; a range over it. -/
namespace Sx
open Go Go.RowKit

abbrev Wd := List UInt8
def insK (s : Wd) (ks : List Wd) : List Wd := if s ∈ ks then ks else ks ++ [s]
/-- what the entries of such a map are -/
structure Ents (es : List MapEntry) (ks : List Wd) : Prop where
  key : es.map (·.key) = ks.map str
  val : ∀ e ∈ es, ∃ c, e.val = .int .i64 c
  born : ∀ (i : Nat) (e : MapEntry), es[i]? = some e → e.born = i

def MapK (w : World) (b : Nat) (ks : List Wd) : Prop := ∃ es : Array MapEntry, w.heap[b]? = some (.map es es.size) ∧ Ents es.toList ks

theorem MapK.lt {w : World} {b : Nat} {ks : List Wd} (h : MapK w b ks) : b < w.heap.size := by obtain ⟨es, h1, _⟩ := h; exact (Array.getElem?_eq_some_iff.1 h1).1
theorem Loc_MapK (b : Nat) (ks : List Wd) : Loc [b] (fun w => MapK w b ks) := fun w w' _ hk ⟨es, h1, h2⟩ => ⟨es, (hk b (by simp)).trans h1, h2⟩

theorem bytes_beq (s t : Wd) : ((⟨s.toArray⟩ : ByteArray) == ⟨t.toArray⟩) = decide (s = t) := by
  show (s.toArray == t.toArray) = _
  rw [Bool.eq_iff_iff]; simp

theorem findNow_no {s : Wd} : ∀ (es : List MapEntry) (ks : List Wd) (i : Nat), es.map (·.key) = ks.map str → s ∉ ks → Instr.findNow .string (str s) es i = some none
  | [], ks, i, h, hs => rfl
  | e :: es, [], i, h, hs => by simp at h
  | e :: es, k :: ks, i, h, hs => by
    simp only [List.map_cons, List.cons.injEq] at h
    simp only [Instr.findNow, h.1, Instr.sameNow, bytes_beq]
    have : s ≠ k := fun e => hs (by simp [e])
    simp only [this, decide_false]
    exact findNow_no es ks _ h.2 (fun h => hs (by simp [h]))
theorem findNow_yes {s : Wd} : ∀ (es : List MapEntry) (ks : List Wd) (i : Nat), es.map (·.key) = ks.map str → s ∈ ks → ∃ j e, es[j]? = some e ∧ e.key = str s ∧ Instr.findNow .string (str s) es i = some (some (i + j, e.val))
  | [], ks, i, h, hs => by cases ks <;> simp at h hs
  | e :: es, [], i, h, hs => by simp at h
  | e :: es, k :: ks, i, h, hs => by
    simp only [List.map_cons, List.cons.injEq] at h
    by_cases hk : s = k
    · subst hk
      exact ⟨0, e, rfl, h.1, by simp [Instr.findNow, h.1, Instr.sameNow, bytes_beq]⟩
    · obtain ⟨j, e', h1, h2, h3⟩ := findNow_yes es ks (i + 1) h.2 (by simpa [hk] using hs)
      refine ⟨j + 1, e', by simpa using h1, h2, ?_⟩
      simp only [Instr.findNow, h.1, Instr.sameNow, bytes_beq, hk, decide_false]
      rw [h3, Nat.add_assoc, Nat.add_comm 1 j]

section
variable {P : Program} {n : Fr} {L : List Oper} {Q : Exit → Act → World → Prop} {kn : Kn} {w0 w : World} {M : List Nat} {hs : List Res} {N : Act → World → Prop}
variable {d ty : Nat} {pos : String} {aft : Array Edge} {g : Option (Nat × Bool)}

theorem checkKey_str {k : Nat} (hk : P.underlying k = some .string) (em : Bool) (s : Wd) (w : World) : (Instr.checkKey em 10000 k (str s)).run P w = .ok () w := by
  show (Instr.checkKey em (9999 + 1) k (str s)).run P w = _
  unfold Instr.checkKey
  simp [Sem.run_bind, underlying, Sem.run, hk, Result.andThen, str]

theorem findKey_str {k : Nat} (hk : P.underlying k = some .string) {s : Wd} {es : List MapEntry} {r : Option (Nat × Value)} (h : Instr.findNow .string (str s) es 0 = some r) (w : World) : (Instr.findKey k (str s) es).run P w = .ok r w := by
  simp [Instr.findKey, Sem.run_bind, underlying, Sem.run, hk, Result.andThen, h]

theorem run_lookupK {T k e b : Nat} {s : Wd} {ks : List Wd} (hm : MapK w b ks) (ht : P.underlying T = some (.map k e)) (hk : P.underlying k = some .string) (hz : ∀ w, (zeroValue e).run P w = .ok (.int .i64 0) w) :
    ∃ c, (Instr.lookup T (.map (some b)) (str s) false).run P w = .ok (.int .i64 c) w := by
  obtain ⟨es, hb, hE⟩ := hm
  by_cases hs : s ∈ ks
  · obtain ⟨j, e', h1, h2, h3⟩ := findNow_yes (s := s) es.toList ks 0 hE.key hs
    obtain ⟨c, hc⟩ := hE.val e' (List.mem_of_getElem? h1)
    refine ⟨c, ?_⟩
    simp [Instr.lookup, getObj, Sem.run_bind, underlying, Sem.run, ht, hb, Result.andThen, checkKey_str hk, findKey_str hk h3, hc]
  · refine ⟨0, ?_⟩
    simp [Instr.lookup, getObj, Sem.run_bind, underlying, Sem.run, ht, hb, Result.andThen, checkKey_str hk, findKey_str hk (findNow_no es.toList ks 0 hE.key hs), hz]

theorem setObj_chg {b : Nat} {o o' : Obj} (hb : w.heap[b]? = some o) (hn : ∀ c e f, o ≠ .cells c e f) : (setObj b o').run P w = .ok () (ChangeMaps.setBlock w b o') ∧ Chg [b] w (ChangeMaps.setBlock w b o') ∧ (ChangeMaps.setBlock w b o').heap[b]? = some o' := by
  have hlt := (Array.getElem?_eq_some_iff.1 hb).1
  refine ⟨?_, ⟨rfl, rfl, rfl, by simp [ChangeMaps.setBlock], fun i _ hi => ?_⟩, ?_⟩
  · simp only [setObj, Sem.run, hb, ChangeMaps.setBlock]
    try (cases o <;> first | rfl | exact absurd rfl (hn _ _ _))
  · simp only [ChangeMaps.setBlock]; rw [Array.getElem?_setIfInBounds_ne (fun e => hi (by simp [e]))]
  · simp only [ChangeMaps.setBlock]; rw [Array.getElem?_setIfInBounds_self_of_lt hlt]

theorem run_updateK {T k e b : Nat} {s : Wd} {c : Int} {ks : List Wd} (hm : MapK w b ks) (ht : P.underlying T = some (.map k e)) (hk : P.underlying k = some .string) :
    ∃ w', (Instr.mapUpdate T (.map (some b)) (str s) (.int .i64 c)).run P w = .ok () w' ∧ MapK w' b (insK s ks) ∧ Chg [b] w w' := by
  obtain ⟨es, hb, hE⟩ := hm
  by_cases hs : s ∈ ks
  · obtain ⟨j, e', h1, h2, h3⟩ := findNow_yes (s := s) es.toList ks 0 hE.key hs
    obtain ⟨q1, q2, q3⟩ := setObj_chg (P := P) (o' := .map (es.modify j fun x => { x with key := str s, val := .int .i64 c }) es.size) hb (by simp)
    refine ⟨_, ?_, ⟨es.modify j fun x => { x with key := str s, val := .int .i64 c }, (by rw [q3]; simp), ?_⟩, q2⟩
    · have hg : es[j]? = some e' := by simpa using h1
      simp only [Nat.zero_add] at h3
      simp [Instr.mapUpdate, getObj, Sem.run_bind, underlying, Sem.run, ht, hb, Result.andThen, checkKey_str hk, findKey_str hk h3, hg, h2, Instr.keyThatStays, Instr.sameBits, str, bytes_beq]
      exact q1
    · simp only [insK, hs, if_true]
      have hl : (es.modify j fun x => { x with key := str s, val := .int .i64 c }).toList = es.toList.modify j (fun x => { x with key := str s, val := .int .i64 c }) := by simp
      rw [hl]
      refine ⟨?_, ?_, ?_⟩
      · rw [← hE.key]
        apply List.ext_getElem?
        intro i
        simp only [List.getElem?_map, List.getElem?_modify]
        by_cases hij : j = i
        · subst hij; rw [h1]; simp [h2]
        · simp [hij]
      · intro x hx
        obtain ⟨i, hi⟩ := List.getElem?_of_mem hx
        rw [List.getElem?_modify] at hi
        by_cases hij : j = i
        · subst hij; rw [h1] at hi; simp at hi; exact ⟨c, by rw [← hi]⟩
        · simp only [hij, if_false, Option.map_id_fun', id] at hi; exact hE.val x (List.mem_of_getElem? (by simpa using hi))
      · intro i x hi
        rw [List.getElem?_modify] at hi
        by_cases hij : j = i
        · subst hij; rw [h1] at hi; simp at hi; rw [← hi]; exact (hE.born j e' h1 : e'.born = j)
        · simp only [hij, if_false, Option.map_id_fun', id] at hi; exact hE.born i x (by simpa using hi)
  · obtain ⟨q1, q2, q3⟩ := setObj_chg (P := P) (o' := .map (es.push { key := str s, val := .int .i64 c, born := es.size }) (es.size + 1)) hb (by simp)
    refine ⟨_, ?_, ⟨es.push { key := str s, val := .int .i64 c, born := es.size }, (by rw [q3]; simp), ?_⟩, q2⟩
    · simp [Instr.mapUpdate, getObj, Sem.run_bind, underlying, Sem.run, ht, hb, Result.andThen, checkKey_str hk, findKey_str hk (findNow_no es.toList ks 0 hE.key hs)]
      exact q1
    · simp only [insK, hs, if_false, Array.toList_push]
      refine ⟨by simp [hE.key], ?_, ?_⟩
      · intro x hx
        rcases List.mem_append.1 hx with h | h
        · exact hE.val x h
        · simp at h; exact ⟨c, by rw [h]⟩
      · intro i x hi
        rcases Nat.lt_or_ge i es.toList.length with h | h
        · rw [List.getElem?_append_left h] at hi; exact hE.born i x hi
        · rw [List.getElem?_append_right h] at hi
          cases hd : i - es.toList.length with
          | zero => rw [hd] at hi; simp at hi; rw [← hi]; simp at h hd ⊢; omega
          | succ m => rw [hd] at hi; simp at hi

/-! ## the range -/
/-- a range over the map of 'b' by the iterator 'r': the words 'dn' have come -/
def IterK (w : World) (b r : Nat) (ks dn : List Wd) : Prop := ∃ (es : Array MapEntry) (seen : Array Nat), w.heap[b]? = some (.map es es.size) ∧ Ents es.toList ks ∧ w.heap[r]? = some (.mapIter (some b) es.size seen es.size) ∧
  seen.toList.Nodup ∧ seen.toList.map (fun i => ks[i]?) = dn.map some

theorem Loc_IterK (b r : Nat) (ks dn : List Wd) : Loc [b, r] (fun w => IterK w b r ks dn) := fun w w' _ hk ⟨es, seen, h1, h2, h3, h4⟩ => ⟨es, seen, (hk b (by simp)).trans h1, h2, (hk r (by simp)).trans h3, h4⟩
theorem run_rangeK {T k e b : Nat} {ks : List Wd} (hm : MapK w b ks) (ht : P.underlying T = some (.map k e)) :
    ∃ w', (Instr.range T (.map (some b))).run P w = .ok (.pointer (some ⟨w.heap.size, 0, none⟩)) w' ∧ IterK w' b w.heap.size ks [] ∧ Chg [] w w' ∧ w'.heap.size = w.heap.size + 1 := by
  obtain ⟨es, hb, hE⟩ := hm
  have hlt := (Array.getElem?_eq_some_iff.1 hb).1
  refine ⟨w.alloc (.mapIter (some b) es.size #[] es.size), ?_, ⟨es, #[], ?_, hE, heap_alloc w _, by simp, by simp⟩, Chg.alloc w _, by simp⟩
  · have h1 : (getObj b).run P w = .ok (.map es es.size) w := by simp [getObj, Sem.run, hb]
    have h2 : (underlying T).run P w = .ok (.map k e) w := by simp [underlying, Sem.run, ht]
    simp only [Instr.range, Sem.run_bind, h2, Result.andThen_ok, h1]
    rfl
  · exact ((Chg.alloc w _).block b hlt (by simp)).trans hb

theorem perm_range {n : Nat} : ∀ (l : List Nat), l.Nodup → (∀ i, i ∈ l ↔ i < n) → l.Perm (List.range n) := by
  intro l h1 h2
  exact (List.perm_ext_iff_of_nodup h1 List.nodup_range).2 (fun i => by rw [h2, List.mem_range])

theorem filterMap_range : ∀ (ks : List Wd), (List.range ks.length).filterMap (fun i => ks[i]?) = ks
  | [] => rfl
  | x :: l => by
    rw [List.length_cons, List.range_succ_eq_map, List.filterMap_cons]
    simp only [List.getElem?_cons_zero, List.filterMap_map, Function.comp_def, List.getElem?_cons_succ]
    rw [filterMap_range l]

theorem nodup_lt_len : ∀ (n : Nat) (l : List Nat), l.Nodup → (∀ x ∈ l, x < n) → l.length ≤ n
  | 0, l, _, h => by
    cases l with
    | nil => simp
    | cons a l => exact absurd (h a (by simp)) (by omega)
  | n + 1, l, h1, h2 => by
    have := nodup_lt_len n (l.erase n) (h1.erase n) (fun x hx => by
      have := h1.mem_erase_iff.1 hx
      have := h2 x this.2
      omega)
    rw [List.length_erase] at this
    split at this <;> omega

theorem run_nextK {b r ty : Nat} {ks dn : List Wd} (h : IterK w b r ks dn) (hne : b ≠ r) :
    ∃ t rest dn' w', (Instr.next (.pointer (some ⟨r, 0, none⟩)) false ty).run P w = .ok (.tuple (Value.bool t :: rest).toArray) w' ∧ IterK w' b r ks dn' ∧ Chg [r] w w' ∧
      (t = false → dn' = dn ∧ dn.Perm ks) ∧ (t = true → ∃ s, dn' = dn ++ [s] ∧ dn.length < ks.length) := by
  obtain ⟨es, seen, hb, hE, hr, hn, hm⟩ := h
  have hsz : es.size = ks.length := by have := congrArg List.length hE.key; simpa using this
  have bornE : ∀ e ∈ es.toList, ∃ i, es.toList[i]? = some e ∧ e.born = i := fun e he => by
    obtain ⟨i, hi⟩ := List.getElem?_of_mem he
    exact ⟨i, hi, hE.born i e hi⟩
  have seenlt : ∀ i ∈ seen.toList, i < ks.length := fun i hi => by
    have : ks[i]? ∈ dn.map some := by rw [← hm]; exact List.mem_map.2 ⟨i, hi, rfl⟩
    obtain ⟨x, _, hx⟩ := List.mem_map.1 this
    exact (List.getElem?_eq_some_iff.1 hx.symm).1
  have hdl : seen.toList.length = dn.length := by have := congrArg List.length hm; simpa using this
  rcases run_next_at (P := P) w ty r b es.size es.size seen es es.size hr hb (fun x hx => by
      obtain ⟨i, h1, h2⟩ := bornE x hx
      rw [h2]; exact (List.getElem?_eq_some_iff.1 h1).1) (Nat.le_refl _) with ⟨h0, hrun⟩ | ⟨e, he, w1, hw1, hrun⟩
  · refine ⟨false, [], dn, w, by simpa using hrun, ⟨es, seen, hb, hE, hr, hn, hm⟩, Chg.refl _ _, fun _ => ⟨rfl, ?_⟩, by simp⟩
    have hall : ∀ i, i < ks.length → i ∈ seen.toList := fun i hi => by
      have hi' : i < es.toList.length := by simpa [hsz] using hi
      have : (leftOf es seen) = #[] := Array.eq_empty_of_size_eq_zero h0
      unfold leftOf at this
      rw [Array.filter_eq_empty_iff] at this
      have q := this es.toList[i] (Array.mem_toList_iff.1 (List.getElem_mem hi'))
      have hb' := hE.born i _ (List.getElem?_eq_getElem hi')
      simp at q
      rw [← hb']; simpa using q
    have hp := perm_range (n := ks.length) seen.toList hn (fun i => ⟨seenlt i, hall i⟩)
    have e1 : dn = seen.toList.filterMap (fun i => ks[i]?) := by
      have := congrArg (List.filterMap id) hm
      simpa [List.filterMap_map] using this.symm
    rw [e1]
    have := hp.filterMap (fun i => ks[i]?)
    rwa [filterMap_range] at this
  · obtain ⟨he1, he2⟩ := mem_left he
    obtain ⟨i, hi, hib⟩ := bornE e he1
    have hil : i < ks.length := by have := (List.getElem?_eq_some_iff.1 hi).1; simpa [hsz] using this
    have hk : ks[i]? = some ks[i] := List.getElem?_eq_getElem hil
    have hr1 : w1.heap[r]? = some (.mapIter (some b) es.size seen es.size) := by rcases hw1 with rfl | rfl <;> exact hr
    have hb1 : w1.heap[b]? = some (.map es es.size) := by rcases hw1 with rfl | rfl <;> exact hb
    have hc1 : Chg [r] w w1 := by rcases hw1 with rfl | rfl; exact Chg.refl _ _; exact (Chg.drew w).of_nil
    obtain ⟨q1, q2, q3⟩ := setObj_chg (P := P) (o' := .mapIter (some b) es.size (seen.push e.born) es.size) hr1 (by simp)
    have hni : i ∉ seen.toList := by rw [hib] at he2; simpa using he2
    have hnd : (seen.push e.born).toList.Nodup := by
      rw [Array.toList_push, List.nodup_append]
      exact ⟨hn, by simp, by rintro x hx y hy; simp at hy; subst hy; rw [hib]; intro ee; subst ee; exact hni hx⟩
    refine ⟨true, [e.key, e.val], dn ++ [ks[i]], _, by simpa using hrun, ⟨es, seen.push e.born, (q2.block b (Array.getElem?_eq_some_iff.1 hb1).1 (by simpa using hne)).trans hb1, hE, q3, hnd, ?_⟩, hc1.trans q2, by simp, fun _ => ⟨_, rfl, ?_⟩⟩
    · rw [Array.toList_push, List.map_append, hm, List.map_append]; simp [hib]
    · rw [← hdl]
      have hsub : (seen.push e.born).toList.length ≤ ks.length := by
        exact nodup_lt_len _ _ hnd (fun x hx => by
          rw [Array.toList_push] at hx
          rcases List.mem_append.1 hx with h | h
          · exact seenlt x h
          · simp at h; rw [h, hib]; exact hil)
      simp at hsub ⊢; omega

theorem run_entryK {b r : Nat} {ks dn : List Wd} {s : Wd} (h : IterK w b r ks (dn ++ [s])) : ∃ c, (Instr.entry (.pointer (some ⟨r, 0, none⟩))).run P w = .ok (.tuple #[str s, .int .i64 c]) w := by
  obtain ⟨es, seen, hb, hE, hr, hn, hm⟩ := h
  have hne : seen.toList ≠ [] := by intro e; rw [e] at hm; simp at hm
  obtain ⟨l, i, hl⟩ : ∃ l i, seen.toList = l ++ [i] := ⟨_, _, (List.dropLast_concat_getLast hne).symm⟩
  rw [hl] at hm
  simp only [List.map_append, List.map_cons, List.map_nil] at hm
  obtain ⟨hm1, hm2⟩ := List.append_inj' hm rfl
  simp only [List.cons.injEq, and_true] at hm2
  have hkl : i < ks.length := (List.getElem?_eq_some_iff.1 hm2).1
  have hsz : es.size = ks.length := by have := congrArg List.length hE.key; simpa using this
  have hei : i < es.toList.length := by simpa [hsz] using hkl
  have hg := List.getElem?_eq_getElem hei
  have hbn := hE.born i _ hg
  have hkey : (es.toList[i]).key = str s := by
    have := congrArg (fun l => l[i]?) hE.key
    simp only [List.getElem?_map, hg, hm2, Option.map_some] at this
    exact Option.some.inj this
  obtain ⟨c, hc⟩ := hE.val _ (List.getElem_mem hei)
  refine ⟨c, ?_⟩
  have hnd : (es.toList.map (·.born)).Nodup := by
    have : es.toList.map (·.born) = List.range es.toList.length := by
      apply List.ext_getElem?
      intro j
      rw [List.getElem?_map]
      by_cases hj : j < es.toList.length
      · rw [List.getElem?_eq_getElem hj, List.getElem?_range hj]; exact congrArg some (hE.born j _ (List.getElem?_eq_getElem hj))
      · rw [List.getElem?_eq_none (by omega), List.getElem?_eq_none (by simpa using hj)]; rfl
    rw [this]; exact List.nodup_range
  have hs : seen = (⟨l⟩ : Array Nat).push (es.toList[i]).born := by
    apply Array.toList_inj.1; rw [hl, Array.toList_push, hbn]
  have := run_entry_at (P := P) w r b es.size ⟨l⟩ es es.size es.toList[i] (by rw [← hs]; exact hr) hb (List.getElem_mem hei) hnd
  rw [this, hkey, hc]

/-! ## the operations -/
theorem e_mkm (st : St w0 M hs w) {T : Nat} (hw : gd L kn g = some true) (hd : okDst n (some d) = true)
    (next : ∀ b w', w0.heap.size ≤ b → St w0 M (.tree [b] (fun w => MapK w b []) :: hs) w' → vN n N ((d, .map (some b)) :: kn) w') : vS P n L Q (⟨some d, .makeMap T none, ty, pos, aft, g⟩) N kn w :=
  e_run (v := .map (some w.heap.size)) (w' := w.alloc (.map #[] 0)) hw hd (fun a ha => by
    simp only [execOp, Option.map_none]; rfl) (next _ _ st.chg.size (st.pushR (Chg.alloc w _) ⟨⟨#[], heap_alloc w _, by simp, by simp, by simp⟩, by simp, Loc_MapK _ _⟩ (by simp [Res.at?])))

theorem e_lk (st : St w0 M hs w) (i : Nat) {T k e b : Nat} {x y : Operand} {s : Wd} {ks : List Wd} (hw : gd L kn g = some true) (hd : okDst n (some d) = true) (hx : evO kn x = some (.map (some b))) (hy : evO kn y = some (str s))
    (hi : nth hs i = some (.tree [b] (fun w => MapK w b ks))) (ht : P.underlying T = some (.map k e)) (hk : P.underlying k = some .string) (hz : ∀ w, (zeroValue e).run P w = .ok (.int .i64 0) w)
    (next : ∀ c, vN n N ((d, .int .i64 c) :: kn) w) : vS P n L Q (⟨some d, .lookup T x y false, ty, pos, aft, g⟩) N kn w := by
  obtain ⟨c, hc⟩ := run_lookupK (P := P) (s := s) (st.res hi).1 ht hk hz
  exact e_run (v := .int .i64 c) (w' := w) hw hd (fun a ha => by simp only [execOp, ha.ev hx, ha.ev hy, Sem.run_bind, hc, Result.andThen_ok]; rfl) (next c)

theorem e_mu (st : St w0 M hs w) (i : Nat) {T k e b : Nat} {x y z : Operand} {s : Wd} {c : Int} {ks : List Wd} (hw : gd L kn g = some true) (hx : evO kn x = some (.map (some b))) (hy : evO kn y = some (str s)) (hv : evO kn z = some (.int .i64 c))
    (hi : nth hs i = some (.tree [b] (fun w => MapK w b ks))) (hm : b ∈ M ∨ w0.heap.size ≤ b) (ht : P.underlying T = some (.map k e)) (hk : P.underlying k = some .string)
    (next : ∀ w', St w0 M (setNth hs i (.tree [b] (fun w => MapK w b (insK s ks)))) w' → vN n N kn w') : vS P n L Q (⟨none, .mapUpdate T x y z, ty, pos, aft, g⟩) N kn w := by
  obtain ⟨w', h1, h2, h3⟩ := run_updateK (P := P) (s := s) (c := c) (st.res hi).1 ht hk
  exact e_do (w' := w') hw rfl (fun a ha => by simp only [execOp, ha.ev hx, ha.ev hy, ha.ev hv, Sem.run_bind, h1, Result.andThen_ok]; rfl)
    (next w' (st.turn hi rfl rfl h3 hm ⟨h2, fun k hk => Nat.lt_of_lt_of_le ((st.res hi).2.1 k hk) h3.size, Loc_MapK _ _⟩))

theorem e_rg (st : St w0 M hs w) (i : Nat) {T k e b : Nat} {x : Operand} {ks : List Wd} (hw : gd L kn g = some true) (hd : okDst n (some d) = true) (hx : evO kn x = some (.map (some b)))
    (hi : nth hs i = some (.tree [b] (fun w => MapK w b ks))) (ht : P.underlying T = some (.map k e))
    (next : ∀ r w', w0.heap.size ≤ r → b ≠ r → St w0 M (setNth hs i (.tree [b, r] (fun w => IterK w b r ks []))) w' → vN n N ((d, .pointer (some ⟨r, 0, none⟩)) :: kn) w') : vS P n L Q (⟨some d, .range T x, ty, pos, aft, g⟩) N kn w := by
  obtain ⟨w', h1, h2, h3, h4⟩ := run_rangeK (P := P) (st.res hi).1 ht
  have hbl := (st.res hi).2.1 b (by simp)
  exact e_run (v := .pointer (some ⟨w.heap.size, 0, none⟩)) (w' := w') hw hd (fun a ha => by simp only [execOp, ha.ev hx, Sem.run_bind, h1, Result.andThen_ok]; rfl)
    (next _ w' st.chg.size (by omega) (st.swap (C := []) hi h3 (by simp) (by simp) (by simp [Res.at?]) ⟨h2, by simp [h4]; omega, Loc_IterK _ _ _ _⟩))

theorem e_nx (st : St w0 M hs w) (i : Nat) {b r : Nat} {x : Operand} {ks dn : List Wd} (hw : gd L kn g = some true) (hd : okDst n (some d) = true) (hx : evO kn x = some (.pointer (some ⟨r, 0, none⟩)))
    (hi : nth hs i = some (.tree [b, r] (fun w => IterK w b r ks dn))) (hne : b ≠ r) (hm : r ∈ M ∨ w0.heap.size ≤ r)
    (next : ∀ t rest dn' w', (t = false → dn' = dn ∧ dn.Perm ks) → (t = true → ∃ s, dn' = dn ++ [s] ∧ dn.length < ks.length) → St w0 M (setNth hs i (.tree [b, r] (fun w => IterK w b r ks dn'))) w' →
      vN n N ((d, .tuple (Value.bool t :: rest).toArray) :: kn) w') : vS P n L Q (⟨some d, .next x false, ty, pos, aft, g⟩) N kn w := by
  obtain ⟨t, rest, dn', w', h1, h2, h3, h4, h5⟩ := run_nextK (P := P) (ty := ty) (st.res hi).1 hne
  exact e_run (v := .tuple (Value.bool t :: rest).toArray) (w' := w') hw hd (fun a ha => by simp only [execOp, ha.ev hx, Sem.run_bind, h1, Result.andThen_ok]; rfl)
    (next t rest dn' w' h4 h5 (st.swap (C := [r]) hi h3 (by simp [Res.at?]) (by simpa using hm) (fun k hk => .inl hk) ⟨h2, fun k hk => Nat.lt_of_lt_of_le ((st.res hi).2.1 k hk) h3.size, Loc_IterK _ _ _ _⟩))

theorem e_en (st : St w0 M hs w) (i : Nat) {b r : Nat} {x : Operand} {ks dn : List Wd} {s : Wd} (hw : gd L kn g = some true) (hd : okDst n (some d) = true) (hx : evO kn x = some (.pointer (some ⟨r, 0, none⟩)))
    (hi : nth hs i = some (.tree [b, r] (fun w => IterK w b r ks (dn ++ [s]))))
    (next : ∀ c, vN n N ((d, .tuple [str s, .int .i64 c].toArray) :: kn) w) : vS P n L Q (⟨some d, .entry x, ty, pos, aft, g⟩) N kn w := by
  obtain ⟨c, hc⟩ := run_entryK (P := P) (st.res hi).1
  exact e_run (v := .tuple [str s, .int .i64 c].toArray) (w' := w) hw hd (fun a ha => by simp only [execOp, ha.ev hx, Sem.run_bind, hc, Result.andThen_ok]; rfl) (next c)
end
end Sx


/- Rows of words that are read, and their order in the model. -/
namespace Sx
open Go Go.RowKit
section
variable {P : Program} {n : Fr} {L : List Oper} {Q : Exit → Act → World → Prop} {kn : Kn} {w w0 : World} {d ty : Nat} {pos : String} {aft : Array Edge} {g : Option (Nat × Bool)}
/-- a row of words that is read -/
def SRow (w : World) (oa : Option Addr) (l : List Wd) : Prop := l = [] ∨ ∃ b off, oa = some ⟨b, off, none⟩ ∧ b < w.heap.size ∧ ∀ j x, l[j]? = some x → w.cell? ⟨b, off + j, none⟩ = some (str x)
theorem SRow.kept {w w' : World} {oa : Option Addr} {l : List Wd} (h : SRow w oa l) (c : Chg [] w w') : SRow w' oa l :=
  h.imp id fun ⟨b, off, e, hb, hc⟩ => ⟨b, off, e, Nat.lt_of_lt_of_le hb c.size, fun j x hx => (World.cell?_of_block (c.block b hb (by simp))).trans (hc j x hx)⟩
theorem SRow.at {w : World} {oa : Option Addr} {l : List Wd} (h : SRow w oa l) (hn : 0 < l.length) : ∃ b off, oa = some ⟨b, off, none⟩ ∧ b < w.heap.size ∧ ∀ j x, l[j]? = some x → w.cell? ⟨b, off + j, none⟩ = some (str x) := by
  rcases h with rfl | h
  · simp at hn
  · exact h
theorem SRow.own {w : World} {base E n cap : Nat} {oa : Option Addr} {l : List Wd} (h : w.ownsRow base E 1 (.slice oa n cap) n (l.map str)) : SRow w oa l ∧ l.length = n ∧ n ≤ cap := by
  have hl : l.length = n := by have := h.1; simpa using this
  refine ⟨?_, hl, ?_⟩
  · rcases h.2 with ⟨hv, h0⟩ | ⟨gg, c, cur, hv, hb, hg, -, -, -, htake⟩
    · exact .inl (List.eq_nil_of_length_eq_zero (by omega))
    · obtain ⟨e, -, -⟩ := Value.slice.inj hv
      subst e
      refine .inr ⟨gg, 0, rfl, (Array.getElem?_eq_some_iff.1 hg).1, fun j x hx => ?_⟩
      have := h.cells (g := gg) (by simp [Value.ownBlock]) j (str x) (by rw [List.getElem?_map, hx]; rfl)
      rwa [addr_add] at this
  · rcases h.2 with ⟨hv, h0⟩ | ⟨gg, c, cur, hv, hb, hg, hle, -⟩
    · omega
    · obtain ⟨-, -, e⟩ := Value.slice.inj hv
      omega
/-- a slice of words -/
def SV (w : World) (v : Value) (l : List Wd) : Prop := ∃ oa ca, v = .slice oa l.length ca ∧ l.length ≤ ca ∧ SRow w oa l
theorem SV.kept {w w' : World} {v : Value} {l : List Wd} (h : SV w v l) (c : Chg [] w w') : SV w' v l := by
  obtain ⟨oa, ca, e, hl, hr⟩ := h
  exact ⟨oa, ca, e, hl, hr.kept c⟩
theorem SV.own {w : World} {base E n cap : Nat} {oa : Option Addr} {l : List Wd} (h : w.ownsRow base E 1 (.slice oa n cap) n (l.map str)) : SV w (.slice oa n cap) l := by
  obtain ⟨h1, h2, h3⟩ := SRow.own h
  exact ⟨oa, cap, by rw [h2], by omega, h1⟩
end
end Sx


/- Trees with each name and place turned: no program in sight. -/
namespace LexS
open Sx
section
variable (g : List UInt8 → List UInt8) (h : Int → Int)
mutual
def trE : Ex → Ex
  | .mk k op wd nm kids a => .mk k op wd (g nm) (trEs kids) (h a)
termination_by structural e => e
def trEs : List Ex → List Ex
  | [] => []
  | e :: r => trE e :: trEs r
termination_by structural l => l
end
mutual
def trS : Sm → Sm
  | .mk k nm other e body els a => .mk k (g nm) (g other) (trEs g h e) (trSs body) (trSs els) (h a)
termination_by structural e => e
def trSs : List Sm → List Sm
  | [] => []
  | e :: r => trS e :: trSs r
termination_by structural l => l
end
def trD (d : Dc) : Dc := ⟨g d.nm, d.wd, h d.a⟩
def trT (t : Th) : Th := ⟨g t.nm, t.locals.map (trD g h), trSs g h t.body, h t.a⟩
def trP (p : Pg) : Pg := ⟨p.shared.map (trD g h), p.locks.map (trD g h), p.threads.map (trT g h)⟩
end
variable {g : List UInt8 → List UInt8} {h : Int → Int}
theorem trEs_map (l : List Ex) : trEs g h l = l.map (trE g h) := by
  induction l with
  | nil => rfl
  | cons x r ih => simp only [trEs, List.map_cons, ih]
theorem trSs_map (l : List Sm) : trSs g h l = l.map (trS g h) := by
  induction l with
  | nil => rfl
  | cons x r ih => simp only [trSs, List.map_cons, ih]
theorem trE_eq (e : Ex) : trE g h e = .mk e.k e.op e.wd (g e.nm) (trEs g h e.kids) (h e.a) := by cases e; rfl
theorem trS_eq (s : Sm) : trS g h s = .mk s.k (g s.nm) (g s.other) (trEs g h s.e) (trSs g h s.body) (trSs g h s.els) (h s.a) := by cases s; rfl
/-- the first 'j' turned -/
def mixL {α : Type} (f : α → α) (l : List α) (j : Nat) : List α := (l.take j).map f ++ l.drop j
theorem mixL_zero {α : Type} {f : α → α} (l : List α) : mixL f l 0 = l := by simp [mixL]
theorem mixL_all {α : Type} {f : α → α} (l : List α) : mixL f l l.length = l.map f := by simp [mixL]
theorem mixL_len {α : Type} {f : α → α} (l : List α) (j : Nat) : (mixL f l j).length = l.length := by simp [mixL]; omega
theorem mixL_get {α : Type} {f : α → α} {l : List α} {j : Nat} {x : α} (hx : l[j]? = some x) : (mixL f l j)[j]? = some x := by
  have hj := (List.getElem?_eq_some_iff.1 hx).1
  unfold mixL
  rw [List.getElem?_append_right (by simp; omega), List.length_map, List.length_take, Nat.min_eq_left (by omega), Nat.sub_self, List.getElem?_drop]
  exact hx
theorem mixL_step {α : Type} {f : α → α} {l : List α} {j : Nat} {x : α} (hx : l[j]? = some x) : (mixL f l j).set j (f x) = mixL f l (j + 1) := by
  obtain ⟨hj, e⟩ := List.getElem?_eq_some_iff.1 hx
  unfold mixL
  rw [List.set_append_right _ _ (by simp; omega), List.length_map, List.length_take, Nat.min_eq_left (by omega), Nat.sub_self, List.drop_eq_getElem_cons hj, List.set_cons_zero, List.take_succ_eq_append_getElem hj, e]
  simp
end LexS


/- The names of a tree: no program in sight. -/
namespace LexS
open Sx
mutual
def nmsE : Ex → List Wd
  | .mk k op wd nm kids a => (if k = 2 then [nm] else []) ++ nmsEs kids
termination_by structural e => e
def nmsEs : List Ex → List Wd
  | [] => []
  | e :: r => nmsE e ++ nmsEs r
termination_by structural l => l
end
mutual
def nmsS : Sm → List Wd
  | .mk k nm other e body els a => [nm, other] ++ nmsEs e ++ nmsSs body ++ nmsSs els
termination_by structural e => e
def nmsSs : List Sm → List Wd
  | [] => []
  | e :: r => nmsS e ++ nmsSs r
termination_by structural l => l
end
def nmsT (t : Th) : List Wd := [t.nm] ++ t.locals.map (·.nm) ++ nmsSs t.body
def nmsP (p : Pg) : List Wd := (p.shared ++ p.locks).map (·.nm) ++ p.threads.flatMap nmsT
theorem nmsEs_flat (l : List Ex) : nmsEs l = l.flatMap nmsE := by
  induction l with
  | nil => rfl
  | cons x r ih => simp only [nmsEs, List.flatMap_cons, ih]
theorem nmsSs_flat (l : List Sm) : nmsSs l = l.flatMap nmsS := by
  induction l with
  | nil => rfl
  | cons x r ih => simp only [nmsSs, List.flatMap_cons, ih]
theorem nmsE_eq (e : Ex) : nmsE e = (if e.k = 2 then [e.nm] else []) ++ nmsEs e.kids := by cases e; rfl
theorem nmsS_eq (s : Sm) : nmsS s = [s.nm, s.other] ++ nmsEs s.e ++ nmsSs s.body ++ nmsSs s.els := by cases s; rfl
/-- a name is taken in, if it is one -/
def addK (s : Wd) (ks : List Wd) : List Wd := if s = [] then ks else insK s ks
def addAll (l : List Wd) (ks : List Wd) : List Wd := l.foldl (fun ks s => addK s ks) ks
theorem addAll_nil (ks : List Wd) : addAll [] ks = ks := rfl
theorem addAll_cons (s : Wd) (l ks : List Wd) : addAll (s :: l) ks = addAll l (addK s ks) := rfl
theorem addAll_app (a b ks : List Wd) : addAll (a ++ b) ks = addAll b (addAll a ks) := by simp [addAll, List.foldl_append]
theorem flat_step {α : Type} {f : α → List Wd} {l : List α} {j : Nat} {x : α} (hx : l[j]? = some x) : (l.take (j + 1)).flatMap f = (l.take j).flatMap f ++ f x := by
  obtain ⟨hj, e⟩ := List.getElem?_eq_some_iff.1 hx
  rw [List.take_succ_eq_append_getElem hj, e, List.flatMap_append]; simp
theorem map_step {α : Type} {f : α → Wd} {l : List α} {j : Nat} {x : α} (hx : l[j]? = some x) : (l.take (j + 1)).map f = (l.take j).map f ++ [f x] := by
  obtain ⟨hj, e⟩ := List.getElem?_eq_some_iff.1 hx
  rw [List.take_succ_eq_append_getElem hj, e, List.map_append]; rfl
/-- the names of a tree, each once, in order -/
def namesL (p : Pg) : List Wd := (addAll (nmsP p) []).mergeSort (fun x y => decide (x ≤ y))
end LexS


/- A name put in its place in an ordered list, each once; it comes to the sorted list of all names: no program in sight. -/
namespace LexS
open Sx
end LexS


namespace Go.Proofs.YtnmhlpnapgojjaaGreatDoor.Pq
open Go.RowKit Sx LexS _root_.Go.Proofs.Tryz
theorem Tryz.info9 : Tryz.prog.info? 9 = some Tryz.t9 := by kernel_rfl
section
variable {S : Nat → Prop}

theorem rstrings_any (a b : List Wd) (va vb : Value) (w : World) (ha : SV w va a) (hb : SV w vb b) (hla : a.length ≤ 1099511627776 * 4) (hlb : b.length ≤ 1099511627776 * 4) :
    Ret Tryz.prog 20 [va, vb] w fun v w' => v = .bool (decide (a = b)) ∧ Chg [] w w' := by
 obtain ⟨oa, ca, rfl, hca, hra⟩ := ha
 obtain ⟨ob, cb, rfl, hcb, hrb⟩ := hb
 refine ret_of [_, _] func20 rfl ntmps20 rfl ?_
 have st := St.init w []
 obtain ⟨w0, rfl⟩ : ∃ w0, w0 = w := ⟨_, rfl⟩
 refine vc_seq (vc_region ?_)
 refine ya ?_
 refine vc_end (vq_then (vk2 0 1 (vc_seq (vc_seq (vc_region ?_)))))
 refine ym ?_
 refine vy (y_lensl rfl underlying50) ?_
 refine ym ?_
 refine vy (y_lensl rfl underlying50) ?_
 refine vy (y_nei rfl rfl) ?_
 refine vc_end (vq_then (vk3 0 1 10 ?_))
 refine vc_ifs rfl ?_ ?_
 ·intro hc10
  try simp only [dn] at hc10
  refine vc_seq (vc_region ?_)
  refine ya ?_
  refine vc_end (vq_then (vk1 4 (vc_ret (vq_then_ret ?_))))
  refine vq_ret1 st (.inl rfl) results20 (.tmp rfl) ?_
  refine ⟨_, rfl, ?_⟩
  refine ⟨?_, st.chg⟩
  rw [decide_eq_false (fun e => by subst e; omega)]
 ·intro hc10
  try simp only [dn] at hc10
  have hlen : a.length = b.length := by omega
  refine vc_code_skip (vq_then (vk2 0 1 (vc_seq (vc_seq (vc_region ?_)))))
  refine ya ?_
  refine vc_end (vq_then (vk3 0 1 5 (vc_block ?_)))
  refine vc_loop (w0 := w0) (M := []) (fun (j : Nat) => [(0, .slice oa a.length ca), (1, .slice ob b.length cb), (5, .int .i64 (j : Int))]) (fun _ => []) (fun j _ => j ≤ a.length ∧ ∀ i : Nat, i < j → a[i]? = b[i]?) (fun j => a.length - j) 0 ⟨rfl, rfl, rfl, trivial⟩ st ⟨by omega, fun i h => by omega⟩ ?_
  clear st
  rintro j w ⟨hj, hall⟩ st
  refine vc_seq (vc_seq (vc_region ?_))
  iterate 2 refine ym ?_
  refine vy (y_lensl rfl underlying50) ?_
  refine vy (y_lss rfl rfl) ?_
  refine vc_end (vq_then (vk4 0 1 5 14 ?_))
  refine vc_ifs rfl ?_ ?_
  ·intro hc14
   try simp only [dn] at hc14
   obtain ⟨x, hx⟩ : ∃ x, a[j]? = some x := ⟨_, List.getElem?_eq_getElem (by omega)⟩
   obtain ⟨y, hy⟩ : ∃ y, b[j]? = some y := ⟨_, List.getElem?_eq_getElem (by omega)⟩
   obtain ⟨gb, go, rfl, hgl, hc⟩ := hra.at (by omega)
   obtain ⟨fb, fo, rfl, hfl, hd⟩ := hrb.at (by omega)
   refine vc_code_skip (vq_then (vk3 0 1 5 (vc_seq (vc_block (vc_seq ?_)))))
   refine vc_draw Tryz.mixed [(0, true), (1, true), (2, true), (3, true), (4, true), (5, true), (6, true), (7, true), (8, true)] (fun w => St _ _ _ w) st (by kernel_rfl) (by repeat (first | exact okQ_noPan | exact okQ_body | exact okQ_bodyS | refine okQ_then ?_ | refine okQ_block ?_)) rfl (by kernel_rfl) ?_
   intro w cd; replace st := st.call0 cd; clear cd
   have hS := st
   iterate 2 refine pm hS ?_
   refine vp_take rfl rfl rfl hS (fun w st => y_ia (k := j) rfl rfl underlying50 sizeOf9 rfl (by omega)) ?_
   refine vp_take rfl rfl rfl hS (fun w st => (by exact y_ldc rfl isAgg9 (st.chg.cell (by rw [Nat.mul_one]; exact hc j x hx) (by simp)))) ?_
   iterate 2 refine pm hS ?_
   refine vp_take rfl rfl rfl hS (fun w st => y_ia (k := j) rfl rfl underlying50 sizeOf9 rfl (by omega)) ?_
   refine vp_take rfl rfl rfl hS (fun w st => (by exact y_ldc rfl isAgg9 (st.chg.cell (by rw [Nat.mul_one]; exact hd j y hy) (by simp)))) ?_
   refine vp_take rfl rfl rfl hS (fun w st => y_nes rfl rfl) ?_
   refine vp_end (vq_then (vk4 0 1 5 25 ?_))
   refine vc_ifs rfl ?_ ?_
   ·intro hc25
    try simp only [dn] at hc25
    refine vc_seq (vc_region ?_)
    refine ya ?_
    refine vc_end (vq_then (vk1 4 (vc_ret (vq_block_ret (vq_then_ret (vq_then_ret (vq_block_ret (vq_then_ret ?_))))))))
    refine vq_ret1 st (.inl rfl) results20 (.tmp rfl) ?_
    refine ⟨_, rfl, ?_⟩
    refine ⟨?_, st.chg⟩
    rw [decide_eq_false (fun e => by subst e; rw [hx] at hy; simp_all)]
   ·intro hc25
    try simp only [dn] at hc25
    refine vc_code_skip (vq_block (vq_then (vk3 0 1 5 (vc_region ?_))))
    refine ym ?_
    refine vy (y_add rfl rfl (by omega : _ = ((j + 1 : Nat) : Int)) (by omega) (by omega)) ?_
    refine ya ?_
    refine vc_end ?_
    refine vq_again (j + 1)  ⟨rfl, rfl, rfl, trivial⟩ (by simpa using st) ?_ ?_
    ·exact ⟨by omega, fun i hi => by
         rcases (by omega : i < j ∨ i = j) with h | rfl
         · exact hall i h
         · rw [hx, hy]; simp_all⟩
    ·omega
  ·intro hc14
   try simp only [dn] at hc14
   refine vc_exit (vq_then_exit (vq_then_exit (vq_block_exit (vq_then (vc_keep [] trivial (vc_seq (vc_region ?_)))))))
   refine ya ?_
   refine vc_end (vq_then (vk1 4 (vc_ret ?_)))
   refine vq_ret1 st (.inl rfl) results20 (.tmp rfl) ?_
   refine ⟨_, rfl, ?_⟩
   refine ⟨?_, st.chg⟩
   rw [decide_eq_true (List.ext_getElem? fun i => by
     rcases Nat.lt_or_ge i j with h | h
     · exact hall i h
     · rw [List.getElem?_eq_none (by omega), List.getElem?_eq_none (by omega)])]

end
end Go.Proofs.YtnmhlpnapgojjaaGreatDoor.Pq

