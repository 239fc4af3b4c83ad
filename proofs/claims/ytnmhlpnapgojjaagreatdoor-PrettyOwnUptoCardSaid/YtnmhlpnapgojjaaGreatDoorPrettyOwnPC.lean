/- A part of the proof: contracts of functions and plain laws; each theorem says its own conditions. -/
import Derived.Test.YtnmhlpnapgojjaaGreatDoorPrettyOwnK1
import Derived.Test.YtnmhlpnapgojjaaGreatDoorPrettyOwnK2
import Derived.Test.YtnmhlpnapgojjaaGreatDoorPrettyOwnK0
namespace Go.Proofs.YtnmhlpnapgojjaaGreatDoor
open Go.RowKit Sx LexS _root_.Go.Proofs.Tryz
set_option linter.unusedVariables false
set_option linter.unusedSimpArgs false
section
variable {S : Nat → Prop}

theorem kidx_any (x : Ex) (hrec : ∀ (d : Nat), d ≤ 64 → ∀ (l : List Value) (w : World), ExV w S x l → Sig w → Ret Tryz.prog 46 [.agg l.toArray, .int .i64 (d : Int)] w fun v w' => v = .bool (rightE x d) ∧ Chg [] w w') (d : Nat) (hd : d ≤ 64) (b : Bool) (o : Option Addr) (c : Nat) (w : World)
    (hV : ExV w S x (exL x o c)) (hs : Sig w) (b3 : Nat) (hc : w.cell? ⟨b3, 0, none⟩ = some (.int .i64 (d : Int))) : Ret Tryz.prog 103 [.agg (exL x o c).toArray, .bool b, .pointer (some ⟨b3, 0, none⟩)] w fun v w' => v = .bool (rightE x (if b = true then d + 1 else d)) ∧ Chg [] w w' := by
  refine ret_of [_, _, _] func103 rfl ntmps103 rfl ?_
  have st := St.init w []
  refine vc_seq (vc_region ?_)
  refine vc_e (e_bx (l := [_, _, _, _, _, _]) st rfl rfl rfl rfl ?_)
  intro b3 w hb3 st
  refine ya ?_
  refine vc_end (vq_then (vk3 1 2 3 (vc_seq (vc_seq (vc_region ?_)))))
  refine ym ?_
  refine vc_end (vq_then (vk3 2 3 6 ?_))
  refine vc_ifs rfl ?_ ?_
  · intro hc6
    try simp only [dn] at hc6
    refine vc_seq (vc_region ?_)
    refine vy (y_ldc rfl isAgg3 (st.chg.cell hc (by simp))) ?_
    refine vy (y_lss rfl rfl) ?_
    refine vmb ?_ ?_
    · intro hg9
      try simp only [dn] at hg9
      refine yla st 0 [_, _, _, _, _, _] isAgg42 sizeOf42 ?_
      refine vy (y_ldc rfl isAgg3 (st.chg.cell hc (by simp))) ?_
      refine vy (y_add rfl rfl (by omega : _ = ((d + 1 : Nat) : Int)) (by omega) (by omega)) ?_
      refine vc_e (e_call [_, _] rfl rfl call46 rfl (hrec (d + 1) (by omega) _ _ (hV.kept (Same.of_nil st.chg)) (hs.kept st.chg)) ?_)
      rintro _ w ⟨rfl, cw⟩
      replace st := st.call0 cw
      refine ypt ?_
      refine ya ?_
      refine vc_end (vq_then (vk1 5 (vc_ret (vq_then_ret ?_))))
      refine vq_ret1 st (.inl rfl) results103 (.tmp rfl) ?_
      refine ⟨_, rfl, ?_⟩
      refine ⟨?_, st.chg⟩
      rw [if_pos hc6]
    · intro hg9
      try simp only [dn] at hg9
      iterate 4 refine vsk ?_
      refine ypf ?_
      refine ya ?_
      refine vc_end (vq_then (vk1 5 (vc_ret (vq_then_ret ?_))))
      refine vq_ret1 st (.inl rfl) results103 (.tmp rfl) ?_
      refine ⟨_, rfl, ?_⟩
      refine ⟨?_, st.chg⟩
      rw [if_pos hc6, rightE_big (by omega)]
  · intro hc6
    try simp only [dn] at hc6
    refine vc_code_skip (vq_then (vk2 2 3 (vc_seq (vc_region ?_))))
    refine yla st 0 [_, _, _, _, _, _] isAgg42 sizeOf42 ?_
    refine vy (y_ldc rfl isAgg3 (st.chg.cell hc (by simp))) ?_
    refine vc_e (e_call [_, _] rfl rfl call46 rfl (hrec d hd _ _ (hV.kept (Same.of_nil st.chg)) (hs.kept st.chg)) ?_)
    rintro _ w ⟨rfl, cw⟩
    replace st := st.call0 cw
    refine ya ?_
    refine vc_end (vq_then (vk1 5 (vc_ret ?_)))
    refine vq_ret1 st (.inl rfl) results103 (.tmp rfl) ?_
    refine ⟨_, rfl, ?_⟩
    refine ⟨?_, st.chg⟩
    rw [if_neg (by rw [hc6]; simp)]

theorem op_one {k : Int} : oneOp k = true ↔ k = 17 ∨ k = 18 := by unfold oneOp; simp

set_option maxHeartbeats 2000000 in
theorem expr_any : ∀ (n : Nat) (e : Ex), szo e = n → ∀ (d : Nat), d ≤ 64 → ∀ (l : List Value) (w : World), ExV w S e l → Sig w → Ret Tryz.prog 46 [.agg l.toArray, .int .i64 (d : Int)] w fun v w' => v = .bool (rightE e d) ∧ Chg [] w w' := by
  intro n
  refine Nat.strongRecOn n fun n ih => ?_
  intro e hn d hd l w hV hs
  subst hn
  obtain ⟨oa, cap, rfl, hr⟩ := ExV.inv hV
  refine ret_of [_, _] func46 rfl ntmps46 rfl ?_
  have st := St.init w []
  refine vc_seq (vc_region ?_)
  refine vc_e (e_bx (l := [_, _, _, _, _, _]) st rfl rfl rfl rfl ?_)
  intro b2 w hb2 st
  refine vc_e (e_bx (l := [_]) st rfl rfl rfl rfl ?_)
  intro b3 w hb3 st
  refine ya ?_
  refine vc_end (vq_then (vk2 2 3 (vc_seq (vc_region ?_))))
  refine vy (y_mf [] [_] rfl rfl) ?_
  refine ya ?_
  refine vc_end (vq_then (vk3 2 3 5 (vc_seq (vc_seq (vc_region ?_)))))
  refine vy (y_fa0 rfl underlying42 rfl rfl sizeOf38 rfl) ?_
  refine yl st 1 isAgg38 ?_
  refine vc_end (vq_then (vk4 2 3 5 12 (vc_block (vc_seq (vc_region ?_)))))
  refine vy (y_eqi rfl rfl) ?_
  refine ya ?_
  refine vc_end (vq_then (vk5 2 3 5 12 13 ?_))
  refine vc_ifs rfl ?_ ?_
  · intro hc13
    try simp only [dn] at hc13
    refine vc_seq (vc_region ?_)
    refine yfz 2 underlying42 sizeOf2 ?_
    refine yl st 1 isAgg2 ?_
    refine vy (y_geq rfl rfl) ?_
    refine vmb ?_ ?_
    · intro hg18
      try simp only [dn] at hg18
      refine yfz 1 underlying42 sizeOf39 ?_
      refine yl st 1 isAgg39 ?_
      refine vy (y_eqi rfl rfl) ?_
      refine ypt ?_
      refine vmb ?_ ?_
      · intro hg23
        try simp only [dn] at hg23
        refine yfz 3 underlying42 sizeOf9 ?_
        refine yl st 1 isAgg9 ?_
        refine vy (y_eqs rfl rfl) ?_
        refine ypt ?_
        refine vmb ?_ ?_
        · intro hg28
          try simp only [dn] at hg28
          refine yfz 4 underlying42 sizeOf40 ?_
          refine yl st 1 isAgg40 ?_
          refine vy (y_lensl rfl underlying40) ?_
          refine vy (y_eqi rfl rfl) ?_
          refine ypt ?_
          refine ya ?_
          refine vc_end (vq_then (vk1 4 (vc_ret (vq_block_ret (vq_then_ret ?_)))))
          refine vq_ret1 st (.inl rfl) results46 (.tmp rfl) ?_
          refine ⟨_, rfl, ?_⟩
          refine ⟨?_, st.chg⟩
          show Value.bool _ = Value.bool _
          congr 1
          clear st
          symm
          (rw [rightE_1 (e := e) (by assumption) hd]; clear hV hr hs ih; rw [Bool.eq_iff_iff]; simp_all <;> omega)
        · intro hg28
          try simp only [dn] at hg28
          iterate 4 refine vsk ?_
          refine ypf ?_
          refine ya ?_
          refine vc_end (vq_then (vk1 4 (vc_ret (vq_block_ret (vq_then_ret ?_)))))
          refine vq_ret1 st (.inl rfl) results46 (.tmp rfl) ?_
          refine ⟨_, rfl, ?_⟩
          refine ⟨?_, st.chg⟩
          show Value.bool _ = Value.bool _
          congr 1
          clear st
          symm
          (rw [rightE_1 (e := e) (by assumption) hd]; clear hV hr hs ih; rw [Bool.eq_iff_iff]; simp_all <;> omega)
      · intro hg23
        try simp only [dn] at hg23
        iterate 3 refine vsk ?_
        refine ypf ?_
        refine ym ?_
        iterate 4 refine vsk ?_
        refine ypf ?_
        refine ya ?_
        refine vc_end (vq_then (vk1 4 (vc_ret (vq_block_ret (vq_then_ret ?_)))))
        refine vq_ret1 st (.inl rfl) results46 (.tmp rfl) ?_
        refine ⟨_, rfl, ?_⟩
        refine ⟨?_, st.chg⟩
        show Value.bool _ = Value.bool _
        congr 1
        clear st
        symm
        (rw [rightE_1 (e := e) (by assumption) hd]; clear hV hr hs ih; rw [Bool.eq_iff_iff]; simp_all <;> omega)
    · intro hg18
      try simp only [dn] at hg18
      iterate 3 refine vsk ?_
      refine ypf ?_
      refine ym ?_
      iterate 3 refine vsk ?_
      refine ypf ?_
      refine ym ?_
      iterate 4 refine vsk ?_
      refine ypf ?_
      refine ya ?_
      refine vc_end (vq_then (vk1 4 (vc_ret (vq_block_ret (vq_then_ret ?_)))))
      refine vq_ret1 st (.inl rfl) results46 (.tmp rfl) ?_
      refine ⟨_, rfl, ?_⟩
      refine ⟨?_, st.chg⟩
      show Value.bool _ = Value.bool _
      congr 1
      clear st
      symm
      (rw [rightE_1 (e := e) (by assumption) hd]; clear hV hr hs ih; rw [Bool.eq_iff_iff]; simp_all <;> omega)
  · intro hc13
    try simp only [dn] at hc13
    refine vc_seq (vc_region ?_)
    refine vy (y_eqi rfl rfl) ?_
    refine ya ?_
    refine vc_end (vq_then (vk5 2 3 5 12 34 ?_))
    refine vc_ifs rfl ?_ ?_
    · intro hc34
      try simp only [dn] at hc34
      refine vc_seq (vc_region ?_)
      refine yfz 3 underlying42 sizeOf9 ?_
      refine yl st 1 isAgg9 ?_
      refine vc_e (e_call [_] rfl rfl call52 rfl (name_any _ _) ?_)
      rintro _ _ ⟨rfl, rfl⟩
      refine vmb ?_ ?_
      · intro hg39
        try simp only [dn] at hg39
        refine yfz 1 underlying42 sizeOf39 ?_
        refine yl st 1 isAgg39 ?_
        refine vy (y_eqi rfl rfl) ?_
        refine ypt ?_
        refine vmb ?_ ?_
        · intro hg44
          try simp only [dn] at hg44
          refine yfz 2 underlying42 sizeOf2 ?_
          refine yl st 1 isAgg2 ?_
          refine vy (y_eqi rfl rfl) ?_
          refine ypt ?_
          refine vmb ?_ ?_
          · intro hg49
            try simp only [dn] at hg49
            refine yfz 4 underlying42 sizeOf40 ?_
            refine yl st 1 isAgg40 ?_
            refine vy (y_lensl rfl underlying40) ?_
            refine vy (y_eqi rfl rfl) ?_
            refine ypt ?_
            refine ya ?_
            refine vc_end (vq_then (vk1 4 (vc_ret (vq_block_ret (vq_then_ret ?_)))))
            refine vq_ret1 st (.inl rfl) results46 (.tmp rfl) ?_
            refine ⟨_, rfl, ?_⟩
            refine ⟨?_, st.chg⟩
            show Value.bool _ = Value.bool _
            congr 1
            clear st
            symm
            (rw [rightE_2 (e := e) (by assumption) hd]; clear hV hr hs ih; rw [Bool.eq_iff_iff]; simp_all <;> omega)
          · intro hg49
            try simp only [dn] at hg49
            iterate 4 refine vsk ?_
            refine ypf ?_
            refine ya ?_
            refine vc_end (vq_then (vk1 4 (vc_ret (vq_block_ret (vq_then_ret ?_)))))
            refine vq_ret1 st (.inl rfl) results46 (.tmp rfl) ?_
            refine ⟨_, rfl, ?_⟩
            refine ⟨?_, st.chg⟩
            show Value.bool _ = Value.bool _
            congr 1
            clear st
            symm
            (rw [rightE_2 (e := e) (by assumption) hd]; clear hV hr hs ih; rw [Bool.eq_iff_iff]; simp_all <;> omega)
        · intro hg44
          try simp only [dn] at hg44
          iterate 3 refine vsk ?_
          refine ypf ?_
          refine ym ?_
          iterate 4 refine vsk ?_
          refine ypf ?_
          refine ya ?_
          refine vc_end (vq_then (vk1 4 (vc_ret (vq_block_ret (vq_then_ret ?_)))))
          refine vq_ret1 st (.inl rfl) results46 (.tmp rfl) ?_
          refine ⟨_, rfl, ?_⟩
          refine ⟨?_, st.chg⟩
          show Value.bool _ = Value.bool _
          congr 1
          clear st
          symm
          (rw [rightE_2 (e := e) (by assumption) hd]; clear hV hr hs ih; rw [Bool.eq_iff_iff]; simp_all <;> omega)
      · intro hg39
        try simp only [dn] at hg39
        iterate 3 refine vsk ?_
        refine ypf ?_
        refine ym ?_
        iterate 3 refine vsk ?_
        refine ypf ?_
        refine ym ?_
        iterate 4 refine vsk ?_
        refine ypf ?_
        refine ya ?_
        refine vc_end (vq_then (vk1 4 (vc_ret (vq_block_ret (vq_then_ret ?_)))))
        refine vq_ret1 st (.inl rfl) results46 (.tmp rfl) ?_
        refine ⟨_, rfl, ?_⟩
        refine ⟨?_, st.chg⟩
        show Value.bool _ = Value.bool _
        congr 1
        clear st
        symm
        (rw [rightE_2 (e := e) (by assumption) hd]; clear hV hr hs ih; rw [Bool.eq_iff_iff]; simp_all <;> omega)
    · intro hc34
      try simp only [dn] at hc34
      refine vc_seq (vc_region ?_)
      refine vy (y_eqi rfl rfl) ?_
      refine ya ?_
      refine vc_end (vq_then (vk5 2 3 5 12 55 ?_))
      refine vc_ifs rfl ?_ ?_
      · intro hc55
        try simp only [dn] at hc55
        refine vc_seq (vc_seq (vc_region ?_))
        refine yfz 1 underlying42 sizeOf39 ?_
        refine yl st 1 isAgg39 ?_
        refine vy (y_nei rfl rfl) ?_
        refine vmb ?_ ?_
        · intro hg60
          try simp only [dn] at hg60
          refine yfz 1 underlying42 sizeOf39 ?_
          refine yl st 1 isAgg39 ?_
          refine vy (y_nei rfl rfl) ?_
          refine ypt ?_
          refine vmb ?_ ?_
          · intro hg65
            try simp only [dn] at hg65
            iterate 4 refine vsk ?_
            refine ypt ?_
            refine ym ?_
            iterate 3 refine vsk ?_
            refine ypt ?_
            refine ym ?_
            iterate 3 refine vsk ?_
            refine ypt ?_
            refine ym ?_
            iterate 2 refine vsk ?_
            refine ypt ?_
            refine vc_end (vq_then (vk3 2 3 84 ?_))
            refine vc_ift rfl ?_
            refine vc_seq (vc_region ?_)
            refine ya ?_
            refine vc_end (vq_then (vk1 4 (vc_ret (vq_then_ret (vq_block_ret (vq_then_ret ?_))))))
            refine vq_ret1 st (.inl rfl) results46 (.tmp rfl) ?_
            refine ⟨_, rfl, ?_⟩
            refine ⟨?_, st.chg⟩
            show Value.bool _ = Value.bool _
            congr 1
            clear st
            symm
            exact rightE_3n (e := e) (by assumption) (by exact .inr (.inl (by simp [oneOp]; omega)))
          · intro hg65
            try simp only [dn] at hg65
            refine yfz 4 underlying42 sizeOf40 ?_
            refine yl st 1 isAgg40 ?_
            refine vy (y_lensl rfl underlying40) ?_
            refine vy (y_nei rfl rfl) ?_
            refine ypf ?_
            refine vmb ?_ ?_
            · intro hg71
              try simp only [dn] at hg71
              iterate 3 refine vsk ?_
              refine ypt ?_
              refine ym ?_
              iterate 3 refine vsk ?_
              refine ypt ?_
              refine ym ?_
              iterate 2 refine vsk ?_
              refine ypt ?_
              refine vc_end (vq_then (vk3 2 3 84 ?_))
              refine vc_ift rfl ?_
              refine vc_seq (vc_region ?_)
              refine ya ?_
              refine vc_end (vq_then (vk1 4 (vc_ret (vq_then_ret (vq_block_ret (vq_then_ret ?_))))))
              refine vq_ret1 st (.inl rfl) results46 (.tmp rfl) ?_
              refine ⟨_, rfl, ?_⟩
              refine ⟨?_, st.chg⟩
              show Value.bool _ = Value.bool _
              congr 1
              clear st
              symm
              exact rightE_3n (e := e) (by assumption) (by exact .inl (by omega))
            · intro hg71
              try simp only [dn] at hg71
              refine yfz 2 underlying42 sizeOf2 ?_
              refine yl st 1 isAgg2 ?_
              refine vy (y_nei rfl rfl) ?_
              refine ypf ?_
              refine vmb ?_ ?_
              · intro hg76
                try simp only [dn] at hg76
                iterate 3 refine vsk ?_
                refine ypt ?_
                refine ym ?_
                iterate 2 refine vsk ?_
                refine ypt ?_
                refine vc_end (vq_then (vk3 2 3 84 ?_))
                refine vc_ift rfl ?_
                refine vc_seq (vc_region ?_)
                refine ya ?_
                refine vc_end (vq_then (vk1 4 (vc_ret (vq_then_ret (vq_block_ret (vq_then_ret ?_))))))
                refine vq_ret1 st (.inl rfl) results46 (.tmp rfl) ?_
                refine ⟨_, rfl, ?_⟩
                refine ⟨?_, st.chg⟩
                show Value.bool _ = Value.bool _
                congr 1
                clear st
                symm
                exact rightE_3n (e := e) (by assumption) (by exact .inr (.inr (.inl (by assumption))))
              · intro hg76
                try simp only [dn] at hg76
                refine yfz 3 underlying42 sizeOf9 ?_
                refine yl st 1 isAgg9 ?_
                refine vy (y_nes rfl rfl) ?_
                refine ypf ?_
                refine vmb ?_ ?_
                · intro hg81
                  try simp only [dn] at hg81
                  iterate 2 refine vsk ?_
                  refine ypt ?_
                  refine vc_end (vq_then (vk3 2 3 84 ?_))
                  refine vc_ift rfl ?_
                  refine vc_seq (vc_region ?_)
                  refine ya ?_
                  refine vc_end (vq_then (vk1 4 (vc_ret (vq_then_ret (vq_block_ret (vq_then_ret ?_))))))
                  refine vq_ret1 st (.inl rfl) results46 (.tmp rfl) ?_
                  refine ⟨_, rfl, ?_⟩
                  refine ⟨?_, st.chg⟩
                  show Value.bool _ = Value.bool _
                  congr 1
                  clear st
                  symm
                  exact rightE_3n (e := e) (by assumption) (by exact .inr (.inr (.inr (by assumption))))
                · intro hg81
                  try simp only [dn] at hg81
                  refine yl st 0 isAgg3 ?_
                  refine vy (y_geq rfl rfl) ?_
                  refine ypf ?_
                  refine vc_end (vq_then (vk3 2 3 84 ?_))
                  refine vc_ifs rfl ?_ ?_
                  · intro hc84
                    try simp only [dn] at hc84
                    refine vc_seq (vc_region ?_)
                    refine ya ?_
                    refine vc_end (vq_then (vk1 4 (vc_ret (vq_then_ret (vq_block_ret (vq_then_ret ?_))))))
                    refine vq_ret1 st (.inl rfl) results46 (.tmp rfl) ?_
                    refine ⟨_, rfl, ?_⟩
                    refine ⟨?_, st.chg⟩
                    show Value.bool _ = Value.bool _
                    congr 1
                    clear st
                    symm
                    exact rightE_3d (e := e) (by assumption) (by omega)
                  · intro hc84
                    try simp only [dn] at hc84
                    obtain ⟨x, hx⟩ := get0 (l := e.kids) (n := e.kids.length) rfl (by omega)
                    obtain ⟨gb, go, rfl, hgS, hgl, hg⟩ := ExRow.at hr (by omega)
                    obtain ⟨o0, c0, hV0, hr0, hc0⟩ := hg 0 x hx
                    refine vc_code_skip (vq_then (vk2 2 3 (vc_seq (vc_region ?_))))
                    refine yfz 4 underlying42 sizeOf40 ?_
                    refine yl st 1 isAgg40 ?_
                    refine vy (y_ia (k := 0) rfl rfl underlying40 sizeOf42 rfl (by omega)) ?_
                    refine vy (y_ldca (exL x o0 c0) rfl isAgg42 sizeOf42 rfl (fun i v hi => st.chg.cell (hc0 i v hi) (by simp))) ?_
                    refine vc_e (e_al (l := [_, _, _, _, _, _]) st rfl rfl zeroValue42 rfl ?_)
                    intro b6 w hb6 st
                    refine vc_e (e_sts (vs := [_, _, _, _, _, _]) st 0 rfl rfl rfl rfl rfl sizeOf42 rfl rfl (by (right; assumption)) ?_)
                    intro w st; dsimp only [setNth, wr] at st
                    refine vc_end (vq_then (vk2 3 6 (vc_seq (vc_seq (vc_region ?_)))))
                    refine vy (y_fa0 rfl underlying42 rfl rfl sizeOf38 rfl) ?_
                    refine yl st 0 isAgg38 ?_
                    refine vy (y_eqi rfl rfl) ?_
                    refine vc_end (vq_then (vk3 3 6 91 ?_))
                    refine vc_ifs rfl ?_ ?_
                    · intro hc91
                      try simp only [dn] at hc91
                      refine vc_seq (vc_region ?_)
                      refine yl st 1 isAgg3 ?_
                      refine vy (y_add rfl rfl (by omega : _ = ((d + 1 : Nat) : Int)) (by omega) (by omega)) ?_
                      refine vy (y_lss rfl rfl) ?_
                      refine vmb ?_ ?_
                      · intro hg95
                        try simp only [dn] at hg95
                        refine yla st 0 [_, _, _, _, _, _] isAgg42 sizeOf42 ?_
                        refine yl st 1 isAgg3 ?_
                        refine vy (y_add rfl rfl (by omega : _ = ((d + 2 : Nat) : Int)) (by omega) (by omega)) ?_
                        refine vc_e (e_call [_, _] rfl rfl call46 rfl (ih (szo x) (by have := mem_size hx; have := szo_kids e; omega) x rfl (d + 2) (by omega) _ _ (hV0.kept (Same.of_nil st.chg)) (hs.kept st.chg)) ?_)
                        rintro _ w ⟨rfl, cw⟩
                        replace st := st.call0 cw
                        refine ypt ?_
                        refine ya ?_
                        refine vc_end (vq_then (vk1 4 (vc_ret (vq_then_ret (vq_block_ret (vq_then_ret ?_))))))
                        refine vq_ret1 st (.inl rfl) results46 (.tmp rfl) ?_
                        refine ⟨_, rfl, ?_⟩
                        refine ⟨?_, st.chg⟩
                        show Value.bool _ = Value.bool _
                        congr 1
                        clear st
                        symm
                        first
                          | (rw [rightE_3 (e := e) (by assumption) hd (one_form (by omega) hx), op_one.2 (by omega)]; rw [if_pos (by assumption)]
                             (clear hV hr hs ih hg hc0 hV0 hr0; simp_all))
                      · intro hg95
                        try simp only [dn] at hg95
                        iterate 4 refine vsk ?_
                        refine ypf ?_
                        refine ya ?_
                        refine vc_end (vq_then (vk1 4 (vc_ret (vq_then_ret (vq_block_ret (vq_then_ret ?_))))))
                        refine vq_ret1 st (.inl rfl) results46 (.tmp rfl) ?_
                        refine ⟨_, rfl, ?_⟩
                        refine ⟨?_, st.chg⟩
                        show Value.bool _ = Value.bool _
                        congr 1
                        clear st
                        symm
                        first
                          | (rw [rightE_3 (e := e) (by assumption) hd (one_form (by omega) hx), op_one.2 (by omega)]; rw [if_pos (by assumption)]
                             (rw [rightE_big (e := x) (by omega)]; simp))
                    · intro hc91
                      try simp only [dn] at hc91
                      refine vc_code_skip (vq_then (vk2 3 6 (vc_seq (vc_region ?_))))
                      refine yla st 0 [_, _, _, _, _, _] isAgg42 sizeOf42 ?_
                      refine yl st 1 isAgg3 ?_
                      refine vy (y_add rfl rfl (by omega : _ = ((d + 1 : Nat) : Int)) (by omega) (by omega)) ?_
                      refine vc_e (e_call [_, _] rfl rfl call46 rfl (ih (szo x) (by have := mem_size hx; have := szo_kids e; omega) x rfl (d + 1) (by omega) _ _ (hV0.kept (Same.of_nil st.chg)) (hs.kept st.chg)) ?_)
                      rintro _ w ⟨rfl, cw⟩
                      replace st := st.call0 cw
                      refine ya ?_
                      refine vc_end (vq_then (vk1 4 (vc_ret (vq_block_ret (vq_then_ret ?_)))))
                      refine vq_ret1 st (.inl rfl) results46 (.tmp rfl) ?_
                      refine ⟨_, rfl, ?_⟩
                      refine ⟨?_, st.chg⟩
                      show Value.bool _ = Value.bool _
                      congr 1
                      clear st
                      symm
                      first
                        | (rw [rightE_3 (e := e) (by assumption) hd (one_form (by omega) hx), op_one.2 (by omega)]; rw [if_neg (by assumption)]
                           (clear hV hr hs ih hg hc0 hV0 hr0; simp_all))
        · intro hg60
          try simp only [dn] at hg60
          iterate 3 refine vsk ?_
          refine ypf ?_
          refine ym ?_
          refine yfz 4 underlying42 sizeOf40 ?_
          refine yl st 1 isAgg40 ?_
          refine vy (y_lensl rfl underlying40) ?_
          refine vy (y_nei rfl rfl) ?_
          refine ypf ?_
          refine vmb ?_ ?_
          · intro hg71
            try simp only [dn] at hg71
            iterate 3 refine vsk ?_
            refine ypt ?_
            refine ym ?_
            iterate 3 refine vsk ?_
            refine ypt ?_
            refine ym ?_
            iterate 2 refine vsk ?_
            refine ypt ?_
            refine vc_end (vq_then (vk3 2 3 84 ?_))
            refine vc_ift rfl ?_
            refine vc_seq (vc_region ?_)
            refine ya ?_
            refine vc_end (vq_then (vk1 4 (vc_ret (vq_then_ret (vq_block_ret (vq_then_ret ?_))))))
            refine vq_ret1 st (.inl rfl) results46 (.tmp rfl) ?_
            refine ⟨_, rfl, ?_⟩
            refine ⟨?_, st.chg⟩
            show Value.bool _ = Value.bool _
            congr 1
            clear st
            symm
            exact rightE_3n (e := e) (by assumption) (by exact .inl (by omega))
          · intro hg71
            try simp only [dn] at hg71
            refine yfz 2 underlying42 sizeOf2 ?_
            refine yl st 1 isAgg2 ?_
            refine vy (y_nei rfl rfl) ?_
            refine ypf ?_
            refine vmb ?_ ?_
            · intro hg76
              try simp only [dn] at hg76
              iterate 3 refine vsk ?_
              refine ypt ?_
              refine ym ?_
              iterate 2 refine vsk ?_
              refine ypt ?_
              refine vc_end (vq_then (vk3 2 3 84 ?_))
              refine vc_ift rfl ?_
              refine vc_seq (vc_region ?_)
              refine ya ?_
              refine vc_end (vq_then (vk1 4 (vc_ret (vq_then_ret (vq_block_ret (vq_then_ret ?_))))))
              refine vq_ret1 st (.inl rfl) results46 (.tmp rfl) ?_
              refine ⟨_, rfl, ?_⟩
              refine ⟨?_, st.chg⟩
              show Value.bool _ = Value.bool _
              congr 1
              clear st
              symm
              exact rightE_3n (e := e) (by assumption) (by exact .inr (.inr (.inl (by assumption))))
            · intro hg76
              try simp only [dn] at hg76
              refine yfz 3 underlying42 sizeOf9 ?_
              refine yl st 1 isAgg9 ?_
              refine vy (y_nes rfl rfl) ?_
              refine ypf ?_
              refine vmb ?_ ?_
              · intro hg81
                try simp only [dn] at hg81
                iterate 2 refine vsk ?_
                refine ypt ?_
                refine vc_end (vq_then (vk3 2 3 84 ?_))
                refine vc_ift rfl ?_
                refine vc_seq (vc_region ?_)
                refine ya ?_
                refine vc_end (vq_then (vk1 4 (vc_ret (vq_then_ret (vq_block_ret (vq_then_ret ?_))))))
                refine vq_ret1 st (.inl rfl) results46 (.tmp rfl) ?_
                refine ⟨_, rfl, ?_⟩
                refine ⟨?_, st.chg⟩
                show Value.bool _ = Value.bool _
                congr 1
                clear st
                symm
                exact rightE_3n (e := e) (by assumption) (by exact .inr (.inr (.inr (by assumption))))
              · intro hg81
                try simp only [dn] at hg81
                refine yl st 0 isAgg3 ?_
                refine vy (y_geq rfl rfl) ?_
                refine ypf ?_
                refine vc_end (vq_then (vk3 2 3 84 ?_))
                refine vc_ifs rfl ?_ ?_
                · intro hc84
                  try simp only [dn] at hc84
                  refine vc_seq (vc_region ?_)
                  refine ya ?_
                  refine vc_end (vq_then (vk1 4 (vc_ret (vq_then_ret (vq_block_ret (vq_then_ret ?_))))))
                  refine vq_ret1 st (.inl rfl) results46 (.tmp rfl) ?_
                  refine ⟨_, rfl, ?_⟩
                  refine ⟨?_, st.chg⟩
                  show Value.bool _ = Value.bool _
                  congr 1
                  clear st
                  symm
                  exact rightE_3d (e := e) (by assumption) (by omega)
                · intro hc84
                  try simp only [dn] at hc84
                  obtain ⟨x, hx⟩ := get0 (l := e.kids) (n := e.kids.length) rfl (by omega)
                  obtain ⟨gb, go, rfl, hgS, hgl, hg⟩ := ExRow.at hr (by omega)
                  obtain ⟨o0, c0, hV0, hr0, hc0⟩ := hg 0 x hx
                  refine vc_code_skip (vq_then (vk2 2 3 (vc_seq (vc_region ?_))))
                  refine yfz 4 underlying42 sizeOf40 ?_
                  refine yl st 1 isAgg40 ?_
                  refine vy (y_ia (k := 0) rfl rfl underlying40 sizeOf42 rfl (by omega)) ?_
                  refine vy (y_ldca (exL x o0 c0) rfl isAgg42 sizeOf42 rfl (fun i v hi => st.chg.cell (hc0 i v hi) (by simp))) ?_
                  refine vc_e (e_al (l := [_, _, _, _, _, _]) st rfl rfl zeroValue42 rfl ?_)
                  intro b6 w hb6 st
                  refine vc_e (e_sts (vs := [_, _, _, _, _, _]) st 0 rfl rfl rfl rfl rfl sizeOf42 rfl rfl (by (right; assumption)) ?_)
                  intro w st; dsimp only [setNth, wr] at st
                  refine vc_end (vq_then (vk2 3 6 (vc_seq (vc_seq (vc_region ?_)))))
                  refine vy (y_fa0 rfl underlying42 rfl rfl sizeOf38 rfl) ?_
                  refine yl st 0 isAgg38 ?_
                  refine vy (y_eqi rfl rfl) ?_
                  refine vc_end (vq_then (vk3 3 6 91 ?_))
                  refine vc_ifs rfl ?_ ?_
                  · intro hc91
                    try simp only [dn] at hc91
                    refine vc_seq (vc_region ?_)
                    refine yl st 1 isAgg3 ?_
                    refine vy (y_add rfl rfl (by omega : _ = ((d + 1 : Nat) : Int)) (by omega) (by omega)) ?_
                    refine vy (y_lss rfl rfl) ?_
                    refine vmb ?_ ?_
                    · intro hg95
                      try simp only [dn] at hg95
                      refine yla st 0 [_, _, _, _, _, _] isAgg42 sizeOf42 ?_
                      refine yl st 1 isAgg3 ?_
                      refine vy (y_add rfl rfl (by omega : _ = ((d + 2 : Nat) : Int)) (by omega) (by omega)) ?_
                      refine vc_e (e_call [_, _] rfl rfl call46 rfl (ih (szo x) (by have := mem_size hx; have := szo_kids e; omega) x rfl (d + 2) (by omega) _ _ (hV0.kept (Same.of_nil st.chg)) (hs.kept st.chg)) ?_)
                      rintro _ w ⟨rfl, cw⟩
                      replace st := st.call0 cw
                      refine ypt ?_
                      refine ya ?_
                      refine vc_end (vq_then (vk1 4 (vc_ret (vq_then_ret (vq_block_ret (vq_then_ret ?_))))))
                      refine vq_ret1 st (.inl rfl) results46 (.tmp rfl) ?_
                      refine ⟨_, rfl, ?_⟩
                      refine ⟨?_, st.chg⟩
                      show Value.bool _ = Value.bool _
                      congr 1
                      clear st
                      symm
                      first
                        | (rw [rightE_3 (e := e) (by assumption) hd (one_form (by omega) hx), op_one.2 (by omega)]; rw [if_pos (by assumption)]
                           (clear hV hr hs ih hg hc0 hV0 hr0; simp_all))
                    · intro hg95
                      try simp only [dn] at hg95
                      iterate 4 refine vsk ?_
                      refine ypf ?_
                      refine ya ?_
                      refine vc_end (vq_then (vk1 4 (vc_ret (vq_then_ret (vq_block_ret (vq_then_ret ?_))))))
                      refine vq_ret1 st (.inl rfl) results46 (.tmp rfl) ?_
                      refine ⟨_, rfl, ?_⟩
                      refine ⟨?_, st.chg⟩
                      show Value.bool _ = Value.bool _
                      congr 1
                      clear st
                      symm
                      first
                        | (rw [rightE_3 (e := e) (by assumption) hd (one_form (by omega) hx), op_one.2 (by omega)]; rw [if_pos (by assumption)]
                           (rw [rightE_big (e := x) (by omega)]; simp))
                  · intro hc91
                    try simp only [dn] at hc91
                    refine vc_code_skip (vq_then (vk2 3 6 (vc_seq (vc_region ?_))))
                    refine yla st 0 [_, _, _, _, _, _] isAgg42 sizeOf42 ?_
                    refine yl st 1 isAgg3 ?_
                    refine vy (y_add rfl rfl (by omega : _ = ((d + 1 : Nat) : Int)) (by omega) (by omega)) ?_
                    refine vc_e (e_call [_, _] rfl rfl call46 rfl (ih (szo x) (by have := mem_size hx; have := szo_kids e; omega) x rfl (d + 1) (by omega) _ _ (hV0.kept (Same.of_nil st.chg)) (hs.kept st.chg)) ?_)
                    rintro _ w ⟨rfl, cw⟩
                    replace st := st.call0 cw
                    refine ya ?_
                    refine vc_end (vq_then (vk1 4 (vc_ret (vq_block_ret (vq_then_ret ?_)))))
                    refine vq_ret1 st (.inl rfl) results46 (.tmp rfl) ?_
                    refine ⟨_, rfl, ?_⟩
                    refine ⟨?_, st.chg⟩
                    show Value.bool _ = Value.bool _
                    congr 1
                    clear st
                    symm
                    first
                      | (rw [rightE_3 (e := e) (by assumption) hd (one_form (by omega) hx), op_one.2 (by omega)]; rw [if_neg (by assumption)]
                         (clear hV hr hs ih hg hc0 hV0 hr0; simp_all))
      · intro hc55
        try simp only [dn] at hc55
        refine vc_seq (vc_region ?_)
        refine vy (y_eqi rfl rfl) ?_
        refine ya ?_
        refine vc_end (vq_then (vk3 2 5 105 ?_))
        refine vc_ifs rfl ?_ ?_
        · intro hc105
          try simp only [dn] at hc105
          refine vc_seq (vc_seq (vc_region ?_))
          refine yfz 1 underlying42 sizeOf39 ?_
          refine yl st 1 isAgg39 ?_
          refine vc_e (e_call [_] rfl rfl call104 rfl (two_any _ _) ?_)
          rintro _ _ ⟨rfl, rfl⟩
          refine vy (y_not rfl) ?_
          refine vmb ?_ ?_
          · intro hg111
            try simp only [dn] at hg111
            iterate 4 refine vsk ?_
            refine ypt ?_
            refine ym ?_
            iterate 3 refine vsk ?_
            refine ypt ?_
            refine ym ?_
            iterate 3 refine vsk ?_
            refine ypt ?_
            refine vc_end (vq_then (vk3 2 5 126 ?_))
            refine vc_ift rfl ?_
            refine vc_seq (vc_region ?_)
            refine ya ?_
            refine vc_end (vq_then (vk1 4 (vc_ret (vq_then_ret (vq_block_ret (vq_then_ret ?_))))))
            refine vq_ret1 st (.inl rfl) results46 (.tmp rfl) ?_
            refine ⟨_, rfl, ?_⟩
            refine ⟨?_, st.chg⟩
            show Value.bool _ = Value.bool _
            congr 1
            clear st
            symm
            exact rightE_4n (e := e) (by assumption) (by exact .inr (.inl (by assumption)))
          · intro hg111
            try simp only [dn] at hg111
            refine yfz 4 underlying42 sizeOf40 ?_
            refine yl st 1 isAgg40 ?_
            refine vy (y_lensl rfl underlying40) ?_
            refine vy (y_nei rfl rfl) ?_
            refine ypf ?_
            refine vmb ?_ ?_
            · intro hg117
              try simp only [dn] at hg117
              iterate 3 refine vsk ?_
              refine ypt ?_
              refine ym ?_
              iterate 3 refine vsk ?_
              refine ypt ?_
              refine vc_end (vq_then (vk3 2 5 126 ?_))
              refine vc_ift rfl ?_
              refine vc_seq (vc_region ?_)
              refine ya ?_
              refine vc_end (vq_then (vk1 4 (vc_ret (vq_then_ret (vq_block_ret (vq_then_ret ?_))))))
              refine vq_ret1 st (.inl rfl) results46 (.tmp rfl) ?_
              refine ⟨_, rfl, ?_⟩
              refine ⟨?_, st.chg⟩
              show Value.bool _ = Value.bool _
              congr 1
              clear st
              symm
              exact rightE_4n (e := e) (by assumption) (by exact .inl (by omega))
            · intro hg117
              try simp only [dn] at hg117
              refine yfz 2 underlying42 sizeOf2 ?_
              refine yl st 1 isAgg2 ?_
              refine vy (y_nei rfl rfl) ?_
              refine ypf ?_
              refine vmb ?_ ?_
              · intro hg122
                try simp only [dn] at hg122
                iterate 3 refine vsk ?_
                refine ypt ?_
                refine vc_end (vq_then (vk3 2 5 126 ?_))
                refine vc_ift rfl ?_
                refine vc_seq (vc_region ?_)
                refine ya ?_
                refine vc_end (vq_then (vk1 4 (vc_ret (vq_then_ret (vq_block_ret (vq_then_ret ?_))))))
                refine vq_ret1 st (.inl rfl) results46 (.tmp rfl) ?_
                refine ⟨_, rfl, ?_⟩
                refine ⟨?_, st.chg⟩
                show Value.bool _ = Value.bool _
                congr 1
                clear st
                symm
                exact rightE_4n (e := e) (by assumption) (by exact .inr (.inr (.inl (by assumption))))
              · intro hg122
                try simp only [dn] at hg122
                refine yfz 3 underlying42 sizeOf9 ?_
                refine yl st 1 isAgg9 ?_
                refine vy (y_nes rfl rfl) ?_
                refine ypf ?_
                refine vc_end (vq_then (vk3 2 5 126 ?_))
                refine vc_ifs rfl ?_ ?_
                · intro hc126
                  try simp only [dn] at hc126
                  refine vc_seq (vc_region ?_)
                  refine ya ?_
                  refine vc_end (vq_then (vk1 4 (vc_ret (vq_then_ret (vq_block_ret (vq_then_ret ?_))))))
                  refine vq_ret1 st (.inl rfl) results46 (.tmp rfl) ?_
                  refine ⟨_, rfl, ?_⟩
                  refine ⟨?_, st.chg⟩
                  show Value.bool _ = Value.bool _
                  congr 1
                  clear st
                  symm
                  exact rightE_4n (e := e) (by assumption) (by exact .inr (.inr (.inr (by assumption))))
                · intro hc126
                  try simp only [dn] at hc126
                  have hk2 : e.kids.length = 2 := by omega
                  obtain ⟨x, hx⟩ := get0 hk2 (by omega)
                  obtain ⟨y, hy⟩ := get1 hk2
                  obtain ⟨gb, go, rfl, hgS, hgl, hg⟩ := ExRow.at hr (by omega)
                  obtain ⟨o0, c0, hV0, hr0, hc0⟩ := hg 0 x hx
                  obtain ⟨o1, c1, hV1, hr1, hc1⟩ := hg 1 y hy
                  refine vc_code_skip (vq_then (vk2 2 5 (vc_seq (vc_region ?_))))
                  refine yfz 1 underlying42 sizeOf39 ?_
                  refine yl st 1 isAgg39 ?_
                  refine vc_e (e_call [_] rfl rfl call105 rfl (level_any _ _ (hs.kept st.chg)) ?_)
                  rintro _ _ ⟨rfl, rfl⟩
                  refine ya ?_
                  refine vc_end (vq_then (vk3 2 5 7 (vc_seq ?_)))
                  refine vd_draw Tryz.mixed (.take 0 (.take 1 (.take 2 (.take 3 (.take 4 (.take 5 (.take 6 (.take 7 (.two 8 9 (.one 9 (.one 10 (.one 11 .done))) (.one 8 (.one 10 (.one 11 .done)))))))))))) (fun w => St _ _ _ w) st (by kernel_rfl) (by repeat (first | exact okQ_body | refine okQ_then ?_ | refine okQ_block ?_)) rfl (by kernel_rfl) ?_
                  intro w cd; replace st := st.call0 cd; clear cd
                  have hS := st
                  refine dfz hS 4 underlying42 sizeOf40 ?_
                  refine dld hS 1 isAgg40 ?_
                  refine vd_take rfl rfl rfl hS (fun w st => y_ia (k := 0) rfl rfl underlying40 sizeOf42 rfl (by omega)) ?_
                  refine vd_take rfl rfl rfl hS (fun w st => y_ldca (exL x o0 c0) rfl isAgg42 sizeOf42 rfl (fun i v hi => st.chg.cell (hc0 i v hi) (by simp))) ?_
                  refine dfz hS 4 underlying42 sizeOf40 ?_
                  refine dld hS 1 isAgg40 ?_
                  refine vd_take rfl rfl rfl hS (fun w st => y_ia (k := 1) rfl rfl underlying40 sizeOf42 rfl (by omega)) ?_
                  refine vd_take rfl rfl rfl hS (fun w st => y_ldca (exL y o1 c1) rfl isAgg42 sizeOf42 rfl (fun i v hi => st.chg.cell (hc1 i v hi) (by simp))) ?_
                  refine vd_two rfl rfl ?_ ?_
                  ·
                    refine (e_al (l := [_, _, _, _, _, _]) st rfl rfl zeroValue42 rfl ?_)
                    intro b8 w hb8 st
                    refine vd_next st.dr ?_; intro hS
                    refine vd_do rfl (e_al (l := [_, _, _, _, _, _]) st rfl rfl zeroValue42 rfl ?_)
                    intro b9 w hb9 st
                    refine vd_next st.dr ?_; intro hS
                    refine vd_do rfl (e_sts (vs := [_, _, _, _, _, _]) st 1 rfl rfl rfl rfl rfl sizeOf42 rfl rfl (by (right; assumption)) ?_)
                    intro w st; dsimp only [setNth, wr] at st
                    refine vd_next st.dr ?_; intro hS
                    refine vd_do rfl (e_sts (vs := [_, _, _, _, _, _]) st 0 rfl rfl rfl rfl rfl sizeOf42 rfl rfl (by (right; assumption)) ?_)
                    intro w st; dsimp only [setNth, wr] at st
                    refine vd_next st.dr ?_; intro hS
                    refine vd_end (vq_then (vk4 5 7 8 9 (vc_seq ?_)))
                    refine vc_draw Tryz.mixed [(0, true), (1, true), (2, true), (3, true), (4, true), (5, true), (6, true), (7, true), (9, true), (8, false), (10, true), (11, true), (12, false), (13, true), (14, true), (15, true), (16, true), (17, true), (18, true), (19, true), (20, true), (21, true), (23, true), (22, false), (24, true), (25, true), (26, false), (27, true), (28, true)] (fun w => St _ _ _ w) st (by kernel_rfl) (by repeat (first | exact okQ_body | refine okQ_then ?_ | refine okQ_block ?_)) rfl (by kernel_rfl) ?_
                    intro w cd; replace st := st.call0 cd; clear cd
                    have hS := st
                    refine pm hS ?_
                    refine vp_take rfl rfl rfl hS (fun w st => y_lda (vs := [_, _, _, _, _, _]) st 1 rfl isAgg42 sizeOf42 rfl rfl) ?_
                    refine pf0 hS underlying42 sizeOf38 ?_
                    refine pld hS 1 isAgg38 ?_
                    refine vp_take rfl rfl rfl hS (fun w st => y_eqi rfl rfl) ?_
                    refine vp_part rfl rfl rfl hS rfl ?_ ?_
                    · intro hg143
                      try simp only [dn] at hg143
                      refine pfz hS 1 underlying42 sizeOf39 ?_
                      refine pld hS 1 isAgg39 ?_
                      refine pm hS ?_
                      refine vp_do rfl (e_call [_] rfl rfl call105 rfl (level_any _ _ (hs.kept st.chg)) ?_)
                      rintro _ _ ⟨rfl, rfl⟩
                      refine vp_next (by exact st) ?_; intro hS
                      refine vp_take rfl rfl rfl hS (fun w st => y_lss rfl rfl) ?_
                      refine vp_take rfl rfl rfl hS (fun w st => y_pickt rfl rfl) ?_
                      refine vp_do rfl (e_callv [_, _] rfl rfl rfl call103 rfl (kidx_any _ (fun d hd l w hV hs => ih (szo x) (by have := mem_size hx; have := szo_kids e; omega) x rfl d hd l w hV hs) d hd _ _ _ _ (hV0.kept (Same.of_nil st.chg)) (hs.kept st.chg) _ (by exact cell_nth (st.res (i := 2) rfl) rfl)) ?_)
                      rintro _ w ⟨rfl, cw⟩
                      replace st := st.call0 cw
                      refine vp_next (by exact st) ?_; intro hS
                      refine vp_part rfl rfl rfl hS rfl ?_ ?_
                      · intro hg151
                        try simp only [dn] at hg151
                        refine pm hS ?_
                        refine vp_take rfl rfl rfl hS (fun w st => y_lda (vs := [_, _, _, _, _, _]) st 0 rfl isAgg42 sizeOf42 rfl rfl) ?_
                        refine pf0 hS underlying42 sizeOf38 ?_
                        refine pld hS 0 isAgg38 ?_
                        refine vp_take rfl rfl rfl hS (fun w st => y_eqi rfl rfl) ?_
                        refine vp_part rfl rfl rfl hS rfl ?_ ?_
                        · intro hg157
                          try simp only [dn] at hg157
                          refine pfz hS 1 underlying42 sizeOf39 ?_
                          refine pld hS 0 isAgg39 ?_
                          refine pm hS ?_
                          refine vp_do rfl (e_call [_] rfl rfl call105 rfl (level_any _ _ (hs.kept st.chg)) ?_)
                          rintro _ _ ⟨rfl, rfl⟩
                          refine vp_next (by exact st) ?_; intro hS
                          refine vp_take rfl rfl rfl hS (fun w st => y_leq rfl rfl) ?_
                          refine vp_take rfl rfl rfl hS (fun w st => y_pickt rfl rfl) ?_
                          refine vp_do rfl (e_callv [_, _] rfl rfl rfl call103 rfl (kidx_any _ (fun d hd l w hV hs => ih (szo y) (by have := mem_size hy; have := szo_kids e; omega) y rfl d hd l w hV hs) d hd _ _ _ _ (hV1.kept (Same.of_nil st.chg)) (hs.kept st.chg) _ (by exact cell_nth (st.res (i := 2) rfl) rfl)) ?_)
                          rintro _ w ⟨rfl, cw⟩
                          replace st := st.call0 cw
                          refine vp_next (by exact st) ?_; intro hS
                          refine vp_take rfl rfl rfl hS (fun w st => y_pickt rfl rfl) ?_
                          refine vp_take rfl rfl rfl hS (fun w st => y_as rfl) ?_
                          refine vp_end (vq_then (vk1 4 (vc_ret (vq_block_ret (vq_then_ret ?_)))))
                          refine vq_ret1 st (.inl rfl) results46 (.tmp rfl) ?_
                          refine ⟨_, rfl, ?_⟩
                          refine ⟨?_, st.chg⟩
                          show Value.bool _ = Value.bool _
                          congr 1
                          clear st
                          symm
                          first
                            | (rw [rightE_4 (e := e) (by assumption) hd (two_form hk2 hx hy)]
                               clear hV hr hs ih hg hc0 hc1 hV0 hV1 hr0 hr1
                               rw [inn_f (x := x) (by assumption)]
                               rw [inn_t (x := y) (by assumption)]
                               simp_all)
                        · intro hg157
                          try simp only [dn] at hg157
                          iterate 3 refine vp_skip rfl rfl rfl hS ?_
                          refine vp_do rfl (e_skip rfl rfl (vp_next hS (fun hS => ?_)))
                          refine vp_skip rfl rfl rfl hS ?_
                          refine vp_take rfl rfl rfl hS (fun w st => y_pickf rfl rfl) ?_
                          refine vp_do rfl (e_callv [_, _] rfl rfl rfl call103 rfl (kidx_any _ (fun d hd l w hV hs => ih (szo y) (by have := mem_size hy; have := szo_kids e; omega) y rfl d hd l w hV hs) d hd _ _ _ _ (hV1.kept (Same.of_nil st.chg)) (hs.kept st.chg) _ (by exact cell_nth (st.res (i := 2) rfl) rfl)) ?_)
                          rintro _ w ⟨rfl, cw⟩
                          replace st := st.call0 cw
                          refine vp_next (by exact st) ?_; intro hS
                          refine vp_take rfl rfl rfl hS (fun w st => y_pickt rfl rfl) ?_
                          refine vp_take rfl rfl rfl hS (fun w st => y_as rfl) ?_
                          refine vp_end (vq_then (vk1 4 (vc_ret (vq_block_ret (vq_then_ret ?_)))))
                          refine vq_ret1 st (.inl rfl) results46 (.tmp rfl) ?_
                          refine ⟨_, rfl, ?_⟩
                          refine ⟨?_, st.chg⟩
                          show Value.bool _ = Value.bool _
                          congr 1
                          clear st
                          symm
                          first
                            | (rw [rightE_4 (e := e) (by assumption) hd (two_form hk2 hx hy)]
                               clear hV hr hs ih hg hc0 hc1 hV0 hV1 hr0 hr1
                               rw [inn_f (x := x) (by assumption)]
                               rw [inn_n (x := y) (by assumption)]
                               simp_all)
                      · intro hg151
                        try simp only [dn] at hg151
                        iterate 9 refine vp_skip rfl rfl rfl hS ?_
                        refine vp_do rfl (e_skip rfl rfl (vp_next hS (fun hS => ?_)))
                        iterate 2 refine vp_skip rfl rfl rfl hS ?_
                        refine vp_do rfl (e_skip rfl rfl (vp_next hS (fun hS => ?_)))
                        refine vp_take rfl rfl rfl hS (fun w st => y_pickf rfl rfl) ?_
                        refine vp_take rfl rfl rfl hS (fun w st => y_as rfl) ?_
                        refine vp_end (vq_then (vk1 4 (vc_ret (vq_block_ret (vq_then_ret ?_)))))
                        refine vq_ret1 st (.inl rfl) results46 (.tmp rfl) ?_
                        refine ⟨_, rfl, ?_⟩
                        refine ⟨?_, st.chg⟩
                        show Value.bool _ = Value.bool _
                        congr 1
                        clear st
                        symm
                        first
                          | (rw [rightE_4 (e := e) (by assumption) hd (two_form hk2 hx hy)]
                             clear hV hr hs ih hg hc0 hc1 hV0 hV1 hr0 hr1
                             rw [inn_f (x := x) (by assumption)]
                             skip
                             simp_all)
                    · intro hg143
                      try simp only [dn] at hg143
                      iterate 3 refine vp_skip rfl rfl rfl hS ?_
                      refine vp_do rfl (e_skip rfl rfl (vp_next hS (fun hS => ?_)))
                      refine vp_skip rfl rfl rfl hS ?_
                      refine vp_take rfl rfl rfl hS (fun w st => y_pickf rfl rfl) ?_
                      refine vp_do rfl (e_callv [_, _] rfl rfl rfl call103 rfl (kidx_any _ (fun d hd l w hV hs => ih (szo x) (by have := mem_size hx; have := szo_kids e; omega) x rfl d hd l w hV hs) d hd _ _ _ _ (hV0.kept (Same.of_nil st.chg)) (hs.kept st.chg) _ (by exact cell_nth (st.res (i := 2) rfl) rfl)) ?_)
                      rintro _ w ⟨rfl, cw⟩
                      replace st := st.call0 cw
                      refine vp_next (by exact st) ?_; intro hS
                      refine vp_part rfl rfl rfl hS rfl ?_ ?_
                      · intro hg151
                        try simp only [dn] at hg151
                        refine pm hS ?_
                        refine vp_take rfl rfl rfl hS (fun w st => y_lda (vs := [_, _, _, _, _, _]) st 0 rfl isAgg42 sizeOf42 rfl rfl) ?_
                        refine pf0 hS underlying42 sizeOf38 ?_
                        refine pld hS 0 isAgg38 ?_
                        refine vp_take rfl rfl rfl hS (fun w st => y_eqi rfl rfl) ?_
                        refine vp_part rfl rfl rfl hS rfl ?_ ?_
                        · intro hg157
                          try simp only [dn] at hg157
                          refine pfz hS 1 underlying42 sizeOf39 ?_
                          refine pld hS 0 isAgg39 ?_
                          refine pm hS ?_
                          refine vp_do rfl (e_call [_] rfl rfl call105 rfl (level_any _ _ (hs.kept st.chg)) ?_)
                          rintro _ _ ⟨rfl, rfl⟩
                          refine vp_next (by exact st) ?_; intro hS
                          refine vp_take rfl rfl rfl hS (fun w st => y_leq rfl rfl) ?_
                          refine vp_take rfl rfl rfl hS (fun w st => y_pickt rfl rfl) ?_
                          refine vp_do rfl (e_callv [_, _] rfl rfl rfl call103 rfl (kidx_any _ (fun d hd l w hV hs => ih (szo y) (by have := mem_size hy; have := szo_kids e; omega) y rfl d hd l w hV hs) d hd _ _ _ _ (hV1.kept (Same.of_nil st.chg)) (hs.kept st.chg) _ (by exact cell_nth (st.res (i := 2) rfl) rfl)) ?_)
                          rintro _ w ⟨rfl, cw⟩
                          replace st := st.call0 cw
                          refine vp_next (by exact st) ?_; intro hS
                          refine vp_take rfl rfl rfl hS (fun w st => y_pickt rfl rfl) ?_
                          refine vp_take rfl rfl rfl hS (fun w st => y_as rfl) ?_
                          refine vp_end (vq_then (vk1 4 (vc_ret (vq_block_ret (vq_then_ret ?_)))))
                          refine vq_ret1 st (.inl rfl) results46 (.tmp rfl) ?_
                          refine ⟨_, rfl, ?_⟩
                          refine ⟨?_, st.chg⟩
                          show Value.bool _ = Value.bool _
                          congr 1
                          clear st
                          symm
                          first
                            | (rw [rightE_4 (e := e) (by assumption) hd (two_form hk2 hx hy)]
                               clear hV hr hs ih hg hc0 hc1 hV0 hV1 hr0 hr1
                               rw [inn_n (x := x) (by assumption)]
                               rw [inn_t (x := y) (by assumption)]
                               simp_all)
                        · intro hg157
                          try simp only [dn] at hg157
                          iterate 3 refine vp_skip rfl rfl rfl hS ?_
                          refine vp_do rfl (e_skip rfl rfl (vp_next hS (fun hS => ?_)))
                          refine vp_skip rfl rfl rfl hS ?_
                          refine vp_take rfl rfl rfl hS (fun w st => y_pickf rfl rfl) ?_
                          refine vp_do rfl (e_callv [_, _] rfl rfl rfl call103 rfl (kidx_any _ (fun d hd l w hV hs => ih (szo y) (by have := mem_size hy; have := szo_kids e; omega) y rfl d hd l w hV hs) d hd _ _ _ _ (hV1.kept (Same.of_nil st.chg)) (hs.kept st.chg) _ (by exact cell_nth (st.res (i := 2) rfl) rfl)) ?_)
                          rintro _ w ⟨rfl, cw⟩
                          replace st := st.call0 cw
                          refine vp_next (by exact st) ?_; intro hS
                          refine vp_take rfl rfl rfl hS (fun w st => y_pickt rfl rfl) ?_
                          refine vp_take rfl rfl rfl hS (fun w st => y_as rfl) ?_
                          refine vp_end (vq_then (vk1 4 (vc_ret (vq_block_ret (vq_then_ret ?_)))))
                          refine vq_ret1 st (.inl rfl) results46 (.tmp rfl) ?_
                          refine ⟨_, rfl, ?_⟩
                          refine ⟨?_, st.chg⟩
                          show Value.bool _ = Value.bool _
                          congr 1
                          clear st
                          symm
                          first
                            | (rw [rightE_4 (e := e) (by assumption) hd (two_form hk2 hx hy)]
                               clear hV hr hs ih hg hc0 hc1 hV0 hV1 hr0 hr1
                               rw [inn_n (x := x) (by assumption)]
                               rw [inn_n (x := y) (by assumption)]
                               simp_all)
                      · intro hg151
                        try simp only [dn] at hg151
                        iterate 9 refine vp_skip rfl rfl rfl hS ?_
                        refine vp_do rfl (e_skip rfl rfl (vp_next hS (fun hS => ?_)))
                        iterate 2 refine vp_skip rfl rfl rfl hS ?_
                        refine vp_do rfl (e_skip rfl rfl (vp_next hS (fun hS => ?_)))
                        refine vp_take rfl rfl rfl hS (fun w st => y_pickf rfl rfl) ?_
                        refine vp_take rfl rfl rfl hS (fun w st => y_as rfl) ?_
                        refine vp_end (vq_then (vk1 4 (vc_ret (vq_block_ret (vq_then_ret ?_)))))
                        refine vq_ret1 st (.inl rfl) results46 (.tmp rfl) ?_
                        refine ⟨_, rfl, ?_⟩
                        refine ⟨?_, st.chg⟩
                        show Value.bool _ = Value.bool _
                        congr 1
                        clear st
                        symm
                        first
                          | (rw [rightE_4 (e := e) (by assumption) hd (two_form hk2 hx hy)]
                             clear hV hr hs ih hg hc0 hc1 hV0 hV1 hr0 hr1
                             rw [inn_n (x := x) (by assumption)]
                             skip
                             simp_all)
                  ·
                    refine (e_al (l := [_, _, _, _, _, _]) st rfl rfl zeroValue42 rfl ?_)
                    intro b9 w hb9 st
                    refine vd_next st.dr ?_; intro hS
                    refine vd_do rfl (e_al (l := [_, _, _, _, _, _]) st rfl rfl zeroValue42 rfl ?_)
                    intro b8 w hb8 st
                    refine vd_next st.dr ?_; intro hS
                    refine vd_do rfl (e_sts (vs := [_, _, _, _, _, _]) st 0 rfl rfl rfl rfl rfl sizeOf42 rfl rfl (by (right; assumption)) ?_)
                    intro w st; dsimp only [setNth, wr] at st
                    refine vd_next st.dr ?_; intro hS
                    refine vd_do rfl (e_sts (vs := [_, _, _, _, _, _]) st 1 rfl rfl rfl rfl rfl sizeOf42 rfl rfl (by (right; assumption)) ?_)
                    intro w st; dsimp only [setNth, wr] at st
                    refine vd_next st.dr ?_; intro hS
                    refine vd_end (vq_then (vk4 5 7 8 9 (vc_seq ?_)))
                    refine vc_draw Tryz.mixed [(0, true), (1, true), (2, true), (3, true), (4, true), (5, true), (6, true), (7, true), (9, true), (8, false), (10, true), (11, true), (12, false), (13, true), (14, true), (15, true), (16, true), (17, true), (18, true), (19, true), (20, true), (21, true), (23, true), (22, false), (24, true), (25, true), (26, false), (27, true), (28, true)] (fun w => St _ _ _ w) st (by kernel_rfl) (by repeat (first | exact okQ_body | refine okQ_then ?_ | refine okQ_block ?_)) rfl (by kernel_rfl) ?_
                    intro w cd; replace st := st.call0 cd; clear cd
                    have hS := st
                    refine pm hS ?_
                    refine vp_take rfl rfl rfl hS (fun w st => y_lda (vs := [_, _, _, _, _, _]) st 0 rfl isAgg42 sizeOf42 rfl rfl) ?_
                    refine pf0 hS underlying42 sizeOf38 ?_
                    refine pld hS 0 isAgg38 ?_
                    refine vp_take rfl rfl rfl hS (fun w st => y_eqi rfl rfl) ?_
                    refine vp_part rfl rfl rfl hS rfl ?_ ?_
                    · intro hg143
                      try simp only [dn] at hg143
                      refine pfz hS 1 underlying42 sizeOf39 ?_
                      refine pld hS 0 isAgg39 ?_
                      refine pm hS ?_
                      refine vp_do rfl (e_call [_] rfl rfl call105 rfl (level_any _ _ (hs.kept st.chg)) ?_)
                      rintro _ _ ⟨rfl, rfl⟩
                      refine vp_next (by exact st) ?_; intro hS
                      refine vp_take rfl rfl rfl hS (fun w st => y_lss rfl rfl) ?_
                      refine vp_take rfl rfl rfl hS (fun w st => y_pickt rfl rfl) ?_
                      refine vp_do rfl (e_callv [_, _] rfl rfl rfl call103 rfl (kidx_any _ (fun d hd l w hV hs => ih (szo x) (by have := mem_size hx; have := szo_kids e; omega) x rfl d hd l w hV hs) d hd _ _ _ _ (hV0.kept (Same.of_nil st.chg)) (hs.kept st.chg) _ (by exact cell_nth (st.res (i := 2) rfl) rfl)) ?_)
                      rintro _ w ⟨rfl, cw⟩
                      replace st := st.call0 cw
                      refine vp_next (by exact st) ?_; intro hS
                      refine vp_part rfl rfl rfl hS rfl ?_ ?_
                      · intro hg151
                        try simp only [dn] at hg151
                        refine pm hS ?_
                        refine vp_take rfl rfl rfl hS (fun w st => y_lda (vs := [_, _, _, _, _, _]) st 1 rfl isAgg42 sizeOf42 rfl rfl) ?_
                        refine pf0 hS underlying42 sizeOf38 ?_
                        refine pld hS 1 isAgg38 ?_
                        refine vp_take rfl rfl rfl hS (fun w st => y_eqi rfl rfl) ?_
                        refine vp_part rfl rfl rfl hS rfl ?_ ?_
                        · intro hg157
                          try simp only [dn] at hg157
                          refine pfz hS 1 underlying42 sizeOf39 ?_
                          refine pld hS 1 isAgg39 ?_
                          refine pm hS ?_
                          refine vp_do rfl (e_call [_] rfl rfl call105 rfl (level_any _ _ (hs.kept st.chg)) ?_)
                          rintro _ _ ⟨rfl, rfl⟩
                          refine vp_next (by exact st) ?_; intro hS
                          refine vp_take rfl rfl rfl hS (fun w st => y_leq rfl rfl) ?_
                          refine vp_take rfl rfl rfl hS (fun w st => y_pickt rfl rfl) ?_
                          refine vp_do rfl (e_callv [_, _] rfl rfl rfl call103 rfl (kidx_any _ (fun d hd l w hV hs => ih (szo y) (by have := mem_size hy; have := szo_kids e; omega) y rfl d hd l w hV hs) d hd _ _ _ _ (hV1.kept (Same.of_nil st.chg)) (hs.kept st.chg) _ (by exact cell_nth (st.res (i := 2) rfl) rfl)) ?_)
                          rintro _ w ⟨rfl, cw⟩
                          replace st := st.call0 cw
                          refine vp_next (by exact st) ?_; intro hS
                          refine vp_take rfl rfl rfl hS (fun w st => y_pickt rfl rfl) ?_
                          refine vp_take rfl rfl rfl hS (fun w st => y_as rfl) ?_
                          refine vp_end (vq_then (vk1 4 (vc_ret (vq_block_ret (vq_then_ret ?_)))))
                          refine vq_ret1 st (.inl rfl) results46 (.tmp rfl) ?_
                          refine ⟨_, rfl, ?_⟩
                          refine ⟨?_, st.chg⟩
                          show Value.bool _ = Value.bool _
                          congr 1
                          clear st
                          symm
                          first
                            | (rw [rightE_4 (e := e) (by assumption) hd (two_form hk2 hx hy)]
                               clear hV hr hs ih hg hc0 hc1 hV0 hV1 hr0 hr1
                               rw [inn_f (x := x) (by assumption)]
                               rw [inn_t (x := y) (by assumption)]
                               simp_all)
                        · intro hg157
                          try simp only [dn] at hg157
                          iterate 3 refine vp_skip rfl rfl rfl hS ?_
                          refine vp_do rfl (e_skip rfl rfl (vp_next hS (fun hS => ?_)))
                          refine vp_skip rfl rfl rfl hS ?_
                          refine vp_take rfl rfl rfl hS (fun w st => y_pickf rfl rfl) ?_
                          refine vp_do rfl (e_callv [_, _] rfl rfl rfl call103 rfl (kidx_any _ (fun d hd l w hV hs => ih (szo y) (by have := mem_size hy; have := szo_kids e; omega) y rfl d hd l w hV hs) d hd _ _ _ _ (hV1.kept (Same.of_nil st.chg)) (hs.kept st.chg) _ (by exact cell_nth (st.res (i := 2) rfl) rfl)) ?_)
                          rintro _ w ⟨rfl, cw⟩
                          replace st := st.call0 cw
                          refine vp_next (by exact st) ?_; intro hS
                          refine vp_take rfl rfl rfl hS (fun w st => y_pickt rfl rfl) ?_
                          refine vp_take rfl rfl rfl hS (fun w st => y_as rfl) ?_
                          refine vp_end (vq_then (vk1 4 (vc_ret (vq_block_ret (vq_then_ret ?_)))))
                          refine vq_ret1 st (.inl rfl) results46 (.tmp rfl) ?_
                          refine ⟨_, rfl, ?_⟩
                          refine ⟨?_, st.chg⟩
                          show Value.bool _ = Value.bool _
                          congr 1
                          clear st
                          symm
                          first
                            | (rw [rightE_4 (e := e) (by assumption) hd (two_form hk2 hx hy)]
                               clear hV hr hs ih hg hc0 hc1 hV0 hV1 hr0 hr1
                               rw [inn_f (x := x) (by assumption)]
                               rw [inn_n (x := y) (by assumption)]
                               simp_all)
                      · intro hg151
                        try simp only [dn] at hg151
                        iterate 9 refine vp_skip rfl rfl rfl hS ?_
                        refine vp_do rfl (e_skip rfl rfl (vp_next hS (fun hS => ?_)))
                        iterate 2 refine vp_skip rfl rfl rfl hS ?_
                        refine vp_do rfl (e_skip rfl rfl (vp_next hS (fun hS => ?_)))
                        refine vp_take rfl rfl rfl hS (fun w st => y_pickf rfl rfl) ?_
                        refine vp_take rfl rfl rfl hS (fun w st => y_as rfl) ?_
                        refine vp_end (vq_then (vk1 4 (vc_ret (vq_block_ret (vq_then_ret ?_)))))
                        refine vq_ret1 st (.inl rfl) results46 (.tmp rfl) ?_
                        refine ⟨_, rfl, ?_⟩
                        refine ⟨?_, st.chg⟩
                        show Value.bool _ = Value.bool _
                        congr 1
                        clear st
                        symm
                        first
                          | (rw [rightE_4 (e := e) (by assumption) hd (two_form hk2 hx hy)]
                             clear hV hr hs ih hg hc0 hc1 hV0 hV1 hr0 hr1
                             rw [inn_f (x := x) (by assumption)]
                             skip
                             simp_all)
                    · intro hg143
                      try simp only [dn] at hg143
                      iterate 3 refine vp_skip rfl rfl rfl hS ?_
                      refine vp_do rfl (e_skip rfl rfl (vp_next hS (fun hS => ?_)))
                      refine vp_skip rfl rfl rfl hS ?_
                      refine vp_take rfl rfl rfl hS (fun w st => y_pickf rfl rfl) ?_
                      refine vp_do rfl (e_callv [_, _] rfl rfl rfl call103 rfl (kidx_any _ (fun d hd l w hV hs => ih (szo x) (by have := mem_size hx; have := szo_kids e; omega) x rfl d hd l w hV hs) d hd _ _ _ _ (hV0.kept (Same.of_nil st.chg)) (hs.kept st.chg) _ (by exact cell_nth (st.res (i := 2) rfl) rfl)) ?_)
                      rintro _ w ⟨rfl, cw⟩
                      replace st := st.call0 cw
                      refine vp_next (by exact st) ?_; intro hS
                      refine vp_part rfl rfl rfl hS rfl ?_ ?_
                      · intro hg151
                        try simp only [dn] at hg151
                        refine pm hS ?_
                        refine vp_take rfl rfl rfl hS (fun w st => y_lda (vs := [_, _, _, _, _, _]) st 1 rfl isAgg42 sizeOf42 rfl rfl) ?_
                        refine pf0 hS underlying42 sizeOf38 ?_
                        refine pld hS 1 isAgg38 ?_
                        refine vp_take rfl rfl rfl hS (fun w st => y_eqi rfl rfl) ?_
                        refine vp_part rfl rfl rfl hS rfl ?_ ?_
                        · intro hg157
                          try simp only [dn] at hg157
                          refine pfz hS 1 underlying42 sizeOf39 ?_
                          refine pld hS 1 isAgg39 ?_
                          refine pm hS ?_
                          refine vp_do rfl (e_call [_] rfl rfl call105 rfl (level_any _ _ (hs.kept st.chg)) ?_)
                          rintro _ _ ⟨rfl, rfl⟩
                          refine vp_next (by exact st) ?_; intro hS
                          refine vp_take rfl rfl rfl hS (fun w st => y_leq rfl rfl) ?_
                          refine vp_take rfl rfl rfl hS (fun w st => y_pickt rfl rfl) ?_
                          refine vp_do rfl (e_callv [_, _] rfl rfl rfl call103 rfl (kidx_any _ (fun d hd l w hV hs => ih (szo y) (by have := mem_size hy; have := szo_kids e; omega) y rfl d hd l w hV hs) d hd _ _ _ _ (hV1.kept (Same.of_nil st.chg)) (hs.kept st.chg) _ (by exact cell_nth (st.res (i := 2) rfl) rfl)) ?_)
                          rintro _ w ⟨rfl, cw⟩
                          replace st := st.call0 cw
                          refine vp_next (by exact st) ?_; intro hS
                          refine vp_take rfl rfl rfl hS (fun w st => y_pickt rfl rfl) ?_
                          refine vp_take rfl rfl rfl hS (fun w st => y_as rfl) ?_
                          refine vp_end (vq_then (vk1 4 (vc_ret (vq_block_ret (vq_then_ret ?_)))))
                          refine vq_ret1 st (.inl rfl) results46 (.tmp rfl) ?_
                          refine ⟨_, rfl, ?_⟩
                          refine ⟨?_, st.chg⟩
                          show Value.bool _ = Value.bool _
                          congr 1
                          clear st
                          symm
                          first
                            | (rw [rightE_4 (e := e) (by assumption) hd (two_form hk2 hx hy)]
                               clear hV hr hs ih hg hc0 hc1 hV0 hV1 hr0 hr1
                               rw [inn_n (x := x) (by assumption)]
                               rw [inn_t (x := y) (by assumption)]
                               simp_all)
                        · intro hg157
                          try simp only [dn] at hg157
                          iterate 3 refine vp_skip rfl rfl rfl hS ?_
                          refine vp_do rfl (e_skip rfl rfl (vp_next hS (fun hS => ?_)))
                          refine vp_skip rfl rfl rfl hS ?_
                          refine vp_take rfl rfl rfl hS (fun w st => y_pickf rfl rfl) ?_
                          refine vp_do rfl (e_callv [_, _] rfl rfl rfl call103 rfl (kidx_any _ (fun d hd l w hV hs => ih (szo y) (by have := mem_size hy; have := szo_kids e; omega) y rfl d hd l w hV hs) d hd _ _ _ _ (hV1.kept (Same.of_nil st.chg)) (hs.kept st.chg) _ (by exact cell_nth (st.res (i := 2) rfl) rfl)) ?_)
                          rintro _ w ⟨rfl, cw⟩
                          replace st := st.call0 cw
                          refine vp_next (by exact st) ?_; intro hS
                          refine vp_take rfl rfl rfl hS (fun w st => y_pickt rfl rfl) ?_
                          refine vp_take rfl rfl rfl hS (fun w st => y_as rfl) ?_
                          refine vp_end (vq_then (vk1 4 (vc_ret (vq_block_ret (vq_then_ret ?_)))))
                          refine vq_ret1 st (.inl rfl) results46 (.tmp rfl) ?_
                          refine ⟨_, rfl, ?_⟩
                          refine ⟨?_, st.chg⟩
                          show Value.bool _ = Value.bool _
                          congr 1
                          clear st
                          symm
                          first
                            | (rw [rightE_4 (e := e) (by assumption) hd (two_form hk2 hx hy)]
                               clear hV hr hs ih hg hc0 hc1 hV0 hV1 hr0 hr1
                               rw [inn_n (x := x) (by assumption)]
                               rw [inn_n (x := y) (by assumption)]
                               simp_all)
                      · intro hg151
                        try simp only [dn] at hg151
                        iterate 9 refine vp_skip rfl rfl rfl hS ?_
                        refine vp_do rfl (e_skip rfl rfl (vp_next hS (fun hS => ?_)))
                        iterate 2 refine vp_skip rfl rfl rfl hS ?_
                        refine vp_do rfl (e_skip rfl rfl (vp_next hS (fun hS => ?_)))
                        refine vp_take rfl rfl rfl hS (fun w st => y_pickf rfl rfl) ?_
                        refine vp_take rfl rfl rfl hS (fun w st => y_as rfl) ?_
                        refine vp_end (vq_then (vk1 4 (vc_ret (vq_block_ret (vq_then_ret ?_)))))
                        refine vq_ret1 st (.inl rfl) results46 (.tmp rfl) ?_
                        refine ⟨_, rfl, ?_⟩
                        refine ⟨?_, st.chg⟩
                        show Value.bool _ = Value.bool _
                        congr 1
                        clear st
                        symm
                        first
                          | (rw [rightE_4 (e := e) (by assumption) hd (two_form hk2 hx hy)]
                             clear hV hr hs ih hg hc0 hc1 hV0 hV1 hr0 hr1
                             rw [inn_n (x := x) (by assumption)]
                             skip
                             simp_all)
        · intro hc105
          try simp only [dn] at hc105
          refine vc_code_skip (vq_block (vq_then (vc_keep [] trivial (vc_seq (vc_region ?_)))))
          refine ya ?_
          refine vc_end (vq_then (vk1 4 (vc_ret ?_)))
          refine vq_ret1 st (.inl rfl) results46 (.tmp rfl) ?_
          refine ⟨_, rfl, ?_⟩
          refine ⟨?_, st.chg⟩
          show Value.bool _ = Value.bool _
          congr 1
          clear st
          symm
          exact rightE_0 (e := e) (by assumption) (by assumption) (by assumption) (by assumption)

end
end Go.Proofs.YtnmhlpnapgojjaaGreatDoor

